/- Part 9 of the proof. -/
import Derived.Test.YtdagmpmdcgedcaaGreatPart2
import Derived.Test.YtdagmpmdcgedcaaGreatPart8
import Derived.Test.YtdagmpmdcgedcaaGreatPart4
import Derived.Test.YtdagmpmdcgedcaaGreatPart6
import Derived.Test.YtdagmpmdcgedcaaGreatPart3
import Derived.Test.YtdagmpmdcgedcaaGreatPart5
/- The accounts: Of, their balances, their rooms. -/
namespace Go.Proofs.YtdagmpmdcgedcaaGreat
open Go.GV
attribute [local irreducible] AB W Wq Wt

structure Ac where
 ba:Int
 re:Int
instance:DecidableEq Ac:=fun x y=>if h:x.ba=y.ba∧x.re=y.re then isTrue (by cases x; cases y; simp_all) else isFalse fun e=>h (by subst e; exact ⟨rfl,rfl⟩)
abbrev CP (a:Ac):List Value:=[.int .i64 a.ba,.int .i64 a.re]
theorem Im (a:Ac):∀ v∈CP a,Be v=true:=by simp [CP,Be]
theorem Wg (acs:List Ac):∀ v∈acs.flatMap CP,Be v=true:=fun v hv=>by
 obtain ⟨a,_,h⟩:=List.mem_flatMap.1 hv;exact Im a v h
theorem RM (acs:List Ac):(acs.flatMap CP).length=acs.length*2:=by
 induction acs with
 | nil=>rfl
 | cons a acs ih =>
  rw [List.flatMap_cons,List.length_append,ih];show 2+acs.length*2=(acs.length+1)*2;omega
theorem Wh (a:Option Addr) (n c:Nat) (acs:List Ac) (w:World) (R:Rd w a 2 CP acs) (hn:acs.length=n) (hm:n≤1000000000) :
  Ret Tryz.prog 98 #[.slice a n c] w fun v w'=>Fresh w w' 43 2 v (acs.flatMap CP):=by
 subst hn;obtain ⟨w0,rfl⟩:∃ w0,w0=w:=⟨_,rfl⟩;have H:=Ctx.start w0 [];refine Au (fn:=Tryz.f98) Tryz.func98 U [.slice a acs.length c] U (by kernel_rfl) ?_;refine Ad (A1 U U (Ab (Aa (Aw (Ad (A4 U U (HX U Es U (Ab (Aa (Aq _ U ?_ ?_))))))))))
 ·intro h1;have ha:a=none:=by simpa using h1
  subst ha
  have hxs:acs=[]:=by
   cases acs with
   | nil=>rfl
   | cons x xs=>obtain ⟨b,o,h⟩:=R.some' (by simp); cases h
  subst hxs;refine Ad (A1 U U (Ab (Aa (A5 (Ao (AA (v:=(.slice _ _ _)) U U U ?_))))));exact Fresh.nil H _ _
 ·intro h1;refine Av (Aa (Ad (GM U Es Ek H ?_)));rintro b5 w H O;refine A4 U U (GL U Es Es Ek Ace IX U (by decide) (acs.flatMap CP) U U H O (RM acs) (Wg acs) ((R.ext0 H.ext).app (fun _ _=>rfl) (by omega)) (by omega) ?_);rintro a7 c7 full7 w H O;refine A1 U U (Ab (Aa (A5 (AA (v:=(.slice _ _ _)) U U U ?_))));exact H.fresh O
set_option maxRecDepth 20000 in
theorem RN {bd:Nat} (a:Option Addr) (n c:Nat) (acs:List Ac) (w:World) (hd:w.heap[bd]? = some (Bl 162 [.slice a n c])) (R:Rd w a 2 CP acs) (hn:acs.length=n) (hm:n≤1000000000) :
  Ret Tryz.prog 49 #[ptr bd] w fun v w'=>Fresh w w' 43 2 v (acs.flatMap CP):=by
 obtain ⟨w0,rfl⟩:∃ w0,w0=w:=⟨_,rfl⟩;have H:=Ctx.start w0 [];refine Au (fn:=Tryz.f49) Tryz.func49 U [.pointer (some ⟨bd,0,none⟩)] U (by kernel_rfl) ?_;refine Ad (A1 U U (Ab (Aa (Aw (Ad (A3 U U (Cq U Mg U ?_)))))));refine Ab (Aa (Aq _ U ?_ ?_))
 ·intro h0;cases h0
 ·intro h0;refine Av (Aa (Ad (A3 U U (A8 U U (Ah U Ej U (Bd U Hz U ((by rw [Aj hd]; rfl)) ?_))))));refine Al U ca_98 (Wh a n c acs _ R hn hm) U ?_;rintro v w F;obtain ⟨a9,n9,c9,full9,rfl,O9,hb9⟩:=F.ex;refine A1 U U (Ab (Aa (A5 (AA (v:=(.slice _ _ _)) U U U ?_))));exact F
theorem Lj {α β:Type} {f:α→β} {l:List α} {i:Nat} {x:α} (h:l[i]? = some x):(l.take (i+1)).map f=(l.take i).map f++[f x]:=by
 rw [List.take_add_one,h,List.map_append]; rfl
set_option maxRecDepth 20000 in
set_option maxHeartbeats 2000000 in
theorem J3 {bd:Nat} (a:Option Addr) (n c:Nat) (acs:List Ac) (w:World) (hd:w.heap[bd]? = some (Bl 162 [.slice a n c])) (R:Rd w a 2 CP acs) (hn:acs.length=n) (hm:n≤1000000) :
  Ret Tryz.prog 132 #[ptr bd] w fun v w'=>Fresh w w' 2 1 v ((acs.map (·.ba)).map Dq):=by
 subst hn;obtain ⟨w0,rfl⟩:∃ w0,w0=w:=⟨_,rfl⟩;have H:=Ctx.start w0 [];refine Au (fn:=Tryz.f132) Tryz.func132 U [.pointer (some ⟨bd,0,none⟩)] U (by kernel_rfl) ?_;refine Ad (A1 U U (Ab (Aa (Ad (A1 U U (Ab (Aa (Aw (Ad (A3 U U (A8 U U ?_)))))))))));refine Ah U Ej U (Bd U Hz U ((by rw [Aj hd]; rfl)) ?_);refine Bf U Es U (Af U U (Ab (Aa (Az (Bv 2095144 (α:=LSt) (fun t=>[(3,.slice t.a t.i t.c),(11,.int .i64 (t.i:Int))]) (fun t w'=>t.i≤acs.length∧OS t.a t.i t.c 1 t.full (((acs.take t.i).map (·.ba)).map Dq)∧Ctx w0 [] w' (ent t.a 2 t.full)) (fun t=>acs.length - t.i) ⟨0,none,0,[]⟩ U ?_ ?_ ?_)))))
 ·exact ⟨rfl,rfl,trivial⟩
 ·exact ⟨Nat.zero_le _,OS.nil,H⟩
 ·rintro ⟨i,a2,c2,full⟩ j w ⟨hi,O,H⟩; dsimp only at hi O H; dsimp only;refine Ad (Bj U U U (Ab (Aa (Aw (Aq _ U ?_ ?_)))))
  ·intro h1;replace h1:=AM h1;obtain ⟨x,hx⟩:=AD (l:=acs) (i:=i) (by omega);refine Av (Aa (Aw (Az (Ad (Bo R U Es Ek U U (by omega) (by omega) (by rfl) ?_)))));refine Cn _ U Nv Ek U U ((R.ext0 H.ext).row hx U) ?_;refine AZ U IX H ?_;rintro b5 w - H;refine Bn U Ek U U U (by exact Im _) H at0 U ?_;rintro w H;refine Ab (Aa (A0 (A4 U U (Ah U FH U (AE U Bw U H at0 U (Ci _ (.int _ _) U AR Bx Eb U (by decide) (by decide) U U U H ?_))))));rintro b18 w - H;refine CJ (L:=[_]) U AR AR Bx Kl Eb U (by decide) U U H O U (by simp [Be]) (by omega) ?_;rintro a' c' full' w H O;refine A1 U U (Ab (A6 (Aa (A0 (Ay U U U (by omega) (by omega) ?_)))));refine Af U U (Ab (Aa ?_));exact ⟨⟨i+1,a',c',full'⟩,rfl,⟨rfl,rfl,trivial⟩,⟨by dsimp only; omega,by dsimp only; rw [Lj hx,List.map_append]; exact O,H.tail⟩,by dsimp only; omega⟩
  ·intro h1;replace h1:=AN h1;refine Bt (Am (Am (AK (Aa (Ad (A4 U U (A1 U U (Ab (Aa (A5 (AA (v:=(.slice _ _ _)) U U U ?_)))))))))));obtain rfl:i=acs.length:=by omega
   rw [List.take_length] at O;exact Ctx.fresh (L:=[]) H O
def Dl (a:Ac):Int:=max 0 (a.ba - a.re)
def Lk (a:Ac):Bool:=CQ a.ba && CQ a.re
set_option maxRecDepth 20000 in
set_option maxHeartbeats 2000000 in
theorem Y4 {bd:Nat} (a:Option Addr) (n c:Nat) (acs:List Ac) (w:World) (hd:w.heap[bd]? = some (Bl 162 [.slice a n c])) (R:Rd w a 2 CP acs) (hn:acs.length=n) (hm:n≤1000000) (hmay:∀ x∈acs,Lk x=true) :
  Ret Tryz.prog 180 #[ptr bd] w fun v w'=>Fresh w w' 2 1 v ((acs.map Dl).map Dq):=by
 obtain ⟨w0,rfl⟩:∃ w0,w0=w:=⟨_,rfl⟩;refine Au (fn:=Tryz.f180) Tryz.func180 U [.pointer (some ⟨bd,0,none⟩)] U (by kernel_rfl) ?_;refine Ad (A1 U U (Ab (Aa (Ad (A1 U U (Ab (Aa (Aw (Ad (A3 U U (Al U Acf (RN a n c acs _ hd R hn (by omega)) U ?_)))))))))));rintro v w F;obtain ⟨a7,n7,c7,full7,rfl,O7,hb7⟩:=F.ex;have hl7:=O7.llen;rw [RM] at hl7;obtain rfl:acs.length=n7:=by omega
 refine Bf U Es U (Af U U (Ab (Aa (Az ?_))));obtain ⟨w1,rfl⟩:∃ z,z=w:=⟨_,rfl⟩;have H:=Ctx.start w1 [];have R7:Rd w1 a7 2 CP acs:=OS.rd O7 (fun x hx=>(hb7 x hx).1) (fun _ _=>rfl) (by omega);refine Bv 8388136 (α:=LSt) (fun t=>[(3,.slice t.a t.i t.c),(9,.int .i64 (t.i:Int))]) (fun t w'=>t.i≤acs.length∧OS t.a t.i t.c 1 t.full (((acs.take t.i).map Dl).map Dq)∧Ctx w1 [] w' (ent t.a 2 t.full)) (fun t=>acs.length - t.i) ⟨0,none,0,[]⟩ U ?_ ?_ ?_
 ·exact ⟨rfl,rfl,trivial⟩
 ·exact ⟨Nat.zero_le _,OS.nil,H⟩
 ·rintro ⟨i,a2,c2,full⟩ j w ⟨hi,O,H⟩; dsimp only at hi O H; dsimp only;refine Ad (Bj U U U (Ab (Aa (Aw (Aq _ U ?_ ?_)))))
  ·intro h1;replace h1:=AM h1;obtain ⟨x,hx⟩:=AD (l:=acs) (i:=i) (by omega);have hxm:=hmay x (List.mem_of_getElem? hx)
   have hx2:(0≤x.ba∧x.ba≤4503599627370496)∧0≤x.re∧x.re≤4503599627370496:=by
    unfold Lk at hxm;rw [Bool.and_eq_true,C9,C9] at hxm;exact hxm
   refine Av (Aa (Aw (Az (Ad (Bo R7 U Es Ek U U (by omega) (by omega) (by rfl) ?_)))));refine Cn _ U Nv Ek U U ((R7.ext0 H.ext).row hx U) ?_;refine AZ U IX H ?_;rintro b5 w - H;refine Bn U Ek U U U (by exact Im _) H at0 U ?_;rintro w H;refine Ab (Aa (A0 (A4 U U (Ah U FH U (AE U Bw U H at0 U (Ah U MF U (AE U Bw U H at0 U (Bp U U U (by omega) (by omega) ?_))))))));refine KD U U U ?_;refine Ci _ (.int _ _) U AR Bx Eb U (by decide) (by decide) U U U H ?_;rintro b20 w - H;refine CJ (L:=[_]) U AR AR Bx Kl Eb U (by decide) U U H O U (by simp [Be]) (by omega) ?_;rintro a' c' full' w H O;refine A1 U U (Ab (A6 (Aa (A0 (Ay U U U (by omega) (by omega) ?_)))));refine Af U U (Ab (Aa ?_));exact ⟨⟨i+1,a',c',full'⟩,rfl,⟨rfl,rfl,trivial⟩,⟨by dsimp only; omega,by dsimp only; rw [Lj hx,List.map_append]; exact O,H.tail⟩,by dsimp only; omega⟩
  ·intro h1;replace h1:=AN h1;refine Bt (Am (Am (AK (Aa (Ad (A4 U U (A1 U U (Ab (Aa (A5 (AA (v:=(.slice _ _ _)) U U U ?_)))))))))));obtain rfl:i=acs.length:=by omega
   rw [List.take_length] at O;obtain ⟨⟨a3,n3,c3,f3,e1,e2,e3⟩,e4⟩:=Ctx.fresh (L:=[]) H O;exact ⟨⟨a3,n3,c3,f3,e1,e2,fun x hx=>⟨(e3 x hx).1,Nat.le_trans F.ext.size (e3 x hx).2⟩⟩,F.ext.trans e4⟩
end Go.Proofs.YtdagmpmdcgedcaaGreat

/- The accounts: Of, Shift. -/
namespace Go.Proofs.YtdagmpmdcgedcaaGreat
open Go.GV
attribute [local irreducible] AB W Wq Wt

/-- Of's code. -/
def ED (acs:List Ac):Int:=if 16<acs.length then 6 else if acs.all Lk=false then 1 else (E8 (acs.map Ac.ba)).2
end Go.Proofs.YtdagmpmdcgedcaaGreat

/- The accounts: Shift. -/
namespace Go.Proofs.YtdagmpmdcgedcaaGreat
open Go.GV
attribute [local irreducible] AB W Wq Wt

def a00:Ac:=⟨0,0⟩
/-- The accounts, of which the first have new balances. -/
def acZ (acs:List Ac) (z:Nat→Int) (k i:Nat):Ac:=if i<k then ⟨z i,(acs.getD i a00).re⟩ else acs.getD i a00
def Qp (acs:List Ac) (z:Nat→Int) (k:Nat):List Ac:=(List.range acs.length).map (acZ acs z k)
theorem RQ (acs:List Ac) (z:Nat→Int) (k:Nat):(Qp acs z k).length=acs.length:=by unfold Qp; simp
theorem NO {acs:List Ac} {z:Nat→Int} {k i:Nat} (h:i<acs.length):(Qp acs z k)[i]? = some (acZ acs z k i):=DI h
theorem Pd (acs:List Ac) (z:Nat→Int):Qp acs z 0=acs:=by
 refine List.ext_getElem? fun i=>?_
 rcases Nat.lt_or_ge i acs.length with h | h
 ·obtain ⟨e,he⟩:=AD h;rw [NO h,he];unfold acZ;rw [if_neg (by omega),Bm he]
 ·rw [List.getElem?_eq_none (by rw [RQ]; exact h),List.getElem?_eq_none h]
theorem Y5 {acs:List Ac} {z:Nat→Int} {i:Nat}:(Qp acs z i).set i (acZ acs z (i+1) i)=Qp acs z (i+1):=by
 unfold Qp;refine HY U fun j hj hn=>?_;unfold acZ
 by_cases h:j<i
 ·rw [if_pos h,if_pos (by omega)]
 ·rw [if_neg h,if_neg (by omega)]
def shA (acs:List Ac) (ys:List Int):List Ac:=if D0 (acs.map Ac.ba) ys=0 then List.zipWith (fun a y=>⟨a.ba+y,a.re⟩) acs ys else acs
/-- What comes back of money's Shift. -/
def shZ (acs:List Ac) (ys:List Int):List Int:=if D0 (acs.map Ac.ba) ys=0 then CS (acs.map Ac.ba) ys else []
theorem TP {xs ys:List Int} (h:D0 xs ys=0):xs.length=ys.length:=by
 unfold D0 at h
 split at h
 ·omega
 ·rename_i h1
  have h2:(decide (xs.length=ys.length) && (xs.all CQ && HG ys))=true:=by simpa using h1
  simp only [Bool.and_eq_true,decide_eq_true_eq] at h2;exact h2.1
theorem Agt (acs:List Ac) (ys:List Int):(shZ acs ys).length≤acs.length:=by
 unfold shZ
 split
 ·unfold CS; rw [List.length_zipWith,List.length_map]; omega
 ·simp
theorem Agu (acs:List Ac) (ys:List Int):Qp acs (fun i=>(shZ acs ys).getD i 0) (shZ acs ys).length=shA acs ys:=by
 unfold shA shZ
 by_cases h:D0 (acs.map Ac.ba) ys=0
 ·rw [if_pos h,if_pos h];have hl:=TP h;rw [List.length_map] at hl;have hsl:(CS (acs.map Ac.ba) ys).length=acs.length:=by unfold CS; rw [List.length_zipWith,List.length_map]; omega
  refine List.ext_getElem? fun i=>?_
  rcases Nat.lt_or_ge i acs.length with h7 | h7
  ·obtain ⟨e,he⟩:=AD h7;obtain ⟨y,hy⟩:=AD (l:=ys) (i:=i) (by omega);rw [NO h7,List.getElem?_zipWith,he,hy];unfold acZ;dsimp only;rw [if_pos (by omega),Bm he,Bm (Jy (xs:=acs.map Ac.ba) (x:=e.ba) (by rw [List.getElem?_map,he]; rfl) hy)]
  ·rw [List.getElem?_eq_none (by rw [RQ]; exact h7),List.getElem?_eq_none (by rw [List.length_zipWith]; omega)]
 ·rw [if_neg h,if_neg h];exact Pd _ _
theorem Agv {acs:List Ac} {ys zs:List Int} {v':Value} {w0 w1 w:World} (hz:zs=shZ acs ys) (hx:Ext [] w0 w1) (h1:D0 (acs.map Ac.ba) ys≠0→v' = .slice none 0 0) (h2:D0 (acs.map Ac.ba) ys=0→Fresh w1 w 2 1 v' ((CS (acs.map Ac.ba) ys).map Dq)) :
  ∃ a4 n4 c4,v' = .slice a4 n4 c4∧zs.length=n4∧Rd w a4 1 I1 zs∧(zs≠[]→w0.heap.size≤(adr a4).block):=by
 subst hz;unfold shZ
 by_cases h:D0 (acs.map Ac.ba) ys=0
 ·rw [if_pos h];obtain ⟨a,n,c,full,rfl,O,hb⟩:=(h2 h).ex;have hl:=O.llen;rw [List.length_map] at hl;refine ⟨a,n,c,rfl,by omega,O.rd1 fun x hx=>(hb x hx).1,fun hne=>?_⟩
  have hpos:0<n:=by
   have:=List.length_pos_iff.2 hne; omega
  obtain ⟨q,rfl⟩:=O.form hpos;exact Nat.le_trans hx.size (hb (q,Bl 2 full) (List.mem_singleton.2 U)).2
 ·rw [if_neg h];exact ⟨none,0,0,h1 h,rfl,Rd.nil,fun h=>absurd rfl h⟩
structure HSt where
 i:Nat
 full:List Value
set_option maxRecDepth 20000 in
set_option maxHeartbeats 4000000 in
theorem Wi {bd:Nat} (a b:Option Addr) (c m d:Nat) (full:List Value) (acs:List Ac) (ys:List Int) (w:World) (hd:w.heap[bd]? = some (Bl 162 [.slice a acs.length c])) (O:OS a acs.length c 2 full (acs.flatMap CP))
  (hb:∀ x∈ent a 43 full,w.heap[x.1]? = some x.2∧x.1≠bd) (hn:acs.length≤1000000) (Ry:Rd w b 1 I1 ys) (hm:ys.length=m) (hm2:m≤1000000) :
  Ret Tryz.prog 186 #[ptr bd,.slice b m d] w fun v w'=>v = .int .i64 (D0 (acs.map Ac.ba) ys)∧∃ full',OS a acs.length c 2 full' ((shA acs ys).flatMap CP)∧(∀ x∈ent a 43 full',w'.heap[x.1]? = some x.2)∧Ext ((ent a 43 full).map (·.1)) w w':=by
 obtain ⟨w0,rfl⟩:∃ w0,w0=w:=⟨_,rfl⟩;have R:Rd w0 a 2 CP acs:=OS.rd O (fun x hx=>(hb x hx).1) (fun _ _=>rfl) (by omega);obtain ⟨code,hcode⟩:∃ code,code=D0 (acs.map Ac.ba) ys:=⟨_,rfl⟩;obtain ⟨zs,hzs⟩:∃ zs,zs=shZ acs ys:=⟨_,rfl⟩;have hzl:zs.length≤acs.length:=by rw [hzs]; exact Agt acs ys
 rw [← Agu,← hzs,← hcode];refine Au (fn:=Tryz.f186) Tryz.func186 U [.pointer (some ⟨bd,0,none⟩),.slice b m d] U (by kernel_rfl) ?_;refine Ad (Ae U U (Ab (Aa (Aw (Ad (A3 U U (Cq U Mg U ?_)))))));refine Ab (Aa (Aq _ U ?_ ?_))
 ·intro h0;cases h0
 ·intro h0;refine Av (Aa (Ad (A3 U U (Al U Tk (J3 a acs.length c acs _ hd R U hn) U ?_))));rintro v w F;obtain ⟨a3,n3,c3,f3,rfl,O3,hb3⟩:=F.ex;have hl3:=O3.llen;rw [List.length_map,List.length_map] at hl3;refine A4 U U (Al U Aeu (Wb a3 b n3 c3 m d (acs.map Ac.ba) ys _ (O3.rd1 fun x hx=>(hb3 x hx).1) (by rw [List.length_map]; omega) (by omega) (Ry.ext0 F.ext) hm hm2) U ?_);rintro v w ⟨v',rfl,hv1,hv2,hx15⟩;rw [← hcode];obtain ⟨a4,n4,c4,rfl,hn4,R4,hbz⟩:∃ a4 n4 c4,v' = .slice a4 n4 c4∧zs.length=n4∧Rd w a4 1 I1 zs∧(zs≠[]→w0.heap.size≤(adr a4).block):=Agv hzs F.ext hv1 hv2;refine C0 U U (AO U U U (AO U U U (A1 U U (Ae U U (Ab (Aa (Aw (Ad (A4 U U (Bf U AR U ?_))))))))));refine Af U U (Ab (Aa (Az ?_)));subst hn4;obtain ⟨w1,rfl⟩:∃ z,z=w:=⟨_,rfl⟩;have hx1:=F.ext.trans hx15;have hb1:∀ x∈ent a 43 full,w1.heap[x.1]? = some x.2:=fun x hx=>hx1.to (hb x hx).1 (by simp)
  obtain ⟨ids,hids⟩:∃ ids,ids=(ent a 43 full).map (·.1):=⟨_,rfl⟩
  have hidl:∀ y∈ids,y<w0.heap.size∧y≠bd:=fun y hy=>by
   rw [hids] at hy;obtain ⟨x,hx,rfl⟩:=List.mem_map.1 hy;exact ⟨Bb (hb x hx).1,(hb x hx).2⟩
  have H:Ctx w1 ids w1 (ent a 43 full):=⟨Ext.refl _ _,hb1,F9,fun x hx => .inl (by rw [hids]; exact List.mem_map_of_mem (f:=(·.1)) hx)⟩;have hd1:=hx1.to hd (by simp);rw [← hids];refine Bv 17178820992 (α:=HSt) (fun t=>[(20,.int .i64 (t.i:Int))]) (fun t w'=>t.i≤zs.length∧OS a acs.length c 2 t.full ((Qp acs (fun i=>zs.getD i 0) t.i).flatMap CP)∧Ctx w1 ids w' (ent a 43 t.full)) (fun t=>zs.length - t.i) ⟨0,full⟩ U ?_ ?_ ?_
  ·exact ⟨rfl,trivial⟩
  ·exact ⟨Nat.zero_le _,by dsimp only; rw [Pd]; exact O,H⟩
  ·rintro ⟨i,fu⟩ j w ⟨hi,O,H⟩; dsimp only at hi O H; dsimp only;refine Ad (Bj U U U (Ab (Aa (Aw (Aq _ U ?_ ?_)))))
   ·intro h1;replace h1:=AM h1;obtain ⟨z,hz⟩:=AD (l:=zs) (i:=i) (by omega);have hzne:zs≠[]:=fun h=>by rw [h] at hz; cases hz
    have hz0:zs.getD i 0=z:=Bm hz;obtain ⟨q,rfl⟩:=O.form (by omega);have hil:i<acs.length:=by omega
    obtain ⟨ac,hac⟩:=AD hil;have hOl:=O.len;have hqn:=O.le;have hzb:(adr a4).block∉ids:=fun h=>by have:=hidl _ h; have:=hbz hzne; omega
    refine Av (Aa (Aw (Az (Ad (Af U U (Bo R4 U AR Bx U U (by omega) (by omega) (by rfl) ?_))))));refine Bd U Bw U (((R4.ext H.ext hzb).fld hz U (j:=0) U)) ?_;refine Ae U U (Ae U U (Ab (Aa (A0 (A3 U U (A8 U U (Ah U Ej U (Bd U Hz U ((H.old (Aj hd1 _) (fun h=>(hidl _ h).2 rfl))) ?_))))))));refine Af U U (Af U U (Bh U Es Ek U U (by omega) (by omega) ?_));refine Ah U FH U (Cg (.int _ _) U Bx U U U H at0 (by omega) ?_);rintro w H;refine Ab (A6 (Aa (A0 (Ay U U U (by omega) (by omega) ?_))));refine Af U U (Ab (Aa ?_));rw [show 0+((i:Int)).toNat*2+0=i*2+0 by omega] at H;have O1:=OS.setf O (y:=acZ acs (fun i=>zs.getD i 0) (i+1) i) (j:=0) (v := .int .i64 z) (fun _=>rfl) (NO hil) (by decide) (by unfold acZ CP; dsimp only; rw [if_pos (by omega),if_neg (by omega),hz0]; rfl);rw [Y5] at O1;exact ⟨⟨i+1,_⟩,rfl,⟨rfl,trivial⟩,⟨by dsimp only; omega,O1,H⟩,by dsimp only; omega⟩
   ·intro h1;replace h1:=AN h1;refine Bt (Am (Am (AK (Aa (Ad (Af U U (Ae U U (Ab (Aa (A5 (AA (v:=(.int _ _)) U U U ?_)))))))))));obtain rfl:i=zs.length:=by omega
    exact ⟨rfl,fu,O,fun x hx=>H.blk x hx,(hx1.mono (by simp)).trans H.ext⟩
end Go.Proofs.YtdagmpmdcgedcaaGreat

/- Money, as the reference has it. -/
namespace Go.Proofs.YtdagmpmdcgedcaaGreat
open Go.GV
attribute [local irreducible] AB W Wq Wt

end Go.Proofs.YtdagmpmdcgedcaaGreat

/- Shifts, as the reference has them. -/
namespace Go.Proofs.YtdagmpmdcgedcaaGreat
open Go.GV
attribute [local irreducible] AB W Wq Wt

def inM (x y:Int):Bool:=CQ x && FZ y
end Go.Proofs.YtdagmpmdcgedcaaGreat

/- The accounts, as the reference has them. -/
namespace Go.Proofs.YtdagmpmdcgedcaaGreat
open Go.GV
attribute [local irreducible] AB W Wq Wt

end Go.Proofs.YtdagmpmdcgedcaaGreat

/- The accounts of the reference: Of; the laws' comparisons. -/
namespace Go.Proofs.YtdagmpmdcgedcaaGreat
open Go.GV
attribute [local irreducible] AB W Wq Wt

theorem Y6 (x y:Ac):decide (x=y)=true↔CP x=CP y:=by
 obtain ⟨a,b⟩:=x;obtain ⟨c,d⟩:=y;simp [CP]
theorem Y7 (x y:Du):decide (x=y)=true↔CO x=CO y:=by
 obtain ⟨a,b,c,d,e,f,g⟩:=x;obtain ⟨a',b',c',d',e',f',g'⟩:=y;simp [CO]
theorem Ll {α:Type} {xs ys:List α} (hl:xs.length=ys.length) (h:∀ (k:Nat) (x y:α),k<xs.length→xs[k]? = some x→ys[k]? = some y→x=y):xs=ys:=by
 refine List.ext_getElem? fun i=>?_
 rcases Nat.lt_or_ge i xs.length with h7 | h7
 ·obtain ⟨x,hx⟩:=AD (l:=xs) (i:=i) h7;obtain ⟨y,hy⟩:=AD (l:=ys) (i:=i) (by omega);rw [hx,hy,h i x y h7 hx hy]
 ·rw [List.getElem?_eq_none (by omega),List.getElem?_eq_none (by omega)]
set_option maxRecDepth 20000 in
theorem Wj (a b:Option Addr) (n c m d:Nat) (xs ys:List Ac) (w:World) (R:Rd w a 2 CP xs) (hn:xs.length=n) (hn2:n≤1000000) (Ry:Rd w b 2 CP ys) (hm:ys.length=m) (hm2:m≤1000000) :
  Ret Tryz.prog 68 #[.slice a n c,.slice b m d] w fun v w'=>v = .bool (decide (xs=ys))∧Ext [] w w':=by
 subst hn hm;obtain ⟨w0,rfl⟩:∃ w0,w0=w:=⟨_,rfl⟩;have H:=Ctx.start w0 [];refine Au (fn:=Tryz.f68) Tryz.func68 U [.slice a xs.length c,.slice b ys.length d] U (by kernel_rfl) ?_;refine Ad (Ai U U (Ab (Aa (Aw (Ad (A4 U U (Bf U Es U (A4 U U (Bf U Es U (CI U U U ?_))))))))));refine Ab (Aa (Aq _ U ?_ ?_))
 ·intro h1;replace h1:=CE h1;refine Ad (Ai U U (Ab (Aa (A5 (Ao (AA (v:=(.bool _)) U U U ?_))))));exact ⟨congrArg Value.bool (decide_eq_false fun h=>by rw [h] at h1; simp at h1).symm,H.ext⟩
 ·intro h1;replace h1:=CF h1;have hle:xs.length=ys.length:=by omega
  refine Av (Aa (Aw (Ad (Ae U U (Ab (Aa (Az (Bv 67106864 (α:=Nat) (fun i=>[(5,.int .i64 (i:Int))]) (fun i w'=>i≤xs.length∧Ctx w0 [] w' []∧∀ (k:Nat) (x y:Ac),k<i→xs[k]? = some x→ys[k]? = some y→x=y) (fun i=>xs.length - i) 0 U ?_ ?_ ?_))))))))
  ·exact ⟨rfl,trivial⟩
  ·exact ⟨Nat.zero_le _,H,fun k x y h=>absurd h (Nat.not_lt_zero _)⟩
  ·clear H;rintro i j w ⟨hi,H,hb⟩;refine Aw (Ad (Af U U (A4 U U (Bf U Es U (Bj U U U (Ab (Aa (Aq _ U ?_ ?_))))))))
   ·intro h2;replace h2:=AM h2;obtain ⟨x,hx⟩:=AD (l:=xs) (i:=i) (by omega);obtain ⟨y,hy⟩:=AD (l:=ys) (i:=i) (by omega);refine Av (Aa (Aw (Az (Dx (fun x=>x=_) Bq (by kernel_rfl) U ?_))));refine Ca U U (AU U U (BM R U Es Ek U U (by omega) (by omega) (by rfl) ?_));refine FT _ U Nv Ek U U (by rintro _ rfl; exact ((R.ext0 H.drew.ext).row hx rfl)) ?_;refine Ca U U (AU U U (BM Ry U Es Ek U U (by omega) (by omega) (by rfl) ?_));refine FT _ U Nv Ek U U (by rintro _ rfl; exact ((Ry.ext0 H.drew.ext).row hy rfl)) ?_;refine Us (ks:=[true,true]) (xs:=CP x) (ys:=CP y) (decide (x=y)) U (by kernel_rfl) U U ⟨rfl,rfl,trivial⟩ (Y6 x y) ?_;refine BK ?_;rintro _ rfl;replace H:=H.drew;refine Aq _ U ?_ ?_
    ·intro h3;refine Ad (Ai U U (Ab (Aa (A5 (A9 (Ao (Ao (A9 (Ao (AA (v:=(.bool _)) U U U ?_))))))))));have hne:¬ x=y:=by simpa using h3
     exact ⟨congrArg Value.bool (decide_eq_false fun h=>by subst h; rw [hx] at hy; injection hy with hy; exact hne hy).symm,H.ext⟩
    ·intro h3;refine Av (A6 (Aa (A0 (Af U U (Ay U U U (by omega) (by omega) ?_)))));refine Ae U U (Ab (Aa ?_));have heq:x=y:=by simpa using h3
     refine ⟨i+1,rfl,⟨rfl,trivial⟩,⟨by omega,H,fun k x' y' hk hx' hy'=>?_⟩,by omega⟩
     rcases Nat.lt_or_ge k i with h7 | h7
     ·exact hb k x' y' h7 hx' hy'
     ·obtain rfl:k=i:=by omega
      rw [hx] at hx'; rw [hy] at hy';cases hx'; cases hy';exact heq
   ·intro h2;replace h2:=AN h2;refine Bt (Am (Am (AK (Aa (Ad (Ai U U (Ab (Aa (A5 (AA (v:=(.bool _)) U U U ?_))))))))));obtain rfl:i=xs.length:=by omega
    exact ⟨congrArg Value.bool (decide_eq_true (Ll hle hb)).symm,H.ext⟩
end Go.Proofs.YtdagmpmdcgedcaaGreat

/- The accounts of the reference: Of; the dues, compared. -/
namespace Go.Proofs.YtdagmpmdcgedcaaGreat
open Go.GV
attribute [local irreducible] AB W Wq Wt

set_option maxRecDepth 20000 in
theorem Wk (a b:Option Addr) (n c m d:Nat) (xs ys:List Du) (w:World) (R:Rd w a 7 CO xs) (hn:xs.length=n) (hn2:n≤1000000) (Ry:Rd w b 7 CO ys) (hm:ys.length=m) (hm2:m≤1000000) :
  Ret Tryz.prog 69 #[.slice a n c,.slice b m d] w fun v w'=>v = .bool (decide (xs=ys))∧Ext [] w w':=by
 subst hn hm;obtain ⟨w0,rfl⟩:∃ w0,w0=w:=⟨_,rfl⟩;have H:=Ctx.start w0 [];refine Au (fn:=Tryz.f69) Tryz.func69 U [.slice a xs.length c,.slice b ys.length d] U (by kernel_rfl) ?_;refine Ad (Ai U U (Ab (Aa (Aw (Ad (A4 U U (Bf U Dh U (A4 U U (Bf U Dh U (CI U U U ?_))))))))));refine Ab (Aa (Aq _ U ?_ ?_))
 ·intro h1;replace h1:=CE h1;refine Ad (Ai U U (Ab (Aa (A5 (Ao (AA (v:=(.bool _)) U U U ?_))))));exact ⟨congrArg Value.bool (decide_eq_false fun h=>by rw [h] at h1; simp at h1).symm,H.ext⟩
 ·intro h1;replace h1:=CF h1;have hle:xs.length=ys.length:=by omega
  refine Av (Aa (Aw (Ad (Ae U U (Ab (Aa (Az (Bv 67106864 (α:=Nat) (fun i=>[(5,.int .i64 (i:Int))]) (fun i w'=>i≤xs.length∧Ctx w0 [] w' []∧∀ (k:Nat) (x y:Du),k<i→xs[k]? = some x→ys[k]? = some y→x=y) (fun i=>xs.length - i) 0 U ?_ ?_ ?_))))))))
  ·exact ⟨rfl,trivial⟩
  ·exact ⟨Nat.zero_le _,H,fun k x y h=>absurd h (Nat.not_lt_zero _)⟩
  ·clear H;rintro i j w ⟨hi,H,hb⟩;refine Aw (Ad (Af U U (A4 U U (Bf U Dh U (Bj U U U (Ab (Aa (Aq _ U ?_ ?_))))))))
   ·intro h2;replace h2:=AM h2;obtain ⟨x,hx⟩:=AD (l:=xs) (i:=i) (by omega);obtain ⟨y,hy⟩:=AD (l:=ys) (i:=i) (by omega);refine Av (Aa (Aw (Az (Dx (fun x=>x=_) Bq (by kernel_rfl) U ?_))));refine Ca U U (AU U U (BM R U Dh Cj U U (by omega) (by omega) (by rfl) ?_));refine FT _ U EW Cj U U (by rintro _ rfl; exact ((R.ext0 H.drew.ext).row hx rfl)) ?_;refine Ca U U (AU U U (BM Ry U Dh Cj U U (by omega) (by omega) (by rfl) ?_));refine FT _ U EW Cj U U (by rintro _ rfl; exact ((Ry.ext0 H.drew.ext).row hy rfl)) ?_;refine Us (ks:=[true,true,true,true,true,true,false]) (xs:=CO x) (ys:=CO y) (decide (x=y)) U (by kernel_rfl) U U ⟨rfl,rfl,rfl,rfl,rfl,rfl,True.intro,True.intro⟩ (Y7 x y) ?_;refine BK ?_;rintro _ rfl;replace H:=H.drew;refine Aq _ U ?_ ?_
    ·intro h3;refine Ad (Ai U U (Ab (Aa (A5 (A9 (Ao (Ao (A9 (Ao (AA (v:=(.bool _)) U U U ?_))))))))));have hne:¬ x=y:=by simpa using h3
     exact ⟨congrArg Value.bool (decide_eq_false fun h=>by subst h; rw [hx] at hy; injection hy with hy; exact hne hy).symm,H.ext⟩
    ·intro h3;refine Av (A6 (Aa (A0 (Af U U (Ay U U U (by omega) (by omega) ?_)))));refine Ae U U (Ab (Aa ?_));have heq:x=y:=by simpa using h3
     refine ⟨i+1,rfl,⟨rfl,trivial⟩,⟨by omega,H,fun k x' y' hk hx' hy'=>?_⟩,by omega⟩
     rcases Nat.lt_or_ge k i with h7 | h7
     ·exact hb k x' y' h7 hx' hy'
     ·obtain rfl:k=i:=by omega
      rw [hx] at hx'; rw [hy] at hy';cases hx'; cases hy';exact heq
   ·intro h2;replace h2:=AN h2;refine Bt (Am (Am (AK (Aa (Ad (Ai U U (Ab (Aa (A5 (AA (v:=(.bool _)) U U U ?_))))))))));obtain rfl:i=xs.length:=by omega
    exact ⟨congrArg Value.bool (decide_eq_true (Ll hle hb)).symm,H.ext⟩
end Go.Proofs.YtdagmpmdcgedcaaGreat

/- The dues of the reference: Of. -/
namespace Go.Proofs.YtdagmpmdcgedcaaGreat
open Go.GV
attribute [local irreducible] AB W Wq Wt

end Go.Proofs.YtdagmpmdcgedcaaGreat

/- The dues of the reference: Of, whole. -/
namespace Go.Proofs.YtdagmpmdcgedcaaGreat
open Go.GV
attribute [local irreducible] AB W Wq Wt

theorem Wl (ds:List Du):∀ v∈ds.flatMap CO,Be v=true:=fun v hv=>by
 obtain ⟨a,_,h⟩:=List.mem_flatMap.1 hv;exact CY a v h
theorem NP (ds:List Du):(ds.flatMap CO).length=ds.length*7:=by
 induction ds with
 | nil=>rfl
 | cons a ds ih =>
  rw [List.flatMap_cons,List.length_append,ih];show 7+ds.length*7=(ds.length+1)*7;omega
end Go.Proofs.YtdagmpmdcgedcaaGreat

/- The dues: Pay. -/
namespace Go.Proofs.YtdagmpmdcgedcaaGreat
open Go.GV
attribute [local irreducible] AB W Wq Wt

/-- What paying x at a due answers. -/
def pC (d:Du) (x:Int):Int:=if x<0 then 1 else if d.held=true then 14 else if d.am<x then 12 else 0
def pD (d:Du) (x:Int):Du:=if pC d x=0 then { d with am:=d.am - x } else d
set_option maxRecDepth 20000 in
set_option maxHeartbeats 2000000 in
theorem Aa9 {b7 bx:Nat} {d:Du} {x:Int} (w:World) (h7:w.heap[b7]? = some (Bl 67 (CO d))) (hx:w.heap[bx]? = some (Bl 2 [.int .i64 x])) (hne:bx≠b7) (ham:0≤d.am∧d.am≤4503599627370496) :
  Ret Tryz.prog 222 #[ptr b7,ptr bx] w fun v w'=>v = .int .i64 (pC d x)∧Ctx w [b7] w' [(b7,Bl 67 (CO (pD d x)))]:=by
 obtain ⟨w0,rfl⟩:∃ w0,w0=w:=⟨_,rfl⟩;have H:=Ctx.start1 h7;have hn:bx∉[b7]:=by rw [List.mem_singleton]; exact hne
 refine Au (fn:=Tryz.f222) Tryz.func222 U [.pointer (some ⟨b7,0,none⟩),.pointer (some ⟨bx,0,none⟩)] U (by kernel_rfl) ?_;refine Ad (Ae U U (Ab (Aa (Aw (Az (Ad (Bd U Bw U ((H.old (Aj hx _) hn)) ?_)))))));refine Bj U U U (Ai U U (Ab (Aa (Aq _ U ?_ ?_))))
 ·intro h1;replace h1:=AM h1;refine Ad (Ae U U (Ab (Aa (A5 (A9 (Ao (AA (v:=(.int _ _)) U U U ?_)))))));have hp:pC d x=1:=if_pos h1;exact ⟨by rw [hp],by unfold pD; rw [hp,if_neg (by decide)]; exact H⟩
 ·intro h1;replace h1:=AN h1;refine Ad (A3 U U (A8 U U (Ah U KV U (AE U JR U H at0 U (Ai U U (Ab (Aa (Aq _ U ?_ ?_))))))))
  ·intro h2;refine Ad (Ae U U (Ab (Aa (A5 (A9 (Ao (AA (v:=(.int _ _)) U U U ?_)))))));have hp:pC d x=14:=by unfold pC; rw [if_neg (by omega),if_pos h2]
   exact ⟨by rw [hp],by unfold pD; rw [hp,if_neg (by decide)]; exact H⟩
  ·intro h2;refine Dx (fun x=>x=_) Bq (by kernel_rfl) U ?_;refine BP U Bw U (by rintro _ rfl; exact ((H.old (Aj hx _) hn))) ?_;refine B4 U U (AX U U (A2 U ET U (BU U Bw U (by rintro _ rfl; exact H.drew) at0 U ?_)));refine OA U U U (LA U U (BK ?_));rintro _ rfl;replace H:=H.drew;refine Aq _ U ?_ ?_
   ·intro h3;replace h3:=AM h3;refine Ad (Ae U U (Ab (Aa (A5 (A9 (Ao (AA (v:=(.int _ _)) U U U ?_)))))));have hp:pC d x=12:=by unfold pC; rw [if_neg (by omega),if_neg (by rw [h2]; decide),if_pos h3]
    exact ⟨by rw [hp],by unfold pD; rw [hp,if_neg (by decide)]; exact H⟩
   ·intro h3;replace h3:=AN h3;refine Av (A6 (Aa (DM 8 Bq (by kernel_rfl) U U ?_)));refine B4 U U (AX U U (A2 U ET U (BU U Bw U (by rintro _ rfl; exact H.drew) at0 U ?_)));refine BP U Bw U (by rintro _ rfl; exact ((H.old (Aj hx _) hn))) ?_;refine DV U U U (by omega) (by omega) ?_;refine AX U U (A2 U ET U (BK ?_));replace H:=H.drew;refine Cg (.int _ _) U Bx U U U H at0 (by (simp; done)) ?_;rintro w H;refine Ab (Aa (Ad (Ae U U (Ab (Aa (A5 (AA (v:=(.int _ _)) U U U ?_)))))));have hp:pC d x=0:=by unfold pC; rw [if_neg (by omega),if_neg (by rw [h2]; decide),if_neg (by omega)]
    exact ⟨by rw [hp],by unfold pD; rw [hp,if_pos rfl]; exact H⟩
def CD (ds:List Du) (k:Int):Option Du:=ds.find? fun d=>d.id == k
theorem GQ (ds:List Du) (k:Int):DZ (dm ds) k=(CD ds k).map FN:=by
 induction ds with
 | nil=>rfl
 | cons x ds ih =>
  unfold dm DZ CD at ih ⊢;rw [List.map_cons,List.find?_cons,List.find?_cons]
  cases h:x.id == k with
  | true=>rfl
  | false=>exact ih
/-- The dues once x has been paid at one. -/
def GI:List Du→Int→Int→List Du
 | [],_,_=>[]
 | d::ds,k,x=>if d.id=k then (if d.am=x then ds else { d with am:=d.am - x }::ds) else d::GI ds k x
theorem Y8 {ds:List Du} {k x:Int} {d:Du} (h:CD ds k=some d) (hx:d.am=x):Ki (dm ds) k=dm (GI ds k x):=by
 induction ds with
 | nil=>cases h
 | cons y ds ih =>
  unfold CD at h;rw [List.find?_cons] at h
  by_cases e:y.id=k
  ·rw [show (y.id == k)=true by simpa using e] at h
   injection h with h
   subst h;unfold GI;rw [if_pos e,if_pos hx];show (if y.id=k then dm ds else _)=_;rw [if_pos e]
  ·rw [show (y.id == k)=false by simpa using e] at h;unfold GI;rw [if_neg e];show (if y.id=k then _ else (y.id,FN y)::Ki (dm ds) k)=_;rw [if_neg e,ih h]; rfl
theorem Y9 {ds:List Du} {k x:Int} {d:Du} (h:CD ds k=some d) (hx:¬ d.am=x):KE (dm ds) k (FN { d with am:=d.am - x })=dm (GI ds k x):=by
 induction ds with
 | nil=>cases h
 | cons y ds ih =>
  unfold CD at h;rw [List.find?_cons] at h
  by_cases e:y.id=k
  ·rw [show (y.id == k)=true by simpa using e] at h
   injection h with h
   subst h;unfold GI;rw [if_pos e,if_neg hx];show (if y.id=k then (k,_)::dm ds else _)=_;rw [if_pos e,← e]; rfl
  ·rw [show (y.id == k)=false by simpa using e] at h;unfold GI;rw [if_neg e];show (if y.id=k then _ else (y.id,FN y)::KE (dm ds) k _)=_;rw [if_neg e,ih h]; rfl
def M4 (ds:List Du) (k x:Int):Int:=match CD ds k with
 | none=>11
 | some d=>pC d x
def RS (ds:List Du) (k x:Int):List Du:=if M4 ds k x=0 then GI ds k x else ds
def payF (bx:Nat):Value := .func (.func 222) #[] #[ptr bx]
set_option maxRecDepth 20000 in
set_option maxHeartbeats 2000000 in
theorem Wm {bd b bx:Nat} {nx k x:Int} {o:Obj} {ds:List Du} (w:World) (hd:w.heap[bd]? = some (Bl 165 (DU b nx))) (hb:w.heap[b]? = some o) (hM:CL .u64 (dm ds) o) (hbd:bd≠b) (hf:CD ds k=none) :
  Ret Tryz.prog 177 #[ptr bd,.int .u64 k,payF bx] w fun v w'=>v = .int .i64 (M4 ds k x)∧∃ o',CL .u64 (dm (RS ds k x)) o'∧Ctx w [b] w' [(b,o')]:=by
 obtain ⟨w0,rfl⟩:∃ w0,w0=w:=⟨_,rfl⟩;have H:=Ctx.start1 hb;have hc:M4 ds k x=11:=by unfold M4; rw [hf]
 have hmg:DZ (dm ds) k=none:=by rw [GQ,hf]; rfl
 unfold RS;rw [hc,if_neg (by decide)];refine Au (fn:=Tryz.f177) Tryz.func177 U [.pointer (some ⟨bd,0,none⟩),.int .u64 k,.func (.func 222) #[] #[.pointer (some ⟨bx,0,none⟩)]] U (by kernel_rfl) ?_;refine Ad (Ae U U (Ab (Aa (Aw (Ad (A3 U U (Cq U I9 U ?_)))))));refine Ab (Aa (Aq _ U ?_ ?_))
 ·intro h0;cases h0
 ·intro h0;refine Av (Aa (Ad (A3 U U (A8 U U (Ah U DA U (Bd U EN U ((H.old (Aj hd _) (by rw [List.mem_singleton]; exact hbd))) ?_))))));refine Af U U (Gp U Fb EZ N5 U U H at0 hM ?_);rw [hmg];rw [Option.getD_none,Option.isSome_none];refine C0 U U (AO U U U (AO U U U (AZ U Et H ?_)));rintro b7 w - H;refine Bn U Cj U U U (by exact CY d00) H at0 U ?_;rintro w H;refine Ai U U (Ab (Aa (Aw (Ad (A7 U U (BG U U (Ab (Aa (Aq _ U ?_ ?_)))))))))
  ·intro h1;replace h1:=BD h1;refine Ad (Ae U U (Ab (Aa (A5 (Ao (AA (v:=(.int _ _)) U U U ?_))))));exact ⟨rfl,o,hM,H.tail⟩
  ·intro h1;replace h1:=BE h1;cases h1
end Go.Proofs.YtdagmpmdcgedcaaGreat

/- The dues: Pay, whole. -/
namespace Go.Proofs.YtdagmpmdcgedcaaGreat
open Go.GV
attribute [local irreducible] AB W Wq Wt

theorem Hi {ds:List Du} {k:Int} {d:Du} (h:CD ds k=some d):d∈ds∧d.id=k:=by
 have h1:=List.mem_of_find?_eq_some h;have h2:=List.find?_some h;exact ⟨h1,by simpa using h2⟩
theorem YA (d:Du) (x:Int):pC d x=1∨pC d x=14∨pC d x=12∨(pC d x=0∧0≤x∧x≤d.am∧d.held=false):=by
 unfold pC
 split
 ·exact .inl U
 ·split
  ·exact .inr (.inl U)
  ·rename_i h2
   split
   ·exact .inr (.inr (.inl U))
   ·exact .inr (.inr (.inr ⟨rfl,by omega,by omega,by simpa using h2⟩))
set_option maxRecDepth 20000 in
set_option maxHeartbeats 4000000 in
theorem Wn {bd b bx:Nat} {nx k x:Int} {o:Obj} {ds:List Du} {d:Du} (w:World) (hd:w.heap[bd]? = some (Bl 165 (DU b nx))) (hb:w.heap[b]? = some o) (hM:CL .u64 (dm ds) o) (hbd:bd≠b) (hf:CD ds k=some d)
  (hx:w.heap[bx]? = some (Bl 2 [.int .i64 x])) (hbx:bx≠b) (ham:0≤d.am∧d.am≤4503599627370496) :
  Ret Tryz.prog 177 #[ptr bd,.int .u64 k,payF bx] w fun v w'=>v = .int .i64 (M4 ds k x)∧∃ o',CL .u64 (dm (RS ds k x)) o'∧Ctx w [b] w' [(b,o')]:=by
 obtain ⟨w0,rfl⟩:∃ w0,w0=w:=⟨_,rfl⟩;have H:=Ctx.start1 hb;have hxl:=Bb hx;have hc:M4 ds k x=pC d x:=by unfold M4; rw [hf]
 have hmg:DZ (dm ds) k=some (FN d):=by rw [GQ,hf]; rfl
 have hcs:=YA d x;unfold RS;rw [hc];obtain ⟨code,hcode⟩:∃ code,code=pC d x:=⟨_,rfl⟩;obtain ⟨e,he⟩:∃ e,e=pD d x:=⟨_,rfl⟩;have heam:code=0→e={ d with am:=d.am - x }:=fun h=>by rw [he]; unfold pD; rw [if_pos (by omega)]
 rw [← hcode] at hcs;rw [← hcode];refine Au (fn:=Tryz.f177) Tryz.func177 U [.pointer (some ⟨bd,0,none⟩),.int .u64 k,.func (.func 222) #[] #[.pointer (some ⟨bx,0,none⟩)]] U (by kernel_rfl) ?_;refine Ad (Ae U U (Ab (Aa (Aw (Ad (A3 U U (Cq U I9 U ?_)))))));refine Ab (Aa (Aq _ U ?_ ?_))
 ·intro h0;cases h0
 ·intro h0;refine Av (Aa (Ad (A3 U U (A8 U U (Ah U DA U (Bd U EN U ((H.old (Aj hd _) (by rw [List.mem_singleton]; exact hbd))) ?_))))));refine Af U U (Gp U Fb EZ N5 U U H at0 hM ?_);rw [hmg];rw [Option.getD_some,Option.isSome_some];refine C0 U U (AO U U U (AO U U U (AZ U Et H ?_)));rintro b7 w - H;refine Bn U Cj U U U (by exact CY _) H at0 U ?_;rintro w H;refine Ai U U (Ab (Aa (Aw (Ad (A7 U U (BG U U (Ab (Aa (Aq _ U ?_ ?_)))))))))
  ·intro h1;replace h1:=BD h1;cases h1
  ·intro h1;replace h1:=BE h1;refine Av (Aa (Ad (De U (.func _ _ _) U ?_)));have hb7:w0.heap.size≤b7:=(H.own _ (List.mem_cons_self ..)).elim (fun h=>by have h8:=H.ne at0 at1 (by decide); exact absurd (List.mem_singleton.1 h) h8) id;refine F8 U U Aet (Aa9 (x:=x) (d:=d) _ (H.get at0) (H.ext.to hx (by rw [List.mem_singleton]; exact hbx)) (by omega) ham) U ?_;rintro v w ⟨rfl,H2⟩;replace H:=Ctx.back (L1:=[_]) (L2:=[_]) H H2;rw [← hcode];rw [← he] at H;refine Ae U U (Ab (Aa (Aw (Az (Ad (Af U U (CI U U U (Ai U U (Ab (Aa (Aq _ U ?_ ?_)))))))))))
   ·intro h2;replace h2:=CE h2;refine Av (A6 (Aa (Ad (Af U U (Ae U U (Ab (Aa (A5 (AA (v:=(.int _ _)) U U U ?_)))))))));rw [if_neg h2];exact ⟨rfl,o,hM,H.tail⟩
   ·intro h2;replace h2:=CF h2;have h2':code=0:=by omega
    have hee:=heam h2';have hea:e.am=d.am - x:=by rw [hee]
    rw [if_pos h2'];refine Ad (Ah U ET U (AE U Bw U H at0 U (Cz U U U (Ai U U (Ab (Aa (Aq _ U ?_ ?_)))))))
    ·intro h3;replace h3:=AM h3;refine A0 (A3 U U (A8 U U (Ah U DA U (Bd U EN U ((H.old (Aj hd _) (by rw [List.mem_singleton]; exact hbd))) ?_))));refine Af U U (LD U Fb EZ U U H at1 hM ?_);rintro o2 w hM2 H;refine Ab (A6 (Aa (Ad (Af U U (Ae U U (Ab (Aa (A5 (AA (v:=(.int _ _)) U U U ?_)))))))));exact ⟨rfl,o2,by rw [← Y8 hf (by omega)]; exact hM2,H.tail⟩
    ·intro h3;replace h3:=AN h3;refine Fq 6 Bq (by kernel_rfl) U U ?_;refine B4 U U (AX U U (A2 U DA U (BP U EN U (by rintro _ rfl; exact ((H.old (Aj hd _) (by rw [List.mem_singleton]; exact hbd)))) ?_)));refine AU U U (Nd U EW Cj U (by rintro _ rfl; exact H.drew) at0 U ?_);refine BK ?_;replace H:=H.drew;refine Ix (FN e) U Fb EZ U U U H at1 hM ?_;rintro o2 w hM2 H;refine Ab (A6 (Aa (Ad (Af U U (Ae U U (Ab (Aa (A5 (AA (v:=(.int _ _)) U U U ?_)))))))));exact ⟨rfl,o2,by rw [← Y9 hf (show ¬ d.am=x by omega),← hee]; exact hM2,H.tail⟩
theorem YB {bd b bx:Nat} {nx k x:Int} {o:Obj} {ds:List Du} (w:World) (hd:w.heap[bd]? = some (Bl 165 (DU b nx))) (hb:w.heap[b]? = some o) (hM:CL .u64 (dm ds) o) (hbd:bd≠b)
  (hx:w.heap[bx]? = some (Bl 2 [.int .i64 x])) (hbx:bx≠b) (ham:∀ d∈ds,0≤d.am∧d.am≤4503599627370496) :
  Ret Tryz.prog 177 #[ptr bd,.int .u64 k,payF bx] w fun v w'=>v = .int .i64 (M4 ds k x)∧∃ o',CL .u64 (dm (RS ds k x)) o'∧Ctx w [b] w' [(b,o')]:=by
 cases hf:CD ds k with
 | none=>exact Wm w hd hb hM hbd hf
 | some d=>exact Wn w hd hb hM hbd hf hx hbx (ham d (Hi hf).1)
set_option maxRecDepth 20000 in
theorem Aba {bd b:Nat} {nx k x:Int} {o:Obj} {ds:List Du} (w:World) (hd:w.heap[bd]? = some (Bl 165 (DU b nx))) (hb:w.heap[b]? = some o) (hM:CL .u64 (dm ds) o) (hbd:bd≠b) (ham:∀ d∈ds,0≤d.am∧d.am≤4503599627370496) :
  Ret Tryz.prog 185 #[ptr bd,.int .u64 k,.int .i64 x] w fun v w'=>v = .int .i64 (M4 ds k x)∧∃ o',CL .u64 (dm (RS ds k x)) o'∧Ctx w [b] w' [(b,o')]:=by
 obtain ⟨w0,rfl⟩:∃ w0,w0=w:=⟨_,rfl⟩;have H:=Ctx.start w0 [];have hbl:=Bb hb;refine Au (fn:=Tryz.f185) Tryz.func185 U [.pointer (some ⟨bd,0,none⟩),.int .u64 k,.int .i64 x] U (by kernel_rfl) ?_;refine Ad (Bu U _ (.int _ _) U U H ?_);rintro b5 w - H;refine Ae U U (Ab (Aa (Ad (A3 U U (Af U U (BZ U [.pointer _] U ?_))))));have hb5:w0.heap.size≤b5:=(H.own _ (List.mem_cons_self ..)).elim (fun h=>by cases h) id;refine Al U Tn (YB (x:=x) _ (H.ext.to hd (by simp)) (H.ext.to hb (by simp)) hM hbd (H.get at0) (by omega) ham) U ?_;rintro v w ⟨rfl,o',hM',H2⟩;refine Ae U U (Ab (Aa (A5 (AA (v:=(.int _ _)) U U U ?_))));have H3:=H.ext.mono (S':=[b]) (by simp);exact ⟨rfl,o',hM',⟨H3.trans H2.ext,H2.blk,H2.nd,fun y hy=>by rw [List.mem_singleton.1 hy]; exact .inl (List.mem_singleton.2 rfl)⟩⟩
end Go.Proofs.YtdagmpmdcgedcaaGreat

/- The dues of the reference: place. -/
namespace Go.Proofs.YtdagmpmdcgedcaaGreat
open Go.GV
attribute [local irreducible] AB W Wq Wt

/-- Where a due stands. -/
structure PlD (ds:List Du) (k:Int) (i:Nat) (d:Du):Prop where
 at':ds[i]? = some d
 id:d.id=k
 fst:∀ (j:Nat) (e:Du),j<i→ds[j]? = some e→e.id≠k
theorem PlD.pay {ds:List Du} {k x:Int} {i:Nat} {d:Du} (h:PlD ds k i d):GI ds k x=if d.am=x then ds.eraseIdx i else ds.set i { d with am:=d.am - x }:=by
 induction ds generalizing i with
 | nil=>have:=h.at'; cases this
 | cons y ds ih =>
  unfold GI
  cases i with
  | zero =>
   have h1:=h.at'
   injection h1 with h1
   rw [h1,if_pos h.id]; rfl
  | succ i =>
   have h1:=h.fst 0 y (Nat.succ_pos _) rfl;rw [if_neg h1,ih ⟨h.at',h.id,fun j e hj he=>h.fst (j+1) e (Nat.succ_lt_succ hj) he⟩]
   split <;> rfl
end Go.Proofs.YtdagmpmdcgedcaaGreat

/- The dues of the reference: remove. -/
namespace Go.Proofs.YtdagmpmdcgedcaaGreat
open Go.GV
attribute [local irreducible] AB W Wq Wt

end Go.Proofs.YtdagmpmdcgedcaaGreat

/- The dues of the reference: Pay. -/
namespace Go.Proofs.YtdagmpmdcgedcaaGreat
open Go.GV
attribute [local irreducible] AB W Wq Wt

end Go.Proofs.YtdagmpmdcgedcaaGreat

/- Dues that are open: Clone, IndexFunc. -/
namespace Go.Proofs.YtdagmpmdcgedcaaGreat
open Go.GV
attribute [local irreducible] AB W Wq Wt

theorem Wo (a:Option Addr) (n c:Nat) (ds:List Du) (w:World) (R:Rd w a 7 CO ds) (hn:ds.length=n) (hm:n≤1000000000) :
  Ret Tryz.prog 225 #[.slice a n c] w fun v w'=>Fresh w w' 67 7 v (ds.flatMap CO):=by
 subst hn;obtain ⟨w0,rfl⟩:∃ w0,w0=w:=⟨_,rfl⟩;have H:=Ctx.start w0 [];refine Au (fn:=Tryz.f225) Tryz.func225 U [.slice a ds.length c] U (by kernel_rfl) ?_;refine Ad (A1 U U (Ab (Aa (Aw (Ad (A4 U U (HX U Dh U (Ab (Aa (Aq _ U ?_ ?_))))))))))
 ·intro h1;have ha:a=none:=by simpa using h1
  subst ha
  have hxs:ds=[]:=by
   cases ds with
   | nil=>rfl
   | cons x xs=>obtain ⟨b,o,h⟩:=R.some' (by simp); cases h
  subst hxs;refine Ad (A1 U U (Ab (Aa (A5 (Ao (AA (v:=(.slice _ _ _)) U U U ?_))))));exact Fresh.nil H _ _
 ·intro h1;refine Av (Aa (Ad (GM U Dh Cj H ?_)));rintro b5 w H O;refine A4 U U (GL U Dh Dh Cj Xm Et U (by decide) (ds.flatMap CO) U U H O (NP ds) (Wl ds) ((R.ext0 H.ext).app (fun _ _=>rfl) (by omega)) (by omega) ?_);rintro a7 c7 full7 w H O;refine A1 U U (Ab (Aa (A5 (AA (v:=(.slice _ _ _)) U U U ?_))));exact H.fresh O
theorem RU (d:Du) (w:World):Ret Tryz.prog 226 #[FN d] w fun v w'=>v = .bool d.held∧Ext [] w w':=by
 obtain ⟨w0,rfl⟩:∃ w0,w0=w:=⟨_,rfl⟩;have H:=Ctx.start w0 [];refine Au (fn:=Tryz.f226) Tryz.func226 U [FN d] U (by kernel_rfl) ?_;refine Ad (Bu U (CO d) (.agg _) U U H ?_);rintro b1 w - H;refine Ai U U (Ab (Aa (Ad (Ah U KV U (AE U JR U H at0 U (Ai U U (Ab (Aa (A5 (AA (v:=(.bool _)) U U U ?_))))))))));exact ⟨rfl,H.ext⟩
abbrev Acv:Value := .func (.func 226) #[] #[]
/-- The first that is held. -/
structure FstH (ds:List Du) (i:Nat):Prop where
 at':∃ d,ds[i]? = some d∧d.held=true
 fst:∀ (j:Nat) (e:Du),j<i→ds[j]? = some e→e.held=false
set_option maxRecDepth 20000 in
theorem Abb (a:Option Addr) (n c:Nat) (ds:List Du) (w:World) (R:Rd w a 7 CO ds) (hn:ds.length=n) (hn2:n≤1000000) :
  Ret Tryz.prog 201 #[.slice a n c,Acv] w fun v w'=>Ext [] w w'∧((v = .int .i64 (-1)∧∀ d∈ds,d.held=false)∨∃ i:Nat,v = .int .i64 (i:Int)∧FstH ds i):=by
 subst hn;obtain ⟨w0,rfl⟩:∃ w0,w0=w:=⟨_,rfl⟩;have H:=Ctx.start w0 [];refine Au (fn:=Tryz.f201) Tryz.func201 U [.slice a ds.length c,.func (.func 226) #[] #[]] U (by kernel_rfl) ?_;refine Ad (Ae U U (Ab (Aa (Aw (Ad (A4 U U (Bf U Dh U (Af U U (Ab (Aa (Az ?_)))))))))));refine Bv 524080 (α:=Nat) (fun i=>[(8,.int .i64 (i:Int))]) (fun i w'=>i≤ds.length∧Ctx w0 [] w' []∧∀ (j:Nat) (e:Du),j<i→ds[j]? = some e→e.held=false) (fun i=>ds.length - i) 0 U ?_ ?_ ?_
 ·exact ⟨rfl,trivial⟩
 ·exact ⟨Nat.zero_le _,H,fun j e h=>absurd h (Nat.not_lt_zero _)⟩
 ·clear H;rintro i j w ⟨hi,H,hb⟩;refine Ad (Bj U U U (Ab (Aa (Aw (Aq _ U ?_ ?_)))))
  ·intro h1;replace h1:=AM h1;obtain ⟨d,hd2⟩:=AD (l:=ds) (i:=i) (by omega);refine Av (Aa (Aw (Az (Ad (Af U U (Ae U U (Ab (Aa (Ad (De U (.func _ _ _) U ?_))))))))));refine A4 U U (Af U U (Bo R U Dh Cj U U (by omega) (by omega) (by rfl) ?_));refine Cn _ U EW Cj U U ((R.ext0 H.ext).row hd2 U) ?_;refine F8 U U Xz (RU d _) U ?_;rintro v w ⟨rfl,hx16⟩;replace H:=H.call hx16;refine Ab (Aa (Aq _ U ?_ ?_))
   ·intro h2;refine Ad (Af U U (Ae U U (Ab (Aa (A5 (A9 (Ao (Ao (A9 (Ao (AA (v:=(.int _ _)) U U U ?_)))))))))));exact ⟨H.ext,.inr ⟨i,rfl,⟨d,hd2,h2⟩,hb⟩⟩
   ·intro h2;refine Av (A6 (Aa (A0 (Ay U U U (by omega) (by omega) ?_))));refine Af U U (Ab (Aa ?_));refine ⟨i+1,rfl,⟨rfl,trivial⟩,⟨by omega,H,fun j e hj he=>?_⟩,by omega⟩
    rcases Nat.lt_or_ge j i with h7 | h7
    ·exact hb j e h7 he
    ·obtain rfl:j=i:=by omega
     rw [hd2] at he;cases he;exact h2
  ·intro h1;replace h1:=AN h1;refine Bt (Am (Am (AK (Aa (Ad (Ae U U (Ab (Aa (A5 (AA (v:=(.int _ _)) U U U ?_))))))))));refine ⟨H.ext,.inl ⟨rfl,fun d hd=>?_⟩⟩;obtain ⟨j,hj⟩:=List.mem_iff_getElem?.1 hd;exact hb j d (by have:=Cu hj; omega) hj
end Go.Proofs.YtdagmpmdcgedcaaGreat

/- Dues that are open: DeleteFunc, open. -/
namespace Go.Proofs.YtdagmpmdcgedcaaGreat
open Go.GV
attribute [local irreducible] AB W Wq Wt

def opn (ds:List Du):List Du:=ds.filter fun d => !d.held
theorem Pe:∀ (vs l:List Value) (o k:Nat),k≤o→(over l o vs).take k=l.take k
 | [],_,_,_,_=>rfl
 | v::vs,l,o,k,h=>by
  show (over (l.set o v) (o+1) vs).take k=_;rw [Pe vs (l.set o v) (o+1) k (by omega)];refine List.ext_getElem? fun j=>?_;rw [List.getElem?_take,List.getElem?_take]
  split
  ·rw [List.getElem?_set_ne (by omega)]
  ·rfl
theorem OS.shrink {α:Type} {a:Option Addr} {n c s i:Nat} {full vs:List Value} {enc:α→List Value} {L:List α} {o:Nat} (O:OS a n c s full (L.flatMap enc)) (hs:∀ x∈L,(enc x).length=s) (hi:i≤n) (hL:L.length=n) (ho:vs=[]∨i*s≤o):OS a i c s (Go.GV.over full o vs) ((L.take i).flatMap enc):=by
 refine ⟨O.zero,O.none',by rw [Dy]; exact O.len,Nat.le_trans hi O.le,?_⟩
 have h1:(Go.GV.over full o vs).take (i*s)=full.take (i*s):=by
  rcases ho with rfl | ho
  ·rfl
  ·exact Pe _ _ _ _ ho
 rw [h1]
 have h2:full.take (i*s)=(full.take (n*s)).take (i*s):=by
  rw [List.take_take,Nat.min_eq_left (Nat.mul_le_mul_right _ hi)]
 rw [h2,O.pre];have h3:L.flatMap enc=(L.take i).flatMap enc++(L.drop i).flatMap enc:=by rw [← List.flatMap_append,List.take_append_drop]
 have h4:((L.take i).flatMap enc).length=i*s:=by
  rw [E5 fun z hz=>hs z (List.mem_of_mem_take hz),List.length_take,Nat.min_eq_left (by omega)]
 rw [h3];exact List.take_left' h4
theorem NQ (ds:List Du) (d:Du):opn (ds++[d])=opn ds++if d.held=true then [] else [d]:=by
 unfold opn;rw [List.filter_append];cases h:d.held <;> simp [h]
theorem US {ds:List Du} (h:∀ d∈ds,d.held=false):opn ds=ds:=by
 unfold opn;rw [List.filter_eq_self];intro d hd;rw [h d hd]; rfl
structure DSt where
 i:Nat
 j:Nat
 L:List Du
 full:List Value
set_option maxRecDepth 20000 in
set_option maxHeartbeats 4000000 in
theorem Agw (a:Option Addr) (c:Nat) (full:List Value) (ds:List Du) (w:World) (O:OS a ds.length c 7 full (ds.flatMap CO)) (hb:∀ y∈ent a 67 full,w.heap[y.1]? = some y.2) (hn2:ds.length≤1000000) :
  Ret Tryz.prog 224 #[.slice a ds.length c,Acv] w fun v w'=>∃ full',v = .slice a (opn ds).length c∧OS a (opn ds).length c 7 full' ((opn ds).flatMap CO)∧Ctx w ((ent a 67 full).map (·.1)) w' (ent a 67 full'):=by
 obtain ⟨w0,rfl⟩:∃ w0,w0=w:=⟨_,rfl⟩;have R:Rd w0 a 7 CO ds:=OS.rd O hb (fun _ _=>rfl) (by omega);have H:Ctx w0 ((ent a 67 full).map (·.1)) w0 (ent a 67 full):=⟨Ext.refl _ _,hb,F9,fun x hx => .inl (List.mem_map_of_mem (f:=(·.1)) hx)⟩;refine Au (fn:=Tryz.f224) Tryz.func224 U [.slice a ds.length c,.func (.func 226) #[] #[]] U (by kernel_rfl) ?_;refine Ad (A1 U U (Ab (Aa (Ad (A4 U U (De U (.func _ _ _) U ?_))))));refine Al U Aed (Abb a ds.length c ds _ R U hn2) U ?_;rintro v w ⟨hx10,hidx⟩;replace H:=H.call hx10;obtain ⟨pi,rfl,hpi⟩:∃ pi:Int,v = .int .i64 pi∧((pi = -1∧∀ d∈ds,d.held=false)∨∃ i:Nat,pi=(i:Int)∧FstH ds i):=hidx.elim (fun h=>⟨-1,h.1,.inl ⟨rfl,h.2⟩⟩) (fun ⟨i,h1,h2⟩=>⟨i,h1,.inr ⟨i,rfl,h2⟩⟩);refine Ae U U (Ab (Aa (Aw (Ad (Af U U (Cz U U U (Ab (Aa (Aq _ U ?_ ?_)))))))))
 ·intro h1;replace h1:=AM h1;refine Ad (A4 U U (A1 U U (Ab (Aa (A5 (Ao (AA (v:=(.slice _ _ _)) U U U ?_)))))));have hal:∀ d∈ds,d.held=false:=hpi.elim (fun h=>h.2) fun ⟨i,h,_⟩=>by omega
  rw [US hal];exact ⟨full,rfl,O,H⟩
 ·intro h1;replace h1:=AN h1;obtain ⟨i,hpe,P⟩:∃ i:Nat,pi=(i:Int)∧FstH ds i:=hpi.elim (fun h=>absurd h.1 h1) id;subst hpe;obtain ⟨d0,hd0,hh0⟩:=P.at';have hil:=Cu hd0;obtain ⟨q,rfl⟩:=O.form (by omega);replace H:Ctx w0 [q] w [(q,Bl 67 full)]:=H
  have hop0:opn (ds.take i)=ds.take i:=US fun d hd=>by
   obtain ⟨j,hj⟩:=List.mem_iff_getElem?.1 hd;rw [List.getElem?_take] at hj
   split at hj
   ·exact P.fst j d (by assumption) hj
   ·cases hj
  have hst0:opn (ds.take (i+1))=ds.take i:=by
   rw [List.take_add_one,hd0];show opn (ds.take i++[d0])=_;rw [NQ,if_pos hh0,hop0,List.append_nil]
  refine Av (Aa (Aw (Ad (Af U U (Ay U U U (by omega) (by omega) ?_)))));refine Ae U U (Ab (Aa (Az (Bv 68719411424 (α:=DSt) (fun t=>[(5,.int .i64 (t.i:Int)),(6,.int .i64 (t.j:Int))]) (fun t w'=>t.i<t.j∧t.j≤ds.length∧t.L.length=ds.length∧t.L.take t.i=opn (ds.take t.j)∧(∀ p,t.j≤p→t.L[p]? = ds[p]?)∧OS (some ⟨q,0,none⟩) ds.length c 7 t.full (t.L.flatMap CO)∧Ctx w0 [q] w' [(q,Bl 67 t.full)]) (fun t=>ds.length - t.j) ⟨i,i+1,ds,full⟩ U ?_ ?_ ?_))))
  ·exact ⟨rfl,rfl,trivial⟩
  ·exact ⟨Nat.lt_succ_self _,by dsimp only; omega,rfl,hst0.symm,fun p _=>rfl,O,H⟩
  ·clear H;rintro ⟨i,j,L,fu⟩ jj w ⟨hij,hj,hL,hT,hS,O1,H⟩; dsimp only at hij hj hL hT hS O1 H; dsimp only;have hOl:=O1.len;have hOle:=O1.le;refine Aw (Ad (Af U U (A4 U U (Bf U Dh U (Bj U U U (Ab (Aa (Aq _ U ?_ ?_))))))))
   ·intro h2;replace h2:=AM h2;obtain ⟨d,hdj⟩:=AD (l:=ds) (i:=j) (by omega);have hLd:L[j]? = some d:=by rw [hS j (Nat.le_refl _),hdj]
    have R1:Rd w (some ⟨q,0,none⟩) 7 CO L:=O1.rd (t:=67) (fun y hy=>by have hy:=List.mem_singleton.1 hy; rw [hy]; exact H.get at0) (fun _ _=>rfl) (by decide);have htk:ds.take (j+1)=ds.take j++[d]:=by rw [List.take_add_one,hdj]; rfl
    refine Av (Aa (Aw (Az (Ad (A4 U U (Af U U (Bo R1 U Dh Cj U U (by omega) (by omega) (by omega) ?_)))))));refine Cn _ U EW Cj U U (R1.row hLd U) ?_;refine AZ U Et H ?_;rintro b7 w - H;refine Bn U Cj U U U (by exact CY _) H at0 U ?_;rintro w H;refine Ab (Aa (Ad (De U (.func _ _ _) U ?_)));refine Ce U EW Cj U H at0 U (F8 U U Xz (RU d _) U ?_);rintro v w ⟨rfl,hx28⟩;replace H:=H.call hx28;refine BG U U (Ab (Aa (Aq _ U ?_ ?_)))
    ·intro h3;replace h3:=BD h3;have h3':¬ d.held=true:=by simpa using h3
     obtain ⟨y,hy⟩:=AD (l:=L) (i:=i) (by omega);have O2:=OS.over O1 (fun _=>rfl) hy d;refine Ad (A4 U U (Af U U (Ce U EW Cj U H at0 U (Bo R1 U Dh Cj U U (by omega) (by omega) (by omega) ?_))));refine GC (vs:=CO d) U Cj U U U (CY d) H at1 (by show 0+(i:Int).toNat*7+7≤_; omega) ?_;rintro w H;replace H:Ctx w0 [q] w [(b7,Bl 67 (CO d)),(q,Bl 67 (over fu (i*7) (CO d)))]:=by rw [show i*7=0+((i:Int)).toNat*7 by omega]; exact H
     refine Ab (Aa (A0 (Af U U (Ay U U U (by omega) (by omega) ?_))));refine Ae U U (Ab (A6 (Aa (A0 (Af U U (Ay U U U (by omega) (by omega) ?_))))));refine Ae U U (Ab (Aa ?_));refine ⟨⟨i+1,j+1,L.set i d,over fu (i*7) (CO d)⟩,rfl,⟨rfl,rfl,trivial⟩,⟨by dsimp only; omega,by dsimp only; omega,by dsimp only; rw [List.length_set]; exact hL,?_,fun p hp=>?_,O2,?_⟩,by dsimp only; omega⟩
     ·dsimp only;rw [htk,NQ,if_neg h3',← hT,List.take_add_one,List.getElem?_set_self (by omega)]
      congr 1
      refine List.ext_getElem? fun z=>?_;rw [List.getElem?_take,List.getElem?_take]
      split
      ·rw [List.getElem?_set_ne (by omega)]
      ·rfl
     ·dsimp only at hp ⊢;rw [List.getElem?_set_ne (by omega)];exact hS p (by omega)
     ·exact H.tail
    ·intro h3;replace h3:=BE h3;have h3':d.held=true:=by simpa using h3
     refine Av (A6 (Aa (A0 (Af U U (Ay U U U (by omega) (by omega) ?_)))));refine Ae U U (Ab (Aa ?_));refine ⟨⟨i,j+1,L,fu⟩,rfl,⟨rfl,rfl,trivial⟩,⟨by dsimp only; omega,by dsimp only; omega,hL,?_,fun p hp=>hS p (by dsimp only at hp; omega),O1,H.tail⟩,by dsimp only; omega⟩;dsimp only;rw [htk,NQ,if_pos h3',List.append_nil];exact hT
   ·intro h2;replace h2:=AN h2;obtain rfl:j=ds.length:=by omega
    rw [List.take_length] at hT;have hlen:(opn ds).length=i:=by rw [← hT,List.length_take]; omega
    obtain ⟨o',ho',ho2⟩:∃ o',SQ (some ⟨q,0,none⟩) c i 7=some ⟨q,o',none⟩∧((c=i∧o'=0)∨o'=i*7):=by
     unfold SQ
     by_cases h:c=i
     ·rw [if_pos h]; exact ⟨0,rfl,.inl ⟨h,rfl⟩⟩
     ·rw [if_neg h]; exact ⟨0+i*7,(by show some (Addr.add _ _)=_; rw [CH]),.inr (Nat.zero_add _)⟩
    refine Bt (Am (Am (AK (Aa (Ad (A4 U U (Af U U (QJ U Dh Cj U U (by omega) (by omega) ?_))))))));refine OG (b:=q) (o:=o') (n:=ds.length - i) (c:=c - i) (s:=7) U Dh Et U (by simp [Be]) (show Value.slice (SQ (some ⟨q,0,none⟩) c i 7) (ds.length - i) (c - i)=_ by rw [ho']) H at0 (by omega) ?_;rintro w H;refine Ab (Aa (Ad (A4 U U (Af U U (Jh U Dh Cj U U (by omega) (by omega) ?_)))));refine A1 U U (Ab (Aa (A5 (AA (v:=(.slice _ _ _)) U U U ?_))));have O3:=OS.shrink (i:=i) (o:=o') (vs:=(List.replicate (ds.length - i) [Value.int .u64 0,.int .i64 0,.int .i64 0,.int .i64 0,.int .i64 0,.int .i64 0,.bool false]).flatten) O1 (fun _ _=>rfl) (by omega) hL (ho2.elim (fun h=>by omega) fun h => .inr (by omega));rw [hT] at O3;rw [hlen];exact ⟨_,rfl,O3,H⟩
end Go.Proofs.YtdagmpmdcgedcaaGreat

/- Dues that are open; may a round be built? -/
namespace Go.Proofs.YtdagmpmdcgedcaaGreat
open Go.GV
attribute [local irreducible] AB W Wq Wt

theorem UT (a:Option Addr) (n c:Nat) (ds:List Du) (w:World) (R:Rd w a 7 CO ds) (hn:ds.length=n) (hm:n≤1000000) :
  Ret Tryz.prog 187 #[.slice a n c] w fun v w'=>Fresh w w' 67 7 v ((opn ds).flatMap CO):=by
 subst hn;obtain ⟨w0,rfl⟩:∃ w0,w0=w:=⟨_,rfl⟩;refine Au (fn:=Tryz.f187) Tryz.func187 U [.slice a ds.length c] U (by kernel_rfl) ?_;refine Ad (A1 U U (Ab (Aa (Ad (A4 U U (Al U Aew (Wo a ds.length c ds _ R U (by omega)) U ?_))))));rintro v w F;obtain ⟨a4,n4,c4,f4,rfl,O4,hb4⟩:=F.ex;have hl4:=O4.llen;rw [NP] at hl4;obtain rfl:ds.length=n4:=by omega
 refine Al U Aev (Agw a4 c4 f4 ds _ O4 (fun y hy=>(hb4 y hy).1) hm) U ?_;rintro v w ⟨f5,rfl,O5,H5⟩;refine A1 U U (Ab (Aa (A5 (AA (v:=(.slice _ _ _)) U U U ?_))));refine ⟨⟨_,_,_,f5,rfl,O5,fun x hx=>⟨H5.blk x hx,?_⟩⟩,F.ext.then H5.ext fun x hx=>?_⟩
 ·rcases H5.own x hx with h | h
  ·obtain ⟨y,hy,hyx⟩:=List.mem_map.1 h;rw [← hyx];exact (hb4 y hy).2
  ·exact Nat.le_trans F.ext.size h
 ·obtain ⟨y,hy,rfl⟩:=List.mem_map.1 hx;exact .inr (hb4 y hy).2
/-- The dues with numbers from 1 on. -/
def Ep:Nat→List Du→List Du
 | _,[]=>[]
 | i,d::ds=>{ d with id:=(i:Int)+1 }::Ep (i+1) ds
theorem Pf (i:Nat) (ds:List Du):(Ep i ds).length=ds.length:=by
 induction ds generalizing i with
 | nil=>rfl
 | cons d ds ih=>show (Ep (i+1) ds).length+1=ds.length+1; rw [ih]
theorem Qq (i:Nat) (ds es:List Du):Ep i (ds++es)=Ep i ds++Ep (i+ds.length) es:=by
 induction ds generalizing i with
 | nil=>rfl
 | cons d ds ih =>
  show _::Ep (i+1) (ds++es)=_::(Ep (i+1) ds++Ep (i+(ds.length+1)) es);rw [ih,show i+1+ds.length=i+(ds.length+1) by omega]
theorem TQ {ds:List Du} {i:Nat} {d:Du} (h:ds[i]? = some d):Ep 0 (ds.take (i+1))=Ep 0 (ds.take i)++[{ d with id:=(i:Int)+1 }]:=by
 have hl:=Cu h;rw [List.take_add_one,h];show Ep 0 (ds.take i++[d])=_;rw [Qq,List.length_take,Nat.min_eq_left (by omega),Nat.zero_add]; rfl
theorem YC {ds:List Du}:∀ (i:Nat) (d:Du),d∈Ep i ds→(i:Int)<d.id∧d.id≤i+ds.length:=by
 induction ds with
 | nil=>intro i d h; cases h
 | cons x ds ih =>
  intro i d h
  rcases List.mem_cons.1 h with rfl | h
  ·dsimp only [List.length_cons]; omega
  ·have:=ih (i+1) d h;rw [List.length_cons]; omega
theorem Wp {ds:List Du}:∀ (i:Nat),Fk ((i:Int)+ds.length+1) i (Ep i ds)=ds.all DT:=by
 induction ds with
 | nil=>intro i; rfl
 | cons d ds ih =>
  intro i;have h:=ih (i+1);show ((DT d && (decide ((i:Int)<(i:Int)+1) && decide ((i:Int)+1<_))) && Fk _ ((i:Int)+1) (Ep (i+1) ds))=(DT d && ds.all DT);rw [← h,decide_eq_true (show (i:Int)<(i:Int)+1 by omega),decide_eq_true (show (i:Int)+1<(i:Int)+((d::ds).length:Nat)+1 by rw [List.length_cons]; omega),show ((i:Int)+((d::ds).length:Nat)+1)=(((i+1:Nat):Int)+ds.length+1) by rw [List.length_cons]; omega];simp
/-- May such a round be built? -/
def Dr (rs:List Int) (ds:List Du):Bool :=
 decide (rs.length≤16) && (!decide ((E8 rs).2=1) && (ds.all (fun d=>decide (max d.fr d.to<rs.length)) && decide (ofC (Ep 0 ds) (ds.length+1)=0)))
end Go.Proofs.YtdagmpmdcgedcaaGreat

/- May a round be built: the walk. -/
namespace Go.Proofs.YtdagmpmdcgedcaaGreat
open Go.GV
attribute [local irreducible] AB W Wq Wt

theorem Wr {rs:List Int} {ds:List Du} {i:Nat} {d:Du} (hd:ds[i]? = some d) (h:¬ max d.fr d.to<rs.length):Dr rs ds=false:=by
 unfold Dr
 have:ds.all (fun d=>decide (max d.fr d.to<rs.length))=false:=by
  rw [List.all_eq_false];exact ⟨d,List.mem_of_getElem? hd,by simpa using h⟩
 rw [this];simp
set_option maxRecDepth 20000 in
set_option maxHeartbeats 4000000 in
theorem Ws (a b:Option Addr) (n c m e:Nat) (rs:List Int) (ds:List Du) (w:World) (R:Rd w a 1 I1 rs) (hn:rs.length=n) (hn2:n≤1000000) (Rd':Rd w b 7 CO ds) (hm:ds.length=m) (hm2:m≤1000000) :
  Ret Tryz.prog 207 #[.slice a n c,.slice b m e] w fun v w'=>v = .bool (Dr rs ds)∧Ext [] w w':=by
 subst hn hm;obtain ⟨w0,rfl⟩:∃ w0,w0=w:=⟨_,rfl⟩;have H:=Ctx.start w0 [];obtain ⟨tt,htt⟩:∃ tt,tt=E8 rs:=⟨_,rfl⟩;refine Au (fn:=Tryz.f207) Tryz.func207 U [.slice a rs.length c,.slice b ds.length e] U (by kernel_rfl) ?_;refine Ad (Ai U U (Ab (Aa (Aw (Ad (A4 U U (Bf U AR U (Dn U U U (Ab (Aa (Aq _ U ?_ ?_)))))))))))
 ·intro h1;replace h1:=AM h1;refine Ad (Ai U U (Ab (Aa (A5 (Ao (AA (v:=(.bool _)) U U U ?_))))));exact ⟨congrArg Value.bool (by unfold Dr; rw [decide_eq_false (show ¬ rs.length≤16 by omega)]; rfl),H.ext⟩
 ·intro h1;replace h1:=AN h1;have h1':decide (rs.length≤16)=true:=decide_eq_true (by omega);refine Av (Aa (Aw (Ad (A4 U U (Al U Nw (Li a rs.length c rs _ R U hn2) U ?_)))));rintro v w ⟨rfl,rfl⟩;rw [← htt];refine C0 U U (AO U U U (AO U U U (Ae U U (Ae U U (Ab (Aa (Ad (Af U U (Cz U U U (Ab (Aa ?_)))))))))));refine Aq _ U ?_ ?_
  ·intro h2;replace h2:=AM h2;refine Ad (Ai U U (Ab (Aa (A5 (Ao (AA (v:=(.bool _)) U U U ?_))))));exact ⟨congrArg Value.bool (by unfold Dr; rw [← htt,h2,h1']; rfl),H.ext⟩
  ·intro h2;replace h2:=AN h2;refine Av (Aa (Ad (A1 U U (Ab (Aa (Aw (Ad (A4 U U (Bf U Dh U (Af U U (Ab (Aa ?_))))))))))));refine Az (Bv 70368727401360 (α:=LSt) (fun t=>[(7,.slice t.a t.i t.c),(24,.int .i64 (t.i:Int))]) (fun t w'=>t.i≤ds.length∧OS t.a t.i t.c 7 t.full ((Ep 0 (ds.take t.i)).flatMap CO)∧Ctx w0 [] w' (ent t.a 67 t.full)∧∀ (j:Nat) (d:Du),j<t.i→ds[j]? = some d→max d.fr d.to<rs.length) (fun t=>ds.length - t.i) ⟨0,none,0,[]⟩ U ?_ ?_ ?_)
   ·exact ⟨rfl,rfl,trivial⟩
   ·exact ⟨Nat.zero_le _,OS.nil,H,fun j d h=>absurd h (Nat.not_lt_zero _)⟩
   ·clear H;rintro ⟨i,a2,c2,full⟩ jj w ⟨hi,O,H,hb⟩; dsimp only at hi O H hb; dsimp only;refine Ad (Bj U U U (Ab (Aa (Aw (Aq _ U ?_ ?_)))))
    ·intro h3;replace h3:=AM h3;obtain ⟨d,hd⟩:=AD (l:=ds) (i:=i) (by omega);obtain ⟨d',hd'⟩:∃ d':Du,d'={ d with id:=(i:Int)+1 }:=⟨_,rfl⟩;refine Av (Aa (Aw (Az (Ad (Af U U (Bo Rd' U Dh Cj U U (by omega) (by omega) (by rfl) ?_))))));refine Cn _ U EW Cj U U ((Rd'.ext0 H.ext).row hd U) ?_;refine AZ U Et H ?_;rintro b9 w - H;refine Ae U U (Bn U Cj U U U (by exact CY _) H at0 U ?_);rintro w H;refine Ab (Aa (Aw (Ad (Ah U I6 U (AE U BS U H at0 U (Ah U I8 U (AE U BS U H at0 U (KD U U U ?_))))))));refine A4 U U (Bf U AR U (C3 U U U (Ab (Aa (Aq _ U ?_ ?_)))))
     ·intro h4;replace h4:=AM h4;refine Ad (Ai U U (Ab (Aa (A5 (Ao (A9 (Ao (Ao (A9 (Ao (AA (v:=(.bool _)) U U U ?_)))))))))));exact ⟨congrArg Value.bool (Wr hd (show ¬ max d.fr d.to<rs.length by omega)).symm,H.ext⟩
     ·intro h4;replace h4:=AN h4;refine Av (Aa (Ad (Af U U (Er U U PY EZ (by omega) (by omega) ?_))));refine EK U U U (by omega) (by omega) ?_;refine Ah U Gh U (Cg (.int _ _) U Bi U U U H at0 (by (simp; done)) ?_);rintro w H;refine Ab (Aa ?_);replace H:Ctx w0 [] w ((b9,Bl 67 (CO d'))::ent a2 67 full):=by rw [hd']; exact H
      refine A0 (A4 U U (Ce U EW Cj U H at0 U (Ci _ (.agg _) U Dh Cj Et U (by decide) (by decide) U U U H ?_)));rintro b43 w - H;refine CJ (L:=[_]) U Dh Dh Cj Xm Et U (by decide) U U H O U (by simp [Be]) (by omega) ?_;rintro a' c' full' w H O;refine A1 U U (Ab (A6 (Aa (A0 (Ay U U U (by omega) (by omega) ?_)))));refine Af U U (Ab (Aa ?_));refine ⟨⟨i+1,a',c',full'⟩,rfl,⟨rfl,rfl,trivial⟩,⟨by dsimp only; omega,?_,H.tail,fun j x hj hx=>?_⟩,by dsimp only; omega⟩
      ·dsimp only;rw [TQ hd,← hd',List.flatMap_append];exact O
      ·rcases Nat.lt_or_ge j i with h7 | h7
       ·exact hb j x h7 hx
       ·obtain rfl:j=i:=by dsimp only at hj; omega
        rw [hd] at hx;cases hx;omega
    ·intro h3;replace h3:=AN h3;obtain rfl:i=ds.length:=by omega
     rw [List.take_length] at O
     have hal:ds.all (fun d=>decide (max d.fr d.to<rs.length))=true:=by
      rw [List.all_eq_true];intro d hd;obtain ⟨j,hj⟩:=List.mem_iff_getElem?.1 hd;exact decide_eq_true (hb j d (Cu hj) hj)
     have RO:Rd w a2 7 CO (Ep 0 ds):=OS.rd O (fun y hy=>H.blk y hy) (fun _ _=>rfl) (by omega)
     have hbr:Dr rs ds=decide (ofC (Ep 0 ds) (ds.length+1)=0):=by
      unfold Dr;rw [h1',hal,← htt,decide_eq_false h2]; rfl
     obtain ⟨cd,hcd⟩:∃ cd,cd=ofC (Ep 0 ds) (ds.length+1):=⟨_,rfl⟩;rw [hbr,← hcd];refine Bt (Am (Am (AK (Aa (Ad (A4 U U (A4 U U (Bf U Dh U (Er U U PY EZ (by omega) (by omega) ?_)))))))));refine EK U U U (by omega) (by omega) ?_;refine Al U ca_79 (Ags a2 ds.length c2 (Ep 0 ds) (ds.length+1) _ RO (Pf 0 ds) (by omega) (by omega) (fun d hd=>by have:=YC 0 d hd; omega)) U ?_;rintro v w ⟨p,rfl,hp1,hp2,hx52⟩;obtain ⟨pp,rfl⟩:∃ pp,p = .pointer pp:=by by_cases hz:ofC (Ep 0 ds) (ds.length+1)=0; (obtain ⟨bd,_,_,e1,_⟩:=hp2 hz; exact ⟨_,e1⟩); exact ⟨none,hp1 hz⟩
     replace H:=H.call hx52;rw [← hcd];refine C0 U U (AO U U U (AO U U U (Co U U (Ae U U (Ab (Aa (Ad (Af U U (Cz U U U (Ai U U ?_))))))))));refine Ab (Aa (A5 (AA (v:=(.bool _)) U U U ?_)));exact ⟨rfl,H.ext⟩
end Go.Proofs.YtdagmpmdcgedcaaGreat

/- A round's edges, one by one. -/
namespace Go.Proofs.YtdagmpmdcgedcaaGreat
open Go.GV
attribute [local irreducible] AB W Wq Wt

def Ku (d:Du):Ed:=⟨d.fr,d.to,d.am,-d.we⟩
def LO (rs:List Int):List Ed:=(List.range (2*rs.length)).map fun j=>if j % 2=0 then ⟨rs.length,(j / 2:Nat),rs.getD (j / 2) 0,0⟩ else ⟨(j / 2:Nat),rs.length,4503599627370496,0⟩
def BA (rs:List Int) (ds:List Du) (net:Bool):List Ed:=ds.map Ku++if net=true then [] else LO rs
theorem Ln {rs:List Int} {i:Nat} {x:Int} (h:rs[i]? = some x):(LO rs)[2*i]? = some ⟨rs.length,i,x,0⟩:=by
 have hl:=Cu h;unfold LO;rw [DI (by omega),if_pos (by omega),show 2*i / 2=i by omega,Bm h]
theorem MN {rs:List Int} {i:Nat} (h:i<rs.length):(LO rs)[2*i+1]? = some ⟨i,rs.length,4503599627370496,0⟩:=by
 unfold LO;rw [DI (by omega),if_neg (by omega),show (2*i+1) / 2=i by omega]
theorem UU (rs:List Int):(LO rs).length=2*rs.length:=by unfold LO; simp
def edV (e:Ed):List Value:=[.agg (C4 e).toArray]
structure RndK (b1 b2 b3:Nat) (a b:Option Addr) (n c m e:Nat) (rs:List Int) (ds:List Du) (net:Bool) (w:World):Prop where
 h1:w.heap[b1]? = some (Bl 27 [.slice b m e])
 h2:w.heap[b2]? = some (Bl 4 [.bool net])
 h3:w.heap[b3]? = some (Bl 35 [.slice a n c])
 R:Rd w a 1 I1 rs
 Rd':Rd w b 7 CO ds
set_option maxRecDepth 20000 in
set_option maxHeartbeats 4000000 in
theorem TR {b1 b2 b3:Nat} {a b:Option Addr} {n c m e:Nat} {rs:List Int} {ds:List Du} {net:Bool} (hn:rs.length=n) (hm:ds.length=m) (hn2:n≤1000000) (hm2:m≤1000000) (hw:∀ d∈ds,-1000000000≤d.we∧d.we≤1000000000) :
  PC Tryz.prog 240 #[ptr b1,ptr b2,ptr b3] [] (fun _ w=>RndK b1 b2 b3 a b n c m e rs ds net w) ((BA rs ds net).map edV):=by
 subst hn hm;intro l w J E hJ0 hJs hEs hK hY;obtain ⟨M0,hJ0⟩:=hJ0;obtain ⟨w0,rfl⟩:∃ w0,w0=w:=⟨_,rfl⟩
 have hat1:∀ (i:Nat) (d:Du),ds[i]? = some d→((BA rs ds net).map edV)[i]? = some (edV (Ku d)):=fun i d hd=>by
  unfold BA;have hl:=Cu hd;rw [List.getElem?_map,List.getElem?_append_left (by rw [List.length_map]; exact hl),List.getElem?_map,hd]; rfl
 have hat2:net=false→∀ (j:Nat) (x:Ed),(LO rs)[j]? = some x→((BA rs ds net).map edV)[ds.length+j]? = some (edV x):=fun h0 j x hx=>by
  unfold BA;rw [h0,List.getElem?_map,List.getElem?_append_right (by rw [List.length_map]; omega),List.length_map,show ds.length+j - ds.length=j by omega];show ((LO rs)[j]?).map edV=_;rw [hx]; rfl
 have hlen:((BA rs ds net).map edV).length=ds.length+if net=true then 0 else 2*rs.length:=by
  unfold BA;rw [List.length_map,List.length_append,List.length_map]
  split
  ·rfl
  ·rw [UU]
 refine Au (fn:=Tryz.f240) Tryz.func240 U [.func (.yield l) #[] #[],.pointer (some ⟨b1,0,none⟩),.pointer (some ⟨b2,0,none⟩),.pointer (some ⟨b3,0,none⟩)] U (by kernel_rfl) ?_;have K0:=(hK _ _ _ hJ0).2;have H:=Ctx.start w0 [];refine Aw (Ad (Bd U Xi U ((by rw [Aj K0.h1]; rfl)) ?_));refine Bf U Dh U (Af U U (Ab (Aa (Az (Bv 1073737792 (α:=Nat) (fun i=>[(12,.int .i64 (i:Int))]) (fun i w'=>i≤ds.length∧∃ M,J i M w') (fun i=>ds.length - i) 0 U ?_ ?_ ?_)))))
 ·exact ⟨rfl,trivial⟩
 ·exact ⟨Nat.zero_le _,M0,hJ0⟩
 ·clear H;rintro i j w ⟨hi,M,hJ⟩;have KK:=(hK _ _ _ hJ).2;have R:=KK.Rd';obtain ⟨w1,rfl⟩:∃ w1,w1=w:=⟨_,rfl⟩;have H:=Ctx.start w1 [];refine Ad (Bj U U U (Ab (Aa (Aw (Aq _ U ?_ ?_)))))
  ·intro h1;replace h1:=AM h1;obtain ⟨d,hd⟩:=AD (l:=ds) (i:=i) (by omega);have hwd:=hw d (List.mem_of_getElem? hd);refine Av (Aa (Aw (Az (Ad (Bo R U Dh Cj U U (by omega) (by omega) (by rfl) ?_)))));refine Cn _ U EW Cj U U ((R.ext0 H.ext).row hd U) ?_;refine AZ U Et H ?_;rintro b6 w - H;refine Bn U Cj U U U (by exact CY _) H at0 U ?_;rintro w H;refine Ab (Aa (Ad (De U (.func _ _ _) U ?_)));refine Ah U I6 U (AE U BS U H at0 U (Ah U I8 U (AE U BS U H at0 U (Ah U ET U (AE U Bw U H at0 U (Ah U KU U (AE U Bw U H at0 U (Kh U U (by omega) (by omega) ?_))))))));refine B7 (C4 (Ku d)) U XG GZ (by kernel_rfl) ?_;have hY1:=hY i (edV (Ku d)) M _ (hat1 i d hd) (hJs _ _ _ _ hJ H.ext);refine Gq (vs:=edV (Ku d)) U U hY1 U ?_;rintro u w hu
   obtain ⟨bb,rfl,hu1,hu0⟩:∃ bb,u = .bool bb∧(bb=true→∃ M,J (i+1) M w)∧(bb=false→E w):=hu.elim (fun h=>⟨true,h.1,fun _=>let ⟨M',h1,_⟩:=h.2; ⟨M',h1⟩,fun h=>by cases h⟩) (fun h=>⟨false,h.1,(fun h=>by cases h),fun _=>h.2⟩);refine BG U U (Ab (Aa (Aq _ U ?_ ?_)))
   ·intro h2;replace h2:=BD h2;refine A5 (A9 (Ao (Ao (A9 (Ao (Fo U U ?_))))));exact .inr (hu0 (by simpa using h2))
   ·intro h2;replace h2:=BE h2;refine Av (A6 (Aa (A0 (Ay U U U (by omega) (by omega) ?_))));refine Af U U (Ab (Aa ?_));exact ⟨i+1,rfl,⟨rfl,trivial⟩,⟨by omega,hu1 (by simpa using h2)⟩,by omega⟩
  ·intro h1;replace h1:=AN h1;obtain rfl:i=ds.length:=by omega
   refine Bt (Am (Am (AK (Aa (Aw (Ad (Bd U JR U ((H.old0 (by rw [Aj KK.h2]; rfl))) ?_)))))));refine Ab (Aa (Aq _ U ?_ ?_))
   ·intro h2;refine A5 (Ao (Fo U U ?_));exact .inl ⟨M,by rw [hlen,if_pos h2]; exact hJ⟩
   ·intro h2;refine Av (Aa (Ad (Bd U BL U ((H.old0 (by rw [Aj KK.h3]; rfl))) ?_)));refine Bf U AR U (Ae U U (Ab (Aa (Ad (Bd U BL U ((H.old0 (by rw [Aj KK.h3]; rfl))) ?_)))));refine Bf U AR U (Af U U (Ab (Aa (Az (Bv 72057559678190336 (α:=Nat) (fun i=>[(35,.int .i64 (i:Int))]) (fun i w'=>i≤rs.length∧∃ M,J (ds.length+2*i) M w') (fun i=>rs.length - i) 0 U ?_ ?_ ?_)))))
    ·exact ⟨rfl,trivial⟩
    ·exact ⟨Nat.zero_le _,M,hJ⟩
    ·clear H;rintro i j2 w ⟨hi,M,hJ⟩;have KK:=(hK _ _ _ hJ).2;have R:=KK.R;obtain ⟨w1,rfl⟩:∃ w1,w1=w:=⟨_,rfl⟩;have H:=Ctx.start w1 [];refine Ad (Bj U U U (Ab (Aa (Aw (Aq _ U ?_ ?_)))))
     ·intro h3;replace h3:=AM h3;obtain ⟨x,hx⟩:=AD (l:=rs) (i:=i) (by omega);refine Av (Aa (Aw (Az (Ad (Af U U (Bo R U AR Bx U U (by omega) (by omega) (by rfl) ?_))))));refine Bd U Bw U (((R.ext0 H.ext).fld hx U (j:=0) U)) ?_;refine Ae U U (Ae U U (Ab (Aa (Ad (De U (.func _ _ _) U ?_)))));refine Af U U (Af U U (Af U U (B7 (C4 ⟨rs.length,i,x,0⟩) U XG GZ (by kernel_rfl) ?_)));have hY1:=hY _ (edV ⟨rs.length,i,x,0⟩) M _ (hat2 h2 _ _ (Ln hx)) (hJs _ _ _ _ hJ H.ext);refine Gq (vs:=edV ⟨rs.length,i,x,0⟩) U U hY1 U ?_;rintro u w hu;clear H;obtain ⟨bb,rfl,hu1,hu0⟩:∃ bb,u = .bool bb∧(bb=true→∃ M,J (ds.length+2*i+1) M w)∧(bb=false→E w):=hu.elim (fun h=>⟨true,h.1,fun _=>let ⟨M',h1,_⟩:=h.2; ⟨M',h1⟩,fun h=>by cases h⟩) (fun h=>⟨false,h.1,(fun h=>by cases h),fun _=>h.2⟩);refine BG U U (A7 U U (AV 47 U ?_ ?_))
      ·intro h4;replace h4:=BD h4;refine Ag U (Ag U (Ag U (Ag U (Ag U (Ag U (AG U U (.bool _) U (Ab (Aa (D3 U (A5 (A9 (Ao (Ao (A9 (Fo U U ?_)))))))))))))));exact .inr (hu0 (by simpa using h4))
      ·intro h4;replace h4:=BE h4;refine De U (.func _ _ _) U ?_;refine Af U U (Af U U (B7 (C4 ⟨i,rs.length,4503599627370496,0⟩) U XG GZ (by kernel_rfl) ?_));obtain ⟨M2,hJ2⟩:∃ M,J (ds.length+2*i+1) M w:=hu1 (by simp_all);have hY2:=hY _ (edV ⟨i,rs.length,4503599627370496,0⟩) M2 _ (hat2 h2 _ _ (MN (by omega))) hJ2;refine Gq (vs:=edV ⟨i,rs.length,4503599627370496,0⟩) U U hY2 U ?_;rintro u w hu;obtain ⟨bb,rfl,hv1,hv0⟩:∃ bb,u = .bool bb∧(bb=true→∃ M,J (ds.length+2*i+1+1) M w)∧(bb=false→E w):=hu.elim (fun h=>⟨true,h.1,fun _=>let ⟨M',h1,_⟩:=h.2; ⟨M',h1⟩,fun h=>by cases h⟩) (fun h=>⟨false,h.1,(fun h=>by cases h),fun _=>h.2⟩);refine BG U U (AJ U U (.bool _) U (Ab (Aa (Aq _ U ?_ ?_))))
       ·intro h5;replace h5:=BD h5;refine A5 (A9 (Ao (Ao (A9 (Fo U U ?_)))));exact .inr (hv0 (by simpa using h5))
       ·intro h5;replace h5:=BE h5;refine Av (A6 (Aa (A0 (Ay U U U (by omega) (by omega) ?_))));refine Af U U (Ab (Aa ?_));exact ⟨i+1,rfl,⟨rfl,trivial⟩,⟨by omega,by rw [show ds.length+2*(i+1)=ds.length+2*i+1+1 by omega]; exact hv1 (by simpa using h5)⟩,by omega⟩
     ·intro h3;replace h3:=AN h3;refine Bt (Am (Am (AK (CG U U ?_))));obtain rfl:i=rs.length:=by omega
      exact .inl ⟨M,by rw [hlen,if_neg (by rw [h2]; decide)]; exact hJ⟩
end Go.Proofs.YtdagmpmdcgedcaaGreat

/- Rounds: their edges; comparisons of edges and numbers. -/
namespace Go.Proofs.YtdagmpmdcgedcaaGreat
open Go.GV
attribute [local irreducible] AB W Wq Wt

abbrev U1 (x:Int):List Value:=[FS x]
instance:DecidableEq Ed:=fun x y=>if h:x.f=y.f∧x.t=y.t∧x.cap=y.cap∧x.cost=y.cost then isTrue (by cases x; cases y; simp_all) else isFalse fun e=>h (by subst e; exact ⟨rfl,rfl,rfl,rfl⟩)
theorem RV (x y:Ed):decide (x=y)=true↔C4 x=C4 y:=by
 obtain ⟨a,b,c,d⟩:=x;obtain ⟨a',b',c',d'⟩:=y;simp [C4]
set_option maxRecDepth 20000 in
theorem Agx (a b:Option Addr) (n c m d:Nat) (xs ys:List Ed) (w:World) (R:Rd w a 4 C4 xs) (hn:xs.length=n) (hn2:n≤1000000) (Ry:Rd w b 4 C4 ys) (hm:ys.length=m) (hm2:m≤1000000) :
  Ret Tryz.prog 220 #[.slice a n c,.slice b m d] w fun v w'=>v = .bool (decide (xs=ys))∧Ext [] w w':=by
 subst hn hm;obtain ⟨w0,rfl⟩:∃ w0,w0=w:=⟨_,rfl⟩;have H:=Ctx.start w0 [];refine Au (fn:=Tryz.f220) Tryz.func220 U [.slice a xs.length c,.slice b ys.length d] U (by kernel_rfl) ?_;refine Ad (Ai U U (Ab (Aa (Aw (Ad (A4 U U (Bf U CW U (A4 U U (Bf U CW U (CI U U U ?_))))))))));refine Ab (Aa (Aq _ U ?_ ?_))
 ·intro h1;replace h1:=CE h1;refine Ad (Ai U U (Ab (Aa (A5 (Ao (AA (v:=(.bool _)) U U U ?_))))));exact ⟨congrArg Value.bool (decide_eq_false fun h=>by rw [h] at h1; simp at h1).symm,H.ext⟩
 ·intro h1;replace h1:=CF h1;have hle:xs.length=ys.length:=by omega
  refine Av (Aa (Aw (Ad (A4 U U (Bf U CW U (Af U U (Ab (Aa (Az (Bv 67100720 (α:=Nat) (fun i=>[(13,.int .i64 (i:Int))]) (fun i w'=>i≤xs.length∧Ctx w0 [] w' []∧∀ (k:Nat) (x y:Ed),k<i→xs[k]? = some x→ys[k]? = some y→x=y) (fun i=>xs.length - i) 0 U ?_ ?_ ?_))))))))))
  ·exact ⟨rfl,trivial⟩
  ·exact ⟨Nat.zero_le _,H,fun k x y h=>absurd h (Nat.not_lt_zero _)⟩
  ·clear H;rintro i j w ⟨hi,H,hb⟩;refine Ad (Bj U U U (Ab (Aa (Aw (Aq _ U ?_ ?_)))))
   ·intro h2;replace h2:=AM h2;obtain ⟨x,hx⟩:=AD (l:=xs) (i:=i) (by omega);obtain ⟨y,hy⟩:=AD (l:=ys) (i:=i) (by omega);refine Av (Aa (Aw (Az (Ad (Af U U (Ae U U (Ab (Aa (Dx (fun x=>x=_) Bq (by kernel_rfl) U ?_)))))))));refine Ca U U (AU U U (BM R U CW CX U U (by omega) (by omega) (by rfl) ?_));refine FT _ U Ib CX U U (by rintro _ rfl; exact ((R.ext0 H.drew.ext).row hx rfl)) ?_;refine Ca U U (AU U U (BM Ry U CW CX U U (by omega) (by omega) (by rfl) ?_));refine FT _ U Ib CX U U (by rintro _ rfl; exact ((Ry.ext0 H.drew.ext).row hy rfl)) ?_;refine Us (ks:=[true,true,true,true]) (xs:=C4 x) (ys:=C4 y) (decide (x=y)) U (by kernel_rfl) U U ⟨rfl,rfl,rfl,rfl,trivial⟩ (RV x y) ?_;refine BK ?_;rintro _ rfl;replace H:=H.drew;refine Aq _ U ?_ ?_
    ·intro h3;refine Ad (Ai U U (Ab (Aa (A5 (A9 (Ao (Ao (A9 (Ao (AA (v:=(.bool _)) U U U ?_))))))))));have hne:¬ x=y:=by simpa using h3
     exact ⟨congrArg Value.bool (decide_eq_false fun h=>by subst h; rw [hx] at hy; injection hy with hy; exact hne hy).symm,H.ext⟩
    ·intro h3;refine Av (A6 (Aa (A0 (Ay U U U (by omega) (by omega) ?_))));refine Af U U (Ab (Aa ?_));have heq:x=y:=by simpa using h3
     refine ⟨i+1,rfl,⟨rfl,trivial⟩,⟨by omega,H,fun k x' y' hk hx' hy'=>?_⟩,by omega⟩
     rcases Nat.lt_or_ge k i with h7 | h7
     ·exact hb k x' y' h7 hx' hy'
     ·obtain rfl:k=i:=by omega
      rw [hx] at hx'; rw [hy] at hy';cases hx'; cases hy';exact heq
   ·intro h2;replace h2:=AN h2;refine Bt (Am (Am (AK (Aa (Ad (Ai U U (Ab (Aa (A5 (AA (v:=(.bool _)) U U U ?_))))))))));obtain rfl:i=xs.length:=by omega
    exact ⟨congrArg Value.bool (decide_eq_true (Ll hle hb)).symm,H.ext⟩
set_option maxRecDepth 20000 in
theorem Agy (a b:Option Addr) (n c m d:Nat) (xs ys:List Int) (w:World) (R:Rd w a 1 U1 xs) (hn:xs.length=n) (hn2:n≤1000000) (Ry:Rd w b 1 U1 ys) (hm:ys.length=m) (hm2:m≤1000000) :
  Ret Tryz.prog 221 #[.slice a n c,.slice b m d] w fun v w'=>v = .bool (decide (xs=ys))∧Ext [] w w':=by
 subst hn hm;obtain ⟨w0,rfl⟩:∃ w0,w0=w:=⟨_,rfl⟩;have H:=Ctx.start w0 [];refine Au (fn:=Tryz.f221) Tryz.func221 U [.slice a xs.length c,.slice b ys.length d] U (by kernel_rfl) ?_;refine Ad (Ai U U (Ab (Aa (Aw (Ad (A4 U U (Bf U Br U (A4 U U (Bf U Br U (CI U U U ?_))))))))));refine Ab (Aa (Aq _ U ?_ ?_))
 ·intro h1;replace h1:=CE h1;refine Ad (Ai U U (Ab (Aa (A5 (Ao (AA (v:=(.bool _)) U U U ?_))))));exact ⟨congrArg Value.bool (decide_eq_false fun h=>by rw [h] at h1; simp at h1).symm,H.ext⟩
 ·intro h1;replace h1:=CF h1;have hle:xs.length=ys.length:=by omega
  refine Av (Aa (Aw (Ad (A4 U U (Bf U Br U (Af U U (Ab (Aa (Az (Bv 67100720 (α:=Nat) (fun i=>[(13,.int .i64 (i:Int))]) (fun i w'=>i≤xs.length∧Ctx w0 [] w' []∧∀ (k:Nat) (x y:Int),k<i→xs[k]? = some x→ys[k]? = some y→x=y) (fun i=>xs.length - i) 0 U ?_ ?_ ?_))))))))))
  ·exact ⟨rfl,trivial⟩
  ·exact ⟨Nat.zero_le _,H,fun k x y h=>absurd h (Nat.not_lt_zero _)⟩
  ·clear H;rintro i j w ⟨hi,H,hb⟩;refine Ad (Bj U U U (Ab (Aa (Aw (Aq _ U ?_ ?_)))))
   ·intro h2;replace h2:=AM h2;obtain ⟨x,hx⟩:=AD (l:=xs) (i:=i) (by omega);obtain ⟨y,hy⟩:=AD (l:=ys) (i:=i) (by omega);refine Av (Aa (Aw (Az (Ad (Af U U (Ae U U (Ab (Aa (Dx (fun x=>x=_) Bq (by kernel_rfl) U ?_)))))))));refine Ca U U (AU U U (BM R U Br Bi U U (by omega) (by omega) (by rfl) ?_));refine BP U B2 U (by rintro _ rfl; exact (((R.ext0 H.drew.ext).fld hx rfl (j:=0) rfl))) ?_;refine Ca U U (AU U U (BM Ry U Br Bi U U (by omega) (by omega) (by rfl) ?_));refine BP U B2 U (by rintro _ rfl; exact (((Ry.ext0 H.drew.ext).fld hy rfl (j:=0) rfl))) ?_;refine Ng U U U (BK ?_);rintro _ rfl;replace H:=H.drew;refine Aq _ U ?_ ?_
    ·intro h3;replace h3:=CE h3;refine Ad (Ai U U (Ab (Aa (A5 (A9 (Ao (Ao (A9 (Ao (AA (v:=(.bool _)) U U U ?_))))))))));have hne:¬ x=y:=h3;exact ⟨congrArg Value.bool (decide_eq_false fun h=>by subst h; rw [hx] at hy; injection hy with hy; exact hne hy).symm,H.ext⟩
    ·intro h3;replace h3:=CF h3;refine Av (A6 (Aa (A0 (Ay U U U (by omega) (by omega) ?_))));refine Af U U (Ab (Aa ?_));have heq:x=y:=by omega
     refine ⟨i+1,rfl,⟨rfl,trivial⟩,⟨by omega,H,fun k x' y' hk hx' hy'=>?_⟩,by omega⟩
     rcases Nat.lt_or_ge k i with h7 | h7
     ·exact hb k x' y' h7 hx' hy'
     ·obtain rfl:k=i:=by omega
      rw [hx] at hx'; rw [hy] at hy';cases hx'; cases hy';exact heq
   ·intro h2;replace h2:=AN h2;refine Bt (Am (Am (AK (Aa (Ad (Ai U U (Ab (Aa (A5 (AA (v:=(.bool _)) U U U ?_))))))))));obtain rfl:i=xs.length:=by omega
    exact ⟨congrArg Value.bool (decide_eq_true (Ll hle hb)).symm,H.ext⟩
theorem Wu (a b:Option Addr) (n c m d:Nat) (net:Bool) (w:World):Ret Tryz.prog 208 #[.slice a n c,.slice b m d,.bool net] w fun v w'=>∃ b1 b2 b3,v = .func (.func 240) #[] #[ptr b1,ptr b2,ptr b3]∧Ctx w [] w' [(b2,Bl 4 [.bool net]),(b1,Bl 27 [.slice b m d]),(b3,Bl 35 [.slice a n c])]:=by
 obtain ⟨w0,rfl⟩:∃ w0,w0=w:=⟨_,rfl⟩;have H:=Ctx.start w0 [];refine Au (fn:=Tryz.f208) Tryz.func208 U [.slice a n c,.slice b m d,.bool net] U (by kernel_rfl) ?_;refine Ad (Bu U _ (.slice _ _ _) U U H ?_);rintro b3 w - H;refine Bu U _ (.slice _ _ _) U U H ?_;rintro b4 w - H;refine Bu U _ (.bool _) U U H ?_;rintro b5 w - H;refine CK U .nilFunc U ?_;refine Ab (Aa (Ad (BZ U [.pointer _,.pointer _,.pointer _] U (CK U (.func _ _ _) U ?_))));refine Ab (Aa (A5 (AA (v:=(.func _ _ _)) U U U ?_)));exact ⟨_,_,_,rfl,H⟩
end Go.Proofs.YtdagmpmdcgedcaaGreat

/- Dues that are open, as the reference has them. -/
namespace Go.Proofs.YtdagmpmdcgedcaaGreat
open Go.GV
attribute [local irreducible] AB W Wq Wt

end Go.Proofs.YtdagmpmdcgedcaaGreat

/- What a round pays. -/
namespace Go.Proofs.YtdagmpmdcgedcaaGreat
open Go.GV
attribute [local irreducible] AB W Wq Wt

theorem YD (l:List Int):∀ v∈l.map Dq,Be v=true:=fun v hv=>by
 obtain ⟨x,_,rfl⟩:=List.mem_map.1 hv; rfl
theorem LP (a:Option Addr) (n c:Nat) (xs:List Int) (w:World) (R:Rd w a 1 I1 xs) (hn:xs.length=n) (hm:n≤1000000000) :
  Ret Tryz.prog 166 #[.slice a n c] w fun v w'=>Fresh w w' 2 1 v (xs.map Dq):=by
 subst hn;obtain ⟨w0,rfl⟩:∃ w0,w0=w:=⟨_,rfl⟩;have H:=Ctx.start w0 [];refine Au (fn:=Tryz.f166) Tryz.func166 U [.slice a xs.length c] U (by kernel_rfl) ?_;refine Ad (A1 U U (Ab (Aa (Aw (Ad (A4 U U (HX U AR U (Ab (Aa (Aq _ U ?_ ?_))))))))))
 ·intro h1;have ha:a=none:=by simpa using h1
  subst ha
  have hxs:xs=[]:=by
   cases xs with
   | nil=>rfl
   | cons x xs=>obtain ⟨b,o,h⟩:=R.some' (by simp); cases h
  subst hxs;refine Ad (A1 U U (Ab (Aa (A5 (Ao (AA (v:=(.slice _ _ _)) U U U ?_))))));exact Fresh.nil H _ _
 ·intro h1;refine Av (Aa (Ad (GM U AR Bx H ?_)));rintro b5 w H O;refine A4 U U (GL U AR AR Bx Kl Eb U (by decide) (xs.map Dq) U U H O (by simp) (YD xs) (Rd.app1 (f:=Dq) (R.ext0 H.ext)) (by omega) ?_);rintro a7 c7 full7 w H O;refine A1 U U (Ab (Aa (A5 (AA (v:=(.slice _ _ _)) U U U ?_))));exact H.fresh O
/-- How many are paid. -/
def Qr (k:Int) (n:Nat):Nat:=(max 0 (min k (n:Int))).toNat
theorem UV (N:Int) (a b:Option Addr) (n c m d:Nat) (k:Int) (fl:List Int) (w:World) (R:Rd w b 1 I1 fl) (hm:fl.length=m) (hd:m≤d) (hm2:m≤1000000) :
  Ret Tryz.prog 114 #[DG N a n c,.slice b m d,.int .i64 k] w fun v w'=>Fresh w w' 2 1 v ((fl.take (Qr k m)).map Dq):=by
 subst hm;obtain ⟨w0,rfl⟩:∃ w0,w0=w:=⟨_,rfl⟩;have H:=Ctx.start w0 [];have hk:Qr k fl.length≤fl.length:=by unfold Qr; omega
 refine Au (fn:=Tryz.f114) Tryz.func114 U [DG N a n c,.slice b fl.length d,.int .i64 k] U (by kernel_rfl) ?_;refine Ad (Bu U [.int .i64 N,.slice a n c] (.agg _) U U H ?_);rintro b3 w - H;refine A1 U U (Ab (Aa (Ad (A4 U U (Af U U (A4 U U (Bf U AR U (ZM U U U ?_))))))));refine KD U U U ?_;refine Jh U AR Bx U U (by omega) (by omega) ?_;refine Al U Tl (LP b (Qr k fl.length) d (fl.take (Qr k fl.length)) _ ((R.ext0 H.ext).take _) (by rw [List.length_take]; omega) (by omega)) U ?_;rintro v w F;obtain ⟨a9,n9,c9,f9,rfl,O9,hb9⟩:=F.ex;refine A1 U U (Ab (Aa (A5 (AA (v:=(.slice _ _ _)) U U U ?_))));exact ⟨⟨a9,n9,c9,f9,rfl,O9,fun x hx=>⟨(hb9 x hx).1,Nat.le_trans H.size (hb9 x hx).2⟩⟩,H.ext.trans F.ext⟩
end Go.Proofs.YtdagmpmdcgedcaaGreat

/- Dues and accounts, looked up. -/
namespace Go.Proofs.YtdagmpmdcgedcaaGreat
open Go.GV
attribute [local irreducible] AB W Wq Wt

section
variable {P:Program} {r:Option Nat} {ops rest:List Oper} {Q:Exit→Env→World→Prop} {e:Env} {w:World} {dst:Option Tmp} {ty:TypeId} {pos:String} {af:Array Edge} {g:Option (Nat × Bool)}
/-- A look into a map that is read alone. -/
theorem Qs {t k el:TypeId} {kk:IntKind} {x y:Operand} {b:Nat} {o:Obj} {m:List (Int × Value)} {n:Int} {z:Value} (hg:AP ⟨dst,.lookup t x y true,ty,pos,af,g⟩ ops e=true)
  (ht:KF P t=some (k,el)) (hk:P.underlying k=some (.int kk)) (hz:(P.info? el).bind (·.zero)=some z) (hx:ev e x = .map (some b)) (hy:ev e y = .int kk n) (hb:w.heap[b]? = some o) (hM:CL kk m o)
  (h:AB P r ops Q rest (put e dst (.tuple #[(DZ m n).getD z,.bool (DZ m n).isSome])) w):AB P r ops Q (⟨dst,.lookup t x y true,ty,pos,af,g⟩::rest) e w:=by
 have H:Ctx w [b] w [(b,o)]:=Ctx.start1 hb;exact Gp hg ht hk hz hx hy H at0 hM h
end
/-- The due of a number, and whether there is one. -/
def Lo (ds:List Du) (k:Int):Du:=(CD ds k).getD d00
set_option maxRecDepth 20000 in
set_option maxHeartbeats 2000000 in
theorem Qt {bd b:Nat} {nx k:Int} {o:Obj} {ds:List Du} (w:World) (hd:w.heap[bd]? = some (Bl 165 (DU b nx))) (hb:w.heap[b]? = some o) (hM:CL .u64 (dm ds) o) :
  Ret Tryz.prog 118 #[ptr bd,.int .u64 k] w fun v w'=>v = .tuple #[FN (Lo ds k),.bool (CD ds k).isSome]∧Ext [] w w':=by
 obtain ⟨w0,rfl⟩:∃ w0,w0=w:=⟨_,rfl⟩;have H:=Ctx.start w0 []
 have hmg:(DZ (dm ds) k).getD (FN d00)=FN (Lo ds k):=by
  rw [GQ];unfold Lo;cases CD ds k <;> rfl
 have hms:(DZ (dm ds) k).isSome=(CD ds k).isSome:=by
  rw [GQ];cases CD ds k <;> rfl
 refine Au (fn:=Tryz.f118) Tryz.func118 U [.pointer (some ⟨bd,0,none⟩),.int .u64 k] U (by kernel_rfl) ?_;refine Ad (AZ U Et H ?_);rintro b4 w - H;refine Ai U U (Ab (Aa (Aw (Ad (A3 U U (Cq U I9 U ?_))))));refine Ab (Aa (Aq _ U ?_ ?_))
 ·intro h0;cases h0
 ·intro h0;refine Av (Aa (Ad (A3 U U (A8 U U (Ah U DA U (Bd U EN U ((H.old0 (by rw [Aj hd]; rfl))) ?_))))));refine Af U U (Qs (z:=FN d00) U Fb EZ N5 U U (H.ext.to hb (by simp)) hM ?_);rw [hmg,hms];refine C0 U U (AO U U U (AO U U U (AZ U Et H ?_)));rintro b6 w - H;refine Bn U Cj U U U (by exact CY (Lo ds k)) H at0 U ?_;rintro w H;refine Ai U U (Ab (Aa (Ad (Ce U EW Cj U H at0 U (A7 U U (Bn U Cj U U U (by exact CY (Lo ds k)) H at1 U ?_))))));rintro w H;refine Ai U U (Ab (Aa (A5 (Hy U U U EW Cj H at1 U (show _=(.bool _) from rfl) ?_))));exact ⟨rfl,H.ext⟩
theorem Abc (w:World):Ret Tryz.prog 47 #[] w fun v w'=>∃ bd b o,v=ptr bd∧CL .u64 (dm []) o∧Ctx w [] w' [(bd,Bl 165 (DU b 1)),(b,o)]:=by
 obtain ⟨w0,rfl⟩:∃ w0,w0=w:=⟨_,rfl⟩;have H:=Ctx.start w0 [];refine Au (fn:=Tryz.f47) Tryz.func47 U [] U (by kernel_rfl) ?_;refine Ad (Co U U (Ab (Aa (Ad (Nj .u64 U H ?_)))));rintro b o w hM H;refine B7 (DU b 1) U XE XL (by kernel_rfl) ?_;refine Bu U (DU b 1) (.agg _) U U H ?_;rintro b3 w - H;refine Co U U (Ab (Aa (A5 (AA (v:=(.pointer _)) U U U ?_))));exact ⟨b3,b,o,rfl,hM,H⟩
end Go.Proofs.YtdagmpmdcgedcaaGreat

/- May a round be built, as the reference has it. -/
namespace Go.Proofs.YtdagmpmdcgedcaaGreat
open Go.GV
attribute [local irreducible] AB W Wq Wt

def dueB (n:Nat) (d:Du):Bool:=DT d && (decide (d.fr<n) && decide (d.to<n))
def r19B (rs:List Int) (ds:List Du):Bool:=(decide (rs.length≤16) && decide (ds.length≤64)) && (rs.all CQ && (ds.all (dueB rs.length) && decide ((E8 (ds.map Du.am)).2=0)))
theorem YE (ds:List Du):∀ i,(Ep i ds).map Du.am=ds.map Du.am:=by
 induction ds with
 | nil=>intro i; rfl
 | cons d ds ih=>intro i; show d.am::(Ep (i+1) ds).map Du.am=d.am::ds.map Du.am; rw [ih]
theorem YF (rs:List Int):decide ((E8 rs).2=1) = !rs.all CQ:=by
 unfold E8
 cases h:rs.all CQ with
 | false=>rw [if_pos rfl]; rfl
 | true =>
  rw [if_neg (by decide)]
  split <;> rfl
theorem Agz (rs:List Int) (ds:List Du) (hl:ds.length≤1000000):r19B rs ds=Dr rs ds:=by
 have h1:decide (ofC (Ep 0 ds) (ds.length+1)=0)=(decide (ds.length≤64) && (ds.all DT && decide ((E8 (ds.map Du.am)).2=0))):=by
  have ha:=Wp (ds:=ds) 0;rw [show (((0:Nat):Int)+ds.length+1)=(ds.length:Int)+1 by omega] at ha;have ham:(Ep 0 ds).map (·.am)=ds.map Du.am:=YE ds 0;unfold ofC;rw [Pf,ham,show Fk ((ds.length:Int)+1) 0 (Ep 0 ds)=ds.all DT from ha]
  by_cases h64:64<ds.length
  ·rw [if_pos h64,decide_eq_false (show ¬ ds.length≤64 by omega)]; rfl
  ·rw [if_neg h64,decide_eq_true (show ds.length≤64 by omega),Bool.true_and,if_neg (by rw [decide_eq_true (show 1≤(ds.length:Int)+1 by omega),decide_eq_true (show (ds.length:Int)+1≤4611686018427387904 by omega)]; decide)]
   cases hm:ds.all DT with
   | false=>rw [if_pos rfl]; rfl
   | true=>rw [if_neg (by decide),Bool.true_and]
 have h2:ds.all (dueB rs.length)=(ds.all (fun d=>decide (max d.fr d.to<rs.length)) && ds.all DT):=by
  rw [Bool.eq_iff_iff];simp only [Bool.and_eq_true,List.all_eq_true,decide_eq_true_eq,dueB];constructor
  ·intro h;exact ⟨fun d hd=>by have:=h d hd; omega,fun d hd=>(h d hd).1⟩
  ·intro h d hd;have:=h.1 d hd;exact ⟨h.2 d hd,by omega,by omega⟩
 unfold r19B Dr;rw [h1,h2,YF];cases decide (rs.length≤16) <;> cases decide (ds.length≤64) <;> cases rs.all CQ <;> cases ds.all (fun d=>decide (max d.fr d.to<rs.length)) <;> cases ds.all DT <;> rfl
end Go.Proofs.YtdagmpmdcgedcaaGreat

/- Accounts, looked up. -/
namespace Go.Proofs.YtdagmpmdcgedcaaGreat
open Go.GV
attribute [local irreducible] AB W Wq Wt

def inA (acs:List Ac) (k:Int):Bool:=decide (0≤k) && decide (k<acs.length)
def Dg (acs:List Ac) (k:Int):Ac:=if inA acs k=true then acs.getD k.toNat a00 else a00
set_option maxRecDepth 20000 in
set_option maxHeartbeats 2000000 in
theorem MO {bd:Nat} (a:Option Addr) (n c:Nat) (acs:List Ac) (k:Int) (w:World) (hd:w.heap[bd]? = some (Bl 162 [.slice a n c])) (R:Rd w a 2 CP acs) (hn:acs.length=n) (hm:n≤1000000) :
  Ret Tryz.prog 117 #[ptr bd,.int .i64 k] w fun v w'=>v = .tuple #[.agg (CP (Dg acs k)).toArray,.bool (inA acs k)]∧Ext [] w w':=by
 subst hn;obtain ⟨w0,rfl⟩:∃ w0,w0=w:=⟨_,rfl⟩;have H:=Ctx.start w0 [];refine Au (fn:=Tryz.f117) Tryz.func117 U [.pointer (some ⟨bd,0,none⟩),.int .i64 k] U (by kernel_rfl) ?_;refine Ad (AZ U IX H ?_);rintro b4 w - H;refine Ai U U (Ab (Aa (Aw (Ad (Cw (α:=Unit) 2097088 (fun _=>[(20,.bool (!inA acs k))]) (fun _ w'=>Ctx w0 [] w' [(b4,Bl 43 (CP a00))]) U ?_ ?_)))))
 ·refine A3 U U (Cq U Mg U ?_);refine A7 U U (AV 8 U ?_ ?_)
  ·intro h1;refine Ag U (Ag U (AG U U (.bool _) U (A7 U U (Ag U (Ag U (Ag U (Ag U (Ag U (Ag U ?_)))))))));refine Ag U (AG U U (.bool _) U (Ab ?_));exact ⟨rfl,(),rfl,⟨congrArg Value.bool (by unfold inA; rw [Bool.eq_iff_iff]; simp_all; try omega),trivial⟩,H⟩
  ·intro h2;refine Af U U (Bj U U U (AJ U U (.bool _) U (A7 U U (AV 12 U ?_ ?_))))
   ·intro h3;replace h3:=AM h3;refine Ag U (Ag U (Ag U (Ag U (Ag U (Ag U (Ag U (AG U U (.bool _) U (Ab ?_))))))));exact ⟨rfl,(),rfl,⟨congrArg Value.bool (by unfold inA; rw [Bool.eq_iff_iff]; simp_all; try omega),trivial⟩,H⟩
   ·intro h4;replace h4:=AN h4;refine Af U U (A3 U U (A8 U U (Ah U Ej U (Bd U Hz U ((H.old0 (by rw [Aj hd]; rfl))) ?_))));refine Bf U Es U (C3 U U U (AJ U U (.bool _) U (Ab ?_)));exact ⟨rfl,(),rfl,⟨congrArg Value.bool (by unfold inA; rw [Bool.eq_iff_iff]; simp_all; try omega),trivial⟩,H⟩
 rintro - j20 w H;refine Aq _ U ?_ ?_
 ·intro h1;replace h1:=BD h1;refine Ad (B7 [.int .i64 0,.int .i64 0] U Acj IX (by kernel_rfl) ?_);refine Bn U Ek U U U (by simp [Be]) H at0 U ?_;rintro w H;refine Ai U U (Ab (Aa (A5 (Ao (Hy U U U Nv Ek H at0 U (show _=(.bool _) from rfl) ?_)))));have h1':inA acs k=false:=by simpa using h1
  exact ⟨by unfold Dg; rw [h1',if_neg (by decide)]; rfl,H.ext⟩
 ·intro h1;replace h1:=BE h1;have h1':inA acs k=true:=by simpa using h1
  have h2:0≤k∧k<acs.length:=by unfold inA at h1'; simpa using h1'
  obtain ⟨i,rfl⟩:∃ i:Nat,k=(i:Int):=⟨k.toNat,by omega⟩;obtain ⟨x,hx⟩:=AD (l:=acs) (i:=i) (by omega);refine Av (Aa (Ad (A3 U U (A8 U U (Ah U Ej U (Bd U Hz U ((H.old0 (by rw [Aj hd]; rfl))) ?_))))));refine Af U U (Bo R U Es Ek U U (by omega) (by omega) (by rfl) ?_);refine Cn _ U Nv Ek U U ((R.ext0 H.ext).row hx U) ?_;refine Bn U Ek U U U (by exact Im _) H at0 U ?_;rintro w H;refine Ai U U (Ab (Aa (A5 (Hy U U U Nv Ek H at0 U (show _=(.bool _) from rfl) ?_))));exact ⟨by unfold Dg; rw [h1',if_pos rfl,show ((i:Int)).toNat=i from rfl,Bm hx],H.ext⟩
end Go.Proofs.YtdagmpmdcgedcaaGreat

/- The dues: Add, where nothing stands against it. -/
namespace Go.Proofs.YtdagmpmdcgedcaaGreat
open Go.GV
attribute [local irreducible] AB W Wq Wt

section
variable {P:Program} {r:Option Nat} {ops rest:List Oper} {Q:Exit→Env→World→Prop} {e:Env} {w:World} {dst:Option Tmp} {ty:TypeId} {pos:String} {af:Array Edge} {g:Option (Nat × Bool)}
theorem Abd {t k el:TypeId} {kk:IntKind} {x:Operand} {b:Nat} {o:Obj} {m:List (Int × Value)} (hg:AP ⟨dst,.call ⟨.builtin .len,#[x],#[t]⟩,ty,pos,af,g⟩ ops e=true) (ht:KF P t=some (k,el)) (hx:ev e x = .map (some b)) (hb:w.heap[b]? = some o) (hM:CL kk m o)
  (h:AB P r ops Q rest (put e dst (.int .i64 (m.length:Int))) w):AB P r ops Q (⟨dst,.call ⟨.builtin .len,#[x],#[t]⟩,ty,pos,af,g⟩::rest) e w:=by
 obtain ⟨es,clock,rfl,hes,_⟩:=hM
 have hl:es.size=m.length:=by
  have:=congrArg List.length hes
  simpa using this
 have hgo:(getObj b).run P w = .ok (.map es clock) w:=by simp [getObj,Sem.run,hb]
 exact BC hg U (by simp [execOp,resolve,invoke,builtin,hx,Builtin.len_,AY (GU ht),hgo,goInt,hl]) h
end
theorem YG {ds:List Du} {d:Du} (h:DZ (dm ds) d.id=none):KE (dm ds) d.id (FN d)=dm (ds++[d]):=by
 rw [← Y2];generalize dm ds=m at h
 induction m with
 | nil=>rfl
 | cons p m ih =>
  have hp:¬ p.1=d.id:=by
   intro hp;simp [DZ,hp] at h
  have hb2:(p.1 == d.id)=false:=by simpa using hp
  have hm2:DZ m d.id=none:=by rw [← h]; simp [DZ,hb2]
  simp [KE,hp,ih hm2]
end Go.Proofs.YtdagmpmdcgedcaaGreat

/- Nets, as the reference has them. -/
namespace Go.Proofs.YtdagmpmdcgedcaaGreat
open Go.GV
attribute [local irreducible] AB W Wq Wt

def nodeR (N k:Int):Bool:=decide (0≤k) && decide (k<N)
end Go.Proofs.YtdagmpmdcgedcaaGreat

/- What is left when open dues are paid, one by one: plain law. -/
namespace Go.Proofs.YtdagmpmdcgedcaaGreat
open Go.GV

theorem Dd {xs:List Int}:(E8 xs).2=0↔(∀ x∈xs,CQ x=true)∧Cm xs≤4503599627370496:=by
 unfold E8
 cases h:xs.all CQ with
 | false =>
  rw [if_pos rfl];refine ⟨fun h=>by simp at h,fun h2=>?_⟩;rw [List.all_eq_true.2 h2.1] at h; cases h
 | true =>
  rw [if_neg (by decide)];rw [List.all_eq_true] at h
  split
  ·rename_i h3; exact ⟨fun _=>⟨h,h3⟩,fun _=>rfl⟩
  ·rename_i h3; exact ⟨fun h=>by simp at h,fun h4=>absurd h4.2 h3⟩
theorem EU {ds:List Du} {nx:Int}:ofC ds nx=0↔ds.length≤64∧(1≤nx∧nx≤4611686018427387904)∧Fk nx 0 ds=true∧(E8 (ds.map (·.am))).2=0:=by
 unfold ofC
 by_cases h1:64<ds.length
 ·rw [if_pos h1]; exact ⟨fun h=>by simp at h,fun h=>absurd h.1 (by omega)⟩
 rw [if_neg h1]
 by_cases h2:1≤nx∧nx≤4611686018427387904
 ·rw [decide_eq_true h2.1,decide_eq_true h2.2,if_neg (by decide)]
  cases h3:Fk nx 0 ds with
  | false=>rw [if_pos rfl]; exact ⟨fun h=>by simp at h,fun h=>by cases h.2.2.1⟩
  | true=>rw [if_neg (by decide)]; exact ⟨fun h=>⟨by omega,h2,rfl,h⟩,fun h=>h.2.2.2⟩
 ·have:(decide (1≤nx) && decide (nx≤4611686018427387904))=false:=by
   rw [Bool.eq_false_iff]; intro h; simp only [Bool.and_eq_true,decide_eq_true_eq] at h; exact h2 h
  rw [if_pos this];exact ⟨fun h=>by simp at h,fun h=>absurd h.2.1 h2⟩
theorem Abe {nx a b:Int} {ds:List Du} (h:Fk nx b ds=true) (hab:a≤b):Fk nx a ds=true:=by
 cases ds with
 | nil=>rfl
 | cons d ds =>
  simp only [Fk,Bool.and_eq_true,decide_eq_true_eq] at h ⊢;exact ⟨⟨h.1.1,by omega,h.1.2.2⟩,h.2⟩
/-- What is left when the open ones are paid. -/
def DS:List Du→List Int→List Du
 | [],_=>[]
 | d::ds,[]=>d::ds
 | d::ds,x::xs=>if d.held=true then d::DS ds (x::xs) else if d.am=x then DS ds xs else { d with am:=d.am - x }::DS ds xs
theorem Pg (ds:List Du):DS ds []=ds:=by cases ds <;> rfl
theorem Hj {d:Du} (h:d.held=true) (ds:List Du) (xs:List Int):DS (d::ds) xs=d::DS ds xs:=by
 cases xs with
 | nil=>rw [Pg,Pg]
 | cons x xs=>show (if d.held=true then _ else _)=_; rw [if_pos h]
theorem Hk {d:Du} (h:¬ d.held=true) (ds:List Du) (x:Int) (xs:List Int):DS (d::ds) (x::xs)=(if d.am=x then [] else [{ d with am:=d.am - x }])++DS ds xs:=by
 show (if d.held=true then _ else _)=_;rw [if_neg h]
 split <;> rfl
theorem Hl (d:Du) (ds:List Du):opn (d::ds)=(if d.held=true then [] else [d])++opn ds:=by
 unfold opn;rw [List.filter_cons];cases d.held <;> rfl
/-- What is paid may be. -/
def PayIn (os:List Du) (xs:List Int):Prop:=os.length=xs.length∧∀ (i:Nat) (d:Du) (x:Int),os[i]? = some d→xs[i]? = some x→0≤x∧x≤d.am
theorem PayIn.tail {d:Du} {x:Int} {os:List Du} {xs:List Int} (h:PayIn (d::os) (x::xs)):(0≤x∧x≤d.am)∧PayIn os xs :=
 ⟨h.2 0 d x rfl rfl,by have:=h.1; simp only [List.length_cons] at this; omega,fun i e y he hy=>h.2 (i+1) e y he hy⟩
theorem PayIn.cons {d:Du} {os:List Du} {xs:List Int} (h:PayIn (d::os) xs):∃ x xs',xs=x::xs':=by
 cases xs with
 | nil=>have:=h.1; simp at this
 | cons x xs=>exact ⟨x,xs,rfl⟩
/-- Through the dues, one by one: what is held stays, what is open is paid. -/
theorem Io {motive:List Du→List Int→Prop} (h0:∀ xs,motive [] xs) (h1:∀ d ds xs,d.held=true→motive ds xs→motive (d::ds) xs) (h2:∀ d ds x xs,¬ d.held=true→0≤x→x≤d.am→motive ds xs→motive (d::ds) (x::xs)):∀ (ds:List Du) (xs:List Int),PayIn (opn ds) xs→motive ds xs
 | [],xs,_=>h0 xs
 | d::ds,xs,h=>by
  rw [Hl] at h
  by_cases hd:d.held=true
  ·rw [if_pos hd] at h;exact h1 d ds xs hd (Io h0 h1 h2 ds xs h)
  ·rw [if_neg hd] at h;obtain ⟨x,xs,rfl⟩:=PayIn.cons h;obtain ⟨ha,hb⟩:=PayIn.tail h;exact h2 d ds x xs hd ha.1 ha.2 (Io h0 h1 h2 ds xs hb)
theorem YH {nx:Int} {ds:List Du} {xs:List Int} (h:PayIn (opn ds) xs):∀ ah,Fk nx ah ds=true→Fk nx ah (DS ds xs)=true:=by
 refine Io (motive:=fun ds xs=>∀ ah,Fk nx ah ds=true→Fk nx ah (DS ds xs)=true) ?_ ?_ ?_ ds xs h
 ·intro xs ah h; exact h
 ·intro d ds xs hd ih ah h;rw [Hj hd];simp only [Fk,Bool.and_eq_true,decide_eq_true_eq] at h ⊢;exact ⟨h.1,ih _ h.2⟩
 ·intro d ds x xs hd h0 h1 ih ah h;rw [Hk hd];simp only [Fk,Bool.and_eq_true,decide_eq_true_eq] at h
  by_cases he:d.am=x
  ·rw [if_pos he];exact Abe (ih _ h.2) (by omega)
  ·rw [if_neg he];show Fk nx ah ({ d with am:=d.am - x }::DS ds xs)=true;simp only [Fk,Bool.and_eq_true,decide_eq_true_eq];refine ⟨⟨?_,h.1.2⟩,ih _ h.2⟩;have hm:=h.1.1;unfold DT CQ at hm ⊢;simp only [Bool.and_eq_true,decide_eq_true_eq,Bool.not_eq_true',decide_eq_false_iff_not] at hm ⊢;exact ⟨hm.1,by omega,by omega,hm.2.2.2⟩
theorem YI {ds:List Du} {xs:List Int} (h:PayIn (opn ds) xs):(DS ds xs).length≤ds.length:=by
 refine Io (motive:=fun ds xs=>(DS ds xs).length≤ds.length) ?_ ?_ ?_ ds xs h
 ·intro xs; exact Nat.le_refl _
 ·intro d ds xs hd ih; rw [Hj hd]; simpa using ih
 ·intro d ds x xs hd _ _ ih;rw [Hk hd,List.length_append,List.length_cons]
  split <;> simp <;> omega
/-- A sum over dues, each by what it weighs: less what was paid. -/
theorem YJ (c:Du→Int) (hc:∀ d z,c { d with am:=z }=c d) {ds:List Du} {xs:List Int} (h:PayIn (opn ds) xs):Cm ((DS ds xs).map fun d=>c d*d.am)=Cm (ds.map fun d=>c d*d.am) - Cm (List.zipWith (fun d x=>c d*x) (opn ds) xs):=by
 refine Io (motive:=fun ds xs=>Cm ((DS ds xs).map fun d=>c d*d.am)=Cm (ds.map fun d=>c d*d.am) - Cm (List.zipWith (fun d x=>c d*x) (opn ds) xs)) ?_ ?_ ?_ ds xs h
 ·intro xs; rfl
 ·intro d ds xs hd ih;rw [Hj hd,Hl,if_pos hd,List.map_cons,List.map_cons,BV,BV,ih,List.nil_append]; omega
 ·intro d ds x xs hd _ _ ih;rw [Hk hd,Hl,if_neg hd,List.cons_append,List.nil_append,List.map_append,EP,ih,List.map_cons,BV];show _=_ - Cm ((c d*x)::List.zipWith _ _ _);rw [BV]
  by_cases he:d.am=x
  ·rw [if_pos he,he];show Cm []+_=_;have:Cm []=0:=rfl;rw [this]; omega
  ·rw [if_neg he];show Cm [c { d with am:=d.am - x }*(d.am - x)]+_=_;have h1:∀ z:Int,Cm [z]=z:=fun z=>by rw [BV]; show z+0=z; omega
   rw [h1,hc,Int.mul_sub]; omega
theorem Abf {nx:Int} {ds:List Du} {xs:List Int} (h:PayIn (opn ds) xs) (ho:ofC ds nx=0):ofC (DS ds xs) nx=0:=by
 obtain ⟨h1,h2,h3,h4⟩:=EU.1 ho;have h5:=YH h 0 h3;have h6:=YI h;have h7:=YJ (fun _=>1) (fun _ _=>rfl) h;simp only [Int.one_mul] at h7;obtain ⟨ha,hb⟩:=Dd.1 h4;refine EU.2 ⟨by omega,h2,h5,Dd.2 ⟨fun x hx=>?_,?_⟩⟩
 ·obtain ⟨d,hd,rfl⟩:=List.mem_map.1 hx;have:=((J2 h5).1 d hd).2.2.2;unfold DT at this;simp only [Bool.and_eq_true] at this;exact this.2.2.1
 ·have h8:0≤Cm (List.zipWith (fun _ x=>x) (opn ds) xs):=Gz fun x hx=>by
   obtain ⟨i,hi⟩:=List.mem_iff_getElem?.1 hx;rw [List.getElem?_zipWith] at hi
   cases h9:(opn ds)[i]? with
   | none=>rw [h9] at hi; cases hi
   | some d =>
    cases h10:xs[i]? with
    | none=>rw [h9,h10] at hi; cases hi
    | some y =>
     rw [h9,h10] at hi
     injection hi with hi
     have:=(h.2 i d y h9 h10).1;omega
  show Cm ((DS ds xs).map fun d=>d.am)≤_;rw [h7];show Cm (ds.map fun d=>d.am) - _≤_;have hb':Cm (ds.map fun d=>d.am)≤4503599627370496:=hb;omega
/-- Pays, one by one, each right. -/
def Kc (ds:List Du):List (Du × Int)→Prop
 | []=>True
 | p::ps=>(CD ds p.1.id=some p.1∧p.1.held=false∧0≤p.2∧p.2≤p.1.am)∧Kc (GI ds p.1.id p.2) ps
def J4 (ds:List Du):List (Du × Int)→List Du
 | []=>ds
 | p::ps=>J4 (GI ds p.1.id p.2) ps
theorem RW (ps qs:List (Du × Int)):∀ ds,J4 ds (ps++qs)=J4 (J4 ds ps) qs:=by
 induction ps with
 | nil=>intro ds; rfl
 | cons p ps ih=>intro ds; exact ih _
theorem Qu {ps qs:List (Du × Int)}:∀ {ds},Kc ds (ps++qs)→Kc ds ps∧Kc (J4 ds ps) qs:=by
 induction ps with
 | nil=>intro ds h; exact ⟨trivial,h⟩
 | cons p ps ih=>intro ds h; exact ⟨⟨h.1,(ih h.2).1⟩,(ih h.2).2⟩
/-- A step. -/
theorem RY {ds:List Du} {ps:List (Du × Int)} (h:Kc ds ps) {i:Nat} {p:Du × Int} (hp:ps[i]? = some p):(CD (J4 ds (ps.take i)) p.1.id=some p.1∧p.1.held=false∧0≤p.2∧p.2≤p.1.am)∧J4 ds (ps.take (i+1))=GI (J4 ds (ps.take i)) p.1.id p.2:=by
 have hs:ps=ps.take i++ps.drop i:=(List.take_append_drop i ps).symm
 have hd:ps.drop i=p::ps.drop (i+1):=by
  have hl:=Cu hp;rw [List.drop_eq_getElem_cons hl];rw [List.getElem?_eq_getElem hl] at hp
  injection hp with hp
  rw [hp]
 rw [hs,hd] at h;refine ⟨(Qu h).2.1,?_⟩;rw [List.take_add_one,hp];exact RW _ [p] ds
theorem Wv {ds:List Du} {p:Du × Int} (h:CD ds p.1.id=some p.1∧p.1.held=false∧0≤p.2∧p.2≤p.1.am):M4 ds p.1.id p.2=0∧RS ds p.1.id p.2=GI ds p.1.id p.2:=by
 have h1:M4 ds p.1.id p.2=0:=by
  unfold M4 pC;rw [h.1];show (if p.2<0 then (1:Int) else if p.1.held=true then 14 else if p.1.am<p.2 then 12 else 0)=0;rw [if_neg (by omega),h.2.1,if_neg (by decide),if_neg (by omega)]
 exact ⟨h1,by unfold RS; rw [if_pos h1]⟩
theorem YK {P ds:List Du} {k x:Int} (h:∀ d∈P,d.id≠k):GI (P++ds) k x=P++GI ds k x:=by
 induction P with
 | nil=>rfl
 | cons y P ih =>
  show (if y.id=k then _ else y::GI (P++ds) k x)=_;rw [if_neg (h y (List.mem_cons_self ..)),ih fun d hd=>h d (List.mem_cons_of_mem _ hd)]; rfl
theorem Ww {P ds:List Du} {k:Int} (h:∀ d∈P,d.id≠k):CD (P++ds) k=CD ds k:=by
 unfold CD;rw [List.find?_append,List.find?_eq_none.2 fun d hd=>by simpa using h d hd]; rfl
theorem Abg {ds:List Du} {xs:List Int} (h:PayIn (opn ds) xs):∀ P:List Du,((P++ds).map (·.id)).Nodup→Kc (P++ds) ((opn ds).zip xs)∧J4 (P++ds) ((opn ds).zip xs)=P++DS ds xs:=by
 refine Io (motive:=fun ds xs=>∀ P:List Du,((P++ds).map (·.id)).Nodup→Kc (P++ds) ((opn ds).zip xs)∧J4 (P++ds) ((opn ds).zip xs)=P++DS ds xs) ?_ ?_ ?_ ds xs h
 ·intro xs P _; exact ⟨trivial,rfl⟩
 ·intro d ds xs hd ih P hn;rw [Hl,if_pos hd,Hj hd,List.nil_append];have:=ih (P++[d]) (by rw [List.append_assoc]; exact hn);rw [List.append_assoc,List.append_assoc] at this;exact this
 ·intro d ds x xs hd h0 h1 ih P hn
  have hP:∀ e∈P,e.id≠d.id:=fun e he h=>by
   rw [List.map_append,List.nodup_append] at hn;exact hn.2.2 e.id (List.mem_map_of_mem (f:=fun d:Du=>d.id) he) d.id (List.mem_map_of_mem (f:=fun d:Du=>d.id) (List.mem_cons_self ..)) h
  have hpl:GI (P++d::ds) d.id x=P++((if d.am=x then [] else [{ d with am:=d.am - x }])++ds):=by
   rw [YK hP]
   congr 1
   show (if d.id=d.id then _ else _)=_;rw [if_pos rfl]
   split <;> rfl
  rw [Hl,if_neg hd,Hk hd];show ((CD (P++d::ds) d.id=some d∧d.held=false∧0≤x∧x≤d.am)∧Kc (GI (P++d::ds) d.id x) ((opn ds).zip xs))∧J4 (GI (P++d::ds) d.id x) ((opn ds).zip xs)=_;rw [hpl,← List.append_assoc]
  have hn2:((P++(if d.am=x then ([]:List Du) else [{ d with am:=d.am - x }])++ds).map fun d:Du=>d.id).Nodup:=by
   split
   ·rw [List.append_nil];refine List.Nodup.sublist ?_ hn;exact List.Sublist.map _ (List.Sublist.append (List.Sublist.refl _) (List.sublist_cons_self _ _))
   ·rw [List.append_assoc,List.map_append] at *;exact hn
  obtain ⟨i1,i2⟩:=ih _ hn2;refine ⟨⟨⟨?_,by simpa using hd,h0,h1⟩,i1⟩,by rw [i2,List.append_assoc]⟩;rw [Ww hP];unfold CD;rw [List.find?_cons,show (d.id == d.id)=true by simp]
theorem YL {l:List Int} (h:l.Pairwise (·<·)):l.Nodup:=h.imp fun h=>by omega
theorem Lp {nx:Int} {ds:List Du} (h:ofC ds nx=0):(ds.map (·.id)).Nodup:=YL (J2 (EU.1 h).2.2.1).2.1
theorem YM {nx:Int} {ds:List Du} (h:ofC ds nx=0) {d:Du} (hd:d∈ds):0<d.id∧d.id<nx∧DT d=true:=by
 have:=(J2 (EU.1 h).2.2.1).1 d hd;exact ⟨this.1,this.2.2⟩
theorem D7 {d:Du} (h:DT d=true):(0≤d.fr∧d.fr<16)∧(0≤d.to∧d.to<16)∧d.fr≠d.to∧(1≤d.am∧d.am≤4503599627370496)∧(1≤d.we∧d.we≤1000)∧0≤d.un:=by
 unfold DT CQ Pa at h;simp only [Bool.and_eq_true,decide_eq_true_eq,Bool.not_eq_true',decide_eq_false_iff_not] at h;exact ⟨h.1.1,h.1.2.1,h.1.2.2,⟨h.2.1,h.2.2.1.2⟩,⟨h.2.2.2.1,h.2.2.2.2.1⟩,h.2.2.2.2.2⟩
/-- Amounts stay small. -/
def TS (ds:List Du):Prop:=∀ d∈ds,0≤d.am∧d.am≤4503599627370496
theorem of_am {nx:Int} {ds:List Du} (h:ofC ds nx=0):TS ds:=fun d hd=>by
 have:=(D7 (YM h hd).2.2).2.2.2.1;omega
theorem Abh {ds:List Du} {k x:Int} {e:Du} (h:TS ds) (hf:CD ds k=some e) (h0:0≤x) (h1:x≤e.am):TS (GI ds k x)∧(GI ds k x).length≤ds.length:=by
 induction ds with
 | nil=>cases hf
 | cons d ds ih =>
  unfold CD at hf;rw [List.find?_cons] at hf;have hd:=h d (List.mem_cons_self ..);unfold GI
  by_cases hk:d.id=k
  ·rw [show (d.id == k)=true by simpa using hk] at hf
   injection hf with hf
   subst hf;rw [if_pos hk]
   split
   ·exact ⟨fun e he=>h e (List.mem_cons_of_mem _ he),by simp⟩
   ·refine ⟨fun e he=>?_,by simp⟩
    rcases List.mem_cons.1 he with rfl | he
    ·exact ⟨by show 0≤d.am - x; omega,by show d.am - x≤_; omega⟩
    ·exact h e (List.mem_cons_of_mem _ he)
  ·rw [show (d.id == k)=false by simpa using hk] at hf;obtain ⟨i1,i2⟩:=ih (fun e he=>h e (List.mem_cons_of_mem _ he)) hf;rw [if_neg hk];refine ⟨fun e he=>?_,by simpa using i2⟩
   rcases List.mem_cons.1 he with rfl | he
   ·exact hd
   ·exact i1 e he
theorem UW {ds:List Du} {ps:List (Du × Int)} (h:TS ds) (hp:Kc ds ps):∀ i,TS (J4 ds (ps.take i))∧(J4 ds (ps.take i)).length≤ds.length
 | 0=>⟨h,Nat.le_refl _⟩
 | i+1=>by
  obtain ⟨i1,i2⟩:=UW h hp i
  cases hi:ps[i]? with
  | none=>rw [List.take_add_one,hi]; show TS (J4 ds (ps.take i++[]))∧(J4 ds (ps.take i++[])).length≤_; rw [List.append_nil]; exact ⟨i1,i2⟩
  | some p =>
   obtain ⟨h1,h2⟩:=RY hp hi;rw [h2];obtain ⟨h3,h4⟩:=Abh i1 h1.1 h1.2.2.1 h1.2.2.2;exact ⟨h3,Nat.le_trans h4 i2⟩
end Go.Proofs.YtdagmpmdcgedcaaGreat

/- What flows in a round, and what that shifts: plain law. -/
namespace Go.Proofs.YtdagmpmdcgedcaaGreat
open Go.GV

theorem GJ (rs:List Int) (os:List Du) (net:Bool):(BA rs os net).length=os.length+if net=true then 0 else 2*rs.length:=by
 unfold BA;rw [List.length_append,List.length_map]
 split
 ·rfl
 ·rw [UU]
theorem IL {rs:List Int} {os:List Du} {net:Bool} {i:Nat} {d:Du} (h:os[i]? = some d):(BA rs os net)[i]? = some (Ku d):=by
 unfold BA;have hl:=Cu h;rw [List.getElem?_append_left (by rw [List.length_map]; exact hl),List.getElem?_map,h]; rfl
theorem JN {rs:List Int} {os:List Du} {j:Nat} {e:Ed} (h:(LO rs)[j]? = some e):(BA rs os false)[os.length+j]? = some e:=by
 unfold BA;rw [List.getElem?_append_right (by rw [List.length_map]; omega),List.length_map,show os.length+j - os.length=j by omega,if_neg (by decide),h]
/-- What dues may be in a round of n banks. -/
def UX (n:Nat) (d:Du):Prop:=DT d=true∧d.fr<n∧d.to<n
theorem Ph {n:Nat}:∀ {os:List Du},(∀ d∈os,UX n d)→((((os.map Ku).map G7).sum:Nat):Int)≤1000*Cm (os.map Du.am)
 | [],_=>by show (0:Int)≤1000*0; omega
 | d::os,h=>by
  have ih:=Ph (os:=os) fun e he=>h e (List.mem_cons_of_mem _ he);have hm:=D7 (h d (List.mem_cons_self ..)).1;rw [List.map_cons,List.map_cons,List.sum_cons,List.map_cons,BV];have h1:G7 (Ku d)≤d.am.toNat*1000:=Nat.mul_le_mul_left _ (by show (-d.we).natAbs≤1000; omega);have h2:((d.am.toNat:Nat):Int)=d.am:=Int.toNat_of_nonneg (by omega);have h3:((G7 (Ku d):Nat):Int)≤d.am*1000:=by omega
  rw [Int.natCast_add,Int.mul_add]; omega
theorem Wx {rs:List Int} {os:List Du} {net:Bool} (hn:rs.length≤16) (hm:os.length≤64) (hrs:∀ x∈rs,CQ x=true) (hos:∀ d∈os,UX rs.length d) (hsum:Cm (os.map Du.am)≤4503599627370496):Cp ((rs.length+1:Nat):Int) (BA rs os net)=true:=by
 have hl:=GJ rs os net;have hE:(BA rs os net).length≤200:=by rw [hl]; split <;> omega
 have hall:(BA rs os net).all (F1 ((rs.length+1:Nat):Int))=true:=by
  rw [List.all_eq_true];intro e he;unfold BA at he
  rcases List.mem_append.1 he with he | he
  ·obtain ⟨d,hd,rfl⟩:=List.mem_map.1 he;obtain ⟨h1,h2,h3⟩:=hos d hd;have:=D7 h1;unfold F1 Lf Ku;simp only [Bool.and_eq_true,decide_eq_true_eq];omega
  ·split at he
   ·cases he
   ·unfold LO at he;obtain ⟨j,hj,rfl⟩:=List.mem_map.1 he;rw [List.mem_range] at hj;obtain ⟨r,hr⟩:=AD (l:=rs) (i:=j / 2) (by omega);have hr2:=C9.1 (hrs r (List.mem_of_getElem? hr));unfold F1 Lf;rw [Bm hr]
    split
    ·simp only [Bool.and_eq_true,decide_eq_true_eq]; omega
    ·simp only [Bool.and_eq_true,decide_eq_true_eq]; omega
 have hp:F2 (BA rs os net)≤4611686018427387904:=by
  unfold F2 BA;rw [List.map_append,List.sum_append];have h1:=Ph hos
  have h2:((if net=true then [] else LO rs).map G7).sum=0:=by
   split
   ·rfl
   ·unfold LO;rw [List.map_map]
    have:∀ l:List Nat,(l.map (G7 ∘ fun j=>if j % 2=0 then (⟨rs.length,(j / 2:Nat),rs.getD (j / 2) 0,0⟩:Ed) else ⟨(j / 2:Nat),rs.length,4503599627370496,0⟩)).sum=0:=by
     intro l
     induction l with
     | nil=>rfl
     | cons j l ih =>
      rw [List.map_cons,List.sum_cons,ih];show G7 (if j % 2=0 then _ else _)+0=0
      split <;> rfl
    exact this _
  rw [h2]; omega
 unfold Cp;rw [hall,decide_eq_true hE,decide_eq_true hp,decide_eq_true (show (1:Int)≤((rs.length+1:Nat):Int) by omega),decide_eq_true (show ((rs.length+1:Nat):Int)≤40 by omega)]; rfl
theorem NR {g:Gr} {x:Nat→Int} {n m:Nat} (hE:∀ k,k<n→(g.f (m+2*k)=n∧g.t (m+2*k)=k)∧g.f (m+2*k+1)=k∧g.t (m+2*k+1)=n) {v:Nat} (hv:v<n):∀ j,j≤n→DQ g x (m+2*j) v=DQ g x m v+if v<j then x (m+2*v) - x (m+2*v+1) else 0
 | 0,_=>by rw [if_neg (by omega)]; simp
 | j+1,hj=>by
  obtain ⟨⟨h1,h2⟩,h3,h4⟩:=hE j (by omega);rw [show m+2*(j+1)=m+2*j+1+1 by omega,FY,FY,h1,h2,h3,h4,NR hE hv j (by omega),Fj (show ¬ n=v by omega)]
  by_cases e:j=v
  ·subst e;rw [FM rfl,if_neg (by omega),if_pos (by omega)]; omega
  ·rw [Fj e]
   by_cases h:v<j
   ·rw [if_pos h,if_pos (by omega)]; omega
   ·rw [if_neg h,if_neg (by omega)]; omega
theorem RZ {N:Int} {es:List Ed} {i:Nat} {e:Ed} (h:es[i]? = some e):(grE N es).f i=e.f.toNat:=by show (es.getD i e0).f.toNat=_; rw [Bm h]
theorem Sa {N:Int} {es:List Ed} {i:Nat} {e:Ed} (h:es[i]? = some e):(grE N es).t i=e.t.toNat:=by show (es.getD i e0).t.toNat=_; rw [Bm h]
theorem Sb {N:Int} {es:List Ed} {i:Nat} {e:Ed} (h:es[i]? = some e):(grE N es).co i=e.cost:=by show (es.getD i e0).cost=_; rw [Bm h]
/-- What is paid to a bank, less what it pays. -/
def byK (rs:List Int) (os:List Du) (net:Bool) (fl:List Int) (k:Nat):Int:=DQ (grE ((rs.length+1:Nat):Int) (BA rs os net)) (flE fl) os.length k
theorem Sc {rs:List Int} {os:List Du} {net:Bool} {fl:List Int} (hrs:∀ x∈rs,0≤x) (hos:∀ d∈os,UX rs.length d) (hf:Fs ((rs.length+1:Nat):Int) (BA rs os net) fl=true) :
  PayIn os (fl.take os.length)∧fl.length=(BA rs os net).length∧(∀ (k:Nat) (r:Int),rs[k]? = some r→(net=true→byK rs os net fl k=0) ∧ -r≤byK rs os net fl k∧byK rs os net fl k≤4503599627370496)∧B5 (byK rs os net fl) rs.length=0:=by
 obtain ⟨hw,hz⟩:=E4 hf;obtain ⟨hl,hr,hin⟩:=Ck hw;have hlen:=GJ rs os net;refine ⟨⟨by rw [List.length_take]; omega,fun i d x hd hx=>?_⟩,hl,fun k r hk=>?_,?_⟩
 ·have hi:=Cu hd;rw [List.getElem?_take,if_pos hi] at hx;exact hin i (Ku d) x (IL hd) hx
 ·have hkn:=Cu hk;have h0:=hz k (by omega);have hE:(grE ((rs.length+1:Nat):Int) (BA rs os net)).E=(BA rs os net).length:=rfl;unfold B6 at h0;rw [hE,hlen] at h0;have hr0:=hrs r (List.mem_of_getElem? hk)
  cases net with
  | true =>
   rw [if_pos rfl,Nat.add_zero] at h0;have h0':byK rs os true fl k=0:=h0;exact ⟨fun _=>h0',by omega,by omega⟩
  | false =>
   rw [if_neg (by decide),NR (x:=flE fl) (n:=rs.length) (fun j hj=>?_) hkn rs.length (Nat.le_refl _),if_pos hkn] at h0
   ·obtain ⟨y,hy⟩:=AD (l:=fl) (i:=os.length+2*k) (by rw [hl,hlen,if_neg (by decide)]; omega);obtain ⟨z,hzz⟩:=AD (l:=fl) (i:=os.length+2*k+1) (by rw [hl,hlen,if_neg (by decide)]; omega);have h1:=hin _ _ y (JN (Ln hk)) hy;have h2:=hin _ _ z (by rw [Nat.add_assoc]; exact JN (MN hkn)) hzz;rw [show flE fl (os.length+2*k)=y from Bm hy,show flE fl (os.length+2*k+1)=z from Bm hzz] at h0;have h0':byK rs os false fl k+(y - z)=0:=h0;dsimp only at h1 h2;exact ⟨(fun h=>by cases h),by omega,by omega⟩
   ·obtain ⟨r',hr'⟩:=AD hj;have e1:(BA rs os false)[os.length+2*j]? = _:=JN (Ln hr');have e2:(BA rs os false)[os.length+2*j+1]? = some ⟨j,rs.length,4503599627370496,0⟩:=by rw [Nat.add_assoc]; exact JN (MN hj)
    rw [RZ e1,Sa e1,RZ e2,Sa e2];dsimp only;omega
 ·have:=over_all ⟨rs.length,os.length,(grE ((rs.length+1:Nat):Int) (BA rs os net)).f,(grE ((rs.length+1:Nat):Int) (BA rs os net)).t,fun _=>0⟩ ⟨fun i hi=>?_,fun i hi=>?_⟩ (flE fl)
  ·exact this
  ·obtain ⟨d,hd⟩:=AD (l:=os) (i:=i) hi;obtain ⟨h1,h2,h3⟩:=hos d (List.mem_of_getElem? hd);have:=D7 h1;dsimp only;rw [RZ (IL hd)];unfold Ku;dsimp only;omega
  ·obtain ⟨d,hd⟩:=AD (l:=os) (i:=i) hi;obtain ⟨h1,h2,h3⟩:=hos d (List.mem_of_getElem? hd);have:=D7 h1;dsimp only;rw [Sa (IL hd)];unfold Ku;dsimp only;omega
theorem Wy {xs ys:List Int} (hl:xs.length=ys.length) (hx:∀ x∈xs,CQ x=true) (hy:∀ y∈ys,FZ y=true) (hs:Cm ys=0) (hz:∀ z∈CS xs ys,CQ z=true):D0 xs ys=0:=by
 unfold D0 HG;rw [decide_eq_true hl,List.all_eq_true.2 hx,List.all_eq_true.2 hy,decide_eq_true hs,if_neg (by decide),if_neg,if_neg]
 ·rw [List.all_eq_true.2 hz]; decide
 ·rw [List.all_eq_true.2 fun z h=>decide_eq_true (C9.1 (hz z h)).1]; decide
theorem NS:∀ {xs ys:List Int},xs.length=ys.length→Cm (CS xs ys)=Cm xs+Cm ys
 | [],[],_=>rfl
 | [],_::_,h=>by cases h
 | _::_,[],h=>by cases h
 | x::xs,y::ys,h=>by
  have ih:=NS (xs:=xs) (ys:=ys) (by simpa using h);show Cm ((x+y)::CS xs ys)=_;rw [BV,BV,BV,ih]; omega
theorem Sd {xs:List Int} (h:∀ x∈xs,0≤x):∀ x∈xs,x≤Cm xs:=by
 induction xs with
 | nil=>intro x hx; cases hx
 | cons y xs ih =>
  intro x hx;rw [BV];have h0:=h y (List.mem_cons_self ..);have h1:=Gz fun z hz=>h z (List.mem_cons_of_mem _ hz)
  rcases List.mem_cons.1 hx with rfl | hx
  ·omega
  ·have:=ih (fun z hz=>h z (List.mem_cons_of_mem _ hz)) x hx;omega
theorem Ch {acs:List Ac}:ED acs=0↔acs.length≤16∧(∀ a∈acs,Lk a=true)∧(E8 (acs.map Ac.ba)).2=0:=by
 unfold ED
 by_cases h1:16<acs.length
 ·rw [if_pos h1]; exact ⟨fun h=>by simp at h,fun h=>absurd h.1 (by omega)⟩
 rw [if_neg h1]
 cases h2:acs.all Lk with
 | false =>
  rw [if_pos rfl];refine ⟨fun h=>by simp at h,fun h=>?_⟩;rw [List.all_eq_true.2 h.2.1] at h2; cases h2
 | true =>
  rw [if_neg (by decide)];rw [List.all_eq_true] at h2;exact ⟨fun h=>⟨by omega,h2,h⟩,fun h=>h.2.2⟩
theorem F4 {a:Ac}:Lk a=true↔(0≤a.ba∧a.ba≤4503599627370496)∧0≤a.re∧a.re≤4503599627370496:=by
 unfold Lk; rw [Bool.and_eq_true,C9,C9]
theorem UY {acs:List Ac} {by':Nat→Int} (hs:D0 (acs.map Ac.ba) (tab by' acs.length)=0) {k:Nat} {a:Ac} (hk:acs[k]? = some a):(shA acs (tab by' acs.length))[k]? = some ⟨a.ba+by' k,a.re⟩:=by
 unfold shA;rw [if_pos hs,List.getElem?_zipWith,hk,BO (Cu hk)]
theorem Qv {acs:List Ac} {by':Nat→Int}:(shA acs (tab by' acs.length)).length=acs.length:=by
 unfold shA
 split
 ·rw [List.length_zipWith,CT]; omega
 ·rfl
theorem J5 {acs:List Ac} {by':Nat→Int} (ha:ED acs=0) (hb:∀ (k:Nat) (a:Ac),acs[k]? = some a → -(Dl a)≤by' k∧by' k≤4503599627370496) (hs:B5 by' acs.length=0) :
  D0 (acs.map Ac.ba) (tab by' acs.length)=0∧ED (shA acs (tab by' acs.length))=0:=by
 obtain ⟨h1,h2,h3⟩:=Ch.1 ha;obtain ⟨h4,h5⟩:=Dd.1 h3;have hl:(acs.map Ac.ba).length=(tab by' acs.length).length:=by rw [List.length_map,CT]
 have hsum:Cm (tab by' acs.length)=0:=by rw [Yw]; exact hs
 have hat:∀ z∈CS (acs.map Ac.ba) (tab by' acs.length),∃ k a,acs[k]? = some a∧z=a.ba+by' k:=fun z hz=>by
  obtain ⟨k,hk⟩:=List.mem_iff_getElem?.1 hz;have hkl:=Cu hk;unfold CS at hkl;rw [List.length_zipWith,List.length_map,CT] at hkl;obtain ⟨a,hka⟩:=AD (l:=acs) (i:=k) (by omega);rw [Jy (x:=a.ba) (y:=by' k) (by rw [List.getElem?_map,hka]; rfl) (BO (by omega))] at hk
  injection hk with hk
  exact ⟨k,a,hka,hk.symm⟩
 have hnn:∀ z∈CS (acs.map Ac.ba) (tab by' acs.length),0≤z:=fun z hz=>by
  obtain ⟨k,a,hk,rfl⟩:=hat z hz;have:=hb k a hk;have h6:=F4.1 (h2 a (List.mem_of_getElem? hk));unfold Dl at this;omega
 have htot:=NS hl;rw [hsum] at htot
 have hmay:∀ z∈CS (acs.map Ac.ba) (tab by' acs.length),CQ z=true:=fun z hz=>by
  have:=Sd hnn z hz;exact C9.2 ⟨hnn z hz,by omega⟩
 have hC:D0 (acs.map Ac.ba) (tab by' acs.length)=0:=by
  refine Wy hl h4 (fun y hy=>?_) hsum hmay;obtain ⟨k,hk⟩:=List.mem_iff_getElem?.1 hy;obtain ⟨hkl,rfl⟩:=NB hk;obtain ⟨a,hka⟩:=AD (l:=acs) (i:=k) hkl;have:=hb k a hka;have h6:=F4.1 (h2 a (List.mem_of_getElem? hka));unfold Dl at this;unfold FZ;rw [Bool.and_eq_true,decide_eq_true_eq,decide_eq_true_eq];omega
 have hmap:(shA acs (tab by' acs.length)).map Ac.ba=CS (acs.map Ac.ba) (tab by' acs.length):=by
  unfold shA CS;rw [if_pos hC,List.map_zipWith,List.zipWith_map_left]
 refine ⟨hC,Ch.2 ⟨by rw [Qv]; exact h1,fun a' ha'=>?_,Dd.2 ⟨by rw [hmap]; exact hmay,by rw [hmap]; omega⟩⟩⟩;obtain ⟨k,hk⟩:=List.mem_iff_getElem?.1 ha';have hkl:=Cu hk;rw [Qv] at hkl;obtain ⟨a,hka⟩:=AD (l:=acs) (i:=k) hkl;have h7:=UY hC hka;rw [h7] at hk
 injection hk with hk
 subst hk;have h8:CQ (a.ba+by' k)=true:=hmay _ (List.mem_of_getElem? (i:=k) (Jy (by rw [List.getElem?_map,hka]; rfl) (BO hkl)));unfold Lk at *;rw [Bool.and_eq_true];have:=h2 a (List.mem_of_getElem? hka);rw [Bool.and_eq_true] at this;exact ⟨h8,this.2⟩
/-- What a round that may be built says. -/
structure Bright (rs:List Int) (ds:List Du):Prop where
 n16:rs.length≤16
 may:∀ x∈rs,CQ x=true
 m64:ds.length≤64
 due:∀ d∈ds,UX rs.length d
 tot:Cm (ds.map Du.am)≤4503599627370496
theorem Hm {rs:List Int} {ds:List Du} (hl:ds.length≤1000000):Dr rs ds=true↔Bright rs ds:=by
 rw [← Agz rs ds hl];unfold r19B;simp only [Bool.and_eq_true,decide_eq_true_eq,List.all_eq_true,dueB];constructor
 ·rintro ⟨⟨h1,h2⟩,h3,h4,h5⟩;exact ⟨h1,h3,h2,fun d hd=>⟨(h4 d hd).1,(h4 d hd).2.1,(h4 d hd).2.2⟩,(Dd.1 h5).2⟩
 ·rintro ⟨h1,h3,h2,h4,h5⟩;refine ⟨⟨h1,h2⟩,h3,fun d hd=>⟨(h4 d hd).1,(h4 d hd).2.1,(h4 d hd).2.2⟩,Dd.2 ⟨fun x hx=>?_,h5⟩⟩;obtain ⟨d,hd,rfl⟩:=List.mem_map.1 hx;have:=(D7 (h4 d hd).1).2.2.2.1;exact C9.2 ⟨by omega,this.2⟩
theorem UZ {ds:List Du} {d:Du} (h:d∈opn ds):d∈ds∧d.held=false:=by
 unfold opn at h;rw [List.mem_filter] at h;exact ⟨h.1,by simpa using h.2⟩
theorem HI (ds:List Du):(opn ds).length≤ds.length:=List.length_filter_le _ _
theorem Va {ds:List Du} (h:∀ d∈ds,0≤d.am):Cm ((opn ds).map Du.am)≤Cm (ds.map Du.am):=by
 induction ds with
 | nil=>exact Int.le_refl _
 | cons d ds ih =>
  have h0:=h d (List.mem_cons_self ..);have ih:=ih fun e he=>h e (List.mem_cons_of_mem _ he);rw [Hl,List.map_cons,BV]
  split
  ·rw [List.nil_append]; omega
  ·show Cm (d.am::(opn ds).map Du.am)≤_;rw [BV]; omega
theorem Bright.open' {rs:List Int} {ds:List Du} (h:Bright rs ds):Bright rs (opn ds) :=
 ⟨h.n16,h.may,Nat.le_trans (HI ds) h.m64,fun d hd=>h.due d (UZ hd).1,Int.le_trans (Va fun d hd=>by have:=(D7 (h.due d hd).1).2.2.2.1; omega) h.tot⟩
theorem Bright.right {rs:List Int} {ds:List Du} (h:Bright rs ds) (net:Bool):Cp ((rs.length+1:Nat):Int) (BA rs (opn ds) net)=true :=
 Wx h.n16 h.open'.m64 h.may h.open'.due h.open'.tot
/-- Accounts and dues that may be make a round as soon as there are the banks. -/
theorem Kv {acs:List Ac} {ds:List Du} {nx:Int} (ha:ED acs=0) (hd:ofC ds nx=0) (hb:∀ d∈ds,d.fr<acs.length∧d.to<acs.length):Bright (acs.map Dl) ds:=by
 obtain ⟨h1,h2,h3⟩:=Ch.1 ha;obtain ⟨h4,h5,h6,h7⟩:=EU.1 hd;refine ⟨by rw [List.length_map]; exact h1,fun x hx=>?_,h4,fun d hd'=>⟨(YM hd hd').2.2,by rw [List.length_map]; exact (hb d hd').1,by rw [List.length_map]; exact (hb d hd').2⟩,(Dd.1 h7).2⟩;obtain ⟨a,ha',rfl⟩:=List.mem_map.1 hx;have:=F4.1 (h2 a ha');unfold Dl;exact C9.2 ⟨by omega,by omega⟩
end Go.Proofs.YtdagmpmdcgedcaaGreat
