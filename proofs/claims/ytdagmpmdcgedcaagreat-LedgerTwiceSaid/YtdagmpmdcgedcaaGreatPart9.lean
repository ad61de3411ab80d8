/- Part 9 of the proof. -/
import Derived.Test.YtdagmpmdcgedcaaGreatPart2
import Derived.Test.YtdagmpmdcgedcaaGreatPart8
import Derived.Test.YtdagmpmdcgedcaaGreatPart4
import Derived.Test.YtdagmpmdcgedcaaGreatPart5
import Derived.Test.YtdagmpmdcgedcaaGreatPart3
import Derived.Test.YtdagmpmdcgedcaaGreatPart7
namespace Go.Proofs.YtdagmpmdcgedcaaGreat
open Go.GV
attribute [local irreducible] AD W Wq Wt
theorem HX {ds:List Du} {k:Int} {d:Du} (h:CQ ds k=some d):d∈ds∧d.id=k:=by
 have h1:=List.mem_of_find?_eq_some h;have h2:=List.find?_some h;exact ⟨h1,by simpa using h2⟩
theorem Aav (d:Du) (x:Int):pC d x=1∨pC d x=14∨pC d x=12∨(pC d x=0∧0≤x∧x≤d.am∧d.held=false):=by
 unfold pC
 split
 ·exact .inl U
 ·split
  ·exact .inr (.inl U)
  ·rename_i h2
   split
   ·exact .inr (.inr (.inl U))
   ·exact .inr (.inr (.inr ⟨rfl,by omega,by omega,by simpa using h2⟩))
set_option maxRecDepth 20000 in
set_option maxHeartbeats 4000000 in
theorem XV {bd b bx:Nat} {nx k x:Int} {o:Obj} {ds:List Du} {d:Du} (w:World) (hd:w.heap[bd]? = some (Bl 165 (DU b nx))) (hb:w.heap[b]? = some o) (hM:Db .u64 (dm ds) o) (hbd:bd≠b) (hf:CQ ds k=some d)
  (hx:w.heap[bx]? = some (Bl 2 [.int .i64 x])) (hbx:bx≠b) (ham:0≤d.am∧d.am≤4503599627370496) :
  Ret Tryz.prog 177 #[ptr bd,.int .u64 k,payF bx] w fun v w'=>v = .int .i64 (N9 ds k x)∧∃ o',Db .u64 (dm (TW ds k x)) o'∧Ctx w [b] w' [(b,o')]:=by
 obtain ⟨w0,rfl⟩:∃ w0,w0=w:=⟨_,rfl⟩;have H:=Ctx.start1 hb;have hxl:=Bb hx;have hc:N9 ds k x=pC d x:=by unfold N9; rw [hf]
 have hmg:Eo (dm ds) k=some (Gm d):=by rw [Hx,hf]; rfl
 have hcs:=Aav d x;unfold TW;rw [hc];obtain ⟨code,hcode⟩:∃ code,code=pC d x:=⟨_,rfl⟩;obtain ⟨e,he⟩:∃ e,e=pD d x:=⟨_,rfl⟩;have heam:code=0→e={ d with am:=d.am - x }:=fun h=>by rw [he]; unfold pD; rw [if_pos (by omega)]
 rw [← hcode] at hcs;rw [← hcode];refine Az (fn:=Tryz.f177) Tryz.func177 U [.pointer (some ⟨bd,0,none⟩),.int .u64 k,.func (.func 222) #[] #[.pointer (some ⟨bx,0,none⟩)]] U (by kernel_rfl) ?_;refine Ae (Af U (Ab (Aa (Au (Ae (A2 U (Cw I6 U ?_)))))));refine Ab (Aa (Ao _ U ?_ ?_))
 ·intro h0;cases h0
 ·intro h0;refine Ap (Aa (Ae (A2 U (AA U (Ah DP U (AV Fo U ((H.old (Aj hd _) (by rw [List.mem_singleton]; exact hbd))) ?_))))));refine Ad U (GK U F8 F5 OY U U H at0 hM ?_);rw [hmg];rw [Option.getD_some,Option.isSome_some];refine CA U (AS U U (AS U U (Ba Ex H ?_)));rintro b7 w - H;refine Bm Cg U U U (by exact Dg _) H at0 U ?_;rintro w H;refine Ai U (Ab (Aa (Au (Ae (A7 U (BF U (Ab (Aa (Ao _ U ?_ ?_)))))))))
  ·intro h1;replace h1:=BG h1;cases h1
  ·intro h1;replace h1:=BH h1;refine Ap (Aa (Ae (Dq U (.func _ _ _) U ?_)));have hb7:w0.heap.size≤b7:=(H.own _ (List.mem_cons_self ..)).elim (fun h=>by have h8:=H.ne at0 at1 (by decide); exact absurd (List.mem_singleton.1 h) h8) id;refine Gd U Ah0 (Aef (x:=x) (d:=d) _ (H.get at0) (H.ext.to hx (by rw [List.mem_singleton]; exact hbx)) ham) U ?_;rintro v w ⟨rfl,H2⟩;replace H:=Ctx.back (L1:=[_]) (L2:=[_]) H H2;rw [← hcode];rw [← he] at H;refine Af U (Ab (Aa (Au (A0 (Ae (Ad U (C0 U U (Ai U (Ab (Aa (Ao _ U ?_ ?_)))))))))))
   ·intro h2;replace h2:=C7 h2;refine Ap (A6 (Aa (Ae (Ad U (Af U (Ab (Aa (A5 (A9 (v:=(.int _ _)) U U U ?_)))))))));rw [if_neg h2];exact ⟨rfl,o,hM,H.tail⟩
   ·intro h2;replace h2:=C8 h2;have h2':code=0:=by omega
    have hee:=heam h2';have hea:e.am=d.am - x:=by rw [hee]
    rw [if_pos h2'];refine Ae (Ah EM U (AH Bs U H at0 U (Ct U U (Ai U (Ab (Aa (Ao _ U ?_ ?_)))))))
    ·intro h3;replace h3:=AM h3;refine Ax (A2 U (AA U (Ah DP U (AV Fo U ((H.old (Aj hd _) (by rw [List.mem_singleton]; exact hbd))) ?_))));refine Ad U (MG U F8 F5 U U H at1 hM ?_);rintro o2 w hM2 H;refine Ab (A6 (Aa (Ae (Ad U (Af U (Ab (Aa (A5 (A9 (v:=(.int _ _)) U U U ?_)))))))));exact ⟨rfl,o2,by rw [← Aat hf]; exact hM2,H.tail⟩
    ·intro h3;replace h3:=AN h3;refine FN 6 Bq (by kernel_rfl) U U ?_;refine B5 U (AZ U (A3 DP U (BR Fo U (by rintro _ rfl; exact ((H.old (Aj hd _) (by rw [List.mem_singleton]; exact hbd)))) ?_)));refine AY U (Oj U Fq Cg U (by rintro _ rfl; exact H.drew) at0 U ?_);refine BQ ?_;replace H:=H.drew;refine Jk (Gm e) U F8 F5 U U U H at1 hM ?_;rintro o2 w hM2 H;refine Ab (A6 (Aa (Ae (Ad U (Af U (Ab (Aa (A5 (A9 (v:=(.int _ _)) U U U ?_)))))))));exact ⟨rfl,o2,by rw [← Aau hf (show ¬ d.am=x by omega),← hee]; exact hM2,H.tail⟩
theorem Aaw {bd b bx:Nat} {nx k x:Int} {o:Obj} {ds:List Du} (w:World) (hd:w.heap[bd]? = some (Bl 165 (DU b nx))) (hb:w.heap[b]? = some o) (hM:Db .u64 (dm ds) o) (hbd:bd≠b)
  (hx:w.heap[bx]? = some (Bl 2 [.int .i64 x])) (ham:∀ d∈ds,0≤d.am∧d.am≤4503599627370496)  (hbx:bx≠b:=by omega):
  Ret Tryz.prog 177 #[ptr bd,.int .u64 k,payF bx] w fun v w'=>v = .int .i64 (N9 ds k x)∧∃ o',Db .u64 (dm (TW ds k x)) o'∧Ctx w [b] w' [(b,o')]:=by
 cases hf:CQ ds k with
 | none=>exact XU w hd hb hM hbd hf
 | some d=>exact XV w hd hb hM hbd hf hx hbx (ham d (HX hf).1)
set_option maxRecDepth 20000 in
theorem Aeg {bd b:Nat} {nx k x:Int} {o:Obj} {ds:List Du} (w:World) (hd:w.heap[bd]? = some (Bl 165 (DU b nx))) (hb:w.heap[b]? = some o) (hM:Db .u64 (dm ds) o) (hbd:bd≠b) (ham:∀ d∈ds,0≤d.am∧d.am≤4503599627370496) :
  Ret Tryz.prog 185 #[ptr bd,.int .u64 k,.int .i64 x] w fun v w'=>v = .int .i64 (N9 ds k x)∧∃ o',Db .u64 (dm (TW ds k x)) o'∧Ctx w [b] w' [(b,o')]:=by
 obtain ⟨w0,rfl⟩:∃ w0,w0=w:=⟨_,rfl⟩;have H:=Ctx.start w0 [];have hbl:=Bb hb;refine Az (fn:=Tryz.f185) Tryz.func185 U [.pointer (some ⟨bd,0,none⟩),.int .u64 k,.int .i64 x] U (by kernel_rfl) ?_;refine Ae (Bx _ (.int _ _) U U H ?_);rintro b5 w - H;refine Af U (Ab (Aa (Ae (A2 U (Ad U (Ck [.pointer _] U ?_))))));have hb5:w0.heap.size≤b5:=(H.own _ (List.mem_cons_self ..)).elim (fun h=>by cases h) id;refine Al Ve (Aaw (x:=x) _ (H.ext.to hd (by simp)) (H.ext.to hb (by simp)) hM hbd (H.get at0) ham) U ?_;rintro v w ⟨rfl,o',hM',H2⟩;refine Af U (Ab (Aa (A5 (A9 (v:=(.int _ _)) U U U ?_))));have H3:=H.ext.mono (S':=[b]) (by simp);exact ⟨rfl,o',hM',⟨H3.trans H2.ext,H2.blk,H2.nd,fun y hy=>by rw [List.mem_singleton.1 hy]; exact .inl (List.mem_singleton.2 rfl)⟩⟩
end Go.Proofs.YtdagmpmdcgedcaaGreat
namespace Go.Proofs.YtdagmpmdcgedcaaGreat
open Go.GV
attribute [local irreducible] AD W Wq Wt
structure PlD (ds:List Du) (k:Int) (i:Nat) (d:Du):Prop where
 at':ds[i]? = some d
 id:d.id=k
 fst:∀ (j:Nat) (e:Du),j<i→ds[j]? = some e→e.id≠k
theorem PlD.pay {ds:List Du} {k x:Int} {i:Nat} {d:Du} (h:PlD ds k i d):Hr ds k x=if d.am=x then ds.eraseIdx i else ds.set i { d with am:=d.am - x }:=by
 induction ds generalizing i with
 | nil=>have:=h.at'; cases this
 | cons y ds ih =>
  unfold Hr
  cases i with
  | zero =>
   have h1:=h.at'
   injection h1 with h1
   rw [h1,if_pos h.id]; rfl
  | succ i =>
   have h1:=h.fst 0 y (Nat.succ_pos _) rfl;rw [if_neg h1,ih ⟨h.at',h.id,fun j e hj he=>h.fst (j+1) e (Nat.succ_lt_succ hj) he⟩]
   split <;> rfl
end Go.Proofs.YtdagmpmdcgedcaaGreat
namespace Go.Proofs.YtdagmpmdcgedcaaGreat
open Go.GV
attribute [local irreducible] AD W Wq Wt
end Go.Proofs.YtdagmpmdcgedcaaGreat
namespace Go.Proofs.YtdagmpmdcgedcaaGreat
open Go.GV
attribute [local irreducible] AD W Wq Wt
end Go.Proofs.YtdagmpmdcgedcaaGreat
namespace Go.Proofs.YtdagmpmdcgedcaaGreat
open Go.GV
attribute [local irreducible] AD W Wq Wt
theorem XW (a:Option Addr) (n c:Nat) (ds:List Du) (w:World) (R:Rd w a 7 CT ds) (hn:ds.length=n)  (hm:n≤1000000000:=by omega):
  Ret Tryz.prog 225 #[.slice a n c] w fun v w'=>Fresh w w' 67 7 v (ds.flatMap CT):=by
 subst hn;obtain ⟨w0,rfl⟩:∃ w0,w0=w:=⟨_,rfl⟩;have H:=Ctx.start w0 [];refine Az (fn:=Tryz.f225) Tryz.func225 U [.slice a ds.length c] U (by kernel_rfl) ?_;refine Ae (A4 U (Ab (Aa (Au (Ae (Ay U (IE U CE U (Ab (Aa (Ao _ U ?_ ?_))))))))))
 ·intro h1;have ha:a=none:=by simpa using h1
  subst ha
  have hxs:ds=[]:=by
   cases ds with
   | nil=>rfl
   | cons x xs=>obtain ⟨b,o,h⟩:=R.some' (by simp); cases h
  subst hxs;refine Ae (A4 U (Ab (Aa (A5 (Aq (A9 (v:=(.slice _ _ _)) U U U ?_))))));exact Fresh.nil H _ _
 ·intro h1;refine Ap (Aa (Ae (Ht U CE Cg H ?_)));rintro b5 w H O;refine Ay U (Hs U CE CE Cg Wl Ex U (by decide) (ds.flatMap CT) U U H O (Pu ds) (XT ds) ((R.ext0 H.ext).app (fun _ _=>rfl) (by omega)) ?_);rintro a7 c7 full7 w H O;refine A4 U (Ab (Aa (A5 (A9 (v:=(.slice _ _ _)) U U U ?_))));exact H.fresh O
theorem TX (d:Du) (w:World):Ret Tryz.prog 226 #[Gm d] w fun v w'=>v = .bool d.held∧Ext [] w w':=by
 obtain ⟨w0,rfl⟩:∃ w0,w0=w:=⟨_,rfl⟩;have H:=Ctx.start w0 [];refine Az (fn:=Tryz.f226) Tryz.func226 U [Gm d] U (by kernel_rfl) ?_;refine Ae (Bx (CT d) (.agg _) U U H ?_);rintro b1 w - H;refine Ai U (Ab (Aa (Ae (Ah LR U (AH KG U H at0 U (Ai U (Ab (Aa (A5 (A9 (v:=(.bool _)) U U U ?_))))))))));exact ⟨rfl,H.ext⟩
abbrev Af2:Value := .func (.func 226) #[] #[]
structure FstH (ds:List Du) (i:Nat):Prop where
 at':∃ d,ds[i]? = some d∧d.held=true
 fst:∀ (j:Nat) (e:Du),j<i→ds[j]? = some e→e.held=false
set_option maxRecDepth 20000 in
theorem Aeh (a:Option Addr) (n c:Nat) (ds:List Du) (w:World) (R:Rd w a 7 CT ds) (hn:ds.length=n) (hn2:n≤1000000) :
  Ret Tryz.prog 201 #[.slice a n c,Af2] w fun v w'=>Ext [] w w'∧((v = .int .i64 (-1)∧∀ d∈ds,d.held=false)∨∃ i:Nat,v = .int .i64 (i:Int)∧FstH ds i):=by
 subst hn;obtain ⟨w0,rfl⟩:∃ w0,w0=w:=⟨_,rfl⟩;have H:=Ctx.start w0 [];refine Az (fn:=Tryz.f201) Tryz.func201 U [.slice a ds.length c,.func (.func 226) #[] #[]] U (by kernel_rfl) ?_;refine Ae (Af U (Ab (Aa (Au (Ae (Ay U (Be CE U (Ad U (Ab (Aa (A0 ?_)))))))))));refine Bv 524080 (α:=Nat) (fun i=>[(8,.int .i64 (i:Int))]) (fun i w'=>i≤ds.length∧Ctx w0 [] w' []∧∀ (j:Nat) (e:Du),j<i→ds[j]? = some e→e.held=false) (fun i=>ds.length - i) 0 U ?_ ?_ ?_
 ·exact ⟨rfl,trivial⟩
 ·exact ⟨Nat.zero_le _,H,fun j e h=>absurd h (Nat.not_lt_zero _)⟩
 ·clear H;rintro i j w ⟨hi,H,hb⟩;refine Ae (Bj U U (Ab (Aa (Au (Ao _ U ?_ ?_)))))
  ·intro h1;replace h1:=AM h1;obtain ⟨d,hd2⟩:=A8 (l:=ds) (i:=i);refine Ap (Aa (Au (A0 (Ae (Ad U (Af U (Ab (Aa (Ae (Dq U (.func _ _ _) U ?_))))))))));refine Ay U (Ad U (AX R CE Cg U U (by rfl) ?_));refine BW _ Fq Cg U U ((R.ext0 H.ext).row hd2 U) ?_;refine Gd U Zf (TX d _) U ?_;rintro v w ⟨rfl,hx16⟩;replace H:=H.call hx16;refine Ab (Aa (Ao _ U ?_ ?_))
   ·intro h2;refine Ae (Ad U (Af U (Ab (Aa (A5 (AB (Aq (Aq (AB (Aq (A9 (v:=(.int _ _)) U U U ?_)))))))))));exact ⟨H.ext,.inr ⟨i,rfl,⟨d,hd2,h2⟩,hb⟩⟩
   ·intro h2;refine Ap (A6 (Aa (Ax (Aw U U ?_))));refine Ad U (Ab (Aa ?_));refine ⟨i+1,rfl,⟨rfl,trivial⟩,⟨by omega,H,fun j e hj he=>?_⟩,by omega⟩
    rcases Nat.lt_or_ge j i with h7 | h7
    ·exact hb j e h7 he
    ·obtain rfl:j=i:=by omega
     rw [hd2] at he;cases he;exact h2
  ·intro h1;replace h1:=AN h1;refine Br (An (An (AK (Aa (Ae (Af U (Ab (Aa (A5 (A9 (v:=(.int _ _)) U U U ?_))))))))));refine ⟨H.ext,.inl ⟨rfl,fun d hd=>?_⟩⟩;obtain ⟨j,hj⟩:=List.mem_iff_getElem?.1 hd;exact hb j d (by have:=Cu hj; omega) hj
end Go.Proofs.YtdagmpmdcgedcaaGreat
namespace Go.Proofs.YtdagmpmdcgedcaaGreat
open Go.GV
attribute [local irreducible] AD W Wq Wt
def opn (ds:List Du):List Du:=ds.filter fun d => !d.held
theorem QP:∀ (vs l:List Value) (o k:Nat),k≤o→(over l o vs).take k=l.take k
 | [],_,_,_,_=>rfl
 | v::vs,l,o,k,h=>by
  show (over (l.set o v) (o+1) vs).take k=_;rw [QP vs (l.set o v) (o+1) k (by omega)];refine List.ext_getElem? fun j=>?_;rw [List.getElem?_take,List.getElem?_take]
  split
  ·rw [List.getElem?_set_ne (by omega)]
  ·rfl
theorem OS.shrink {α:Type} {a:Option Addr} {n c s i:Nat} {full vs:List Value} {enc:α→List Value} {L:List α} {o:Nat} (O:OS a n c s full (L.flatMap enc)) (hs:∀ x∈L,(enc x).length=s) (hi:i≤n) (hL:L.length=n) (ho:vs=[]∨i*s≤o):OS a i c s (Go.GV.over full o vs) ((L.take i).flatMap enc):=by
 refine ⟨O.zero,O.none',by rw [D8]; exact O.len,Nat.le_trans hi O.le,?_⟩
 have h1:(Go.GV.over full o vs).take (i*s)=full.take (i*s):=by
  rcases ho with rfl | ho
  ·rfl
  ·exact QP _ _ _ _ ho
 rw [h1]
 have h2:full.take (i*s)=(full.take (n*s)).take (i*s):=by
  rw [List.take_take,Nat.min_eq_left (Nat.mul_le_mul_right _ hi)]
 rw [h2,O.pre];have h3:L.flatMap enc=(L.take i).flatMap enc++(L.drop i).flatMap enc:=by rw [← List.flatMap_append,List.take_append_drop]
 have h4:((L.take i).flatMap enc).length=i*s:=by
  rw [EU fun z hz=>hs z (List.mem_of_mem_take hz),List.length_take,Nat.min_eq_left (by omega)]
 rw [h3];exact List.take_left' h4
theorem Pv (ds:List Du) (d:Du):opn (ds++[d])=opn ds++if d.held=true then [] else [d]:=by
 unfold opn;rw [List.filter_append];cases h:d.held <;> simp [h]
theorem WG {ds:List Du} (h:∀ d∈ds,d.held=false):opn ds=ds:=by
 unfold opn;rw [List.filter_eq_self];intro d hd;rw [h d hd]; rfl
structure DSt where
 i:Nat
 j:Nat
 L:List Du
 full:List Value
set_option maxRecDepth 20000 in
set_option maxHeartbeats 4000000 in
theorem Aj3 (a:Option Addr) (c:Nat) (full:List Value) (ds:List Du) (w:World) (O:OS a ds.length c 7 full (ds.flatMap CT)) (hb:∀ y∈ent a 67 full,w.heap[y.1]? = some y.2) (hn2:ds.length≤1000000) :
  Ret Tryz.prog 224 #[.slice a ds.length c,Af2] w fun v w'=>∃ full',v = .slice a (opn ds).length c∧OS a (opn ds).length c 7 full' ((opn ds).flatMap CT)∧Ctx w ((ent a 67 full).map (·.1)) w' (ent a 67 full'):=by
 obtain ⟨w0,rfl⟩:∃ w0,w0=w:=⟨_,rfl⟩;have R:Rd w0 a 7 CT ds:=OS.rd O hb (fun _ _=>rfl) (by omega);have H:Ctx w0 ((ent a 67 full).map (·.1)) w0 (ent a 67 full):=⟨Ext.refl _ _,hb,Ge,fun x hx => .inl (List.mem_map_of_mem (f:=(·.1)) hx)⟩;refine Az (fn:=Tryz.f224) Tryz.func224 U [.slice a ds.length c,.func (.func 226) #[] #[]] U (by kernel_rfl) ?_;refine Ae (A4 U (Ab (Aa (Ae (Ay U (Dq U (.func _ _ _) U ?_))))));refine Al Ahk (Aeh a ds.length c ds _ R U hn2) U ?_;rintro v w ⟨hx10,hidx⟩;replace H:=H.call hx10;obtain ⟨pi,rfl,hpi⟩:∃ pi:Int,v = .int .i64 pi∧((pi = -1∧∀ d∈ds,d.held=false)∨∃ i:Nat,pi=(i:Int)∧FstH ds i):=hidx.elim (fun h=>⟨-1,h.1,.inl ⟨rfl,h.2⟩⟩) (fun ⟨i,h1,h2⟩=>⟨i,h1,.inr ⟨i,rfl,h2⟩⟩);refine Af U (Ab (Aa (Au (Ae (Ad U (Ct U U (Ab (Aa (Ao _ U ?_ ?_)))))))))
 ·intro h1;replace h1:=AM h1;refine Ae (Ay U (A4 U (Ab (Aa (A5 (Aq (A9 (v:=(.slice _ _ _)) U U U ?_)))))));have hal:∀ d∈ds,d.held=false:=hpi.elim (fun h=>h.2) fun ⟨i,h,_⟩=>by omega
  rw [WG hal];exact ⟨full,rfl,O,H⟩
 ·intro h1;replace h1:=AN h1;obtain ⟨i,hpe,P⟩:∃ i:Nat,pi=(i:Int)∧FstH ds i:=hpi.elim (fun h=>absurd h.1 h1) id;subst hpe;obtain ⟨d0,hd0,hh0⟩:=P.at';have hil:=Cu hd0;obtain ⟨q,rfl⟩:=O.form (by omega);replace H:Ctx w0 [q] w [(q,Bl 67 full)]:=H
  have hop0:opn (ds.take i)=ds.take i:=WG fun d hd=>by
   obtain ⟨j,hj⟩:=List.mem_iff_getElem?.1 hd;rw [List.getElem?_take] at hj
   split at hj
   ·exact P.fst j d (by assumption) hj
   ·cases hj
  have hst0:opn (ds.take (i+1))=ds.take i:=by
   rw [List.take_add_one,hd0];show opn (ds.take i++[d0])=_;rw [Pv,if_pos hh0,hop0,List.append_nil]
  refine Ap (Aa (Au (Ae (Ad U (Aw U U ?_)))));refine Af U (Ab (Aa (A0 (Bv 68719411424 (α:=DSt) (fun t=>[(5,.int .i64 (t.i:Int)),(6,.int .i64 (t.j:Int))]) (fun t w'=>t.i<t.j∧t.j≤ds.length∧t.L.length=ds.length∧t.L.take t.i=opn (ds.take t.j)∧(∀ p,t.j≤p→t.L[p]? = ds[p]?)∧OS (some ⟨q,0,none⟩) ds.length c 7 t.full (t.L.flatMap CT)∧Ctx w0 [q] w' [(q,Bl 67 t.full)]) (fun t=>ds.length - t.j) ⟨i,i+1,ds,full⟩ U ?_ ?_ ?_))))
  ·exact ⟨rfl,rfl,trivial⟩
  ·exact ⟨Nat.lt_succ_self _,by dsimp only; omega,rfl,hst0.symm,fun p _=>rfl,O,H⟩
  ·clear H;rintro ⟨i,j,L,fu⟩ jj w ⟨hij,hj,hL,hT,hS,O1,H⟩; dsimp only at hij hj hL hT hS O1 H; dsimp only;have hOl:=O1.len;have hOle:=O1.le;refine Au (Ae (Ad U (Ay U (Be CE U (Bj U U (Ab (Aa (Ao _ U ?_ ?_))))))))
   ·intro h2;replace h2:=AM h2;obtain ⟨d,hdj⟩:=A8 (l:=ds) (i:=j);have hLd:L[j]? = some d:=by rw [hS j (Nat.le_refl _),hdj]
    have R1:Rd w (some ⟨q,0,none⟩) 7 CT L:=O1.rd (t:=67) (fun y hy=>by have hy:=List.mem_singleton.1 hy; rw [hy]; exact H.get at0) (fun _ _=>rfl) (by decide);have htk:ds.take (j+1)=ds.take j++[d]:=by rw [List.take_add_one,hdj]; rfl
    refine Ap (Aa (Au (A0 (Ae (Ay U (Ad U (AX R1 CE Cg U U (by omega) ?_)))))));refine BW _ Fq Cg U U (R1.row hLd U) ?_;refine Ba Ex H ?_;rintro b7 w - H;refine Bm Cg U U U (by exact Dg _) H at0 U ?_;rintro w H;refine Ab (Aa (Ae (Dq U (.func _ _ _) U ?_)));refine Cr Fq Cg U H at0 U (Gd U Zf (TX d _) U ?_);rintro v w ⟨rfl,hx28⟩;replace H:=H.call hx28;refine BF U (Ab (Aa (Ao _ U ?_ ?_)))
    ·intro h3;replace h3:=BG h3;have h3':¬ d.held=true:=by simpa using h3
     obtain ⟨y,hy⟩:=A8 (l:=L) (i:=i);have O2:=OS.over O1 (fun _=>rfl) hy d;refine Ae (Ay U (Ad U (Cr Fq Cg U H at0 U (AX R1 CE Cg U U (by omega) ?_))));refine Hj (vs:=CT d) U Cg U U U (Dg d) H at1 (by show 0+(i:Int).toNat*7+7≤_; omega) ?_;rintro w H;replace H:Ctx w0 [q] w [(b7,Bl 67 (CT d)),(q,Bl 67 (over fu (i*7) (CT d)))]:=by rw [show i*7=0+((i:Int)).toNat*7 by omega]; exact H
     refine Ab (Aa (Ax (Ad U (Aw U U ?_))));refine Af U (Ab (A6 (Aa (Ax (Ad U (Aw U U ?_))))));refine Af U (Ab (Aa ?_));refine ⟨⟨i+1,j+1,L.set i d,over fu (i*7) (CT d)⟩,rfl,⟨rfl,rfl,trivial⟩,⟨by dsimp only; omega,by dsimp only; omega,by dsimp only; rw [List.length_set]; exact hL,?_,fun p hp=>?_,O2,?_⟩,by dsimp only; omega⟩
     ·dsimp only;rw [htk,Pv,if_neg h3',← hT,List.take_add_one,List.getElem?_set_self (by omega)]
      congr 1
      refine List.ext_getElem? fun z=>?_;rw [List.getElem?_take,List.getElem?_take]
      split
      ·rw [List.getElem?_set_ne (by omega)]
      ·rfl
     ·dsimp only at hp ⊢;rw [List.getElem?_set_ne (by omega)];exact hS p (by omega)
     ·exact H.tail
    ·intro h3;replace h3:=BH h3;have h3':d.held=true:=by simpa using h3
     refine Ap (A6 (Aa (Ax (Ad U (Aw U U ?_)))));refine Af U (Ab (Aa ?_));refine ⟨⟨i,j+1,L,fu⟩,rfl,⟨rfl,rfl,trivial⟩,⟨by dsimp only; omega,by dsimp only; omega,hL,?_,fun p hp=>hS p (by dsimp only at hp; omega),O1,H.tail⟩,by dsimp only; omega⟩;dsimp only;rw [htk,Pv,if_pos h3',List.append_nil];exact hT
   ·intro h2;replace h2:=AN h2;obtain rfl:j=ds.length:=by omega
    rw [List.take_length] at hT;have hlen:(opn ds).length=i:=by rw [← hT,List.length_take]; omega
    obtain ⟨o',ho',ho2⟩:∃ o',UH (some ⟨q,0,none⟩) c i 7=some ⟨q,o',none⟩∧((c=i∧o'=0)∨o'=i*7):=by
     unfold UH
     by_cases h:c=i
     ·rw [if_pos h]; exact ⟨0,rfl,.inl ⟨h,rfl⟩⟩
     ·rw [if_neg h]; exact ⟨0+i*7,(by show some (Addr.add _ _)=_; rw [CO]),.inr (Nat.zero_add _)⟩
    refine Br (An (An (AK (Aa (Ae (Ay U (Ad U (Te U CE Cg U U ?_))))))));refine Q3 (b:=q) (o:=o') (n:=ds.length - i) (c:=c - i) (s:=7) U CE Ex U (by simp [Bg]) (show Value.slice (UH (some ⟨q,0,none⟩) c i 7) (ds.length - i) (c - i)=_ by rw [ho']) H at0 (by omega) ?_;rintro w H;refine Ab (Aa (Ae (Ay U (Ad U (JM U CE Cg U U ?_)))));refine A4 U (Ab (Aa (A5 (A9 (v:=(.slice _ _ _)) U U U ?_))));have O3:=OS.shrink (i:=i) (o:=o') (vs:=(List.replicate (ds.length - i) [Value.int .u64 0,.int .i64 0,.int .i64 0,.int .i64 0,.int .i64 0,.int .i64 0,.bool false]).flatten) O1 (fun _ _=>rfl) (by omega) hL (ho2.elim (fun h=>by omega) fun h => .inr (by omega));rw [hT] at O3;rw [hlen];exact ⟨_,rfl,O3,H⟩
end Go.Proofs.YtdagmpmdcgedcaaGreat
namespace Go.Proofs.YtdagmpmdcgedcaaGreat
open Go.GV
attribute [local irreducible] AD W Wq Wt
theorem WH (a:Option Addr) (n c:Nat) (ds:List Du) (w:World) (R:Rd w a 7 CT ds) (hn:ds.length=n) (hm:n≤1000000) :
  Ret Tryz.prog 187 #[.slice a n c] w fun v w'=>Fresh w w' 67 7 v ((opn ds).flatMap CT):=by
 subst hn;obtain ⟨w0,rfl⟩:∃ w0,w0=w:=⟨_,rfl⟩;refine Az (fn:=Tryz.f187) Tryz.func187 U [.slice a ds.length c] U (by kernel_rfl) ?_;refine Ae (A4 U (Ab (Aa (Ae (Ay U (Al Ah3 (XW a ds.length c ds _ R U) U ?_))))));rintro v w F;obtain ⟨a4,n4,c4,f4,rfl,O4,hb4⟩:=F.ex;have hl4:=O4.llen;rw [Pu] at hl4;obtain rfl:ds.length=n4:=by omega
 refine Al Ah2 (Aj3 a4 c4 f4 ds _ O4 (fun y hy=>(hb4 y hy).1) hm) U ?_;rintro v w ⟨f5,rfl,O5,H5⟩;refine A4 U (Ab (Aa (A5 (A9 (v:=(.slice _ _ _)) U U U ?_))));refine ⟨⟨_,_,_,f5,rfl,O5,fun x hx=>⟨H5.blk x hx,?_⟩⟩,F.ext.then H5.ext fun x hx=>?_⟩
 ·rcases H5.own x hx with h | h
  ·obtain ⟨y,hy,hyx⟩:=List.mem_map.1 h;rw [← hyx];exact (hb4 y hy).2
  ·exact Nat.le_trans F.ext.size h
 ·obtain ⟨y,hy,rfl⟩:=List.mem_map.1 hx;exact .inr (hb4 y hy).2
def EA:Nat→List Du→List Du
 | _,[]=>[]
 | i,d::ds=>{ d with id:=(i:Int)+1 }::EA (i+1) ds
theorem QQ (i:Nat) (ds:List Du):(EA i ds).length=ds.length:=by
 induction ds generalizing i with
 | nil=>rfl
 | cons d ds ih=>show (EA (i+1) ds).length+1=ds.length+1; rw [ih]
theorem Sy (i:Nat) (ds es:List Du):EA i (ds++es)=EA i ds++EA (i+ds.length) es:=by
 induction ds generalizing i with
 | nil=>rfl
 | cons d ds ih =>
  show _::EA (i+1) (ds++es)=_::(EA (i+1) ds++EA (i+(ds.length+1)) es);rw [ih,show i+1+ds.length=i+(ds.length+1) by omega]
theorem V8 {ds:List Du} {i:Nat} {d:Du} (h:ds[i]? = some d):EA 0 (ds.take (i+1))=EA 0 (ds.take i)++[{ d with id:=(i:Int)+1 }]:=by
 have hl:=Cu h;rw [List.take_add_one,h];show EA 0 (ds.take i++[d])=_;rw [Sy,List.length_take,Nat.min_eq_left (by omega),Nat.zero_add]; rfl
theorem Aax {ds:List Du}:∀ (i:Nat) (d:Du),d∈EA i ds→(i:Int)<d.id∧d.id≤i+ds.length:=by
 induction ds with
 | nil=>intro i d h; cases h
 | cons x ds ih =>
  intro i d h
  rcases List.mem_cons.1 h with rfl | h
  ·dsimp only [List.length_cons]; omega
  ·have:=ih (i+1) d h;rw [List.length_cons]; omega
theorem XX {ds:List Du}:∀ (i:Nat),FH ((i:Int)+ds.length+1) i (EA i ds)=ds.all Ej:=by
 induction ds with
 | nil=>intro i; rfl
 | cons d ds ih =>
  intro i;have h:=ih (i+1);show ((Ej d && (decide ((i:Int)<(i:Int)+1) && decide ((i:Int)+1<_))) && FH _ ((i:Int)+1) (EA (i+1) ds))=(Ej d && ds.all Ej);rw [← h,decide_eq_true (show (i:Int)<(i:Int)+1 by omega),decide_eq_true (show (i:Int)+1<(i:Int)+((d::ds).length:Nat)+1 by rw [List.length_cons]; omega),show ((i:Int)+((d::ds).length:Nat)+1)=(((i+1:Nat):Int)+ds.length+1) by rw [List.length_cons]; omega];simp
def D0 (rs:List Int) (ds:List Du):Bool :=
 decide (rs.length≤16) && (!decide ((EX rs).2=1) && (ds.all (fun d=>decide (max d.fr d.to<rs.length)) && decide (ofC (EA 0 ds) (ds.length+1)=0)))
end Go.Proofs.YtdagmpmdcgedcaaGreat
namespace Go.Proofs.YtdagmpmdcgedcaaGreat
open Go.GV
attribute [local irreducible] AD W Wq Wt
theorem XY {rs:List Int} {ds:List Du} {i:Nat} {d:Du} (hd:ds[i]? = some d) (h:¬ max d.fr d.to<rs.length):D0 rs ds=false:=by
 unfold D0
 have:ds.all (fun d=>decide (max d.fr d.to<rs.length))=false:=by
  rw [List.all_eq_false];exact ⟨d,List.mem_of_getElem? hd,by simpa using h⟩
 rw [this];simp
set_option maxRecDepth 20000 in
set_option maxHeartbeats 4000000 in
theorem XZ (a b:Option Addr) (n c m e:Nat) (rs:List Int) (ds:List Du) (w:World) (R:Rd w a 1 I1 rs) (hn:rs.length=n) (hn2:n≤1000000) (Rd':Rd w b 7 CT ds) (hm:ds.length=m) (hm2:m≤1000000) :
  Ret Tryz.prog 207 #[.slice a n c,.slice b m e] w fun v w'=>v = .bool (D0 rs ds)∧Ext [] w w':=by
 subst hn hm;obtain ⟨w0,rfl⟩:∃ w0,w0=w:=⟨_,rfl⟩;have H:=Ctx.start w0 [];obtain ⟨tt,htt⟩:∃ tt,tt=EX rs:=⟨_,rfl⟩;refine Az (fn:=Tryz.f207) Tryz.func207 U [.slice a rs.length c,.slice b ds.length e] U (by kernel_rfl) ?_;refine Ae (Ai U (Ab (Aa (Au (Ae (Ay U (Be AU U (CZ U U (Ab (Aa (Ao _ U ?_ ?_)))))))))))
 ·intro h1;replace h1:=AM h1;refine Ae (Ai U (Ab (Aa (A5 (Aq (A9 (v:=(.bool _)) U U U ?_))))));exact ⟨congrArg Value.bool (by unfold D0; rw [decide_eq_false (show ¬ rs.length≤16 by omega)]; rfl),H.ext⟩
 ·intro h1;replace h1:=AN h1;have h1':decide (rs.length≤16)=true:=decide_eq_true (by omega);refine Ap (Aa (Au (Ae (Ay U (Al OI (Mb a rs.length c rs _ R U (hn2:=hn2)) U ?_)))));rintro v w ⟨rfl,rfl⟩;rw [← htt];refine CA U (AS U U (AS U U (Af U (Af U (Ab (Aa (Ae (Ad U (Ct U U (Ab (Aa ?_)))))))))));refine Ao _ U ?_ ?_
  ·intro h2;replace h2:=AM h2;refine Ae (Ai U (Ab (Aa (A5 (Aq (A9 (v:=(.bool _)) U U U ?_))))));exact ⟨congrArg Value.bool (by unfold D0; rw [← htt,h2,h1']; rfl),H.ext⟩
  ·intro h2;replace h2:=AN h2;refine Ap (Aa (Ae (A4 U (Ab (Aa (Au (Ae (Ay U (Be CE U (Ad U (Ab (Aa ?_))))))))))));refine A0 (Bv 70368727401360 (α:=LSt) (fun t=>[(7,.slice t.a t.i t.c),(24,.int .i64 (t.i:Int))]) (fun t w'=>t.i≤ds.length∧OS t.a t.i t.c 7 t.full ((EA 0 (ds.take t.i)).flatMap CT)∧Ctx w0 [] w' (ent t.a 67 t.full)∧∀ (j:Nat) (d:Du),j<t.i→ds[j]? = some d→max d.fr d.to<rs.length) (fun t=>ds.length - t.i) ⟨0,none,0,[]⟩ U ?_ ?_ ?_)
   ·exact ⟨rfl,rfl,trivial⟩
   ·exact ⟨Nat.zero_le _,OS.nil,H,fun j d h=>absurd h (Nat.not_lt_zero _)⟩
   ·clear H;rintro ⟨i,a2,c2,full⟩ jj w ⟨hi,O,H,hb⟩; dsimp only at hi O H hb; dsimp only;refine Ae (Bj U U (Ab (Aa (Au (Ao _ U ?_ ?_)))))
    ·intro h3;replace h3:=AM h3;obtain ⟨d,hd⟩:=A8 (l:=ds) (i:=i);obtain ⟨d',hd'⟩:∃ d':Du,d'={ d with id:=(i:Int)+1 }:=⟨_,rfl⟩;refine Ap (Aa (Au (A0 (Ae (Ad U (AX Rd' CE Cg U U (by rfl) ?_))))));refine BW _ Fq Cg U U ((Rd'.ext0 H.ext).row hd U) ?_;refine Ba Ex H ?_;rintro b9 w - H;refine Af U (Bm Cg U U U (by exact Dg _) H at0 U ?_);rintro w H;refine Ab (Aa (Au (Ae (Ah Iq U (AH BZ U H at0 U (Ah Ir U (AH BZ U H at0 U (L9 U U U ?_))))))));refine Ay U (Be AU U (C9 U U (Ab (Aa (Ao _ U ?_ ?_)))))
     ·intro h4;replace h4:=AM h4;refine Ae (Ai U (Ab (Aa (A5 (Aq (AB (Aq (Aq (AB (Aq (A9 (v:=(.bool _)) U U U ?_)))))))))));exact ⟨congrArg Value.bool (XY hd (show ¬ max d.fr d.to<rs.length by omega)).symm,H.ext⟩
     ·intro h4;replace h4:=AN h4;refine Ap (Aa (Ae (Ad U (ED U Se F5 ?_))));refine EI U U ?_;refine Ah G9 U (Ci (.int _ _) Bo U U U H at0 (by (simp; done)) ?_);rintro w H;refine Ab (Aa ?_);replace H:Ctx w0 [] w ((b9,Bl 67 (CT d'))::ent a2 67 full):=by rw [hd']; exact H
      refine Ax (Ay U (Cr Fq Cg U H at0 U (Cj _ (.agg _) CE Cg Ex U (by decide) (by decide) U U U H ?_)));rintro b43 w - H;refine CF (L:=[_]) CE CE Cg Wl Ex U (by decide) U U H O U (by simp [Bg]) ?_;rintro a' c' full' w H O;refine A4 U (Ab (A6 (Aa (Ax (Aw U U ?_)))));refine Ad U (Ab (Aa ?_));refine ⟨⟨i+1,a',c',full'⟩,rfl,⟨rfl,rfl,trivial⟩,⟨by dsimp only; omega,?_,H.tail,fun j x hj hx=>?_⟩,by dsimp only; omega⟩
      ·dsimp only;rw [V8 hd,← hd',List.flatMap_append];exact O
      ·rcases Nat.lt_or_ge j i with h7 | h7
       ·exact hb j x h7 hx
       ·obtain rfl:j=i:=by dsimp only at hj; omega
        rw [hd] at hx;cases hx;omega
    ·intro h3;replace h3:=AN h3;obtain rfl:i=ds.length:=by omega
     rw [List.take_length] at O
     have hal:ds.all (fun d=>decide (max d.fr d.to<rs.length))=true:=by
      rw [List.all_eq_true];intro d hd;obtain ⟨j,hj⟩:=List.mem_iff_getElem?.1 hd;exact decide_eq_true (hb j d (Cu hj) hj)
     have RO:Rd w a2 7 CT (EA 0 ds):=OS.rd O (fun y hy=>H.blk y hy) (fun _ _=>rfl) (by omega)
     have hbr:D0 rs ds=decide (ofC (EA 0 ds) (ds.length+1)=0):=by
      unfold D0;rw [h1',hal,← htt,decide_eq_false h2]; rfl
     obtain ⟨cd,hcd⟩:∃ cd,cd=ofC (EA 0 ds) (ds.length+1):=⟨_,rfl⟩;rw [hbr,← hcd];refine Br (An (An (AK (Aa (Ae (Ay U (Ay U (Be CE U (ED U Se F5 ?_)))))))));refine EI U U ?_;refine Al ca_79 (Ajz a2 ds.length c2 (EA 0 ds) (ds.length+1) _ RO (QQ 0 ds) (fun d hd=>by have:=Aax 0 d hd; omega)) U ?_;rintro v w ⟨p,rfl,hp1,hp2,hx52⟩;obtain ⟨pp,rfl⟩:∃ pp,p = .pointer pp:=by by_cases hz:ofC (EA 0 ds) (ds.length+1)=0; (obtain ⟨bd,_,_,e1,_⟩:=hp2 hz; exact ⟨_,e1⟩); exact ⟨none,hp1 hz⟩
     replace H:=H.call hx52;rw [← hcd];refine CA U (AS U U (AS U U (Cp U (Af U (Ab (Aa (Ae (Ad U (Ct U U (Ai U ?_))))))))));refine Ab (Aa (A5 (A9 (v:=(.bool _)) U U U ?_)));exact ⟨rfl,H.ext⟩
end Go.Proofs.YtdagmpmdcgedcaaGreat
namespace Go.Proofs.YtdagmpmdcgedcaaGreat
open Go.GV
attribute [local irreducible] AD W Wq Wt
def Kj (d:Du):Ed:=⟨d.fr,d.to,d.am,-d.we⟩
def MU (rs:List Int):List Ed:=(List.range (2*rs.length)).map fun j=>if j % 2=0 then ⟨rs.length,(j / 2:Nat),rs.getD (j / 2) 0,0⟩ else ⟨(j / 2:Nat),rs.length,4503599627370496,0⟩
def BD (rs:List Int) (ds:List Du) (net:Bool):List Ed:=ds.map Kj++if net=true then [] else MU rs
theorem Mg {rs:List Int} {i:Nat} {x:Int} (h:rs[i]? = some x):(MU rs)[2*i]? = some ⟨rs.length,i,x,0⟩:=by
 have hl:=Cu h;unfold MU;rw [DX (by omega),if_pos (by omega),show 2*i / 2=i by omega,Bi h]
theorem NQ {rs:List Int} {i:Nat} (h:i<rs.length):(MU rs)[2*i+1]? = some ⟨i,rs.length,4503599627370496,0⟩:=by
 unfold MU;rw [DX (by omega),if_neg (by omega),show (2*i+1) / 2=i by omega]
theorem WI (rs:List Int):(MU rs).length=2*rs.length:=by unfold MU; simp
def edV (e:Ed):List Value:=[.agg (CG e).toArray]
structure RndK (b1 b2 b3:Nat) (a b:Option Addr) (n c m e:Nat) (rs:List Int) (ds:List Du) (net:Bool) (w:World):Prop where
 h1:w.heap[b1]? = some (Bl 27 [.slice b m e])
 h2:w.heap[b2]? = some (Bl 4 [.bool net])
 h3:w.heap[b3]? = some (Bl 35 [.slice a n c])
 R:Rd w a 1 I1 rs
 Rd':Rd w b 7 CT ds
set_option maxRecDepth 20000 in
set_option maxHeartbeats 4000000 in
theorem V9 {b1 b2 b3:Nat} {a b:Option Addr} {n c m e:Nat} {rs:List Int} {ds:List Du} {net:Bool} (hn:rs.length=n) (hm:ds.length=m) (hn2:n≤1000000) (hw:∀ d∈ds,-1000000000≤d.we∧d.we≤1000000000)  (hm2:m≤1000000:=by omega):
  RK Tryz.prog 240 #[ptr b1,ptr b2,ptr b3] [] (fun _ w=>RndK b1 b2 b3 a b n c m e rs ds net w) ((BD rs ds net).map edV):=by
 subst hn hm;intro l w J E hJ0 hJs hEs hK hY;obtain ⟨M0,hJ0⟩:=hJ0;obtain ⟨w0,rfl⟩:∃ w0,w0=w:=⟨_,rfl⟩
 have hat1:∀ (i:Nat) (d:Du),ds[i]? = some d→((BD rs ds net).map edV)[i]? = some (edV (Kj d)):=fun i d hd=>by
  unfold BD;have hl:=Cu hd;rw [List.getElem?_map,List.getElem?_append_left (by rw [List.length_map]; exact hl),List.getElem?_map,hd]; rfl
 have hat2:net=false→∀ (j:Nat) (x:Ed),(MU rs)[j]? = some x→((BD rs ds net).map edV)[ds.length+j]? = some (edV x):=fun h0 j x hx=>by
  unfold BD;rw [h0,List.getElem?_map,List.getElem?_append_right (by rw [List.length_map]; omega),List.length_map,show ds.length+j - ds.length=j by omega];show ((MU rs)[j]?).map edV=_;rw [hx]; rfl
 have hlen:((BD rs ds net).map edV).length=ds.length+if net=true then 0 else 2*rs.length:=by
  unfold BD;rw [List.length_map,List.length_append,List.length_map]
  split
  ·rfl
  ·rw [WI]
 refine Az (fn:=Tryz.f240) Tryz.func240 U [.func (.yield l) #[] #[],.pointer (some ⟨b1,0,none⟩),.pointer (some ⟨b2,0,none⟩),.pointer (some ⟨b3,0,none⟩)] U (by kernel_rfl) ?_;have K0:=(hK _ _ _ hJ0).2;have H:=Ctx.start w0 [];refine Au (Ae (AV LJ U ((by rw [Aj K0.h1]; rfl)) ?_));refine Be CE U (Ad U (Ab (Aa (A0 (Bv 1073737792 (α:=Nat) (fun i=>[(12,.int .i64 (i:Int))]) (fun i w'=>i≤ds.length∧∃ M,J i M w') (fun i=>ds.length - i) 0 U ?_ ?_ ?_)))))
 ·exact ⟨rfl,trivial⟩
 ·exact ⟨Nat.zero_le _,M0,hJ0⟩
 ·clear H;rintro i j w ⟨hi,M,hJ⟩;have KK:=(hK _ _ _ hJ).2;have R:=KK.Rd';obtain ⟨w1,rfl⟩:∃ w1,w1=w:=⟨_,rfl⟩;have H:=Ctx.start w1 [];refine Ae (Bj U U (Ab (Aa (Au (Ao _ U ?_ ?_)))))
  ·intro h1;replace h1:=AM h1;obtain ⟨d,hd⟩:=A8 (l:=ds) (i:=i);have hwd:=hw d (List.mem_of_getElem? hd);refine Ap (Aa (Au (A0 (Ae (AX R CE Cg U U (by rfl) ?_)))));refine BW _ Fq Cg U U ((R.ext0 H.ext).row hd U) ?_;refine Ba Ex H ?_;rintro b6 w - H;refine Bm Cg U U U (by exact Dg _) H at0 U ?_;rintro w H;refine Ab (Aa (Ae (Dq U (.func _ _ _) U ?_)));refine Ah Iq U (AH BZ U H at0 U (Ah Ir U (AH BZ U H at0 U (Ah EM U (AH Bs U H at0 U (Ah LQ U (AH Bs U H at0 U (KZ U U ?_))))))));refine B6 (CG (Kj d)) Zz HM (by kernel_rfl) ?_;have hY1:=hY i (edV (Kj d)) M _ (hat1 i d hd) (hJs _ _ _ _ hJ H.ext);refine GL (vs:=edV (Kj d)) U hY1 U ?_;rintro u w hu
   obtain ⟨bb,rfl,hu1,hu0⟩:∃ bb,u = .bool bb∧(bb=true→∃ M,J (i+1) M w)∧(bb=false→E w):=hu.elim (fun h=>⟨true,h.1,fun _=>let ⟨M',h1,_⟩:=h.2; ⟨M',h1⟩,fun h=>by cases h⟩) (fun h=>⟨false,h.1,(fun h=>by cases h),fun _=>h.2⟩);refine BF U (Ab (Aa (Ao _ U ?_ ?_)))
   ·intro h2;replace h2:=BG h2;refine A5 (AB (Aq (Aq (AB (Aq (FM U U ?_))))));exact .inr (hu0 (by simpa using h2))
   ·intro h2;replace h2:=BH h2;refine Ap (A6 (Aa (Ax (Aw U U ?_))));refine Ad U (Ab (Aa ?_));exact ⟨i+1,rfl,⟨rfl,trivial⟩,⟨by omega,hu1 (by simpa using h2)⟩,by omega⟩
  ·intro h1;replace h1:=AN h1;obtain rfl:i=ds.length:=by omega
   refine Br (An (An (AK (Aa (Au (Ae (AV KG U ((H.old0 (by rw [Aj KK.h2]; rfl))) ?_)))))));refine Ab (Aa (Ao _ U ?_ ?_))
   ·intro h2;refine A5 (Aq (FM U U ?_));exact .inl ⟨M,by rw [hlen,if_pos h2]; exact hJ⟩
   ·intro h2;refine Ap (Aa (Ae (AV BM U ((H.old0 (by rw [Aj KK.h3]; rfl))) ?_)));refine Be AU U (Af U (Ab (Aa (Ae (AV BM U ((H.old0 (by rw [Aj KK.h3]; rfl))) ?_)))));refine Be AU U (Ad U (Ab (Aa (A0 (Bv 72057559678190336 (α:=Nat) (fun i=>[(35,.int .i64 (i:Int))]) (fun i w'=>i≤rs.length∧∃ M,J (ds.length+2*i) M w') (fun i=>rs.length - i) 0 U ?_ ?_ ?_)))))
    ·exact ⟨rfl,trivial⟩
    ·exact ⟨Nat.zero_le _,M,hJ⟩
    ·clear H;rintro i j2 w ⟨hi,M,hJ⟩;have KK:=(hK _ _ _ hJ).2;have R:=KK.R;obtain ⟨w1,rfl⟩:∃ w1,w1=w:=⟨_,rfl⟩;have H:=Ctx.start w1 [];refine Ae (Bj U U (Ab (Aa (Au (Ao _ U ?_ ?_)))))
     ·intro h3;replace h3:=AM h3;obtain ⟨x,hx⟩:=A8 (l:=rs) (i:=i);refine Ap (Aa (Au (A0 (Ae (Ad U (AX R AU Bz U U (by rfl) ?_))))));refine AV Bs U (((R.ext0 H.ext).fld hx U (j:=0) U)) ?_;refine Af U (Af U (Ab (Aa (Ae (Dq U (.func _ _ _) U ?_)))));refine Ad U (Ad U (Ad U (B6 (CG ⟨rs.length,i,x,0⟩) Zz HM (by kernel_rfl) ?_)));have hY1:=hY _ (edV ⟨rs.length,i,x,0⟩) M _ (hat2 h2 _ _ (Mg hx)) (hJs _ _ _ _ hJ H.ext);refine GL (vs:=edV ⟨rs.length,i,x,0⟩) U hY1 U ?_;rintro u w hu;clear H;obtain ⟨bb,rfl,hu1,hu0⟩:∃ bb,u = .bool bb∧(bb=true→∃ M,J (ds.length+2*i+1) M w)∧(bb=false→E w):=hu.elim (fun h=>⟨true,h.1,fun _=>let ⟨M',h1,_⟩:=h.2; ⟨M',h1⟩,fun h=>by cases h⟩) (fun h=>⟨false,h.1,(fun h=>by cases h),fun _=>h.2⟩);refine BF U (A7 U (AO 47 U ?_ ?_))
      ·intro h4;replace h4:=BG h4;refine Ag U (Ag U (Ag U (Ag U (Ag U (Ag U (AF U (.bool _) U (Ab (Aa (DC U (A5 (AB (Aq (Aq (AB (FM U U ?_)))))))))))))));exact .inr (hu0 (by simpa using h4))
      ·intro h4;replace h4:=BH h4;refine Dq U (.func _ _ _) U ?_;refine Ad U (Ad U (B6 (CG ⟨i,rs.length,4503599627370496,0⟩) Zz HM (by kernel_rfl) ?_));obtain ⟨M2,hJ2⟩:∃ M,J (ds.length+2*i+1) M w:=hu1 (by simp_all);have hY2:=hY _ (edV ⟨i,rs.length,4503599627370496,0⟩) M2 _ (hat2 h2 _ _ (NQ (by omega))) hJ2;refine GL (vs:=edV ⟨i,rs.length,4503599627370496,0⟩) U hY2 U ?_;rintro u w hu;obtain ⟨bb,rfl,hv1,hv0⟩:∃ bb,u = .bool bb∧(bb=true→∃ M,J (ds.length+2*i+1+1) M w)∧(bb=false→E w):=hu.elim (fun h=>⟨true,h.1,fun _=>let ⟨M',h1,_⟩:=h.2; ⟨M',h1⟩,fun h=>by cases h⟩) (fun h=>⟨false,h.1,(fun h=>by cases h),fun _=>h.2⟩);refine BF U (AG U (.bool _) U (Ab (Aa (Ao _ U ?_ ?_))))
       ·intro h5;replace h5:=BG h5;refine A5 (AB (Aq (Aq (AB (FM U U ?_)))));exact .inr (hv0 (by simpa using h5))
       ·intro h5;replace h5:=BH h5;refine Ap (A6 (Aa (Ax (Aw U U ?_))));refine Ad U (Ab (Aa ?_));exact ⟨i+1,rfl,⟨rfl,trivial⟩,⟨by omega,by rw [show ds.length+2*(i+1)=ds.length+2*i+1+1 by omega]; exact hv1 (by simpa using h5)⟩,by omega⟩
     ·intro h3;replace h3:=AN h3;refine Br (An (An (AK (CU U U ?_))));obtain rfl:i=rs.length:=by omega
      exact .inl ⟨M,by rw [hlen,if_neg (by rw [h2]; decide)]; exact hJ⟩
end Go.Proofs.YtdagmpmdcgedcaaGreat
namespace Go.Proofs.YtdagmpmdcgedcaaGreat
open Go.GV
attribute [local irreducible] AD W Wq Wt
abbrev U1 (x:Int):List Value:=[Gt x]
instance:DecidableEq Ed:=fun x y=>if h:x.f=y.f∧x.t=y.t∧x.cap=y.cap∧x.cost=y.cost then isTrue (by cases x; cases y; simp_all) else isFalse fun e=>h (by subst e; exact ⟨rfl,rfl,rfl,rfl⟩)
theorem TY (x y:Ed):decide (x=y)=true↔CG x=CG y:=by
 obtain ⟨a,b,c,d⟩:=x;obtain ⟨a',b',c',d'⟩:=y;simp [CG]
set_option maxRecDepth 20000 in
theorem Aj4 (a b:Option Addr) (n c m d:Nat) (xs ys:List Ed) (w:World) (R:Rd w a 4 CG xs) (hn:xs.length=n) (hn2:n≤1000000) (Ry:Rd w b 4 CG ys) (hm:ys.length=m) (hm2:m≤1000000) :
  Ret Tryz.prog 220 #[.slice a n c,.slice b m d] w fun v w'=>v = .bool (decide (xs=ys))∧Ext [] w w':=by
 subst hn hm;obtain ⟨w0,rfl⟩:∃ w0,w0=w:=⟨_,rfl⟩;have H:=Ctx.start w0 [];refine Az (fn:=Tryz.f220) Tryz.func220 U [.slice a xs.length c,.slice b ys.length d] U (by kernel_rfl) ?_;refine Ae (Ai U (Ab (Aa (Au (Ae (Ay U (Be Di U (Ay U (Be Di U (C0 U U ?_))))))))));refine Ab (Aa (Ao _ U ?_ ?_))
 ·intro h1;replace h1:=C7 h1;refine Ae (Ai U (Ab (Aa (A5 (Aq (A9 (v:=(.bool _)) U U U ?_))))));exact ⟨congrArg Value.bool (decide_eq_false fun h=>by rw [h] at h1; simp at h1).symm,H.ext⟩
 ·intro h1;replace h1:=C8 h1;have hle:xs.length=ys.length:=by omega
  refine Ap (Aa (Au (Ae (Ay U (Be Di U (Ad U (Ab (Aa (A0 (Bv 67100720 (α:=Nat) (fun i=>[(13,.int .i64 (i:Int))]) (fun i w'=>i≤xs.length∧Ctx w0 [] w' []∧∀ (k:Nat) (x y:Ed),k<i→xs[k]? = some x→ys[k]? = some y→x=y) (fun i=>xs.length - i) 0 U ?_ ?_ ?_))))))))))
  ·exact ⟨rfl,trivial⟩
  ·exact ⟨Nat.zero_le _,H,fun k x y h=>absurd h (Nat.not_lt_zero _)⟩
  ·clear H;rintro i j w ⟨hi,H,hb⟩;refine Ae (Bj U U (Ab (Aa (Au (Ao _ U ?_ ?_)))))
   ·intro h2;replace h2:=AM h2;obtain ⟨x,hx⟩:=A8 (l:=xs) (i:=i);obtain ⟨y,hy⟩:=A8 (l:=ys) (i:=i);refine Ap (Aa (Au (A0 (Ae (Ad U (Af U (Ab (Aa (Dw (fun x=>x=_) Bq (by kernel_rfl) U ?_)))))))));refine Ch U (AY U (BE R Di Dj U U (by rfl) ?_));refine Gu _ IK Dj U U (by rintro _ rfl; exact ((R.ext0 H.drew.ext).row hx rfl)) ?_;refine Ch U (AY U (BE Ry Di Dj U U (by rfl) ?_));refine Gu _ IK Dj U U (by rintro _ rfl; exact ((Ry.ext0 H.drew.ext).row hy rfl)) ?_;refine Wh (ks:=[true,true,true,true]) (xs:=CG x) (ys:=CG y) (decide (x=y)) U (by kernel_rfl) U U ⟨rfl,rfl,rfl,rfl,trivial⟩ (TY x y) ?_;refine BQ ?_;rintro _ rfl;replace H:=H.drew;refine Ao _ U ?_ ?_
    ·intro h3;refine Ae (Ai U (Ab (Aa (A5 (AB (Aq (Aq (AB (Aq (A9 (v:=(.bool _)) U U U ?_))))))))));have hne:¬ x=y:=by simpa using h3
     exact ⟨congrArg Value.bool (decide_eq_false fun h=>by subst h; rw [hx] at hy; injection hy with hy; exact hne hy).symm,H.ext⟩
    ·intro h3;refine Ap (A6 (Aa (Ax (Aw U U ?_))));refine Ad U (Ab (Aa ?_));have heq:x=y:=by simpa using h3
     refine ⟨i+1,rfl,⟨rfl,trivial⟩,⟨by omega,H,fun k x' y' hk hx' hy'=>?_⟩,by omega⟩
     rcases Nat.lt_or_ge k i with h7 | h7
     ·exact hb k x' y' h7 hx' hy'
     ·obtain rfl:k=i:=by omega
      rw [hx] at hx'; rw [hy] at hy';cases hx'; cases hy';exact heq
   ·intro h2;replace h2:=AN h2;refine Br (An (An (AK (Aa (Ae (Ai U (Ab (Aa (A5 (A9 (v:=(.bool _)) U U U ?_))))))))));obtain rfl:i=xs.length:=by omega
    exact ⟨congrArg Value.bool (decide_eq_true (Mf hle hb)).symm,H.ext⟩
set_option maxRecDepth 20000 in
theorem Aj5 (a b:Option Addr) (n c m d:Nat) (xs ys:List Int) (w:World) (R:Rd w a 1 U1 xs) (hn:xs.length=n) (hn2:n≤1000000) (Ry:Rd w b 1 U1 ys) (hm:ys.length=m) (hm2:m≤1000000) :
  Ret Tryz.prog 221 #[.slice a n c,.slice b m d] w fun v w'=>v = .bool (decide (xs=ys))∧Ext [] w w':=by
 subst hn hm;obtain ⟨w0,rfl⟩:∃ w0,w0=w:=⟨_,rfl⟩;have H:=Ctx.start w0 [];refine Az (fn:=Tryz.f221) Tryz.func221 U [.slice a xs.length c,.slice b ys.length d] U (by kernel_rfl) ?_;refine Ae (Ai U (Ab (Aa (Au (Ae (Ay U (Be Bt U (Ay U (Be Bt U (C0 U U ?_))))))))));refine Ab (Aa (Ao _ U ?_ ?_))
 ·intro h1;replace h1:=C7 h1;refine Ae (Ai U (Ab (Aa (A5 (Aq (A9 (v:=(.bool _)) U U U ?_))))));exact ⟨congrArg Value.bool (decide_eq_false fun h=>by rw [h] at h1; simp at h1).symm,H.ext⟩
 ·intro h1;replace h1:=C8 h1;have hle:xs.length=ys.length:=by omega
  refine Ap (Aa (Au (Ae (Ay U (Be Bt U (Ad U (Ab (Aa (A0 (Bv 67100720 (α:=Nat) (fun i=>[(13,.int .i64 (i:Int))]) (fun i w'=>i≤xs.length∧Ctx w0 [] w' []∧∀ (k:Nat) (x y:Int),k<i→xs[k]? = some x→ys[k]? = some y→x=y) (fun i=>xs.length - i) 0 U ?_ ?_ ?_))))))))))
  ·exact ⟨rfl,trivial⟩
  ·exact ⟨Nat.zero_le _,H,fun k x y h=>absurd h (Nat.not_lt_zero _)⟩
  ·clear H;rintro i j w ⟨hi,H,hb⟩;refine Ae (Bj U U (Ab (Aa (Au (Ao _ U ?_ ?_)))))
   ·intro h2;replace h2:=AM h2;obtain ⟨x,hx⟩:=A8 (l:=xs) (i:=i);obtain ⟨y,hy⟩:=A8 (l:=ys) (i:=i);refine Ap (Aa (Au (A0 (Ae (Ad U (Af U (Ab (Aa (Dw (fun x=>x=_) Bq (by kernel_rfl) U ?_)))))))));refine Ch U (AY U (BE R Bt Bo U U (by rfl) ?_));refine BR B1 U (by rintro _ rfl; exact (((R.ext0 H.drew.ext).fld hx rfl (j:=0) rfl))) ?_;refine Ch U (AY U (BE Ry Bt Bo U U (by rfl) ?_));refine BR B1 U (by rintro _ rfl; exact (((Ry.ext0 H.drew.ext).fld hy rfl (j:=0) rfl))) ?_;refine IF U U (BQ ?_);rintro _ rfl;replace H:=H.drew;refine Ao _ U ?_ ?_
    ·intro h3;replace h3:=C7 h3;refine Ae (Ai U (Ab (Aa (A5 (AB (Aq (Aq (AB (Aq (A9 (v:=(.bool _)) U U U ?_))))))))));have hne:¬ x=y:=h3;exact ⟨congrArg Value.bool (decide_eq_false fun h=>by subst h; rw [hx] at hy; injection hy with hy; exact hne hy).symm,H.ext⟩
    ·intro h3;replace h3:=C8 h3;refine Ap (A6 (Aa (Ax (Aw U U ?_))));refine Ad U (Ab (Aa ?_));have heq:x=y:=by omega
     refine ⟨i+1,rfl,⟨rfl,trivial⟩,⟨by omega,H,fun k x' y' hk hx' hy'=>?_⟩,by omega⟩
     rcases Nat.lt_or_ge k i with h7 | h7
     ·exact hb k x' y' h7 hx' hy'
     ·obtain rfl:k=i:=by omega
      rw [hx] at hx'; rw [hy] at hy';cases hx'; cases hy';exact heq
   ·intro h2;replace h2:=AN h2;refine Br (An (An (AK (Aa (Ae (Ai U (Ab (Aa (A5 (A9 (v:=(.bool _)) U U U ?_))))))))));obtain rfl:i=xs.length:=by omega
    exact ⟨congrArg Value.bool (decide_eq_true (Mf hle hb)).symm,H.ext⟩
theorem Ya (a b:Option Addr) (n c m d:Nat) (net:Bool) (w:World):Ret Tryz.prog 208 #[.slice a n c,.slice b m d,.bool net] w fun v w'=>∃ b1 b2 b3,v = .func (.func 240) #[] #[ptr b1,ptr b2,ptr b3]∧Ctx w [] w' [(b2,Bl 4 [.bool net]),(b1,Bl 27 [.slice b m d]),(b3,Bl 35 [.slice a n c])]:=by
 obtain ⟨w0,rfl⟩:∃ w0,w0=w:=⟨_,rfl⟩;have H:=Ctx.start w0 [];refine Az (fn:=Tryz.f208) Tryz.func208 U [.slice a n c,.slice b m d,.bool net] U (by kernel_rfl) ?_;refine Ae (Bx _ (.slice _ _ _) U U H ?_);rintro b3 w - H;refine Bx _ (.slice _ _ _) U U H ?_;rintro b4 w - H;refine Bx _ (.bool _) U U H ?_;rintro b5 w - H;refine CY U .nilFunc U ?_;refine Ab (Aa (Ae (Ck [.pointer _,.pointer _,.pointer _] U (CY U (.func _ _ _) U ?_))));refine Ab (Aa (A5 (A9 (v:=(.func _ _ _)) U U U ?_)));exact ⟨_,_,_,rfl,H⟩
end Go.Proofs.YtdagmpmdcgedcaaGreat
namespace Go.Proofs.YtdagmpmdcgedcaaGreat
open Go.GV
attribute [local irreducible] AD W Wq Wt
end Go.Proofs.YtdagmpmdcgedcaaGreat
namespace Go.Proofs.YtdagmpmdcgedcaaGreat
open Go.GV
attribute [local irreducible] AD W Wq Wt
theorem Aay (l:List Int):∀ v∈l.map Dm,Bg v=true:=fun v hv=>by
 obtain ⟨x,_,rfl⟩:=List.mem_map.1 hv; rfl
theorem MV (a:Option Addr) (n c:Nat) (xs:List Int) (w:World) (R:Rd w a 1 I1 xs) (hn:xs.length=n)  (hm:n≤1000000000:=by omega):
  Ret Tryz.prog 166 #[.slice a n c] w fun v w'=>Fresh w w' 2 1 v (xs.map Dm):=by
 subst hn;obtain ⟨w0,rfl⟩:∃ w0,w0=w:=⟨_,rfl⟩;have H:=Ctx.start w0 [];refine Az (fn:=Tryz.f166) Tryz.func166 U [.slice a xs.length c] U (by kernel_rfl) ?_;refine Ae (A4 U (Ab (Aa (Au (Ae (Ay U (IE U AU U (Ab (Aa (Ao _ U ?_ ?_))))))))))
 ·intro h1;have ha:a=none:=by simpa using h1
  subst ha
  have hxs:xs=[]:=by
   cases xs with
   | nil=>rfl
   | cons x xs=>obtain ⟨b,o,h⟩:=R.some' (by simp); cases h
  subst hxs;refine Ae (A4 U (Ab (Aa (A5 (Aq (A9 (v:=(.slice _ _ _)) U U U ?_))))));exact Fresh.nil H _ _
 ·intro h1;refine Ap (Aa (Ae (Ht U AU Bz H ?_)));rintro b5 w H O;refine Ay U (Hs U AU AU Bz Lh Ei U (by decide) (xs.map Dm) U U H O (by simp) (Aay xs) (Rd.app1 (f:=Dm) (R.ext0 H.ext)) ?_);rintro a7 c7 full7 w H O;refine A4 U (Ab (Aa (A5 (A9 (v:=(.slice _ _ _)) U U U ?_))));exact H.fresh O
def Sz (k:Int) (n:Nat):Nat:=(max 0 (min k (n:Int))).toNat
theorem WJ (N:Int) (a b:Option Addr) (n c m d:Nat) (k:Int) (fl:List Int) (w:World) (R:Rd w b 1 I1 fl) (hm:fl.length=m) (hd:m≤d) (hm2:m≤1000000) :
  Ret Tryz.prog 114 #[DT N a n c,.slice b m d,.int .i64 k] w fun v w'=>Fresh w w' 2 1 v ((fl.take (Sz k m)).map Dm):=by
 subst hm;obtain ⟨w0,rfl⟩:∃ w0,w0=w:=⟨_,rfl⟩;have H:=Ctx.start w0 [];have hk:Sz k fl.length≤fl.length:=by unfold Sz; omega
 refine Az (fn:=Tryz.f114) Tryz.func114 U [DT N a n c,.slice b fl.length d,.int .i64 k] U (by kernel_rfl) ?_;refine Ae (Bx [.int .i64 N,.slice a n c] (.agg _) U U H ?_);rintro b3 w - H;refine A4 U (Ab (Aa (Ae (Ay U (Ad U (Ay U (Be AU U (Ac0 U U U ?_))))))));refine L9 U U U ?_;refine JM U AU Bz U U ?_;refine Al Vc (MV b (Sz k fl.length) d (fl.take (Sz k fl.length)) _ ((R.ext0 H.ext).take _) (by rw [List.length_take]; omega)) U ?_;rintro v w F;obtain ⟨a9,n9,c9,f9,rfl,O9,hb9⟩:=F.ex;refine A4 U (Ab (Aa (A5 (A9 (v:=(.slice _ _ _)) U U U ?_))));exact ⟨⟨a9,n9,c9,f9,rfl,O9,fun x hx=>⟨(hb9 x hx).1,Nat.le_trans H.size (hb9 x hx).2⟩⟩,H.ext.trans F.ext⟩
end Go.Proofs.YtdagmpmdcgedcaaGreat
namespace Go.Proofs.YtdagmpmdcgedcaaGreat
open Go.GV
attribute [local irreducible] AD W Wq Wt
section
variable {P:Program} {r:Option Nat} {ops rest:List Oper} {Q:Exit→Env→World→Prop} {e:Env} {w:World} {dst:Option Tmp} {ty:TypeId} {pos:String} {af:Array Edge} {g:Option (Nat × Bool)}
theorem S1 {t k el:TypeId} {kk:IntKind} {x y:Operand} {b:Nat} {o:Obj} {m:List (Int × Value)} {n:Int} {z:Value} (hg:AR ⟨dst,.lookup t x y true,ty,pos,af,g⟩ ops e=true)
  (ht:LB P t=some (k,el)) (hk:P.underlying k=some (.int kk)) (hz:(P.info? el).bind (·.zero)=some z) (hx:ev e x = .map (some b)) (hy:ev e y = .int kk n) (hb:w.heap[b]? = some o) (hM:Db kk m o)
  (h:AD P r ops Q rest (put e dst (.tuple #[(Eo m n).getD z,.bool (Eo m n).isSome])) w):AD P r ops Q (⟨dst,.lookup t x y true,ty,pos,af,g⟩::rest) e w:=by
 have H:Ctx w [b] w [(b,o)]:=Ctx.start1 hb;exact GK hg ht hk hz hx hy H at0 hM h
end
def Mi (ds:List Du) (k:Int):Du:=(CQ ds k).getD d00
set_option maxRecDepth 20000 in
set_option maxHeartbeats 2000000 in
theorem S2 {bd b:Nat} {nx k:Int} {o:Obj} {ds:List Du} (w:World) (hd:w.heap[bd]? = some (Bl 165 (DU b nx))) (hb:w.heap[b]? = some o) (hM:Db .u64 (dm ds) o) :
  Ret Tryz.prog 118 #[ptr bd,.int .u64 k] w fun v w'=>v = .tuple #[Gm (Mi ds k),.bool (CQ ds k).isSome]∧Ext [] w w':=by
 obtain ⟨w0,rfl⟩:∃ w0,w0=w:=⟨_,rfl⟩;have H:=Ctx.start w0 []
 have hmg:(Eo (dm ds) k).getD (Gm d00)=Gm (Mi ds k):=by
  rw [Hx];unfold Mi;cases CQ ds k <;> rfl
 have hms:(Eo (dm ds) k).isSome=(CQ ds k).isSome:=by
  rw [Hx];cases CQ ds k <;> rfl
 refine Az (fn:=Tryz.f118) Tryz.func118 U [.pointer (some ⟨bd,0,none⟩),.int .u64 k] U (by kernel_rfl) ?_;refine Ae (Ba Ex H ?_);rintro b4 w - H;refine Ai U (Ab (Aa (Au (Ae (A2 U (Cw I6 U ?_))))));refine Ab (Aa (Ao _ U ?_ ?_))
 ·intro h0;cases h0
 ·intro h0;refine Ap (Aa (Ae (A2 U (AA U (Ah DP U (AV Fo U ((H.old0 (by rw [Aj hd]; rfl))) ?_))))));refine Ad U (S1 (z:=Gm d00) U F8 F5 OY U U (H.ext.to hb (by simp)) hM ?_);rw [hmg,hms];refine CA U (AS U U (AS U U (Ba Ex H ?_)));rintro b6 w - H;refine Bm Cg U U U (by exact Dg (Mi ds k)) H at0 U ?_;rintro w H;refine Ai U (Ab (Aa (Ae (Cr Fq Cg U H at0 U (A7 U (Bm Cg U U U (by exact Dg (Mi ds k)) H at1 U ?_))))));rintro w H;refine Ai U (Ab (Aa (A5 (Im U U U Fq Cg H at1 U (show _=(.bool _) from rfl) ?_))));exact ⟨rfl,H.ext⟩
theorem Aei (w:World):Ret Tryz.prog 47 #[] w fun v w'=>∃ bd b o,v=ptr bd∧Db .u64 (dm []) o∧Ctx w [] w' [(bd,Bl 165 (DU b 1)),(b,o)]:=by
 obtain ⟨w0,rfl⟩:∃ w0,w0=w:=⟨_,rfl⟩;have H:=Ctx.start w0 [];refine Az (fn:=Tryz.f47) Tryz.func47 U [] U (by kernel_rfl) ?_;refine Ae (Cp U (Ab (Aa (Ae (Oq .u64 U H ?_)))));rintro b o w hM H;refine B6 (DU b 1) Zw Z6 (by kernel_rfl) ?_;refine Bx (DU b 1) (.agg _) U U H ?_;rintro b3 w - H;refine Cp U (Ab (Aa (A5 (A9 (v:=(.pointer _)) U U U ?_))));exact ⟨b3,b,o,rfl,hM,H⟩
end Go.Proofs.YtdagmpmdcgedcaaGreat
namespace Go.Proofs.YtdagmpmdcgedcaaGreat
open Go.GV
attribute [local irreducible] AD W Wq Wt
def dueB (n:Nat) (d:Du):Bool:=Ej d && (decide (d.fr<n) && decide (d.to<n))
def r19B (rs:List Int) (ds:List Du):Bool:=(decide (rs.length≤16) && decide (ds.length≤64)) && (rs.all Df && (ds.all (dueB rs.length) && decide ((EX (ds.map Du.am)).2=0)))
theorem Aaz (ds:List Du):∀ i,(EA i ds).map Du.am=ds.map Du.am:=by
 induction ds with
 | nil=>intro i; rfl
 | cons d ds ih=>intro i; show d.am::(EA (i+1) ds).map Du.am=d.am::ds.map Du.am; rw [ih]
theorem Aa0 (rs:List Int):decide ((EX rs).2=1) = !rs.all Df:=by
 unfold EX
 cases h:rs.all Df with
 | false=>rw [if_pos rfl]; rfl
 | true =>
  rw [if_neg (by decide)]
  split <;> rfl
theorem Aj6 (rs:List Int) (ds:List Du) (hl:ds.length≤1000000):r19B rs ds=D0 rs ds:=by
 have h1:decide (ofC (EA 0 ds) (ds.length+1)=0)=(decide (ds.length≤64) && (ds.all Ej && decide ((EX (ds.map Du.am)).2=0))):=by
  have ha:=XX (ds:=ds) 0;rw [show (((0:Nat):Int)+ds.length+1)=(ds.length:Int)+1 by omega] at ha;have ham:(EA 0 ds).map (·.am)=ds.map Du.am:=Aaz ds 0;unfold ofC;rw [QQ,ham,show FH ((ds.length:Int)+1) 0 (EA 0 ds)=ds.all Ej from ha]
  by_cases h64:64<ds.length
  ·rw [if_pos h64,decide_eq_false (show ¬ ds.length≤64 by omega)]; rfl
  ·rw [if_neg h64,decide_eq_true (show ds.length≤64 by omega),Bool.true_and,if_neg (by rw [decide_eq_true (show 1≤(ds.length:Int)+1 by omega),decide_eq_true (show (ds.length:Int)+1≤4611686018427387904 by omega)]; decide)]
   cases hm:ds.all Ej with
   | false=>rw [if_pos rfl]; rfl
   | true=>rw [if_neg (by decide),Bool.true_and]
 have h2:ds.all (dueB rs.length)=(ds.all (fun d=>decide (max d.fr d.to<rs.length)) && ds.all Ej):=by
  rw [Bool.eq_iff_iff];simp only [Bool.and_eq_true,List.all_eq_true,decide_eq_true_eq,dueB];constructor
  ·intro h;exact ⟨fun d hd=>by have:=h d hd; omega,fun d hd=>(h d hd).1⟩
  ·intro h d hd;have:=h.1 d hd;exact ⟨h.2 d hd,by omega,by omega⟩
 unfold r19B D0;rw [h1,h2,Aa0];cases decide (rs.length≤16) <;> cases decide (ds.length≤64) <;> cases rs.all Df <;> cases ds.all (fun d=>decide (max d.fr d.to<rs.length)) <;> cases ds.all Ej <;> rfl
end Go.Proofs.YtdagmpmdcgedcaaGreat
namespace Go.Proofs.YtdagmpmdcgedcaaGreat
open Go.GV
attribute [local irreducible] AD W Wq Wt
def inA (acs:List Ac) (k:Int):Bool:=decide (0≤k) && decide (k<acs.length)
def Ds (acs:List Ac) (k:Int):Ac:=if inA acs k=true then acs.getD k.toNat a00 else a00
set_option maxRecDepth 20000 in
set_option maxHeartbeats 2000000 in
theorem NR {bd:Nat} (a:Option Addr) (n c:Nat) (acs:List Ac) (k:Int) (w:World) (hd:w.heap[bd]? = some (Bl 162 [.slice a n c])) (R:Rd w a 2 CX acs) (hn:acs.length=n) (hm:n≤1000000) :
  Ret Tryz.prog 117 #[ptr bd,.int .i64 k] w fun v w'=>v = .tuple #[.agg (CX (Ds acs k)).toArray,.bool (inA acs k)]∧Ext [] w w':=by
 subst hn;obtain ⟨w0,rfl⟩:∃ w0,w0=w:=⟨_,rfl⟩;have H:=Ctx.start w0 [];refine Az (fn:=Tryz.f117) Tryz.func117 U [.pointer (some ⟨bd,0,none⟩),.int .i64 k] U (by kernel_rfl) ?_;refine Ae (Ba JA H ?_);rintro b4 w - H;refine Ai U (Ab (Aa (Au (Ae (Cb (α:=Unit) 2097088 (fun _=>[(20,.bool (!inA acs k))]) (fun _ w'=>Ctx w0 [] w' [(b4,Bl 43 (CX a00))]) U ?_ ?_)))))
 ·refine A2 U (Cw Nm U ?_);refine A7 U (AO 8 U ?_ ?_)
  ·intro h1;refine Ag U (Ag U (AF U (.bool _) U (A7 U (Ag U (Ag U (Ag U (Ag U (Ag U (Ag U ?_)))))))));refine Ag U (AF U (.bool _) U (Ab ?_));exact ⟨rfl,(),rfl,⟨congrArg Value.bool (by unfold inA; rw [Bool.eq_iff_iff]; simp_all; try omega),trivial⟩,H⟩
  ·intro h2;refine Ad U (Bj U U (AG U (.bool _) U (A7 U (AO 12 U ?_ ?_))))
   ·intro h3;replace h3:=AM h3;refine Ag U (Ag U (Ag U (Ag U (Ag U (Ag U (Ag U (AF U (.bool _) U (Ab ?_))))))));exact ⟨rfl,(),rfl,⟨congrArg Value.bool (by unfold inA; rw [Bool.eq_iff_iff]; simp_all; try omega),trivial⟩,H⟩
   ·intro h4;replace h4:=AN h4;refine Ad U (A2 U (AA U (Ah E5 U (AV Ff U ((H.old0 (by rw [Aj hd]; rfl))) ?_))));refine Be DA U (C9 U U (AG U (.bool _) U (Ab ?_)));exact ⟨rfl,(),rfl,⟨congrArg Value.bool (by unfold inA; rw [Bool.eq_iff_iff]; simp_all; try omega),trivial⟩,H⟩
 rintro - j20 w H;refine Ao _ U ?_ ?_
 ·intro h1;replace h1:=BG h1;refine Ae (B6 [.int .i64 0,.int .i64 0] Afr JA (by kernel_rfl) ?_);refine Bm DB U U U (by simp [Bg]) H at0 U ?_;rintro w H;refine Ai U (Ab (Aa (A5 (Aq (Im U U U OH DB H at0 U (show _=(.bool _) from rfl) ?_)))));have h1':inA acs k=false:=by simpa using h1
  exact ⟨by unfold Ds; rw [h1',if_neg (by decide)]; rfl,H.ext⟩
 ·intro h1;replace h1:=BH h1;have h1':inA acs k=true:=by simpa using h1
  have h2:0≤k∧k<acs.length:=by unfold inA at h1'; simpa using h1'
  obtain ⟨i,rfl⟩:∃ i:Nat,k=(i:Int):=⟨k.toNat,by omega⟩;obtain ⟨x,hx⟩:=A8 (l:=acs) (i:=i);refine Ap (Aa (Ae (A2 U (AA U (Ah E5 U (AV Ff U ((H.old0 (by rw [Aj hd]; rfl))) ?_))))));refine Ad U (AX R DA DB U U (by rfl) ?_);refine BW _ OH DB U U ((R.ext0 H.ext).row hx U) ?_;refine Bm DB U U U (by exact Ja _) H at0 U ?_;rintro w H;refine Ai U (Ab (Aa (A5 (Im U U U OH DB H at0 U (show _=(.bool _) from rfl) ?_))));exact ⟨by unfold Ds; rw [h1',if_pos rfl,show ((i:Int)).toNat=i from rfl,Bi hx],H.ext⟩
end Go.Proofs.YtdagmpmdcgedcaaGreat
namespace Go.Proofs.YtdagmpmdcgedcaaGreat
open Go.GV
attribute [local irreducible] AD W Wq Wt
section
variable {P:Program} {r:Option Nat} {ops rest:List Oper} {Q:Exit→Env→World→Prop} {e:Env} {w:World} {dst:Option Tmp} {ty:TypeId} {pos:String} {af:Array Edge} {g:Option (Nat × Bool)}
theorem Aej {t k el:TypeId} {kk:IntKind} {x:Operand} {b:Nat} {o:Obj} {m:List (Int × Value)} (hg:AR ⟨dst,.call ⟨.builtin .len,#[x],#[t]⟩,ty,pos,af,g⟩ ops e=true) (ht:LB P t=some (k,el)) (hx:ev e x = .map (some b)) (hb:w.heap[b]? = some o) (hM:Db kk m o)
  (h:AD P r ops Q rest (put e dst (.int .i64 (m.length:Int))) w):AD P r ops Q (⟨dst,.call ⟨.builtin .len,#[x],#[t]⟩,ty,pos,af,g⟩::rest) e w:=by
 obtain ⟨es,clock,rfl,hes,_⟩:=hM
 have hl:es.size=m.length:=by
  have:=congrArg List.length hes
  simpa using this
 have hgo:(getObj b).run P w = .ok (.map es clock) w:=by simp [getObj,Sem.run,hb]
 exact BC hg U (by simp [execOp,resolve,invoke,builtin,hx,Builtin.len_,Bd (HD ht),hgo,goInt,hl]) h
end
theorem Aa1 {ds:List Du} {d:Du} (h:Eo (dm ds) d.id=none):LA (dm ds) d.id (Gm d)=dm (ds++[d]):=by
 rw [← Aan];generalize dm ds=m at h
 induction m with
 | nil=>rfl
 | cons p m ih =>
  have hp:¬ p.1=d.id:=by
   intro hp;simp [Eo,hp] at h
  have hb2:(p.1 == d.id)=false:=by simpa using hp
  have hm2:Eo m d.id=none:=by rw [← h]; simp [Eo,hb2]
  simp [LA,hp,ih hm2]
end Go.Proofs.YtdagmpmdcgedcaaGreat
namespace Go.Proofs.YtdagmpmdcgedcaaGreat
open Go.GV
attribute [local irreducible] AD W Wq Wt
def nodeR (N k:Int):Bool:=decide (0≤k) && decide (k<N)
end Go.Proofs.YtdagmpmdcgedcaaGreat
namespace Go.Proofs.YtdagmpmdcgedcaaGreat
open Go.GV
theorem Dp {xs:List Int}:(EX xs).2=0↔(∀ x∈xs,Df x=true)∧BN xs≤4503599627370496:=by
 unfold EX
 cases h:xs.all Df with
 | false =>
  rw [if_pos rfl];refine ⟨fun h=>by simp at h,fun h2=>?_⟩;rw [List.all_eq_true.2 h2.1] at h; cases h
 | true =>
  rw [if_neg (by decide)];rw [List.all_eq_true] at h
  split
  ·rename_i h3; exact ⟨fun _=>⟨h,h3⟩,fun _=>rfl⟩
  ·rename_i h3; exact ⟨fun h=>by simp at h,fun h4=>absurd h4.2 h3⟩
theorem Fy {ds:List Du} {nx:Int}:ofC ds nx=0↔ds.length≤64∧(1≤nx∧nx≤4611686018427387904)∧FH nx 0 ds=true∧(EX (ds.map (·.am))).2=0:=by
 unfold ofC
 by_cases h1:64<ds.length
 ·rw [if_pos h1]; exact ⟨fun h=>by simp at h,fun h=>absurd h.1 (by omega)⟩
 rw [if_neg h1]
 by_cases h2:1≤nx∧nx≤4611686018427387904
 ·rw [decide_eq_true h2.1,decide_eq_true h2.2,if_neg (by decide)]
  cases h3:FH nx 0 ds with
  | false=>rw [if_pos rfl]; exact ⟨fun h=>by simp at h,fun h=>by cases h.2.2.1⟩
  | true=>rw [if_neg (by decide)]; exact ⟨fun h=>⟨by omega,h2,rfl,h⟩,fun h=>h.2.2.2⟩
 ·have:(decide (1≤nx) && decide (nx≤4611686018427387904))=false:=by
   rw [Bool.eq_false_iff]; intro h; simp only [Bool.and_eq_true,decide_eq_true_eq] at h; exact h2 h
  rw [if_pos this];exact ⟨fun h=>by simp at h,fun h=>absurd h.2.1 h2⟩
theorem Aek {nx a b:Int} {ds:List Du} (h:FH nx b ds=true) (hab:a≤b:=by omega):FH nx a ds=true:=by
 cases ds with
 | nil=>rfl
 | cons d ds =>
  simp only [FH,Bool.and_eq_true,decide_eq_true_eq] at h ⊢;exact ⟨⟨h.1.1,by omega,h.1.2.2⟩,h.2⟩
def DH:List Du→List Int→List Du
 | [],_=>[]
 | d::ds,[]=>d::ds
 | d::ds,x::xs=>if d.held=true then d::DH ds (x::xs) else if d.am=x then DH ds xs else { d with am:=d.am - x }::DH ds xs
theorem MW (ds:List Du):DH ds []=ds:=by cases ds <;> rfl
theorem FP {d:Du} (h:d.held=true) (ds:List Du) (xs:List Int):DH (d::ds) xs=d::DH ds xs:=by
 cases xs with
 | nil=>rw [MW,MW]
 | cons x xs=>show (if d.held=true then _ else _)=_; rw [if_pos h]
theorem FQ {d:Du} (h:¬ d.held=true) (ds:List Du) (x:Int) (xs:List Int):DH (d::ds) (x::xs)=(if d.am=x then [] else [{ d with am:=d.am - x }])++DH ds xs:=by
 show (if d.held=true then _ else _)=_;rw [if_neg h]
 split <;> rfl
theorem EY (d:Du) (ds:List Du):opn (d::ds)=(if d.held=true then [] else [d])++opn ds:=by
 unfold opn;rw [List.filter_cons];cases d.held <;> rfl
def PayIn (os:List Du) (xs:List Int):Prop:=os.length=xs.length∧∀ (i:Nat) (d:Du) (x:Int),os[i]? = some d→xs[i]? = some x→0≤x∧x≤d.am
theorem PayIn.tail {d:Du} {x:Int} {os:List Du} {xs:List Int} (h:PayIn (d::os) (x::xs)):(0≤x∧x≤d.am)∧PayIn os xs :=
 ⟨h.2 0 d x rfl rfl,by have:=h.1; simp only [List.length_cons] at this; omega,fun i e y he hy=>h.2 (i+1) e y he hy⟩
theorem PayIn.cons {d:Du} {os:List Du} {xs:List Int} (h:PayIn (d::os) xs):∃ x xs',xs=x::xs':=by
 cases xs with
 | nil=>have:=h.1; simp at this
 | cons x xs=>exact ⟨x,xs,rfl⟩
theorem Jb {motive:List Du→List Int→Prop} (h0:∀ xs,motive [] xs) (h1:∀ d ds xs,d.held=true→motive ds xs→motive (d::ds) xs) (h2:∀ d ds x xs,¬ d.held=true→0≤x→x≤d.am→motive ds xs→motive (d::ds) (x::xs)):∀ (ds:List Du) (xs:List Int),PayIn (opn ds) xs→motive ds xs
 | [],xs,_=>h0 xs
 | d::ds,xs,h=>by
  rw [EY] at h
  by_cases hd:d.held=true
  ·rw [if_pos hd] at h;exact h1 d ds xs hd (Jb h0 h1 h2 ds xs h)
  ·rw [if_neg hd] at h;obtain ⟨x,xs,rfl⟩:=PayIn.cons h;obtain ⟨ha,hb⟩:=PayIn.tail h;exact h2 d ds x xs hd ha.1 ha.2 (Jb h0 h1 h2 ds xs hb)
theorem Aa2 {nx:Int} {ds:List Du} {xs:List Int} (h:PayIn (opn ds) xs):∀ ah,FH nx ah ds=true→FH nx ah (DH ds xs)=true:=by
 refine Jb (motive:=fun ds xs=>∀ ah,FH nx ah ds=true→FH nx ah (DH ds xs)=true) ?_ ?_ ?_ ds xs h
 ·intro xs ah h; exact h
 ·intro d ds xs hd ih ah h;rw [FP hd];simp only [FH,Bool.and_eq_true,decide_eq_true_eq] at h ⊢;exact ⟨h.1,ih _ h.2⟩
 ·intro d ds x xs hd h0 h1 ih ah h;rw [FQ hd];simp only [FH,Bool.and_eq_true,decide_eq_true_eq] at h
  by_cases he:d.am=x
  ·rw [if_pos he];exact Aek (ih _ h.2)
  ·rw [if_neg he];show FH nx ah ({ d with am:=d.am - x }::DH ds xs)=true;simp only [FH,Bool.and_eq_true,decide_eq_true_eq];refine ⟨⟨?_,h.1.2⟩,ih _ h.2⟩;have hm:=h.1.1;unfold Ej Df at hm ⊢;simp only [Bool.and_eq_true,decide_eq_true_eq,Bool.not_eq_true',decide_eq_false_iff_not] at hm ⊢;exact ⟨hm.1,by omega,by omega,hm.2.2.2⟩
theorem Aa3 {ds:List Du} {xs:List Int} (h:PayIn (opn ds) xs):(DH ds xs).length≤ds.length:=by
 refine Jb (motive:=fun ds xs=>(DH ds xs).length≤ds.length) ?_ ?_ ?_ ds xs h
 ·intro xs; exact Nat.le_refl _
 ·intro d ds xs hd ih; rw [FP hd]; simpa using ih
 ·intro d ds x xs hd _ _ ih;rw [FQ hd,List.length_append,List.length_cons]
  split <;> simp <;> omega
theorem TZ (c:Du→Int) (hc:∀ d z,c { d with am:=z }=c d) {ds:List Du} {xs:List Int} (h:PayIn (opn ds) xs):BN ((DH ds xs).map fun d=>c d*d.am)=BN (ds.map fun d=>c d*d.am) - BN (List.zipWith (fun d x=>c d*x) (opn ds) xs):=by
 refine Jb (motive:=fun ds xs=>BN ((DH ds xs).map fun d=>c d*d.am)=BN (ds.map fun d=>c d*d.am) - BN (List.zipWith (fun d x=>c d*x) (opn ds) xs)) ?_ ?_ ?_ ds xs h
 ·intro xs; rfl
 ·intro d ds xs hd ih;rw [FP hd,EY,if_pos hd,List.map_cons,List.map_cons,BO,BO,ih,List.nil_append]; omega
 ·intro d ds x xs hd _ _ ih;rw [FQ hd,EY,if_neg hd,List.cons_append,List.nil_append,List.map_append,EF,ih,List.map_cons,BO];show _=_ - BN ((c d*x)::List.zipWith _ _ _);rw [BO]
  by_cases he:d.am=x
  ·rw [if_pos he,he];show BN []+_=_;have:BN []=0:=rfl;rw [this]; omega
  ·rw [if_neg he];show BN [c { d with am:=d.am - x }*(d.am - x)]+_=_;have h1:∀ z:Int,BN [z]=z:=fun z=>by rw [BO]; show z+0=z; omega
   rw [h1,hc,Int.mul_sub]; omega
theorem Ael {nx:Int} {ds:List Du} {xs:List Int} (h:PayIn (opn ds) xs) (ho:ofC ds nx=0):ofC (DH ds xs) nx=0:=by
 obtain ⟨h1,h2,h3,h4⟩:=Fy.1 ho;have h5:=Aa2 h 0 h3;have h6:=Aa3 h;have h7:=TZ (fun _=>1) (fun _ _=>rfl) h;simp only [Int.one_mul] at h7;obtain ⟨ha,hb⟩:=Dp.1 h4;refine Fy.2 ⟨by omega,h2,h5,Dp.2 ⟨fun x hx=>?_,?_⟩⟩
 ·obtain ⟨d,hd,rfl⟩:=List.mem_map.1 hx;have:=((J2 h5).1 d hd).2.2.2;unfold Ej at this;simp only [Bool.and_eq_true] at this;exact this.2.2.1
 ·have h8:0≤BN (List.zipWith (fun _ x=>x) (opn ds) xs):=Ft fun x hx=>by
   obtain ⟨i,hi⟩:=List.mem_iff_getElem?.1 hx;rw [List.getElem?_zipWith] at hi
   cases h9:(opn ds)[i]? with
   | none=>rw [h9] at hi; cases hi
   | some d =>
    cases h10:xs[i]? with
    | none=>rw [h9,h10] at hi; cases hi
    | some y =>
     rw [h9,h10] at hi
     injection hi with hi
     have:=(h.2 i d y h9 h10).1;omega
  show BN ((DH ds xs).map fun d=>d.am)≤_;rw [h7];show BN (ds.map fun d=>d.am) - _≤_;have hb':BN (ds.map fun d=>d.am)≤4503599627370496:=hb;omega
def KU (ds:List Du):List (Du × Int)→Prop
 | []=>True
 | p::ps=>(CQ ds p.1.id=some p.1∧p.1.held=false∧0≤p.2∧p.2≤p.1.am)∧KU (Hr ds p.1.id p.2) ps
def Kk (ds:List Du):List (Du × Int)→List Du
 | []=>ds
 | p::ps=>Kk (Hr ds p.1.id p.2) ps
theorem Ua (ps qs:List (Du × Int)):∀ ds,Kk ds (ps++qs)=Kk (Kk ds ps) qs:=by
 induction ps with
 | nil=>intro ds; rfl
 | cons p ps ih=>intro ds; exact ih _
theorem S4 {ps qs:List (Du × Int)}:∀ {ds},KU ds (ps++qs)→KU ds ps∧KU (Kk ds ps) qs:=by
 induction ps with
 | nil=>intro ds h; exact ⟨trivial,h⟩
 | cons p ps ih=>intro ds h; exact ⟨⟨h.1,(ih h.2).1⟩,(ih h.2).2⟩
theorem Ub {ds:List Du} {ps:List (Du × Int)} (h:KU ds ps) {i:Nat} {p:Du × Int} (hp:ps[i]? = some p):(CQ (Kk ds (ps.take i)) p.1.id=some p.1∧p.1.held=false∧0≤p.2∧p.2≤p.1.am)∧Kk ds (ps.take (i+1))=Hr (Kk ds (ps.take i)) p.1.id p.2:=by
 have hs:ps=ps.take i++ps.drop i:=(List.take_append_drop i ps).symm
 have hd:ps.drop i=p::ps.drop (i+1):=by
  have hl:=Cu hp;rw [List.drop_eq_getElem_cons hl];rw [List.getElem?_eq_getElem hl] at hp
  injection hp with hp
  rw [hp]
 rw [hs,hd] at h;refine ⟨(S4 h).2.1,?_⟩;rw [List.take_add_one,hp];exact Ua _ [p] ds
theorem Yb {ds:List Du} {p:Du × Int} (h:CQ ds p.1.id=some p.1∧p.1.held=false∧0≤p.2∧p.2≤p.1.am):N9 ds p.1.id p.2=0∧TW ds p.1.id p.2=Hr ds p.1.id p.2:=by
 have h1:N9 ds p.1.id p.2=0:=by
  unfold N9 pC;rw [h.1];show (if p.2<0 then (1:Int) else if p.1.held=true then 14 else if p.1.am<p.2 then 12 else 0)=0;rw [if_neg (by omega),h.2.1,if_neg (by decide),if_neg (by omega)]
 exact ⟨h1,by unfold TW; rw [if_pos h1]⟩
theorem Aa4 {P ds:List Du} {k x:Int} (h:∀ d∈P,d.id≠k):Hr (P++ds) k x=P++Hr ds k x:=by
 induction P with
 | nil=>rfl
 | cons y P ih =>
  show (if y.id=k then _ else y::Hr (P++ds) k x)=_;rw [if_neg (h y (List.mem_cons_self ..)),ih fun d hd=>h d (List.mem_cons_of_mem _ hd)]; rfl
theorem Yc {P ds:List Du} {k:Int} (h:∀ d∈P,d.id≠k):CQ (P++ds) k=CQ ds k:=by
 unfold CQ;rw [List.find?_append,List.find?_eq_none.2 fun d hd=>by simpa using h d hd]; rfl
theorem Aem {ds:List Du} {xs:List Int} (h:PayIn (opn ds) xs):∀ P:List Du,((P++ds).map (·.id)).Nodup→KU (P++ds) ((opn ds).zip xs)∧Kk (P++ds) ((opn ds).zip xs)=P++DH ds xs:=by
 refine Jb (motive:=fun ds xs=>∀ P:List Du,((P++ds).map (·.id)).Nodup→KU (P++ds) ((opn ds).zip xs)∧Kk (P++ds) ((opn ds).zip xs)=P++DH ds xs) ?_ ?_ ?_ ds xs h
 ·intro xs P _; exact ⟨trivial,rfl⟩
 ·intro d ds xs hd ih P hn;rw [EY,if_pos hd,FP hd,List.nil_append];have:=ih (P++[d]) (by rw [List.append_assoc]; exact hn);rw [List.append_assoc,List.append_assoc] at this;exact this
 ·intro d ds x xs hd h0 h1 ih P hn
  have hP:∀ e∈P,e.id≠d.id:=fun e he h=>by
   rw [List.map_append,List.nodup_append] at hn;exact hn.2.2 e.id (List.mem_map_of_mem (f:=fun d:Du=>d.id) he) d.id (List.mem_map_of_mem (f:=fun d:Du=>d.id) (List.mem_cons_self ..)) h
  have hpl:Hr (P++d::ds) d.id x=P++((if d.am=x then [] else [{ d with am:=d.am - x }])++ds):=by
   rw [Aa4 hP]
   congr 1
   show (if d.id=d.id then _ else _)=_;rw [if_pos rfl]
   split <;> rfl
  rw [EY,if_neg hd,FQ hd];show ((CQ (P++d::ds) d.id=some d∧d.held=false∧0≤x∧x≤d.am)∧KU (Hr (P++d::ds) d.id x) ((opn ds).zip xs))∧Kk (Hr (P++d::ds) d.id x) ((opn ds).zip xs)=_;rw [hpl,← List.append_assoc]
  have hn2:((P++(if d.am=x then ([]:List Du) else [{ d with am:=d.am - x }])++ds).map fun d:Du=>d.id).Nodup:=by
   split
   ·rw [List.append_nil];refine List.Nodup.sublist ?_ hn;exact List.Sublist.map _ (List.Sublist.append (List.Sublist.refl _) (List.sublist_cons_self _ _))
   ·rw [List.append_assoc,List.map_append] at *;exact hn
  obtain ⟨i1,i2⟩:=ih _ hn2;refine ⟨⟨⟨?_,by simpa using hd,h0,h1⟩,i1⟩,by rw [i2,List.append_assoc]⟩;rw [Yc hP];unfold CQ;rw [List.find?_cons,show (d.id == d.id)=true by simp]
theorem Aa5 {l:List Int} (h:l.Pairwise (·<·)):l.Nodup:=h.imp fun h=>by omega
theorem Kl {nx:Int} {ds:List Du} (h:ofC ds nx=0):(ds.map (·.id)).Nodup:=Aa5 (J2 (Fy.1 h).2.2.1).2.1
theorem VA {nx:Int} {ds:List Du} (h:ofC ds nx=0) {d:Du} (hd:d∈ds):0<d.id∧d.id<nx∧Ej d=true:=by
 have:=(J2 (Fy.1 h).2.2.1).1 d hd;exact ⟨this.1,this.2.2⟩
theorem CW {d:Du} (h:Ej d=true):(0≤d.fr∧d.fr<16)∧(0≤d.to∧d.to<16)∧d.fr≠d.to∧(1≤d.am∧d.am≤4503599627370496)∧(1≤d.we∧d.we≤1000)∧0≤d.un:=by
 unfold Ej Df QL at h;simp only [Bool.and_eq_true,decide_eq_true_eq,Bool.not_eq_true',decide_eq_false_iff_not] at h;exact ⟨h.1.1,h.1.2.1,h.1.2.2,⟨h.2.1,h.2.2.1.2⟩,⟨h.2.2.2.1,h.2.2.2.2.1⟩,h.2.2.2.2.2⟩
def VB (ds:List Du):Prop:=∀ d∈ds,0≤d.am∧d.am≤4503599627370496
theorem of_am {nx:Int} {ds:List Du} (h:ofC ds nx=0):VB ds:=fun d hd=>by
 have:=(CW (VA h hd).2.2).2.2.2.1;omega
theorem Aen {ds:List Du} {k x:Int} {e:Du} (h:VB ds) (hf:CQ ds k=some e) (h0:0≤x) (h1:x≤e.am):VB (Hr ds k x)∧(Hr ds k x).length≤ds.length:=by
 induction ds with
 | nil=>cases hf
 | cons d ds ih =>
  unfold CQ at hf;rw [List.find?_cons] at hf;have hd:=h d (List.mem_cons_self ..);unfold Hr
  by_cases hk:d.id=k
  ·rw [show (d.id == k)=true by simpa using hk] at hf
   injection hf with hf
   subst hf;rw [if_pos hk]
   split
   ·exact ⟨fun e he=>h e (List.mem_cons_of_mem _ he),by simp⟩
   ·refine ⟨fun e he=>?_,by simp⟩
    rcases List.mem_cons.1 he with rfl | he
    ·exact ⟨by show 0≤d.am - x; omega,by show d.am - x≤_; omega⟩
    ·exact h e (List.mem_cons_of_mem _ he)
  ·rw [show (d.id == k)=false by simpa using hk] at hf;obtain ⟨i1,i2⟩:=ih (fun e he=>h e (List.mem_cons_of_mem _ he)) hf;rw [if_neg hk];refine ⟨fun e he=>?_,by simpa using i2⟩
   rcases List.mem_cons.1 he with rfl | he
   ·exact hd
   ·exact i1 e he
theorem WK {ds:List Du} {ps:List (Du × Int)} (h:VB ds) (hp:KU ds ps):∀ i,VB (Kk ds (ps.take i))∧(Kk ds (ps.take i)).length≤ds.length
 | 0=>⟨h,Nat.le_refl _⟩
 | i+1=>by
  obtain ⟨i1,i2⟩:=WK h hp i
  cases hi:ps[i]? with
  | none=>rw [List.take_add_one,hi]; show VB (Kk ds (ps.take i++[]))∧(Kk ds (ps.take i++[])).length≤_; rw [List.append_nil]; exact ⟨i1,i2⟩
  | some p =>
   obtain ⟨h1,h2⟩:=Ub hp hi;rw [h2];obtain ⟨h3,h4⟩:=Aen i1 h1.1 h1.2.2.1 h1.2.2.2;exact ⟨h3,Nat.le_trans h4 i2⟩
end Go.Proofs.YtdagmpmdcgedcaaGreat
namespace Go.Proofs.YtdagmpmdcgedcaaGreat
open Go.GV
theorem GC (rs:List Int) (os:List Du) (net:Bool):(BD rs os net).length=os.length+if net=true then 0 else 2*rs.length:=by
 unfold BD;rw [List.length_append,List.length_map]
 split
 ·rfl
 ·rw [WI]
theorem Ix {rs:List Int} {os:List Du} {net:Bool} {i:Nat} {d:Du} (h:os[i]? = some d):(BD rs os net)[i]? = some (Kj d):=by
 unfold BD;have hl:=Cu h;rw [List.getElem?_append_left (by rw [List.length_map]; exact hl),List.getElem?_map,h]; rfl
theorem KE {rs:List Int} {os:List Du} {j:Nat} {e:Ed} (h:(MU rs)[j]? = some e):(BD rs os false)[os.length+j]? = some e:=by
 unfold BD;rw [List.getElem?_append_right (by rw [List.length_map]; omega),List.length_map,show os.length+j - os.length=j by omega,if_neg (by decide),h]
def WL (n:Nat) (d:Du):Prop:=Ej d=true∧d.fr<n∧d.to<n
theorem QR {n:Nat}:∀ {os:List Du},(∀ d∈os,WL n d)→((((os.map Kj).map Hg).sum:Nat):Int)≤1000*BN (os.map Du.am)
 | [],_=>by show (0:Int)≤1000*0; omega
 | d::os,h=>by
  have ih:=QR (os:=os) fun e he=>h e (List.mem_cons_of_mem _ he);have hm:=CW (h d (List.mem_cons_self ..)).1;rw [List.map_cons,List.map_cons,List.sum_cons,List.map_cons,BO];have h1:Hg (Kj d)≤d.am.toNat*1000:=Nat.mul_le_mul_left _ (by show (-d.we).natAbs≤1000; omega);have h2:((d.am.toNat:Nat):Int)=d.am:=Int.toNat_of_nonneg (by omega);have h3:((Hg (Kj d):Nat):Int)≤d.am*1000:=by omega
  rw [Int.natCast_add,Int.mul_add]; omega
theorem Yd {rs:List Int} {os:List Du} {net:Bool} (hn:rs.length≤16) (hm:os.length≤64) (hrs:∀ x∈rs,Df x=true) (hos:∀ d∈os,WL rs.length d) (hsum:BN (os.map Du.am)≤4503599627370496):Cy ((rs.length+1:Nat):Int) (BD rs os net)=true:=by
 have hl:=GC rs os net;have hE:(BD rs os net).length≤200:=by rw [hl]; split <;> omega
 have hall:(BD rs os net).all (FX ((rs.length+1:Nat):Int))=true:=by
  rw [List.all_eq_true];intro e he;unfold BD at he
  rcases List.mem_append.1 he with he | he
  ·obtain ⟨d,hd,rfl⟩:=List.mem_map.1 he;obtain ⟨h1,h2,h3⟩:=hos d hd;have:=CW h1;unfold FX LY Kj;simp only [Bool.and_eq_true,decide_eq_true_eq];omega
  ·split at he
   ·cases he
   ·unfold MU at he;obtain ⟨j,hj,rfl⟩:=List.mem_map.1 he;rw [List.mem_range] at hj;obtain ⟨r,hr⟩:=A8 (l:=rs) (i:=j / 2);have hr2:=C4.1 (hrs r (List.mem_of_getElem? hr));unfold FX LY;rw [Bi hr]
    split
    ·simp only [Bool.and_eq_true,decide_eq_true_eq]; omega
    ·simp only [Bool.and_eq_true,decide_eq_true_eq]; omega
 have hp:FY (BD rs os net)≤4611686018427387904:=by
  unfold FY BD;rw [List.map_append,List.sum_append];have h1:=QR hos
  have h2:((if net=true then [] else MU rs).map Hg).sum=0:=by
   split
   ·rfl
   ·unfold MU;rw [List.map_map]
    have:∀ l:List Nat,(l.map (Hg ∘ fun j=>if j % 2=0 then (⟨rs.length,(j / 2:Nat),rs.getD (j / 2) 0,0⟩:Ed) else ⟨(j / 2:Nat),rs.length,4503599627370496,0⟩)).sum=0:=by
     intro l
     induction l with
     | nil=>rfl
     | cons j l ih =>
      rw [List.map_cons,List.sum_cons,ih];show Hg (if j % 2=0 then _ else _)+0=0
      split <;> rfl
    exact this _
  rw [h2]; omega
 unfold Cy;rw [hall,decide_eq_true hE,decide_eq_true hp,decide_eq_true (show (1:Int)≤((rs.length+1:Nat):Int) by omega),decide_eq_true (show ((rs.length+1:Nat):Int)≤40 by omega)]; rfl
theorem Pw {g:Gr} {x:Nat→Int} {n m:Nat} (hE:∀ k,k<n→(g.f (m+2*k)=n∧g.t (m+2*k)=k)∧g.f (m+2*k+1)=k∧g.t (m+2*k+1)=n) {v:Nat} (hv:v<n):∀ j,j≤n→Ea g x (m+2*j) v=Ea g x m v+if v<j then x (m+2*v) - x (m+2*v+1) else 0
 | 0,_=>by rw [if_neg (by omega)]; simp
 | j+1,hj=>by
  obtain ⟨⟨h1,h2⟩,h3,h4⟩:=hE j (by omega);rw [show m+2*(j+1)=m+2*j+1+1 by omega,G0,G0,h1,h2,h3,h4,Pw hE hv j (by omega),F6 (show ¬ n=v by omega)]
  by_cases e:j=v
  ·subst e;rw [Gl rfl,if_neg (by omega),if_pos (by omega)]; omega
  ·rw [F6 e]
   by_cases h:v<j
   ·rw [if_pos h,if_pos (by omega)]; omega
   ·rw [if_neg h,if_neg (by omega)]; omega
theorem S5 {N:Int} {es:List Ed} {i:Nat} {e:Ed} (h:es[i]? = some e):(grE N es).f i=e.f.toNat:=by show (es.getD i e0).f.toNat=_; rw [Bi h]
theorem S6 {N:Int} {es:List Ed} {i:Nat} {e:Ed} (h:es[i]? = some e):(grE N es).t i=e.t.toNat:=by show (es.getD i e0).t.toNat=_; rw [Bi h]
theorem Uc {N:Int} {es:List Ed} {i:Nat} {e:Ed} (h:es[i]? = some e):(grE N es).co i=e.cost:=by show (es.getD i e0).cost=_; rw [Bi h]
def byK (rs:List Int) (os:List Du) (net:Bool) (fl:List Int) (k:Nat):Int:=Ea (grE ((rs.length+1:Nat):Int) (BD rs os net)) (flE fl) os.length k
theorem Ud {rs:List Int} {os:List Du} {net:Bool} {fl:List Int} (hrs:∀ x∈rs,0≤x) (hos:∀ d∈os,WL rs.length d) (hf:FO ((rs.length+1:Nat):Int) (BD rs os net) fl=true) :
  PayIn os (fl.take os.length)∧fl.length=(BD rs os net).length∧(∀ (k:Nat) (r:Int),rs[k]? = some r→(net=true→byK rs os net fl k=0) ∧ -r≤byK rs os net fl k∧byK rs os net fl k≤4503599627370496)∧B7 (byK rs os net fl) rs.length=0:=by
 obtain ⟨hw,hz⟩:=ET hf;obtain ⟨hl,hr,hin⟩:=Cx hw;have hlen:=GC rs os net;refine ⟨⟨by rw [List.length_take]; omega,fun i d x hd hx=>?_⟩,hl,fun k r hk=>?_,?_⟩
 ·have hi:=Cu hd;rw [List.getElem?_take,if_pos hi] at hx;exact hin i (Kj d) x (Ix hd) hx
 ·have hkn:=Cu hk;have h0:=hz k (by omega);have hE:(grE ((rs.length+1:Nat):Int) (BD rs os net)).E=(BD rs os net).length:=rfl;unfold B9 at h0;rw [hE,hlen] at h0;have hr0:=hrs r (List.mem_of_getElem? hk)
  cases net with
  | true =>
   rw [if_pos rfl,Nat.add_zero] at h0;have h0':byK rs os true fl k=0:=h0;exact ⟨fun _=>h0',by omega,by omega⟩
  | false =>
   rw [if_neg (by decide),Pw (x:=flE fl) (n:=rs.length) (fun j hj=>?_) hkn rs.length (Nat.le_refl _),if_pos hkn] at h0
   ·obtain ⟨y,hy⟩:=A8 (l:=fl) (i:=os.length+2*k) (h:=by rw [hl,hlen,if_neg (by decide)]; omega);obtain ⟨z,hzz⟩:=A8 (l:=fl) (i:=os.length+2*k+1) (h:=by rw [hl,hlen,if_neg (by decide)]; omega);have h1:=hin _ _ y (KE (Mg hk)) hy;have h2:=hin _ _ z (by rw [Nat.add_assoc]; exact KE (NQ hkn)) hzz;rw [show flE fl (os.length+2*k)=y from Bi hy,show flE fl (os.length+2*k+1)=z from Bi hzz] at h0;have h0':byK rs os false fl k+(y - z)=0:=h0;dsimp only at h1 h2;exact ⟨(fun h=>by cases h),by omega,by omega⟩
   ·obtain ⟨r',hr'⟩:=A8 (h:=hj);have e1:(BD rs os false)[os.length+2*j]? = _:=KE (Mg hr');have e2:(BD rs os false)[os.length+2*j+1]? = some ⟨j,rs.length,4503599627370496,0⟩:=by rw [Nat.add_assoc]; exact KE (NQ hj)
    rw [S5 e1,S6 e1,S5 e2,S6 e2];dsimp only;omega
 ·have:=over_all ⟨rs.length,os.length,(grE ((rs.length+1:Nat):Int) (BD rs os net)).f,(grE ((rs.length+1:Nat):Int) (BD rs os net)).t,fun _=>0⟩ ⟨fun i hi=>?_,fun i hi=>?_⟩ (flE fl)
  ·exact this
  ·obtain ⟨d,hd⟩:=A8 (l:=os) (i:=i) (h:=hi);obtain ⟨h1,h2,h3⟩:=hos d (List.mem_of_getElem? hd);have:=CW h1;dsimp only;rw [S5 (Ix hd)];unfold Kj;dsimp only;omega
  ·obtain ⟨d,hd⟩:=A8 (l:=os) (i:=i) (h:=hi);obtain ⟨h1,h2,h3⟩:=hos d (List.mem_of_getElem? hd);have:=CW h1;dsimp only;rw [S6 (Ix hd)];unfold Kj;dsimp only;omega
theorem Ye {xs ys:List Int} (hl:xs.length=ys.length) (hx:∀ x∈xs,Df x=true) (hy:∀ y∈ys,G1 y=true) (hs:BN ys=0) (hz:∀ z∈CS xs ys,Df z=true):Dz xs ys=0:=by
 unfold Dz Iw;rw [decide_eq_true hl,List.all_eq_true.2 hx,List.all_eq_true.2 hy,decide_eq_true hs,if_neg (by decide),if_neg,if_neg]
 ·rw [List.all_eq_true.2 hz]; decide
 ·rw [List.all_eq_true.2 fun z h=>decide_eq_true (C4.1 (hz z h)).1]; decide
theorem Lr:∀ {xs ys:List Int},xs.length=ys.length→BN (CS xs ys)=BN xs+BN ys
 | [],[],_=>rfl
 | [],_::_,h=>by cases h
 | _::_,[],h=>by cases h
 | x::xs,y::ys,h=>by
  have ih:=Lr (xs:=xs) (ys:=ys) (by simpa using h);show BN ((x+y)::CS xs ys)=_;rw [BO,BO,BO,ih]; omega
theorem Px {xs:List Int} (h:∀ x∈xs,0≤x):∀ x∈xs,x≤BN xs:=by
 induction xs with
 | nil=>intro x hx; cases hx
 | cons y xs ih =>
  intro x hx;rw [BO];have h0:=h y (List.mem_cons_self ..);have h1:=Ft fun z hz=>h z (List.mem_cons_of_mem _ hz)
  rcases List.mem_cons.1 hx with rfl | hx
  ·omega
  ·have:=ih (fun z hz=>h z (List.mem_cons_of_mem _ hz)) x hx;omega
theorem Cd {acs:List Ac}:Eu acs=0↔acs.length≤16∧(∀ a∈acs,Me a=true)∧(EX (acs.map Ac.ba)).2=0:=by
 unfold Eu
 by_cases h1:16<acs.length
 ·rw [if_pos h1]; exact ⟨fun h=>by simp at h,fun h=>absurd h.1 (by omega)⟩
 rw [if_neg h1]
 cases h2:acs.all Me with
 | false =>
  rw [if_pos rfl];refine ⟨fun h=>by simp at h,fun h=>?_⟩;rw [List.all_eq_true.2 h.2.1] at h2; cases h2
 | true =>
  rw [if_neg (by decide)];rw [List.all_eq_true] at h2;exact ⟨fun h=>⟨by omega,h2,h⟩,fun h=>h.2.2⟩
theorem Fz {a:Ac}:Me a=true↔(0≤a.ba∧a.ba≤4503599627370496)∧0≤a.re∧a.re≤4503599627370496:=by
 unfold Me; rw [Bool.and_eq_true,C4,C4]
theorem S7 {acs:List Ac} {by':Nat→Int} (hs:Dz (acs.map Ac.ba) (tab by' acs.length)=0) {k:Nat} {a:Ac} (hk:acs[k]? = some a):(shA acs (tab by' acs.length))[k]? = some ⟨a.ba+by' k,a.re⟩:=by
 unfold shA;rw [if_pos hs,List.getElem?_zipWith,hk,BU (Cu hk)]
theorem NS {acs:List Ac} {by':Nat→Int}:(shA acs (tab by' acs.length)).length=acs.length:=by
 unfold shA
 split
 ·rw [List.length_zipWith,CP]; omega
 ·rfl
theorem Iy {acs:List Ac} {by':Nat→Int} (ha:Eu acs=0) (hb:∀ (k:Nat) (a:Ac),acs[k]? = some a → -(C5 a)≤by' k∧by' k≤4503599627370496) (hs:B7 by' acs.length=0) :
  Dz (acs.map Ac.ba) (tab by' acs.length)=0∧Eu (shA acs (tab by' acs.length))=0:=by
 obtain ⟨h1,h2,h3⟩:=Cd.1 ha;obtain ⟨h4,h5⟩:=Dp.1 h3;have hl:(acs.map Ac.ba).length=(tab by' acs.length).length:=by rw [List.length_map,CP]
 have hsum:BN (tab by' acs.length)=0:=by rw [Pp]; exact hs
 have hat:∀ z∈CS (acs.map Ac.ba) (tab by' acs.length),∃ k a,acs[k]? = some a∧z=a.ba+by' k:=fun z hz=>by
  obtain ⟨k,hk⟩:=List.mem_iff_getElem?.1 hz;have hkl:=Cu hk;unfold CS at hkl;rw [List.length_zipWith,List.length_map,CP] at hkl;obtain ⟨a,hka⟩:=A8 (l:=acs) (i:=k);rw [IZ (x:=a.ba) (y:=by' k) (by rw [List.getElem?_map,hka]; rfl) (BU (by omega))] at hk
  injection hk with hk
  exact ⟨k,a,hka,hk.symm⟩
 have hnn:∀ z∈CS (acs.map Ac.ba) (tab by' acs.length),0≤z:=fun z hz=>by
  obtain ⟨k,a,hk,rfl⟩:=hat z hz;have:=hb k a hk;have h6:=Fz.1 (h2 a (List.mem_of_getElem? hk));unfold C5 at this;omega
 have htot:=Lr hl;rw [hsum] at htot
 have hmay:∀ z∈CS (acs.map Ac.ba) (tab by' acs.length),Df z=true:=fun z hz=>by
  have:=Px hnn z hz;exact C4.2 ⟨hnn z hz,by omega⟩
 have hC:Dz (acs.map Ac.ba) (tab by' acs.length)=0:=by
  refine Ye hl h4 (fun y hy=>?_) hsum hmay;obtain ⟨k,hk⟩:=List.mem_iff_getElem?.1 hy;obtain ⟨hkl,rfl⟩:=Pe hk;obtain ⟨a,hka⟩:=A8 (l:=acs) (i:=k) (h:=hkl);have:=hb k a hka;have h6:=Fz.1 (h2 a (List.mem_of_getElem? hka));unfold C5 at this;unfold G1;rw [Bool.and_eq_true,decide_eq_true_eq,decide_eq_true_eq];omega
 have hmap:(shA acs (tab by' acs.length)).map Ac.ba=CS (acs.map Ac.ba) (tab by' acs.length):=by
  unfold shA CS;rw [if_pos hC,List.map_zipWith,List.zipWith_map_left]
 refine ⟨hC,Cd.2 ⟨by rw [NS]; exact h1,fun a' ha'=>?_,Dp.2 ⟨by rw [hmap]; exact hmay,by rw [hmap]; omega⟩⟩⟩;obtain ⟨k,hk⟩:=List.mem_iff_getElem?.1 ha';have hkl:=Cu hk;rw [NS] at hkl;obtain ⟨a,hka⟩:=A8 (l:=acs) (i:=k) (h:=hkl);have h7:=S7 hC hka;rw [h7] at hk
 injection hk with hk
 subst hk;have h8:Df (a.ba+by' k)=true:=hmay _ (List.mem_of_getElem? (i:=k) (IZ (by rw [List.getElem?_map,hka]; rfl) (BU hkl)));unfold Me at *;rw [Bool.and_eq_true];have:=h2 a (List.mem_of_getElem? hka);rw [Bool.and_eq_true] at this;exact ⟨h8,this.2⟩
structure Bright (rs:List Int) (ds:List Du):Prop where
 n16:rs.length≤16
 may:∀ x∈rs,Df x=true
 m64:ds.length≤64
 due:∀ d∈ds,WL rs.length d
 tot:BN (ds.map Du.am)≤4503599627370496
theorem HY {rs:List Int} {ds:List Du} (hl:ds.length≤1000000:=by omega):D0 rs ds=true↔Bright rs ds:=by
 rw [← Aj6 rs ds hl];unfold r19B;simp only [Bool.and_eq_true,decide_eq_true_eq,List.all_eq_true,dueB];constructor
 ·rintro ⟨⟨h1,h2⟩,h3,h4,h5⟩;exact ⟨h1,h3,h2,fun d hd=>⟨(h4 d hd).1,(h4 d hd).2.1,(h4 d hd).2.2⟩,(Dp.1 h5).2⟩
 ·rintro ⟨h1,h3,h2,h4,h5⟩;refine ⟨⟨h1,h2⟩,h3,fun d hd=>⟨(h4 d hd).1,(h4 d hd).2.1,(h4 d hd).2.2⟩,Dp.2 ⟨fun x hx=>?_,h5⟩⟩;obtain ⟨d,hd,rfl⟩:=List.mem_map.1 hx;have:=(CW (h4 d hd).1).2.2.2.1;exact C4.2 ⟨by omega,this.2⟩
theorem S8 {ds:List Du} {d:Du} (h:d∈opn ds):d∈ds∧d.held=false:=by
 unfold opn at h;rw [List.mem_filter] at h;exact ⟨h.1,by simpa using h.2⟩
theorem Iz (ds:List Du):(opn ds).length≤ds.length:=List.length_filter_le _ _
theorem WM {ds:List Du} (h:∀ d∈ds,0≤d.am):BN ((opn ds).map Du.am)≤BN (ds.map Du.am):=by
 induction ds with
 | nil=>exact Int.le_refl _
 | cons d ds ih =>
  have h0:=h d (List.mem_cons_self ..);have ih:=ih fun e he=>h e (List.mem_cons_of_mem _ he);rw [EY,List.map_cons,BO]
  split
  ·rw [List.nil_append]; omega
  ·show BN (d.am::(opn ds).map Du.am)≤_;rw [BO]; omega
theorem Bright.open' {rs:List Int} {ds:List Du} (h:Bright rs ds):Bright rs (opn ds) :=
 ⟨h.n16,h.may,Nat.le_trans (Iz ds) h.m64,fun d hd=>h.due d (S8 hd).1,Int.le_trans (WM fun d hd=>by have:=(CW (h.due d hd).1).2.2.2.1; omega) h.tot⟩
theorem Bright.right {rs:List Int} {ds:List Du} (h:Bright rs ds) (net:Bool):Cy ((rs.length+1:Nat):Int) (BD rs (opn ds) net)=true :=
 Yd h.n16 h.open'.m64 h.may h.open'.due h.open'.tot
theorem Ls {acs:List Ac} {ds:List Du} {nx:Int} (ha:Eu acs=0) (hd:ofC ds nx=0) (hb:∀ d∈ds,d.fr<acs.length∧d.to<acs.length):Bright (acs.map C5) ds:=by
 obtain ⟨h1,h2,h3⟩:=Cd.1 ha;obtain ⟨h4,h5,h6,h7⟩:=Fy.1 hd;refine ⟨by rw [List.length_map]; exact h1,fun x hx=>?_,h4,fun d hd'=>⟨(VA hd hd').2.2,by rw [List.length_map]; exact (hb d hd').1,by rw [List.length_map]; exact (hb d hd').2⟩,(Dp.1 h7).2⟩;obtain ⟨a,ha',rfl⟩:=List.mem_map.1 hx;have:=Fz.1 (h2 a ha');unfold C5;exact C4.2 ⟨by omega,by omega⟩
end Go.Proofs.YtdagmpmdcgedcaaGreat
namespace Go.Proofs.YtdagmpmdcgedcaaGreat
open Go.GV
attribute [local irreducible] AD W Wq Wt
theorem Ue {P:Program} {e:Env} {w:World} {fn:Func} {R:Value→World→Prop} {a s2 s3:Tmp} {t:TypeId} {p:Addr} {v2 v3:Value} (hr:fn.results=#[.cell a t,.tmp s2,.tmp s3]) (ha:e.g a = .pointer (some p)) (h2:e.g s2=v2) (h3:e.g s3=v3) (h:Marks e.ds w fun w'=>∃ v,(loadVar t p).run P w' = .ok v w'∧R (.tuple #[v,v2,v3]) w'):Tk P fn R .ret e w :=
 Marks.mono (fun w ⟨v,hv,h⟩ tmps ht=>by
  have h1:=(ht a).trans ha;have g2:=(ht s2).trans h2;have g3:=(ht s3).trans h3;rw [Array.getD_eq_getD_getElem?] at h1 g2 g3
  exact ⟨.tuple #[v,v2,v3],by simp [results,hr,h1,g2,g3,asAddr,hv],h⟩) h
def RoundRes (w:World) (rs:List Int) (ds:List Du) (net:Bool) (v:Value) (w':World):Prop :=
 Ext [] w w'∧((D0 rs ds=false∧v = .tuple #[DT 0 none 0 0,.slice none 0 0,.int .i64 1]) ∨
  (D0 rs ds=true∧∃ aE nE cE vI,v = .tuple #[DT ((rs.length+1:Nat):Int) aE nE cE,vI,.int .i64 0]∧Sl w w' (.slice aE nE cE) 4 CG (BD rs (opn ds) net)∧Sl w w' vI 1 U1 ((opn ds).map Du.id)))
def rndJ (ws:World) (b6:Nat) (N:Int) (es:List Ed) (i:Nat) (M:Mt) (w:World):Prop :=
 ∃ a c full,(M=fun y=>y∈((b6,Bl 51 [.int .i64 N,.slice a i c])::ent a 59 full).map (·.1))∧Ctx ws [b6] w ((b6,Bl 51 [.int .i64 N,.slice a i c])::ent a 59 full) ∧
  OS a i c 4 full ((es.take i).flatMap CG)∧∀ y∈((b6,Bl 51 [.int .i64 N,.slice a i c])::ent a 59 full).map (·.1),y≠ws.heap.size∧y≠ws.heap.size+1
set_option maxRecDepth 20000 in
set_option maxHeartbeats 4000000 in
theorem Hy (a b:Option Addr) (n c m e:Nat) (rs:List Int) (ds:List Du) (net:Bool) (w:World) (R:Rd w a 1 I1 rs) (hn:rs.length=n) (Rd':Rd w b 7 CT ds) (hm:ds.length=m)  (hn2:n≤1000000:=by omega) (hm2:m≤1000000:=by omega):
  Ret Tryz.prog 179 #[.slice a n c,.slice b m e,.bool net] w (RoundRes w rs ds net):=by
 subst hn hm;obtain ⟨w0,rfl⟩:∃ w0,w0=w:=⟨_,rfl⟩;have H:=Ctx.start w0 [];obtain ⟨bb,hbb⟩:∃ bb,bb=D0 rs ds:=⟨_,rfl⟩;obtain ⟨os,hos⟩:∃ os,os=opn ds:=⟨_,rfl⟩;have hol:os.length≤ds.length:=by rw [hos]; exact Iz ds
 refine Hu (fn:=Tryz.f179) Tryz.func179 U [.slice a rs.length c,.slice b ds.length e,.bool net] U (by kernel_rfl) ?_;refine Ae (Ba Np H ?_);rintro b6 w - H;refine A4 U (Af U (Ab (Aa (Au (Ae (Ay U (Ay U (Al Ahn (XZ a b _ c _ e rs ds _ (R.ext0 H.ext) U hn2 (Rd'.ext0 H.ext) U hm2) U ?_))))))));rintro v w ⟨rfl,hx14⟩;replace H:=H.call hx14;rw [← hbb];refine BF U (Ab (Aa (Ao _ U ?_ ?_)))
 ·intro h1;replace h1:=BG h1;refine Ae (Cr Dh CK U H at0 U (Bm CK U U U (by simp [Bg]) H at0 U ?_));rintro w H;refine A4 U (Af U (Ab (Aa (A5 (Aq (Ue U U U U ?_))))));exact ⟨_,FW Dh CK U (fun j v hv=>by rw [Aj (H.get at0),Nat.zero_add]; exact hv),H.ext,.inl ⟨by rw [← hbb]; exact h1,rfl⟩⟩
 ·intro h1;replace h1:=BH h1;refine Ap (Aa (Ae (Ay U (Be AU U (Aw U U ?_)))));refine Ah EK U (Ci (.int _ _) Gk U U U H at0 (by decide) ?_);rintro w H;refine Ab (Aa (Ae (Ay U (Al Zb (WH b _ e ds _ (Rd'.ext0 H.ext) U hm2) U ?_))));rintro v w F;rw [← hos] at F;obtain ⟨a4,n4,c4,f4,rfl,O4,hb4⟩:=F.ex;have hl4:=O4.llen;rw [Pu] at hl4;obtain rfl:os.length=n4:=by omega
  refine A4 U (Ab (Aa (Au ?_)));have hb6:=H.lt at0;have RO:Rd w a4 7 CT os:=OS.rd O4 (fun y hy=>(hb4 y hy).1) (fun _ _=>rfl) (by omega)
  have hROn:os≠[]→(adr a4).block∉[b6]:=fun hne=>by
   obtain ⟨q,rfl⟩:=O4.form (List.length_pos_iff.2 hne);have:=(hb4 (q,Bl 67 f4) (List.mem_singleton.2 rfl)).2;rw [List.mem_singleton];show q≠b6;dsimp only at this;omega
  have H4:=H.call F.ext;have hs4:=H4.size;have hl64:=H4.lt at0;obtain ⟨w4,rfl⟩:∃ z,z=w:=⟨_,rfl⟩;have H:=Ctx.lend (L1:=[_]) (L2:=[]) H4;dsimp only [List.map] at H;refine Ae (Ay U (Be CE U (Ad U (Ab (Aa (A0 (Bv 34326185088 (α:=LSt) (fun t=>[(7,.slice t.a t.i t.c),(25,.int .i64 (t.i:Int))]) (fun t w'=>t.i≤os.length∧OS t.a t.i t.c 1 t.full (((os.take t.i).map Du.id).map Gt)∧Ctx w4 [b6] w' ((b6,Bl 51 [.int .i64 ((rs.length:Int)+1),.slice none 0 0])::ent t.a 28 t.full)) (fun t=>os.length - t.i) ⟨0,none,0,[]⟩ U ?_ ?_ ?_)))))))
  ·exact ⟨rfl,rfl,trivial⟩
  ·exact ⟨Nat.zero_le _,OS.nil,H⟩
  ·clear H;rintro ⟨i,a2,c2,full⟩ jj w ⟨hi,O,H⟩; dsimp only at hi O H; dsimp only;refine Ae (Bj U U (Ab (Aa (Au (Ao _ U ?_ ?_)))))
   ·intro h3;replace h3:=AM h3;obtain ⟨d,hd⟩:=A8 (l:=os) (i:=i);refine Ap (Aa (Au (A0 (Ae (AX RO CE Cg U U (by rfl) ?_)))));refine BW _ Fq Cg U U ((RO.ext' H.ext hROn).row hd U) ?_;refine Ba Ex H ?_;rintro b10 w - H;refine Bm Cg U U U (by exact Dg _) H at0 U ?_;rintro w H;refine Ab (Aa (Ax (Ay U (Ah G9 U (AH B1 U H at0 U (Cj _ (.int _ _) Bt Bo OX U (by decide) (by decide) U U U H ?_))))));rintro b32 w - H;refine CF (L:=[_,_]) Bt Bt Bo Wk OX U (by decide) U U H O U (by simp [Bg]) ?_;rintro a' c' full' w H O;refine A4 U (Ab (A6 (Aa (Ax (Aw U U ?_)))));refine Ad U (Ab (Aa ?_));exact ⟨⟨i+1,a',c',full'⟩,rfl,⟨rfl,rfl,trivial⟩,⟨by dsimp only; omega,by dsimp only; rw [Md hd,List.map_append]; exact O,H.tail⟩,by dsimp only; omega⟩
   ·intro h3;replace h3:=AN h3;obtain rfl:i=os.length:=by omega
    rw [List.take_length] at O;refine Br (An (An (AK (Aa (Au (Ae (Ay U (Ay U (A7 U (Al Aho (Ya a a4 _ c _ c4 net _) U ?_))))))))));rintro v w ⟨x1,x2,x3,rfl,H10⟩;have H5:=H.call H10.ext;refine Ab (Aa (A0 ?_));have RI0:Rd w a2 1 U1 (os.map Du.id):=O.rd1 fun x hx=>H5.blk x (List.mem_cons_of_mem _ hx)
    have hRIn:os.map Du.id≠[]→w4.heap.size≤(adr a2).block:=fun hne=>by
     obtain ⟨q,rfl⟩:=O.form (by have:=List.length_pos_iff.2 hne; rw [List.length_map] at this; exact this)
     rcases H.own (q,Bl 28 full) (List.mem_cons_of_mem _ (List.mem_singleton.2 rfl)) with h | h
     ·exact absurd (List.mem_singleton.1 h) fun h=>H.ne (i:=1) (j:=0) rfl rfl (by decide) h
     ·exact h
    have hk1:=H10.get at1;have hk2:=H10.get at0;have hk3:=H10.get at2;have ho1:=(H10.own _ (List.mem_of_getElem? at1)).elim (fun h=>by cases h) id;have ho2:=(H10.own _ (List.mem_of_getElem? at0)).elim (fun h=>by cases h) id;have ho3:=(H10.own _ (List.mem_of_getElem? at2)).elim (fun h=>by cases h) id;dsimp only at ho1 ho2 ho3;have hl6:=H.lt at0;have hs5:=H5.size;have hx5:=H4.ext.then H5.ext fun x hx => .inr (by rw [List.mem_singleton.1 hx]; exact (H4.own _ (List.mem_of_getElem? at0)).elim (fun h=>by cases h) id);have hb60:w0.heap.size≤b6:=(H4.own _ (List.mem_of_getElem? at0)).elim (fun h=>by cases h) id;have RR:=R.ext0 hx5;have RO5:=RO.ext' H5.ext hROn
    have hwe:∀ d∈os,-1000000000≤d.we∧d.we≤1000000000:=fun d hd=>by
     rw [hbb] at h1;have hB:=(HY).1 h1;rw [hos] at hd;have:=(CW (hB.due d (S8 hd).1).1).2.2.2.2.1;omega
    obtain ⟨ws,rfl⟩:∃ z,z=w:=⟨_,rfl⟩;have H:=Ctx.lend (L1:=[_]) (L2:=_) H5;dsimp only [List.map] at H;obtain ⟨es,hes⟩:∃ es,es=BD rs os net:=⟨_,rfl⟩
    have hnR:rs≠[]→(adr a).block∉[b6]:=fun hne=>by
     have:=R.lt' (fun _ _=>rfl) (by decide) hne;rw [List.mem_singleton]; omega
    have heL:es.length≤3000000:=by rw [hes,GC]; split <;> omega
    refine NH (gf:=240) U Aib (V9 (b1:=x1) (b2:=x2) (b3:=x3) (a:=a) (b:=a4) (c:=c) (e:=c4) (rs:=rs) (ds:=os) (net:=net) U U hn2 hwe) (by kernel_rfl) (by kernel_rfl) (fun v hv=>by obtain ⟨p,-,rfl⟩:=List.mem_map.1 hv; rfl)
     (rndJ ws b6 ((rs.length:Int)+1) es) (fun _=>False) (by simp)
     (fun w2 hx2 _=>⟨_,none,0,[],rfl,H.call hx2,OS.nil,by simp [ent]; omega⟩)
     (fun i M w' w'' hJ hx=>?_) (fun _ _ h _=>h) (fun i M w' hJ=>?_) ?_ ?_ (fun _ h _=>h.elim)
    ·obtain ⟨a7,c7,f7,hM,HJ,O7,hne⟩:=hJ;refine ⟨a7,c7,f7,hM,HJ.step hx (fun y hy hy2=>?_) (fun x hx => .inr ?_),O7,hne⟩
     ·have:=hne _ (List.mem_map_of_mem (f:=(·.1)) hy);simp only [List.mem_cons,List.not_mem_nil,or_false] at hy2;omega
     ·simp only [List.mem_cons,List.not_mem_nil,or_false] at hx;omega
    ·obtain ⟨a7,c7,f7,hM,HJ,O7,hne⟩:=hJ;refine ⟨fun x hx=>?_,HJ.ext.to hk1 (by rw [List.mem_singleton]; omega),HJ.ext.to hk2 (by rw [List.mem_singleton]; omega),HJ.ext.to hk3 (by rw [List.mem_singleton]; omega),RR.ext' HJ.ext hnR,RO5.ext' HJ.ext hROn⟩;rw [hM] at hx;obtain ⟨y,hy,rfl⟩:=List.mem_map.1 hx;exact ⟨Bb (HJ.blk y hy),hne _ hx⟩
    ·rintro i v M w hxv ⟨a7,c7,f7,rfl,HJ,O7,hne⟩ hsz;rw [List.getElem?_map] at hxv;obtain ⟨ed,hed,rfl⟩:=Option.map_eq_some_iff.1 hxv;rw [← hes] at hed;have hil:=Cu hed;obtain ⟨w1,rfl⟩:∃ z,z=w:=⟨_,rfl⟩;have H:=Ctx.start w1 [];refine Ax (Ba HM H ?_);rintro b11 w - H;refine Bm Dj U U U (by exact HS _) H at0 U ?_;rintro w H;refine Ab ?_;refine ⟨H.ext,fun wB hxB=>?_⟩;have hb11:=(H.own _ (List.mem_cons_self ..)).elim (fun h=>by cases h) id;dsimp only at hb11;have hs1:=H.size;have hsB:=hxB.size
     have HB:=(HJ.callAdd H.ext (H.get at0) hb11).step hxB (fun y hy=>by
      rw [List.mem_singleton]
      rcases List.mem_cons.1 hy with rfl | hy
      ·dsimp only; omega
      ·exact (hne _ (List.mem_map_of_mem (f:=(·.1)) hy)).2) (fun z hz => .inr (by rw [List.mem_singleton.1 hz]; omega))
     obtain ⟨w2,rfl⟩:∃ z,z=wB:=⟨_,rfl⟩;rw [← List.append_nil (_::_::ent a7 59 f7)] at HB;have H:=Ctx.lend (L1:=_::_::ent a7 59 f7) (L2:=[]) HB;obtain ⟨SS,hSS⟩:∃ SS,SS=((b11,Bl 59 (CG ed))::(b6,Bl 51 [.int .i64 ((rs.length:Int)+1),.slice a7 i c7])::ent a7 59 f7).map (·.1):=⟨_,rfl⟩;rw [← hSS] at H;refine A0 (Ax (Ah Dd U (AH E4 U H at1 U (Cr IK Dj U H at0 U (Cj _ (.agg _) Di Dj HM U (by decide) (by decide) U U U H ?_)))));rintro b43 w - H;refine CF (L:=[_,_]) Di Di Dj YT HM U (by decide) U U H O7 U (HS ed) ?_;rintro a' c' full' w H O;refine Ah Dd U (Ci (.slice _ _ _) Afx U U U H at1 (by (simp; done)) ?_);rintro w H;refine Ab (A6 ?_);rw [hSS] at H;have HE:=H.ext;have HH:=Ctx.back HB H;rw [List.append_nil] at HH;refine ⟨_,⟨a',c',full',rfl,HH.tail,by rw [List.take_add_one,hed,List.flatMap_append]; exact O,fun y hy=>?_⟩,fun y hy=>?_,_,HE,fun y hy=>?_⟩
     ·obtain ⟨z,hz,rfl⟩:=List.mem_map.1 hy
      rcases H.own z (List.mem_cons_of_mem _ hz) with h | h
      ·rcases List.mem_cons.1 h with h | h
       ·dsimp only at h; omega
       ·exact hne _ h
      ·have:=hxB.size; have:=H.ext.size; omega
     ·obtain ⟨z,hz,rfl⟩:=List.mem_map.1 hy
      rcases H.own z (List.mem_cons_of_mem _ hz) with h | h
      ·rcases List.mem_cons.1 h with h | h
       ·exact .inr (by dsimp only at h; omega)
       ·exact .inl h
      ·exact .inr (by have:=hxB.size; omega)
     ·rcases List.mem_cons.1 hy with h | h
      ·exact .inr (by dsimp only at h; omega)
      ·exact .inl h
    ·rintro M w ⟨a7,c7,f7,rfl,HJ,O7,hne⟩ hD;rw [List.length_map,← hes] at HJ O7 hne;rw [List.take_length] at O7;have H:=HJ;obtain ⟨w1,rfl⟩:∃ z,z=w:=⟨_,rfl⟩;rw [← List.append_nil (_::ent a7 59 f7)] at HJ;have H:=Ctx.lend (L1:=_::ent a7 59 f7) (L2:=[]) HJ;obtain ⟨SS,hSS⟩:∃ SS,SS=((b6,Bl 51 [.int .i64 ((rs.length:Int)+1),.slice a7 es.length c7])::ent a7 59 f7).map (·.1):=⟨_,rfl⟩;rw [← hSS] at H hne;have hDn:ws.heap.size∉SS:=fun h=>(hne _ h).1 rfl;refine A6 (Aa (Ae (Cr Dh CK U H at0 U (Ay U (Bm CK U U U (by simp [Bg]) H at0 U ?_)))));rintro w H;refine A4 U (Af U (Ab (Aa (A5 (Ue U U U U ?_)))));refine Hv (H.ext.to hD hDn) U fun wF hxF=>?_;rw [hSS] at H;have HH:=Ctx.back HJ H;rw [List.append_nil] at HH;rw [hSS] at hne;have HF:=HH.step hxF (fun y hy h=>(hne _ (List.mem_map_of_mem (f:=(·.1)) hy)).1 (List.mem_singleton.1 h)) (fun z hz => .inr (by rw [List.mem_singleton.1 hz]; omega))
     have hown:∀ y∈((b6,Bl 51 [.int .i64 ((rs.length:Int)+1),.slice a7 es.length c7])::ent a7 59 f7),w0.heap.size≤y.1:=fun y hy=>by
      rcases HF.own y hy with h | h
      ·rw [List.mem_singleton.1 h]; exact hb60
      ·have:=hx5.size; omega
     have hxx:=hx5.then HF.ext fun x hx => .inr (by rw [List.mem_singleton.1 hx]; exact hb60);refine ⟨_,FW Dh CK U (fun j v hv=>by rw [Aj (HF.get at0),Nat.zero_add]; exact hv),hxx,.inr ⟨by rw [← hbb]; exact h1,a7,es.length,c7,.slice a2 os.length c2,rfl,?_,?_⟩⟩
     ·rw [← hos,← hes];refine ⟨a7,c7,rfl,O7.le,OS.rd O7 (fun x hx=>HF.blk x (List.mem_cons_of_mem _ hx)) (fun _ _=>rfl) (by decide),fun hne'=>?_⟩;obtain ⟨q,rfl⟩:=O7.form (List.length_pos_iff.2 hne');exact hown (q,Bl 59 f7) (List.mem_cons_of_mem _ (List.mem_singleton.2 U))
     ·rw [← hos];have hd4:os.map Du.id≠[]→w4.heap.size≤(adr a2).block:=hRIn;refine ⟨a2,c2,by rw [List.length_map],by rw [List.length_map]; exact O.le,RI0.ext' HF.ext (fun hne'=>?_),fun hne'=>?_⟩
      ·have:=hRIn hne';rw [List.mem_singleton]; omega
      ·have:=hRIn hne';omega
end Go.Proofs.YtdagmpmdcgedcaaGreat
namespace Go.Proofs.YtdagmpmdcgedcaaGreat
open Go.GV
attribute [local irreducible] AD W Wq Wt
end Go.Proofs.YtdagmpmdcgedcaaGreat
namespace Go.Proofs.YtdagmpmdcgedcaaGreat
open Go.GV
attribute [local irreducible] AD W Wq Wt
def ovI (g:Gr) (x:Nat→Int) (v i q:Nat):Int:=if q<v then B9 g x q else if q=v then Ea g x i v else 0
end Go.Proofs.YtdagmpmdcgedcaaGreat
namespace Go.Proofs.YtdagmpmdcgedcaaGreat
open Go.GV
attribute [local irreducible] AD W Wq Wt
end Go.Proofs.YtdagmpmdcgedcaaGreat
namespace Go.Proofs.YtdagmpmdcgedcaaGreat
open Go.GV
attribute [local irreducible] AD W Wq Wt
structure LS2 where
 i:Nat
 a:Option Addr
 c:Nat
 f:List Value
 a2:Option Addr
 c2:Nat
 f2:List Value
end Go.Proofs.YtdagmpmdcgedcaaGreat
namespace Go.Proofs.YtdagmpmdcgedcaaGreat
open Go.GV
attribute [local irreducible] AD W Wq Wt
theorem perm5 {α:Type} {a b c d e:α} {r:List α}:(a::b::c::d::e::r).Perm (d::a::e::b::c::r) :=
 (List.perm_middle (l₁:=[a,b,c]) (l₂:=e::r)).trans (((List.perm_middle (l₁:=[b,c]) (l₂:=r)).cons _).cons _)
theorem Uf (f:Nat→Int) (n:Nat):∃ f1:Nat→Int,BV f n=BV f1 n∧flE (tab f1 n)=f1∧EW (tab f1 n)=f1∧∀ i,i<n→f1 i=f i:=by
 refine ⟨fun i=>if i<n then f i else 0,List.map_congr_left fun i hi=>by dsimp only; rw [if_pos (List.mem_range.1 hi)],?_,?_,fun i hi=>if_pos hi⟩
 all_goals
  funext i
  first | unfold flE | unfold EW
  rcases Nat.lt_or_ge i n with h | h
  ·rw [Bi (BU h)]
  ·rw [List.getD_eq_getElem?_getD,List.getElem?_eq_none (by rw [CP]; exact h)];exact (if_neg (by omega)).symm
theorem Aa6 {g:Gr} {cap x y p:Nat→Int} (h:Fine g cap x p) (hy:∀ i,i<g.E→y i=x i):Fine g cap y p:=by
 refine ⟨fun i hi=>by rw [hy i hi]; exact h.in' i hi,fun a ha hr=>h.fit a ha ?_⟩;unfold CI at hr ⊢;rw [hy _ (by omega)] at hr;exact hr
theorem Aj7 {w:World} {bs bf bp bo:Nat} {N n:Nat} {ae:Option Addr} {ce:Nat} {kk:Int} {es:List Ed} {x p ov:Nat→Int} {full:List Value} {g:Gr} {cap:Nat→Int} (hn:es.length=n) (hg:grE (N:Int) es=g) (hcap:∀ i,i<n→Cs es i=cap i) (H0:Ctx w ((SL bs bf bp bo N ae n ce kk x p ov full).map (·.1)) w (SL bs bf bp bo N ae n ce kk x p ov full)) (O:OS ae n ce 4 full (es.flatMap CG))
  (hr:Cy (N:Int) es=true) (hF:Fine g cap x p) (hov:∀ v,v<N→ov v=B9 g x v) (hpb:∀ v,v<N → -1073741824≤p v∧p v≤1073741824) :
  Ret Tryz.prog 212 #[ptr bs] w fun v w'=>∃ (b:Bool) (x' p' ov':Nat→Int) (kk':Int),v = .bool b∧Ctx w ((SL bs bf bp bo N ae n ce kk x p ov full).map (·.1)) w' (SL bs bf bp bo N ae n ce kk' x' p' ov' full)∧Fine g cap x' p'∧(∀ v,v<N→ov' v=B9 g x' v)∧(∀ v,v<N → -1073741824≤p' v∧p' v≤1073741824) ∧
   (b=false→∀ v,v<N→B9 g x' v≤0)∧(b=true→HQ g x'+1≤HQ g x):=by
 subst hn hg;obtain ⟨x1,hx1,hxn,-,hxe⟩:=Uf x es.length;obtain ⟨p1,hp1,-,hpn,hpe⟩:=Uf p N;have hgo:=Jw hr;have hsl:SL bs bf bp bo N ae es.length ce kk x p ov full=SL bs bf bp bo N ae es.length ce kk x1 p1 ov full:=by unfold SL; rw [hx1,hp1]
 have hF1:Fine (grE (N:Int) es) (Cs es) x1 p1:=Pm hgo (Aa6 (MR hF hcap) hxe) hpe;have hov1:∀ v,B9 (grE (N:Int) es) x1 v=B9 (grE (N:Int) es) x v:=fun v=>Ll hxe v;have hex:HQ (grE (N:Int) es) x1=HQ (grE (N:Int) es) x:=Cz fun v _=>by rw [hov1]
 rw [hsl] at H0 ⊢;refine Ret.mono (Ad9 H0 O hr hF1 (fun v hv=>by rw [hov1]; exact hov v hv) (fun v hv=>by rw [hpe v hv]; exact hpb v hv) hxn hpn) ?_;rintro v w' ⟨b,x',p',ov',kk',h1,h2,h3,h4,h5,h6,h7⟩;exact ⟨b,x',p',ov',kk',h1,h2,MR h3 fun i hi=>(hcap i hi).symm,h4,h5,h6,fun h=>by rw [← hex]; exact h7 h⟩
theorem Aa7 (g:Gr) (v:Nat):B9 g (fun _=>0) v=0:=by
 have:B9 g (fun _=>0) v=B7 (fun _=>0) g.E:=Cz fun i _=>by rw [Int.mul_zero]
 rw [this,GQ]
structure PSt where
 j:Nat
 full:List Value
 x:Nat→Int
 p:Nat→Int
 ov:Nat→Int
 kk:Int
structure FSt where
 x:Nat→Int
 p:Nat→Int
 ov:Nat→Int
 kk:Int
set_option maxRecDepth 20000 in
set_option maxHeartbeats 8000000 in
theorem Aeo (N:Nat) (a:Option Addr) (c:Nat) (es:List Ed) (w:World) (R:Rd w a 4 CG es) (hr:Cy (N:Int) es=true) :
  Ret Tryz.prog 181 #[DT (N:Int) a es.length c] w fun v w'=>∃ (bf bp:Nat) (x p:Nat→Int) (k:Int),v = .tuple #[TF (some ⟨bf,0,none⟩) (some ⟨bp,0,none⟩) es.length es.length N N,.int .i64 k,.int .i64 0]∧Fine (grE (N:Int) es) (Cs es) x p∧(∀ v,v<N→B9 (grE (N:Int) es) x v=0)∧(∀ v,v<N → -1073741824≤p v∧p v≤1073741824)∧Ctx w [] w' [(bf,Bl 2 (BV x es.length)),(bp,Bl 2 (BV p N))]:=by
 obtain ⟨w0,rfl⟩:∃ w0,w0=w:=⟨_,rfl⟩;have H:=Ctx.start w0 [];obtain ⟨hN1,hN40,hn200,hall,-⟩:=CL hr;have hI:I64 (N:Int):=by unfold I64; omega
 refine Az (fn:=Tryz.f181) Tryz.func181 U [DT (N:Int) a es.length c] U (by kernel_rfl) ?_;refine Ae (Bx [.int .i64 (N:Int),.slice a es.length c] (.agg _) U U H ?_);rintro b1 w - H;refine Ba Wp H ?_;rintro b2 w - H;refine Af U (Af U (Ab (Aa (RC (Au (Ae (Cr Dh CK U H at1 U (Al RZ (LZ (N:Int) a es.length c es _ (R.ext0 H.ext) U hI) U ?_))))))));rintro v w ⟨rfl,hx11⟩;replace H:=H.call hx11;refine BF U (Ab (Aa (Ao _ U ?_ ?_)))
 ·intro h1;replace h1:=BG h1;rw [hr] at h1;cases h1
 ·intro h1;replace h1:=BH h1;refine Ap (Aa (DR 8589918240 (α:=Nat × Nat × Nat × Nat × Nat × Nat × List Value) (fun z=>[(5,ptr z.1)]) (fun z w'=>OS (some ⟨z.2.2.2.2.1,0,none⟩) es.length z.2.2.2.2.2.1 4 z.2.2.2.2.2.2 (es.flatMap CG)∧Ctx w0 [] w' [(z.2.1,Bl 2 (BV (fun _=>0) es.length)),(z.2.2.2.1,Bl 2 (BV (fun _=>0) N)),(z.2.2.2.2.1,Bl 59 z.2.2.2.2.2.2),(z.1,Bl 254 (SC N (some ⟨z.2.2.2.2.1,0,none⟩) es.length z.2.2.2.2.2.1 z.2.1 z.2.2.1 z.2.2.2.1 0)),(z.2.2.1,Bl 2 (BV (fun _=>0) N)),(b2,Bl 53 [.slice none 0 0,.slice none 0 0]),(b1,Bl 51 [.int .i64 (N:Int),.slice a es.length c])]) U ?_ ?_))
  ·skip
   have hb1:=H.get at1;refine Xq (n:=19) (anc:=GZ) Bk.b (Af0 es.length es) (fun i=>14+i) (TQ b1 N es.length a c) (Ha N es.length) (show Tryz.prog.follows .mixedOrders=true by kernel_rfl) U (by kernel_rfl) ?_ (fun i j _ _ h=>by have h:14+i=14+j:=h; omega) (fun i k b B=>sStab b1 N es.length a c i k b B) ?_ ?_
   ·intro k hk;have:k=0∨k=1∨k=2∨k=3∨k=4∨k=5∨k=6∨k=7∨k=8∨k=9∨k=10∨k=11∨k=12∨k=13∨k=14∨k=15∨k=16∨k=17∨k=18:=by omega
    simp [GZ];omega
   ·intro i o e' w' B hi ho hold hsl hx hbl hgd;have h4:e'.g 1=ptr b1:=(hold 1 fun j hj h=>by have h:1=14+j:=h; omega).trans rfl;have hc4:w'.heap[b1]? = some (Bl 51 [.int .i64 (N:Int),.slice a es.length c]):=hx.to (by exact hb1) (by simp);have hcs:i=0∨i=1∨i=2∨i=3∨i=4∨i=5∨i=6∨i=7∨i=8∨i=9∨i=10∨i=11∨i=12∨i=13∨i=14∨i=15∨i=16∨i=17∨i=18:=by omega
    have hpure:∀ {v:Value},Ha N es.length i=none→i≠5→TQ b1 N es.length a c i (JQ B i default)=v→AQB Bk.b (Af0 es.length es) (fun i=>14+i) (TQ b1 N es.length a c) (Ha N es.length) i e' w' B (put e' (some (14+i)) v) w':=fun h1 h5 h2=>⟨default,fun h=>absurd h h5,fun ob h=>(by rw [h1] at h; cases h),.refl _ _,by rw [h2]⟩
    rcases hcs with rfl | rfl | rfl | rfl | rfl | rfl | rfl | rfl | rfl | rfl | rfl | rfl | rfl | rfl | rfl | rfl | rfl | rfl | rfl
    ·cases Option.some.inj ho;exact Ah (by kernel_rfl) h4 (Ab (hpure U (by decide) U))
    ·cases Option.some.inj ho;exact AV BZ (hsl 0 (by simp [GZ])) (by rw [Aj hc4]; rfl) (Ab (hpure U (by decide) U))
    ·cases Option.some.inj ho;refine Ht U Di Dj (Ctx.start w' []) fun b w2 H O=>?_;have hbb:=H.blk (b,_) (List.mem_cons_self ..);exact Ab ⟨⟨b,0,[]⟩,(fun h=>by cases h),fun ob h=>(by obtain rfl:=Option.some.inj h; exact ⟨(H.own _ (List.mem_cons_self ..)).elim (fun h=>by cases h) id,hbb⟩),H.ext,rfl⟩
    ·cases Option.some.inj ho;exact Ah (by kernel_rfl) h4 (Ab (hpure U (by decide) U))
    ·cases Option.some.inj ho;exact AV E4 (hsl 3 (by simp [GZ])) (by rw [Aj hc4]; rfl) (Ab (hpure U (by decide) U))
    ·cases Option.some.inj ho;have h16:e'.g 16 = .slice (some ⟨(B 2).b,0,none⟩) 0 0:=hsl 2 (by simp [GZ]);have h18:e'.g 18 = .slice a es.length c:=hsl 4 (by simp [GZ])
     by_cases hn:es.length=0
     ·rw [hn] at h18;exact To U Di Di Dj h16 h18 (Ab ⟨default,fun _ => .inl hn,fun ob h=>(by simp [Ha,hn] at h),.refl _ _,by simp [TQ,sQ,hn,JQ]⟩)
     ·refine UR U Di Di Dj YT HM U (by decide) (es.flatMap CG) h16 h18 (EU fun _ _=>rfl) (Rd.app (R.ext0 ((H.ext.trans (Ext.drew [] _)).trans hx)) (fun _ _=>rfl) (by decide)) fun b c' full' w2 hb hx2 hbl2 O2=>?_;exact Ab ⟨⟨b,c',full'⟩,fun _ => .inr O2,fun ob h=>(by simp only [Ha,hn] at h; simp at h; subst h; exact ⟨by dsimp only; omega,by dsimp only; rw [IJ]; exact hbl2⟩),hx2,by simp [TQ,sQ,hn,JQ]⟩
    ·cases Option.some.inj ho;refine B6 [.int .i64 (N:Int),.slice (some ⟨(sQ es.length B).b,0,none⟩) es.length (sQ es.length B).c] pl_51 Np ?_ (Ab (hpure U (by decide) U));show Instr.fill _ _ [(0,e'.g 15),(1,e'.g 19)]=_;rw [show e'.g 15 = .int .i64 (N:Int) from hsl 1 (by simp [GZ]),show e'.g 19 = .slice (some ⟨(sQ es.length B).b,0,none⟩) es.length (sQ es.length B).c from hsl 5 (by simp [GZ])];rfl
    ·cases Option.some.inj ho;exact Ah (by kernel_rfl) h4 (Ab (hpure U (by decide) U))
    ·cases Option.some.inj ho;exact AV E4 (hsl 7 (by simp [GZ])) (by rw [Aj hc4]; rfl) (Ab (hpure U (by decide) U))
    ·cases Option.some.inj ho;exact Be Di (hsl 8 (by simp [GZ])) (Ab (hpure U (by decide) U))
    ·cases Option.some.inj ho;refine Hk AU Bz Lh Ei (hsl 9 (by simp [GZ])) (hsl 9 (by simp [GZ])) (Ctx.start w' []) fun b w2 hb H=>?_;have hbb:=H.get at0;rw [show ((es.length:Nat):Int).toNat=es.length from rfl,Fa] at hbb;exact Ab ⟨⟨b,0,[]⟩,(fun h=>by cases h),fun ob h=>(by obtain rfl:=Option.some.inj h; exact ⟨by dsimp only; omega,hbb⟩),H.ext,rfl⟩
    ·cases Option.some.inj ho;exact Ah (by kernel_rfl) h4 (Ab (hpure U (by decide) U))
    ·cases Option.some.inj ho;exact AV BZ (hsl 11 (by simp [GZ])) (by rw [Aj hc4]; rfl) (Ab (hpure U (by decide) U))
    ·cases Option.some.inj ho;refine Hk AU Bz Lh Ei (hsl 12 (by simp [GZ])) (hsl 12 (by simp [GZ])) (Ctx.start w' []) fun b w2 hb H=>?_;have hbb:=H.get at0;rw [show ((N:Nat):Int).toNat=N from rfl,Fa] at hbb;exact Ab ⟨⟨b,0,[]⟩,(fun h=>by cases h),fun ob h=>(by obtain rfl:=Option.some.inj h; exact ⟨by dsimp only; omega,hbb⟩),H.ext,rfl⟩
    ·cases Option.some.inj ho;exact Ah (by kernel_rfl) h4 (Ab (hpure U (by decide) U))
    ·cases Option.some.inj ho;exact AV BZ (hsl 14 (by simp [GZ])) (by rw [Aj hc4]; rfl) (Ab (hpure U (by decide) U))
    ·cases Option.some.inj ho;refine Hk AU Bz Lh Ei (hsl 15 (by simp [GZ])) (hsl 15 (by simp [GZ])) (Ctx.start w' []) fun b w2 hb H=>?_;have hbb:=H.get at0;rw [show ((N:Nat):Int).toNat=N from rfl,Fa] at hbb;exact Ab ⟨⟨b,0,[]⟩,(fun h=>by cases h),fun ob h=>(by obtain rfl:=Option.some.inj h; exact ⟨by dsimp only; omega,hbb⟩),H.ext,rfl⟩
    ·cases Option.some.inj ho;refine B6 (sSC N es.length B) Ai7 Ajh ?_ (Ab (hpure U (by decide) U));show Instr.fill _ _ [(0,e'.g 20),(1,e'.g 24),(2,e'.g 27),(3,e'.g 30)]=_;rw [show e'.g 20 = .agg #[.int .i64 (N:Int),.slice (some ⟨(sQ es.length B).b,0,none⟩) es.length (sQ es.length B).c] from hsl 6 (by simp [GZ]),show e'.g 24 = .slice (some ⟨(B 10).b,0,none⟩) es.length es.length from hsl 10 (by simp [GZ]),show e'.g 27 = .slice (some ⟨(B 13).b,0,none⟩) N N from hsl 13 (by simp [GZ]),show e'.g 30 = .slice (some ⟨(B 16).b,0,none⟩) N N from hsl 16 (by simp [GZ])];rfl
    ·cases Option.some.inj ho;refine Bx (sSC N es.length B) (.agg _) (hsl 17 (by simp [GZ])) U (Ctx.start w' []) fun b w2 hb H=>?_;exact Ab ⟨⟨b,0,[]⟩,(fun h=>by cases h),fun ob h=>(by obtain rfl:=Option.some.inj h; exact ⟨by dsimp only; omega,H.get at0⟩),H.ext,rfl⟩
   ·intro o e' w' B ho A;have hl1:=Bb hb1;have hl2:=Bb (H.get at0);have h9:w.drew.heap.size=w.heap.size:=rfl
    obtain ⟨iq,hiq,hqb,hqh,hqo,O5⟩:∃ iq,(iq=2∨iq=5)∧(sQ es.length B).b=(B iq).b∧w'.heap[(B iq).b]? = some (Bl 59 (sQ es.length B).f)∧(Ha N es.length iq≠none)∧OS (some ⟨(sQ es.length B).b,0,none⟩) es.length (sQ es.length B).c 4 (sQ es.length B).f (es.flatMap CG):=by
     by_cases hn:es.length=0
     ·have he:es=[]:=List.eq_nil_of_length_eq_zero hn;have hsq:sQ es.length B=⟨(B 2).b,0,[]⟩:=if_pos hn;rw [hsq];refine ⟨2,.inl rfl,rfl,(A.blk 2 _ (by omega) trivial (show Ha N es.length 2=some _ from rfl)).1,by simp [Ha],?_⟩;subst he;exact ⟨(fun q hq=>by injection hq with hq; subst hq; rfl),(fun h=>by cases h),rfl,Nat.le_refl _,rfl⟩
     ·have hsq:sQ es.length B=B 5:=if_neg hn;have ho5:Ha N es.length 5=some fun B=>Bl 59 (B 5).f:=by simp [Ha,hn]
      rw [hsq];exact ⟨5,.inr rfl,rfl,(A.blk 5 _ (by omega) trivial ho5).1,by rw [ho5]; simp,(A.good 5 (by omega) trivial rfl).resolve_left hn⟩
    have hiq19:iq<19:=by omega
    have ob10:Ha N es.length 10≠none:=by simp [Ha]
    have ob13:Ha N es.length 13≠none:=by simp [Ha]
    have ob16:Ha N es.length 16≠none:=by simp [Ha]
    have ob18:Ha N es.length 18≠none:=by simp [Ha]
    have hne:=fun i j hi hj hij oi oj=>A.ne i j hi hj hij trivial trivial oi oj;have k10:=A.blk 10 _ (by omega) trivial (show Ha N es.length 10=some _ from rfl);have k13:=A.blk 13 _ (by omega) trivial (show Ha N es.length 13=some _ from rfl);have k16:=A.blk 16 _ (by omega) trivial (show Ha N es.length 16=some _ from rfl);have k18:=A.blk 18 _ (by omega) trivial (show Ha N es.length 18=some _ from rfl)
    have kq:w.heap.size≤(B iq).b:=by
     cases hoq:Ha N es.length iq with
     | none=>exact absurd hoq hqo
     | some ob=>exact (A.blk iq ob hiq19 trivial hoq).2
    have hs0:=H.size;have n10_16:=hne 10 16 (by omega) (by omega) (by omega) ob10 ob16;have n10_q:=hne 10 iq (by omega) hiq19 (by omega) ob10 hqo;have n10_18:=hne 10 18 (by omega) (by omega) (by omega) ob10 ob18;have n10_13:=hne 10 13 (by omega) (by omega) (by omega) ob10 ob13;have n16_q:=hne 16 iq (by omega) hiq19 (by omega) ob16 hqo;have n16_18:=hne 16 18 (by omega) (by omega) (by omega) ob16 ob18;have n16_13:=hne 16 13 (by omega) (by omega) (by omega) ob16 ob13;have nq_18:=hne iq 18 hiq19 (by omega) (by omega) hqo ob18;have nq_13:=hne iq 13 hiq19 (by omega) (by omega) hqo ob13;have n18_13:=hne 18 13 (by omega) (by omega) (by omega) ob18 ob13;have n12:=H.ne at0 at1 (by decide);have hb20:=(H.own _ (List.mem_cons_self ..)).elim (fun h=>by cases h) id;have hb10:=(H.own _ (List.mem_cons_of_mem _ (List.mem_cons_self ..))).elim (fun h=>by cases h) id
    have Hc:Ctx w0 [] w' [((B 10).b,Bl 2 (BV (fun _=>0) es.length)),((B 16).b,Bl 2 (BV (fun _=>0) N)),((B iq).b,Bl 59 (sQ es.length B).f),((B 18).b,Bl 254 (sSC N es.length B)),((B 13).b,Bl 2 (BV (fun _=>0) N)),(b2,Bl 53 [.slice none 0 0,.slice none 0 0]),(b1,Bl 51 [.int .i64 (N:Int),.slice a es.length c])]:=by
     refine ⟨(H.ext.trans (Ext.drew [] _)).trans A.ext,fun x hx=>?_,?_,fun x hx => .inr ?_⟩
     ·simp only [List.mem_cons,List.not_mem_nil,or_false] at hx
      rcases hx with rfl | rfl | rfl | rfl | rfl | rfl | rfl
      ·exact k10.1
      ·exact k16.1
      ·exact hqh
      ·exact k18.1
      ·exact k13.1
      ·exact A.ext.to (H.get at0) (by simp)
      ·exact A.ext.to hb1 (by simp)
     ·simp only [List.pairwise_cons,List.mem_cons,List.not_mem_nil,or_false,forall_eq_or_imp,forall_eq,List.Pairwise.nil,false_imp_iff,implies_true,and_true];refine ⟨⟨n10_16,n10_q,n10_18,n10_13,?_,?_⟩,⟨n16_q,n16_18,n16_13,?_,?_⟩,⟨nq_18,nq_13,?_,?_⟩,⟨n18_13,?_,?_⟩,⟨?_,?_⟩,n12⟩ <;> omega
     ·simp only [List.mem_cons,List.not_mem_nil,or_false] at hx
      rcases hx with rfl | rfl | rfl | rfl | rfl | rfl | rfl <;> (dsimp only; omega)
    cases Option.some.inj ho;refine CY U (ptr (B 18).b) (A.slot 18 (by omega) trivial) (Ab ⟨((B 18).b,(B 10).b,(B 13).b,(B 16).b,(sQ es.length B).b,(sQ es.length B).c,(sQ es.length B).f),A.ds,⟨rfl,trivial⟩,O5,?_⟩);dsimp only;rw [hqb];have hsc:sSC N es.length B=SC N (some ⟨(B iq).b,0,none⟩) es.length (sQ es.length B).c (B 10).b (B 13).b (B 16).b 0:=by unfold sSC; rw [hqb]
    rw [hsc] at Hc;exact Hc
  ·rintro ⟨bs,bf,bp,bo,q,ce,full⟩ j w ⟨O,H⟩; dsimp only at O H; dsimp only;obtain ⟨g,hg⟩:∃ g,g=grE (N:Int) es:=⟨_,rfl⟩;have hgE:g.E=es.length:=by rw [hg]; rfl
   have hgN:g.N=N:=by rw [hg]; rfl
   have hgo:g.Ok:=by rw [hg]; exact Jw hr
   have hcb:=NP hr;rw [← hg];refine Ae (Af U (Ab (Aa (Au (Ae (Ah Dd U (AH E4 U H at6 U (Be Di U (Ad U (Ab (Aa ?_)))))))))));refine A0 (Bv 72057525318451648 (α:=Nat × Nat × List Value) (fun t=>[(36,.int .i64 (t.1:Int)),(6,.int .i64 (t.2.1:Int))]) (fun t w'=>t.1≤es.length∧OS (some ⟨q,0,none⟩) es.length ce 4 t.2.2 ((esC es (Jz (Cs es) (fun _=>0) t.1)).flatMap CG)∧(∀ j,j<t.1→(Cs es j).toNat<2 ^ t.2.1)∧t.2.1≤64∧Ctx w0 [] w' [(bf,Bl 2 (BV (fun _=>0) es.length)),(bo,Bl 2 (BV (fun _=>0) N)),(q,Bl 59 t.2.2),(bs,Bl 254 (SC N (some ⟨q,0,none⟩) es.length ce bf bp bo 0)),(bp,Bl 2 (BV (fun _=>0) N)),(b2,Bl 53 [.slice none 0 0,.slice none 0 0]),(b1,Bl 51 [.int .i64 (N:Int),.slice a es.length c])]) (fun t=>es.length - t.1) (0,0,full) U ?_ ?_ ?_)
   ·exact ⟨rfl,rfl,trivial⟩
   ·refine ⟨Nat.zero_le _,?_,fun j h=>absurd h (Nat.not_lt_zero _),by dsimp only; omega,H⟩;rw [KD (d:=Cs es) fun i _=>by unfold Jz; rw [if_neg (Nat.not_lt_zero _)],Po];exact O
   ·rintro ⟨i,m,full⟩ j w ⟨hi,O,hm,hm6,H⟩; dsimp only at hi O hm hm6 H; dsimp only;refine Ae (Bj U U (Ab (Aa (Au (Ao _ U ?_ ?_)))))
    ·intro h2;replace h2:=AM h2;have hil:i<es.length:=by omega
     obtain ⟨e,he⟩:=A8 (h:=hil);have hee:=EN (hall e (List.mem_of_getElem? he));obtain ⟨cc,hcc⟩:∃ cc:Nat,e.cap=cc:=⟨e.cap.toNat,by omega⟩;have henc:CG e=[.int .i64 e.f,.int .i64 e.t,.int .i64 (cc:Int),.int .i64 e.cost]:=by unfold CG; rw [hcc]
     have hOl:=O.len;have hOe:=O.le;refine Ap (Aa (Au (A0 (Ae (Ad U (AX R Di Dj U U (by rfl) ?_))))));refine BW _ IK Dj U U (Rd.rowE (R.ext0 H.ext) he henc U) ?_;refine Ba HM H ?_;rintro b8 w - H;refine Af U (Bm Dj U U U (by simp [Bg]) H at0 U ?_);rintro w H;refine Ab (Aa (Ae (A2 U (AA U (Ah GO U (Ah Dd U (AH E4 U H at4 U (Ad U (Bn Di Dj U U ?_)))))))));refine Ah Fh U (Ci (.int _ _) Bz U U U H at3 (by omega) ?_);rintro w H;refine Ab (Aa (Ax (Ad U (Ah Fh U (AH Bs U H at0 U (ED U Vm F5 ?_))))));refine Al Ze (TP cc (by omega) _) U ?_;rintro v w ⟨r,rfl,hr1,hr2,-,rfl⟩;refine L9 U U U ?_;refine Af U (Ab (A6 (Aa (Ax (Aw U U ?_)))));refine Ad U (Ab (Aa ?_));rw [show 0+((i:Int)).toNat*4+2=i*4+2 by omega] at H
     have O1:=OS.setf O (y:=edC es (Jz (Cs es) (fun _=>0) (i+1)) i) (j:=2) (v := .int .i64 0) (fun _=>rfl) (Jy (c:=Jz (Cs es) (fun _=>0) i) hil) (by decide) (by unfold edC CG Jz; dsimp only; rw [if_pos (by omega)]; rfl);rw [W7 rfl (fun j _ hj=>WA hj)] at O1;have hce:Cs es i=(cc:Int):=by unfold Cs; rw [Bi he,hcc]
     refine ⟨(i+1,max m r,full.set (i*4+2) (.int .i64 0)),rfl,⟨rfl,congrArg (Value.int .i64) (by dsimp only; omega),trivial⟩,⟨by dsimp only; omega,O1,fun j hj=>?_,by dsimp only; omega,H.tail⟩,by dsimp only; omega⟩;dsimp only at hj ⊢
     by_cases ej:j=i
     ·subst ej;rw [hce];exact Nat.lt_of_lt_of_le (by omega) (Nat.pow_le_pow_right (by decide) (Nat.le_max_right m r))
     ·exact Nat.lt_of_lt_of_le (hm j (by omega)) (Nat.pow_le_pow_right (by decide) (Nat.le_max_left m r))
    ·intro h2;replace h2:=AN h2;obtain rfl:i=es.length:=by omega
     rw [KD (d:=Gs es m) fun i hi=>by unfold Jz Gs; rw [if_pos hi,Nat.div_eq_of_lt (hm i hi)]; rfl] at O;refine Br (An (An (AK (Aa (Ae (Ad U (Af U (Ab (Aa (Au (R9 (Aa (Au (A0 (Bv 147429837401600557568 (α:=PSt) (fun t=>[(9,.int .i64 (t.j:Int))]) (fun t w'=>t.j≤64∧OS (some ⟨q,0,none⟩) es.length ce 4 t.full ((esC es (Gs es t.j)).flatMap CG)∧Fine g (Gs es t.j) t.x t.p∧(∀ v,v<N→B9 g t.x v=0)∧(∀ v,v<N→t.ov v=0)∧(∀ v,v<N → -1073741824≤t.p v∧t.p v≤1073741824)∧Ctx w0 [] w' [(bf,Bl 2 (BV (t.x) es.length)),(bo,Bl 2 (BV (t.ov) N)),(q,Bl 59 t.full),(bs,Bl 254 (SC N (some ⟨q,0,none⟩) es.length ce bf bp bo t.kk)),(bp,Bl 2 (BV (t.p) N)),(b2,Bl 53 [.slice none 0 0,.slice none 0 0]),(b1,Bl 51 [.int .i64 (N:Int),.slice a es.length c])]) (fun t=>t.j) ⟨m,full,fun _=>0,fun _=>0,fun _=>0,0⟩ U ?_ ?_ ?_)))))))))))))))
     ·exact ⟨rfl,trivial⟩
     ·refine ⟨hm6,O,⟨fun i hi=>⟨Int.le_refl _,(NO hr m i (by omega)).1⟩,fun a ha hra=>?_⟩,fun v _=>Aa7 g v,fun _ _=>rfl,fun _ _=>⟨by dsimp only; omega,by dsimp only; omega⟩,H⟩;exfalso;unfold CI at hra;have hai:a / 2<es.length:=by omega
      have hk0:Gs es m (a / 2)=0:=by unfold Gs; rw [Nat.div_eq_of_lt (hm _ hai)]; rfl
      dsimp only at hra;rw [hk0] at hra
      split at hra <;> omega
     ·rintro ⟨j,full,x,p,ov,kk⟩ jj w ⟨hj6,O,hF,hx0,hov,hpb,H⟩; dsimp only at hj6 O hF hx0 hov hpb H; dsimp only
      rcases j with _ | j
      ·skip
       refine A0 (Au (Ae (Ad U (Bp U U ?_))));refine Af U (Ab (Aa (Ae (Ad U (Bj U U (Ab (Aa (Ao _ U ?_ ?_))))))))
       ·intro h3;replace h3:=AM h3;refine Br (An (Fw U (An (AK (Aa (Cv [([0,1,2,3,4,5,6,7,8,9,10,11,12],13),([14],15)] (fun z=>z.heap[bs]? = some (Bl 254 (SC N (some ⟨q,0,none⟩) es.length ce bf bp bo kk))) [] Bq (by kernel_rfl) (H.drew.get at3) ?_))))));refine AE U U ?_;refine BL U (Bf U (Am EQ U (Bw BM U (fun _ hx=>(by rw [Aj hx]; rfl)) ?_)));refine BL U (Bf U (Am ER U (Bw BM U (fun _ hx=>(by rw [Aj hx]; rfl)) ?_)));refine Ox [.slice (some ⟨bf,0,none⟩) es.length es.length,.slice (some ⟨bp,0,none⟩) N N] U Afs Wp U ?_;refine BL U (Bf U (Am OR U (Bw BZ U (fun _ hx=>(by rw [Aj hx]; rfl)) ?_)));refine AP ?_;replace H:=H.drew;refine Bm Nl U U U (by simp [Bg]) H at5 U ?_;rintro w H;refine Ab (BT (H.get at3) (AE U U ?_))
        refine Kx U U (AP (Af U (Ab (BT (H.get at3) (BJ (A5 (Xc (Ac8 U U U Ty Nl H at5 U (show _=(.int _ _) from rfl) (show _=(.int _ _) from rfl) ?_))))))));refine ⟨bf,bp,x,p,kk,rfl,MR hF fun i hi=>(XA hr i (by omega)).symm,hx0,hpb,H.sub (fun y hy=>?_) ?_⟩
        ·simp only [List.mem_cons,List.not_mem_nil,or_false] at hy
         rcases hy with rfl | rfl
         ·exact List.mem_of_getElem? (i:=0) U
         ·exact List.mem_of_getElem? (i:=4) U
        ·simp only [List.pairwise_cons,List.mem_singleton,forall_eq,List.not_mem_nil,false_imp_iff,implies_true,List.Pairwise.nil,and_true];exact H.ne at0 at4 (by decide)
       ·intro h3;replace h3:=AN h3;omega
      ·skip
       refine A0 (Au (Ae (Ad U (Bp U U ?_))));rw [show ((j+1:Nat):Int) - 1=(j:Int) by omega];refine Af U (Ab (Aa (Ae (Ad U (Bj U U (Ab (Aa (Ao _ U ?_ ?_))))))))
       ·intro h3;replace h3:=AM h3;omega
       ·intro h3;replace h3:=AN h3;have hF1:=Pc hF (cap':=Gs es j) fun i _=>QE es j i;obtain ⟨x1,hx1⟩:∃ x1,x1=Kb g (Gs es j) x p:=⟨_,rfl⟩;refine Ap (Aa (Ae (A2 U (Cr Dh CK U H at6 U (Ad U (Al Ahp (Aad (bf:=bf) (bo:=bo) (ae:=some ⟨q,0,none⟩) (Ctx.lend (L1:=[_,_,_]) (L2:=[_,_,_,_]) H) O (H.get at3) (GA (L:=[_,_,_]) H.nd (x:=(bs,_)) (List.mem_of_getElem? (i:=0) U)) (H.get at4) (GA (L:=[_,_,_]) H.nd (x:=(bp,_)) (List.mem_of_getElem? (i:=1) U)) (R.ext0 H.ext) (fun hne hm=>by have h7:=Rd.lt R hne (fun x _=>⟨_,rfl⟩) (by decide); have h8:=(Ctx.left (L:=[_,_,_]) (L':=[_,_,_,_]) H).own; obtain ⟨y,hy,he⟩:=List.mem_map.1 hm; rcases h8 y hy with h | h; cases h; omega) hr (fun i _=>QE es j i) (by rw [← hg]; exact hF) (by rw [← hg]; exact hx0) hov hpb) U ?_))))));rintro rv w ⟨rfl,full',O',H2⟩;rw [← hg] at H2;replace H:=Ctx.back (L1:=[_,_,_]) (L2:=[_,_,_,_]) H H2
        refine Ab (Aa (A0 ?_));rw [← hx1] at hF1 H;refine Bv 110680464442257309696 (α:=FSt) (fun _=>[]) (fun t w'=>Fine g (Gs es j) t.x t.p∧(∀ v,v<N→t.ov v=B9 g t.x v)∧(∀ v,v<N → -1073741824≤t.p v∧t.p v≤1073741824)∧Ctx w0 [] w' [(bf,Bl 2 (BV (t.x) es.length)),(bo,Bl 2 (BV (t.ov) N)),(q,Bl 59 full'),(bs,Bl 254 (SC N (some ⟨q,0,none⟩) es.length ce bf bp bo t.kk)),(bp,Bl 2 (BV (t.p) N)),(b2,Bl 53 [.slice none 0 0,.slice none 0 0]),(b1,Bl 51 [.int .i64 (N:Int),.slice a es.length c])]) (fun t=>(HQ g t.x).toNat) ⟨x1,p,B9 g x1,kk⟩ U ?_ ?_ ?_
        ·exact trivial
        ·exact ⟨hF1,fun _ _=>rfl,hpb,H⟩
        ·rintro ⟨x,p,ov,kk⟩ jj2 w ⟨hF,hov,hpb,H⟩; dsimp only at hF hov hpb H; dsimp only;refine Au (Ae (A2 U ?_));have Hq:=H.perm perm5;refine Al Ahq (Aj7 (bs:=bs) (bf:=bf) (bp:=bp) (bo:=bo) (N:=N) (n:=es.length) (ae:=some ⟨q,0,none⟩) (ce:=ce) (es:=esC es (Gs es j)) (g:=g) (cap:=Gs es j) (Jx es _) (by rw [grE_C,← hg]) (fun i hi=>Ajs hi) (Ctx.lend (L1:=[_,_,_,_,_]) (L2:=[_,_]) Hq) O' (W8 hr (NO hr j)) hF hov hpb) U ?_;rintro rv w ⟨b,x',p',ov',kk',rfl,H2,hF',hov',hpb',hb0,hb1⟩;replace H:=(Ctx.back (L1:=[_,_,_,_,_]) (L2:=[_,_]) Hq H2).perm perm5.symm;refine Ab (Aa (Ao _ U ?_ ?_))
         ·intro h4;refine Ap (Aa (A0 (Ap (A6 (Aa ?_)))));have h5:=hb1 h4;have h6:=Xz g x';exact ⟨⟨x',p',ov',kk'⟩,rfl,trivial,⟨hF',hov',hpb',H⟩,by dsimp only; omega⟩
         ·intro h4;refine Br (An (An (AK (A6 (Aa ?_)))));have hz:∀ v,v<N→B9 g x' v=0:=fun v hv=>TD hgo (fun u hu=>hb0 h4 u (by omega)) v (by omega);exact ⟨⟨j,full',x',p',ov',kk'⟩,rfl,⟨rfl,trivial⟩,⟨by dsimp only; omega,O',hF',hz,fun v hv=>(hov' v hv).trans (hz v hv),hpb',H⟩,by dsimp only; omega⟩
end Go.Proofs.YtdagmpmdcgedcaaGreat
