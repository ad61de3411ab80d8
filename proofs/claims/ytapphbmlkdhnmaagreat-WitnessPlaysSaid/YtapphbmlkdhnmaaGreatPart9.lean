/- Part 9 of the proof. -/
import Derived.Test.YtapphbmlkdhnmaaGreatPart2
import Derived.Test.YtapphbmlkdhnmaaGreatPart8
import Derived.Test.YtapphbmlkdhnmaaGreatPart4
import Derived.Test.YtapphbmlkdhnmaaGreatPart3
/- Dues that are open: DeleteFunc, open. -/
namespace Go.Proofs.YtapphbmlkdhnmaaGreat
open Go.GV
attribute [local irreducible] AC W Wq Wt

def opn (ds:List Du):List Du:=ds.filter fun d => !d.held
theorem OJ:∀ (vs l:List Value) (o k:Nat),k≤o→(over l o vs).take k=l.take k
 | [],_,_,_,_=>rfl
 | v::vs,l,o,k,h=>by
  show (over (l.set o v) (o+1) vs).take k=_;rw [OJ vs (l.set o v) (o+1) k (by omega)];refine List.ext_getElem? fun j=>?_;rw [List.getElem?_take,List.getElem?_take]
  split
  ·rw [List.getElem?_set_ne (by omega)]
  ·rfl
theorem OS.shrink {α:Type} {a:Option Addr} {n c s i:Nat} {full vs:List Value} {enc:α→List Value} {L:List α} {o:Nat} (O:OS a n c s full (L.flatMap enc)) (hs:∀ x∈L,(enc x).length=s) (hi:i≤n) (hL:L.length=n) (ho:vs=[]∨i*s≤o):OS a i c s (Go.GV.over full o vs) ((L.take i).flatMap enc):=by
 refine ⟨O.zero,O.none',by rw [EH]; exact O.len,Nat.le_trans hi O.le,?_⟩
 have h1:(Go.GV.over full o vs).take (i*s)=full.take (i*s):=by
  rcases ho with rfl | ho
  ·rfl
  ·exact OJ _ _ _ _ ho
 rw [h1]
 have h2:full.take (i*s)=(full.take (n*s)).take (i*s):=by
  rw [List.take_take,Nat.min_eq_left (Nat.mul_le_mul_right _ hi)]
 rw [h2,O.pre];have h3:L.flatMap enc=(L.take i).flatMap enc++(L.drop i).flatMap enc:=by rw [← List.flatMap_append,List.take_append_drop]
 have h4:((L.take i).flatMap enc).length=i*s:=by
  rw [E9 fun z hz=>hs z (List.mem_of_mem_take hz),List.length_take,Nat.min_eq_left (by omega)]
 rw [h3];exact List.take_left' h4
theorem Nq (ds:List Du) (d:Du):opn (ds++[d])=opn ds++if d.held=true then [] else [d]:=by
 unfold opn;rw [List.filter_append];cases h:d.held <;> simp [h]
theorem Ut {ds:List Du} (h:∀ d∈ds,d.held=false):opn ds=ds:=by
 unfold opn;rw [List.filter_eq_self];intro d hd;rw [h d hd]; rfl
structure DSt where
 i:Nat
 j:Nat
 L:List Du
 full:List Value
set_option maxRecDepth 20000 in
set_option maxHeartbeats 4000000 in
theorem Aek (a:Option Addr) (c:Nat) (full:List Value) (ds:List Du) (w:World) (O:OS a ds.length c 7 full (ds.flatMap DW)) (hb:∀ y∈ent a 62 full,w.heap[y.1]? = some y.2) (hn2:ds.length≤1000000) :
  Ret Tryz.prog 156 #[.slice a ds.length c,Aay] w fun v w'=>∃ full',v = .slice a (opn ds).length c∧OS a (opn ds).length c 7 full' ((opn ds).flatMap DW)∧Ctx w ((ent a 62 full).map (·.1)) w' (ent a 62 full'):=by
 obtain ⟨w0,rfl⟩:∃ w0,w0=w:=⟨_,rfl⟩;have R:Rd w0 a 7 DW ds:=OS.rd O hb (fun _ _=>rfl) (by omega);have H:Ctx w0 ((ent a 62 full).map (·.1)) w0 (ent a 62 full):=⟨Ext.refl _ _,hb,Lc,fun x hx => .inl (List.mem_map_of_mem (f:=(·.1)) hx)⟩;refine A2 (fn:=Tryz.f156) Tryz.func156 U [.slice a ds.length c,.func (.func 158) #[] #[]] U (by kernel_rfl) ?_;refine Ag (A5 U U (Ab (Aa (Ag (Ap U U (BP U (.func _ _ _) U ?_))))));refine Al U Acv (ZE a ds.length c ds _ R U hn2) U ?_;rintro v w ⟨hx10,hidx⟩;replace H:=H.call hx10;obtain ⟨pi,rfl,hpi⟩:∃ pi:Int,v = .int .i64 pi∧((pi = -1∧∀ d∈ds,d.held=false)∨∃ i:Nat,pi=(i:Int)∧FstH ds i):=hidx.elim (fun h=>⟨-1,h.1,.inl ⟨rfl,h.2⟩⟩) (fun ⟨i,h1,h2⟩=>⟨i,h1,.inr ⟨i,rfl,h2⟩⟩);refine Ad U U (Ab (Aa (Aq (Ag (Ae U U (BQ U U U (Ab (Aa (Ay _ U ?_ ?_)))))))))
 ·intro h1;replace h1:=AG h1;refine Ag (Ap U U (A5 U U (Ab (Aa (A9 (Am (AF (v:=(.slice _ _ _)) U U U ?_)))))));have hal:∀ d∈ds,d.held=false:=hpi.elim (fun h=>h.2) fun ⟨i,h,_⟩=>by omega
  rw [Ut hal];exact ⟨full,rfl,O,H⟩
 ·intro h1;replace h1:=AH h1;obtain ⟨i,hpe,P⟩:∃ i:Nat,pi=(i:Int)∧FstH ds i:=hpi.elim (fun h=>absurd h.1 h1) id;subst hpe;obtain ⟨d0,hd0,hh0⟩:=P.at';have hil:=CO hd0;obtain ⟨q,rfl⟩:=O.form (by omega);replace H:Ctx w0 [q] w [(q,Bl 62 full)]:=H
  have hop0:opn (ds.take i)=ds.take i:=Ut fun d hd=>by
   obtain ⟨j,hj⟩:=List.mem_iff_getElem?.1 hd;rw [List.getElem?_take] at hj
   split at hj
   ·exact P.fst j d (by assumption) hj
   ·cases hj
  have hst0:opn (ds.take (i+1))=ds.take i:=by
   rw [List.take_add_one,hd0];show opn (ds.take i++[d0])=_;rw [Nq,if_pos hh0,hop0,List.append_nil]
  refine Ax (Aa (Aq (Ag (Ae U U (Ao U U U (by omega) (by omega) ?_)))));refine Ad U U (Ab (Aa (Av (Bd 68719411424 (α:=DSt) (fun t=>[(5,.int .i64 (t.i:Int)),(6,.int .i64 (t.j:Int))]) (fun t w'=>t.i<t.j∧t.j≤ds.length∧t.L.length=ds.length∧t.L.take t.i=opn (ds.take t.j)∧(∀ p,t.j≤p→t.L[p]? = ds[p]?)∧OS (some ⟨q,0,none⟩) ds.length c 7 t.full (t.L.flatMap DW)∧Ctx w0 [q] w' [(q,Bl 62 t.full)]) (fun t=>ds.length - t.j) ⟨i,i+1,ds,full⟩ U ?_ ?_ ?_))))
  ·exact ⟨rfl,rfl,trivial⟩
  ·exact ⟨Nat.lt_succ_self _,by dsimp only; omega,rfl,hst0.symm,fun p _=>rfl,O,H⟩
  ·clear H;rintro ⟨i,j,L,fu⟩ jj w ⟨hij,hj,hL,hT,hS,O1,H⟩; dsimp only at hij hj hL hT hS O1 H; dsimp only;have hOl:=O1.len;have hOle:=O1.le;refine Aq (Ag (Ae U U (Ap U U (AV U D0 U (AO U U U (Ab (Aa (Ay _ U ?_ ?_))))))))
   ·intro h2;replace h2:=AG h2;obtain ⟨d,hdj⟩:=AE (l:=ds) (i:=j) (by omega);have hLd:L[j]? = some d:=by rw [hS j (Nat.le_refl _),hdj]
    have R1:Rd w (some ⟨q,0,none⟩) 7 DW L:=O1.rd (t:=62) (fun y hy=>by have hy:=List.mem_singleton.1 hy; rw [hy]; exact H.get at0) (fun _ _=>rfl) (by decide);have htk:ds.take (j+1)=ds.take j++[d]:=by rw [List.take_add_one,hdj]; rfl
    refine Ax (Aa (Aq (Av (Ag (Ap U U (Ae U U (AX R1 U D0 Dm U U (by omega) (by omega) (by omega) ?_)))))));refine Cd _ U HK Dm U U (R1.row hLd U) ?_;refine Bs U FQ H ?_;rintro b7 w - H;refine BL U Dm U U U (by exact Ff _) H at0 U ?_;rintro w H;refine Ab (Aa (Ag (BP U (.func _ _ _) U ?_)));refine Bh U HK Dm U H at0 U (C0 U U W4 (Rr d _) U ?_);rintro v w ⟨rfl,hx28⟩;replace H:=H.call hx28;refine Bv U U (Ab (Aa (Ay _ U ?_ ?_)))
    ·intro h3;replace h3:=Bo h3;have h3':¬ d.held=true:=by simpa using h3
     obtain ⟨y,hy⟩:=AE (l:=L) (i:=i) (by omega);have O2:=OS.over O1 (fun _=>rfl) hy d;refine Ag (Ap U U (Ae U U (Bh U HK Dm U H at0 U (AX R1 U D0 Dm U U (by omega) (by omega) (by omega) ?_))));refine Ik (vs:=DW d) U Dm U U U (Ff d) H at1 (by show 0+(i:Int).toNat*7+7≤_; omega) ?_;rintro w H;replace H:Ctx w0 [q] w [(b7,Bl 62 (DW d)),(q,Bl 62 (over fu (i*7) (DW d)))]:=by rw [show i*7=0+((i:Int)).toNat*7 by omega]; exact H
     refine Ab (Aa (Aw (Ae U U (Ao U U U (by omega) (by omega) ?_))));refine Ad U U (Ab (A3 (Aa (Aw (Ae U U (Ao U U U (by omega) (by omega) ?_))))));refine Ad U U (Ab (Aa ?_));refine ⟨⟨i+1,j+1,L.set i d,over fu (i*7) (DW d)⟩,rfl,⟨rfl,rfl,trivial⟩,⟨by dsimp only; omega,by dsimp only; omega,by dsimp only; rw [List.length_set]; exact hL,?_,fun p hp=>?_,O2,?_⟩,by dsimp only; omega⟩
     ·dsimp only;rw [htk,Nq,if_neg h3',← hT,List.take_add_one,List.getElem?_set_self (by omega)]
      congr 1
      refine List.ext_getElem? fun z=>?_;rw [List.getElem?_take,List.getElem?_take]
      split
      ·rw [List.getElem?_set_ne (by omega)]
      ·rfl
     ·dsimp only at hp ⊢;rw [List.getElem?_set_ne (by omega)];exact hS p (by omega)
     ·exact H.tail
    ·intro h3;replace h3:=Bp h3;have h3':d.held=true:=by simpa using h3
     refine Ax (A3 (Aa (Aw (Ae U U (Ao U U U (by omega) (by omega) ?_)))));refine Ad U U (Ab (Aa ?_));refine ⟨⟨i,j+1,L,fu⟩,rfl,⟨rfl,rfl,trivial⟩,⟨by dsimp only; omega,by dsimp only; omega,hL,?_,fun p hp=>hS p (by dsimp only at hp; omega),O1,H.tail⟩,by dsimp only; omega⟩;dsimp only;rw [htk,Nq,if_pos h3',List.append_nil];exact hT
   ·intro h2;replace h2:=AH h2;obtain rfl:j=ds.length:=by omega
    rw [List.take_length] at hT;have hlen:(opn ds).length=i:=by rw [← hT,List.length_take]; omega
    obtain ⟨o',ho',ho2⟩:∃ o',JZ (some ⟨q,0,none⟩) c i 7=some ⟨q,o',none⟩∧((c=i∧o'=0)∨o'=i*7):=by
     unfold JZ
     by_cases h:c=i
     ·rw [if_pos h]; exact ⟨0,rfl,.inl ⟨h,rfl⟩⟩
     ·rw [if_neg h]; exact ⟨0+i*7,(by show some (Addr.add _ _)=_; rw [Co]),.inr (Nat.zero_add _)⟩
    refine Bc (Aj (Aj (AD (Aa (Ag (Ap U U (Ae U U (Fs U D0 Dm U U (by omega) (by omega) ?_))))))));refine Lg (b:=q) (o:=o') (n:=ds.length - i) (c:=c - i) (s:=7) U D0 FQ U (by simp [B4]) (show Value.slice (JZ (some ⟨q,0,none⟩) c i 7) (ds.length - i) (c - i)=_ by rw [ho']) H at0 (by omega) ?_;rintro w H;refine Ab (Aa (Ag (Ap U U (Ae U U (Gf U D0 Dm U U (by omega) (by omega) ?_)))));refine A5 U U (Ab (Aa (A9 (AF (v:=(.slice _ _ _)) U U U ?_))));have O3:=OS.shrink (i:=i) (o:=o') (vs:=(List.replicate (ds.length - i) [Value.int .u64 0,.int .i64 0,.int .i64 0,.int .i64 0,.int .i64 0,.int .i64 0,.bool false]).flatten) O1 (fun _ _=>rfl) (by omega) hL (ho2.elim (fun h=>by omega) fun h => .inr (by omega));rw [hT] at O3;rw [hlen];exact ⟨_,rfl,O3,H⟩
end Go.Proofs.YtapphbmlkdhnmaaGreat

/- Dues that are open; may a round be built? -/
namespace Go.Proofs.YtapphbmlkdhnmaaGreat
open Go.GV
attribute [local irreducible] AC W Wq Wt

theorem ZF (a:Option Addr) (n c:Nat) (ds:List Du) (w:World) (R:Rd w a 7 DW ds) (hn:ds.length=n) (hm:n≤1000000) :
  Ret Tryz.prog 105 #[.slice a n c] w fun v w'=>Fresh w w' 62 7 v ((opn ds).flatMap DW):=by
 subst hn;obtain ⟨w0,rfl⟩:∃ w0,w0=w:=⟨_,rfl⟩;refine A2 (fn:=Tryz.f105) Tryz.func105 U [.slice a ds.length c] U (by kernel_rfl) ?_;refine Ag (A5 U U (Ab (Aa (Ag (Ap U U (Al U Ace (V0 a ds.length c ds _ R U (by omega)) U ?_))))));rintro v w F;obtain ⟨a4,n4,c4,f4,rfl,O4,hb4⟩:=F.ex;have hl4:=O4.llen;rw [Np] at hl4;obtain rfl:ds.length=n4:=by omega
 refine Al U Acd (Aek a4 c4 f4 ds _ O4 (fun y hy=>(hb4 y hy).1) hm) U ?_;rintro v w ⟨f5,rfl,O5,H5⟩;refine A5 U U (Ab (Aa (A9 (AF (v:=(.slice _ _ _)) U U U ?_))));refine ⟨⟨_,_,_,f5,rfl,O5,fun x hx=>⟨H5.blk x hx,?_⟩⟩,F.ext.then H5.ext fun x hx=>?_⟩
 ·rcases H5.own x hx with h | h
  ·obtain ⟨y,hy,hyx⟩:=List.mem_map.1 h;rw [← hyx];exact (hb4 y hy).2
  ·exact Nat.le_trans F.ext.size h
 ·obtain ⟨y,hy,rfl⟩:=List.mem_map.1 hx;exact .inr (hb4 y hy).2
/-- The dues with numbers from 1 on. -/
def Ew:Nat→List Du→List Du
 | _,[]=>[]
 | i,d::ds=>{ d with id:=(i:Int)+1 }::Ew (i+1) ds
theorem OK (i:Nat) (ds:List Du):(Ew i ds).length=ds.length:=by
 induction ds generalizing i with
 | nil=>rfl
 | cons d ds ih=>show (Ew (i+1) ds).length+1=ds.length+1; rw [ih]
theorem PS (i:Nat) (ds es:List Du):Ew i (ds++es)=Ew i ds++Ew (i+ds.length) es:=by
 induction ds generalizing i with
 | nil=>rfl
 | cons d ds ih =>
  show _::Ew (i+1) (ds++es)=_::(Ew (i+1) ds++Ew (i+(ds.length+1)) es);rw [ih,show i+1+ds.length=i+(ds.length+1) by omega]
theorem Tl {ds:List Du} {i:Nat} {d:Du} (h:ds[i]? = some d):Ew 0 (ds.take (i+1))=Ew 0 (ds.take i)++[{ d with id:=(i:Int)+1 }]:=by
 have hl:=CO h;rw [List.take_add_one,h];show Ew 0 (ds.take i++[d])=_;rw [PS,List.length_take,Nat.min_eq_left (by omega),Nat.zero_add]; rfl
theorem XG {ds:List Du}:∀ (i:Nat) (d:Du),d∈Ew i ds→(i:Int)<d.id∧d.id≤i+ds.length:=by
 induction ds with
 | nil=>intro i d h; cases h
 | cons x ds ih =>
  intro i d h
  rcases List.mem_cons.1 h with rfl | h
  ·dsimp only [List.length_cons]; omega
  ·have:=ih (i+1) d h;rw [List.length_cons]; omega
theorem V1 {ds:List Du}:∀ (i:Nat),JJ ((i:Int)+ds.length+1) i (Ew i ds)=ds.all FM:=by
 induction ds with
 | nil=>intro i; rfl
 | cons d ds ih =>
  intro i;have h:=ih (i+1);show ((FM d && (decide ((i:Int)<(i:Int)+1) && decide ((i:Int)+1<_))) && JJ _ ((i:Int)+1) (Ew (i+1) ds))=(FM d && ds.all FM);rw [← h,decide_eq_true (show (i:Int)<(i:Int)+1 by omega),decide_eq_true (show (i:Int)+1<(i:Int)+((d::ds).length:Nat)+1 by rw [List.length_cons]; omega),show ((i:Int)+((d::ds).length:Nat)+1)=(((i+1:Nat):Int)+ds.length+1) by rw [List.length_cons]; omega];simp
/-- May such a round be built? -/
def Dy (rs:List Int) (ds:List Du):Bool :=
 decide (rs.length≤16) && (!decide ((HW rs).2=1) && (ds.all (fun d=>decide (max d.fr d.to<rs.length)) && decide (ofC (Ew 0 ds) (ds.length+1)=0)))
end Go.Proofs.YtapphbmlkdhnmaaGreat

/- May a round be built: the walk. -/
namespace Go.Proofs.YtapphbmlkdhnmaaGreat
open Go.GV
attribute [local irreducible] AC W Wq Wt

theorem V2 {rs:List Int} {ds:List Du} {i:Nat} {d:Du} (hd:ds[i]? = some d) (h:¬ max d.fr d.to<rs.length):Dy rs ds=false:=by
 unfold Dy
 have:ds.all (fun d=>decide (max d.fr d.to<rs.length))=false:=by
  rw [List.all_eq_false];exact ⟨d,List.mem_of_getElem? hd,by simpa using h⟩
 rw [this];simp
set_option maxRecDepth 20000 in
set_option maxHeartbeats 4000000 in
theorem V3 (a b:Option Addr) (n c m e:Nat) (rs:List Int) (ds:List Du) (w:World) (R:Rd w a 1 I1 rs) (hn:rs.length=n) (hn2:n≤1000000) (Rd':Rd w b 7 DW ds) (hm:ds.length=m) (hm2:m≤1000000) :
  Ret Tryz.prog 104 #[.slice a n c,.slice b m e] w fun v w'=>v = .bool (Dy rs ds)∧Ext [] w w':=by
 subst hn hm;obtain ⟨w0,rfl⟩:∃ w0,w0=w:=⟨_,rfl⟩;have H:=Ctx.start w0 [];obtain ⟨tt,htt⟩:∃ tt,tt=HW rs:=⟨_,rfl⟩;refine A2 (fn:=Tryz.f104) Tryz.func104 U [.slice a rs.length c,.slice b ds.length e] U (by kernel_rfl) ?_;refine Ag (Ai U U (Ab (Aa (Aq (Ag (Ap U U (AV U AU U (Ct U U U (Ab (Aa (Ay _ U ?_ ?_)))))))))))
 ·intro h1;replace h1:=AG h1;refine Ag (Ai U U (Ab (Aa (A9 (Am (AF (v:=(.bool _)) U U U ?_))))));exact ⟨congrArg Value.bool (by unfold Dy; rw [decide_eq_false (show ¬ rs.length≤16 by omega)]; rfl),H.ext⟩
 ·intro h1;replace h1:=AH h1;have h1':decide (rs.length≤16)=true:=decide_eq_true (by omega);refine Ax (Aa (Aq (Ag (Ap U U (Al U Wz (Us a rs.length c rs _ R U hn2) U ?_)))));rintro v w ⟨rfl,rfl⟩;rw [← htt];refine BK U U (A6 U U U (A6 U U U (Ad U U (Ad U U (Ab (Aa (Ag (Ae U U (BQ U U U (Ab (Aa ?_)))))))))));refine Ay _ U ?_ ?_
  ·intro h2;replace h2:=AG h2;refine Ag (Ai U U (Ab (Aa (A9 (Am (AF (v:=(.bool _)) U U U ?_))))));exact ⟨congrArg Value.bool (by unfold Dy; rw [← htt,h2,h1']; rfl),H.ext⟩
  ·intro h2;replace h2:=AH h2;refine Ax (Aa (Ag (A5 U U (Ab (Aa (Aq (Ag (Ap U U (AV U D0 U (Ae U U (Ab (Aa ?_))))))))))));refine Av (Bd 70368727401360 (α:=LSt) (fun t=>[(7,.slice t.a t.i t.c),(24,.int .i64 (t.i:Int))]) (fun t w'=>t.i≤ds.length∧OS t.a t.i t.c 7 t.full ((Ew 0 (ds.take t.i)).flatMap DW)∧Ctx w0 [] w' (ent t.a 62 t.full)∧∀ (j:Nat) (d:Du),j<t.i→ds[j]? = some d→max d.fr d.to<rs.length) (fun t=>ds.length - t.i) ⟨0,none,0,[]⟩ U ?_ ?_ ?_)
   ·exact ⟨rfl,rfl,trivial⟩
   ·exact ⟨Nat.zero_le _,OS.nil,H,fun j d h=>absurd h (Nat.not_lt_zero _)⟩
   ·clear H;rintro ⟨i,a2,c2,full⟩ jj w ⟨hi,O,H,hb⟩; dsimp only at hi O H hb; dsimp only;refine Ag (AO U U U (Ab (Aa (Aq (Ay _ U ?_ ?_)))))
    ·intro h3;replace h3:=AG h3;obtain ⟨d,hd⟩:=AE (l:=ds) (i:=i) (by omega);obtain ⟨d',hd'⟩:∃ d':Du,d'={ d with id:=(i:Int)+1 }:=⟨_,rfl⟩;refine Ax (Aa (Aq (Av (Ag (Ae U U (AX Rd' U D0 Dm U U (by omega) (by omega) (by rfl) ?_))))));refine Cd _ U HK Dm U U ((Rd'.ext0 H.ext).row hd U) ?_;refine Bs U FQ H ?_;rintro b9 w - H;refine Ad U U (BL U Dm U U U (by exact Ff _) H at0 U ?_);rintro w H;refine Ab (Aa (Aq (Ag (Ah U LW U (AA U BG U H at0 U (Ah U LY U (AA U BG U H at0 U (LO U U U ?_))))))));refine Ap U U (AV U AU U (CQ U U U (Ab (Aa (Ay _ U ?_ ?_)))))
     ·intro h4;replace h4:=AG h4;refine Ag (Ai U U (Ab (Aa (A9 (Am (AB (Am (Am (AB (Am (AF (v:=(.bool _)) U U U ?_)))))))))));exact ⟨congrArg Value.bool (V2 hd (show ¬ max d.fr d.to<rs.length by omega)).symm,H.ext⟩
     ·intro h4;replace h4:=AH h4;refine Ax (Aa (Ag (Ae U U (Dh U U Fy Da (by omega) (by omega) ?_))));refine Fh U U U (by omega) (by omega) ?_;refine Ah U J4 U (BX (.int _ _) U Be U U U H at0 (by (simp; done)) ?_);rintro w H;refine Ab (Aa ?_);replace H:Ctx w0 [] w ((b9,Bl 62 (DW d'))::ent a2 62 full):=by rw [hd']; exact H
      refine Aw (Ap U U (Bh U HK Dm U H at0 U (D4 _ (.agg _) U D0 Dm FQ U (by decide) (by decide) U U U H ?_)));rintro b43 w - H;refine Dr (L:=[_]) U D0 D0 Dm TU FQ U (by decide) U U H O U (by simp [B4]) (by omega) ?_;rintro a' c' full' w H O;refine A5 U U (Ab (A3 (Aa (Aw (Ao U U U (by omega) (by omega) ?_)))));refine Ae U U (Ab (Aa ?_));refine ⟨⟨i+1,a',c',full'⟩,rfl,⟨rfl,rfl,trivial⟩,⟨by dsimp only; omega,?_,H.tail,fun j x hj hx=>?_⟩,by dsimp only; omega⟩
      ·dsimp only;rw [Tl hd,← hd',List.flatMap_append];exact O
      ·rcases Nat.lt_or_ge j i with h7 | h7
       ·exact hb j x h7 hx
       ·obtain rfl:j=i:=by dsimp only at hj; omega
        rw [hd] at hx;cases hx;omega
    ·intro h3;replace h3:=AH h3;obtain rfl:i=ds.length:=by omega
     rw [List.take_length] at O
     have hal:ds.all (fun d=>decide (max d.fr d.to<rs.length))=true:=by
      rw [List.all_eq_true];intro d hd;obtain ⟨j,hj⟩:=List.mem_iff_getElem?.1 hd;exact decide_eq_true (hb j d (CO hj) hj)
     have RO:Rd w a2 7 DW (Ew 0 ds):=OS.rd O (fun y hy=>H.blk y hy) (fun _ _=>rfl) (by omega)
     have hbr:Dy rs ds=decide (ofC (Ew 0 ds) (ds.length+1)=0):=by
      unfold Dy;rw [h1',hal,← htt,decide_eq_false h2]; rfl
     obtain ⟨cd,hcd⟩:∃ cd,cd=ofC (Ew 0 ds) (ds.length+1):=⟨_,rfl⟩;rw [hbr,← hcd];refine Bc (Aj (Aj (AD (Aa (Ag (Ap U U (Ap U U (AV U D0 U (Dh U U Fy Da (by omega) (by omega) ?_)))))))));refine Fh U U U (by omega) (by omega) ?_;refine Al U ca_57 (Aej a2 ds.length c2 (Ew 0 ds) (ds.length+1) _ RO (OK 0 ds) (by omega) (by omega) (fun d hd=>by have:=XG 0 d hd; omega)) U ?_;rintro v w ⟨p,rfl,hp1,hp2,hx52⟩;obtain ⟨pp,rfl⟩:∃ pp,p = .pointer pp:=by by_cases hz:ofC (Ew 0 ds) (ds.length+1)=0; (obtain ⟨bd,_,_,e1,_⟩:=hp2 hz; exact ⟨_,e1⟩); exact ⟨none,hp1 hz⟩
     replace H:=H.call hx52;rw [← hcd];refine BK U U (A6 U U U (A6 U U U (D7 U U (Ad U U (Ab (Aa (Ag (Ae U U (BQ U U U (Ai U U ?_))))))))));refine Ab (Aa (A9 (AF (v:=(.bool _)) U U U ?_)));exact ⟨rfl,H.ext⟩
end Go.Proofs.YtapphbmlkdhnmaaGreat

/- A round's edges, one by one. -/
namespace Go.Proofs.YtapphbmlkdhnmaaGreat
open Go.GV
attribute [local irreducible] AC W Wq Wt

def PT (d:Du):Ed:=⟨d.fr,d.to,d.am,-d.we⟩
def LI (rs:List Int):List Ed:=(List.range (2*rs.length)).map fun j=>if j % 2=0 then ⟨rs.length,(j / 2:Nat),rs.getD (j / 2) 0,0⟩ else ⟨(j / 2:Nat),rs.length,4503599627370496,0⟩
def D9 (rs:List Int) (ds:List Du) (net:Bool):List Ed:=ds.map PT++if net=true then [] else LI rs
theorem XH {rs:List Int} {i:Nat} {x:Int} (h:rs[i]? = some x):(LI rs)[2*i]? = some ⟨rs.length,i,x,0⟩:=by
 have hl:=CO h;unfold LI;rw [DF (by omega),if_pos (by omega),show 2*i / 2=i by omega,Bn h]
theorem ZG {rs:List Int} {i:Nat} (h:i<rs.length):(LI rs)[2*i+1]? = some ⟨i,rs.length,4503599627370496,0⟩:=by
 unfold LI;rw [DF (by omega),if_neg (by omega),show (2*i+1) / 2=i by omega]
theorem Uu (rs:List Int):(LI rs).length=2*rs.length:=by unfold LI; simp
def edV (e:Ed):List Value:=[.agg (Br e).toArray]
structure RndK (b1 b2 b3:Nat) (a b:Option Addr) (n c m e:Nat) (rs:List Int) (ds:List Du) (net:Bool) (w:World):Prop where
 h1:w.heap[b1]? = some (Bl 23 [.slice b m e])
 h2:w.heap[b2]? = some (Bl 4 [.bool net])
 h3:w.heap[b3]? = some (Bl 29 [.slice a n c])
 R:Rd w a 1 I1 rs
 Rd':Rd w b 7 DW ds
set_option maxRecDepth 20000 in
set_option maxHeartbeats 4000000 in
theorem Tm {b1 b2 b3:Nat} {a b:Option Addr} {n c m e:Nat} {rs:List Int} {ds:List Du} {net:Bool} (hn:rs.length=n) (hm:ds.length=m) (hn2:n≤1000000) (hm2:m≤1000000) (hw:∀ d∈ds,-1000000000≤d.we∧d.we≤1000000000) :
  MD Tryz.prog 162 #[ptr b1,ptr b2,ptr b3] [] (fun _ w=>RndK b1 b2 b3 a b n c m e rs ds net w) ((D9 rs ds net).map edV):=by
 subst hn hm;intro l w J E hJ0 hJs hEs hK hY;obtain ⟨M0,hJ0⟩:=hJ0;obtain ⟨w0,rfl⟩:∃ w0,w0=w:=⟨_,rfl⟩
 have hat1:∀ (i:Nat) (d:Du),ds[i]? = some d→((D9 rs ds net).map edV)[i]? = some (edV (PT d)):=fun i d hd=>by
  unfold D9;have hl:=CO hd;rw [List.getElem?_map,List.getElem?_append_left (by rw [List.length_map]; exact hl),List.getElem?_map,hd]; rfl
 have hat2:net=false→∀ (j:Nat) (x:Ed),(LI rs)[j]? = some x→((D9 rs ds net).map edV)[ds.length+j]? = some (edV x):=fun h0 j x hx=>by
  unfold D9;rw [h0,List.getElem?_map,List.getElem?_append_right (by rw [List.length_map]; omega),List.length_map,show ds.length+j - ds.length=j by omega];show ((LI rs)[j]?).map edV=_;rw [hx]; rfl
 have hlen:((D9 rs ds net).map edV).length=ds.length+if net=true then 0 else 2*rs.length:=by
  unfold D9;rw [List.length_map,List.length_append,List.length_map]
  split
  ·rfl
  ·rw [Uu]
 refine A2 (fn:=Tryz.f162) Tryz.func162 U [.func (.yield l) #[] #[],.pointer (some ⟨b1,0,none⟩),.pointer (some ⟨b2,0,none⟩),.pointer (some ⟨b3,0,none⟩)] U (by kernel_rfl) ?_;have K0:=(hK _ _ _ hJ0).2;have H:=Ctx.start w0 [];refine Aq (Ag (AY U ag_23 U ((by rw [Au K0.h1]; rfl)) ?_));refine AV U D0 U (Ae U U (Ab (Aa (Av (Bd 1073737792 (α:=Nat) (fun i=>[(12,.int .i64 (i:Int))]) (fun i w'=>i≤ds.length∧∃ M,J i M w') (fun i=>ds.length - i) 0 U ?_ ?_ ?_)))))
 ·exact ⟨rfl,trivial⟩
 ·exact ⟨Nat.zero_le _,M0,hJ0⟩
 ·clear H;rintro i j w ⟨hi,M,hJ⟩;have KK:=(hK _ _ _ hJ).2;have R:=KK.Rd';obtain ⟨w1,rfl⟩:∃ w1,w1=w:=⟨_,rfl⟩;have H:=Ctx.start w1 [];refine Ag (AO U U U (Ab (Aa (Aq (Ay _ U ?_ ?_)))))
  ·intro h1;replace h1:=AG h1;obtain ⟨d,hd⟩:=AE (l:=ds) (i:=i) (by omega);have hwd:=hw d (List.mem_of_getElem? hd);refine Ax (Aa (Aq (Av (Ag (AX R U D0 Dm U U (by omega) (by omega) (by rfl) ?_)))));refine Cd _ U HK Dm U U ((R.ext0 H.ext).row hd U) ?_;refine Bs U FQ H ?_;rintro b6 w - H;refine BL U Dm U U U (by exact Ff _) H at0 U ?_;rintro w H;refine Ab (Aa (Ag (BP U (.func _ _ _) U ?_)));refine Ah U LW U (AA U BG U H at0 U (Ah U LY U (AA U BG U H at0 U (Ah U LZ U (AA U Bx U H at0 U (Ah U P9 U (AA U Bx U H at0 U (EJ U U (by omega) (by omega) ?_))))))));refine Cp (Br (PT d)) U JO Dn (by kernel_rfl) ?_;have hY1:=hY i (edV (PT d)) M _ (hat1 i d hd) (hJs _ _ _ _ hJ H.ext);refine Gg (vs:=edV (PT d)) U U hY1 U ?_;rintro u w hu
   obtain ⟨bb,rfl,hu1,hu0⟩:∃ bb,u = .bool bb∧(bb=true→∃ M,J (i+1) M w)∧(bb=false→E w):=hu.elim (fun h=>⟨true,h.1,fun _=>let ⟨M',h1,_⟩:=h.2; ⟨M',h1⟩,fun h=>by cases h⟩) (fun h=>⟨false,h.1,(fun h=>by cases h),fun _=>h.2⟩);refine Bv U U (Ab (Aa (Ay _ U ?_ ?_)))
   ·intro h2;replace h2:=Bo h2;refine A9 (AB (Am (Am (AB (Am (Fg U U ?_))))));exact .inr (hu0 (by simpa using h2))
   ·intro h2;replace h2:=Bp h2;refine Ax (A3 (Aa (Aw (Ao U U U (by omega) (by omega) ?_))));refine Ae U U (Ab (Aa ?_));exact ⟨i+1,rfl,⟨rfl,trivial⟩,⟨by omega,hu1 (by simpa using h2)⟩,by omega⟩
  ·intro h1;replace h1:=AH h1;obtain rfl:i=ds.length:=by omega
   refine Bc (Aj (Aj (AD (Aa (Aq (Ag (AY U Fx U ((H.old0 (by rw [Au KK.h2]; rfl))) ?_)))))));refine Ab (Aa (Ay _ U ?_ ?_))
   ·intro h2;refine A9 (Am (Fg U U ?_));exact .inl ⟨M,by rw [hlen,if_pos h2]; exact hJ⟩
   ·intro h2;refine Ax (Aa (Ag (AY U BC U ((H.old0 (by rw [Au KK.h3]; rfl))) ?_)));refine AV U AU U (Ad U U (Ab (Aa (Ag (AY U BC U ((H.old0 (by rw [Au KK.h3]; rfl))) ?_)))));refine AV U AU U (Ae U U (Ab (Aa (Av (Bd 72057559678190336 (α:=Nat) (fun i=>[(35,.int .i64 (i:Int))]) (fun i w'=>i≤rs.length∧∃ M,J (ds.length+2*i) M w') (fun i=>rs.length - i) 0 U ?_ ?_ ?_)))))
    ·exact ⟨rfl,trivial⟩
    ·exact ⟨Nat.zero_le _,M,hJ⟩
    ·clear H;rintro i j2 w ⟨hi,M,hJ⟩;have KK:=(hK _ _ _ hJ).2;have R:=KK.R;obtain ⟨w1,rfl⟩:∃ w1,w1=w:=⟨_,rfl⟩;have H:=Ctx.start w1 [];refine Ag (AO U U U (Ab (Aa (Aq (Ay _ U ?_ ?_)))))
     ·intro h3;replace h3:=AG h3;obtain ⟨x,hx⟩:=AE (l:=rs) (i:=i) (by omega);refine Ax (Aa (Aq (Av (Ag (Ae U U (AX R U AU Bz U U (by omega) (by omega) (by rfl) ?_))))));refine AY U Bx U (((R.ext0 H.ext).fld hx U (j:=0) U)) ?_;refine Ad U U (Ad U U (Ab (Aa (Ag (BP U (.func _ _ _) U ?_)))));refine Ae U U (Ae U U (Ae U U (Cp (Br ⟨rs.length,i,x,0⟩) U JO Dn (by kernel_rfl) ?_)));have hY1:=hY _ (edV ⟨rs.length,i,x,0⟩) M _ (hat2 h2 _ _ (XH hx)) (hJs _ _ _ _ hJ H.ext);refine Gg (vs:=edV ⟨rs.length,i,x,0⟩) U U hY1 U ?_;rintro u w hu;clear H;obtain ⟨bb,rfl,hu1,hu0⟩:∃ bb,u = .bool bb∧(bb=true→∃ M,J (ds.length+2*i+1) M w)∧(bb=false→E w):=hu.elim (fun h=>⟨true,h.1,fun _=>let ⟨M',h1,_⟩:=h.2; ⟨M',h1⟩,fun h=>by cases h⟩) (fun h=>⟨false,h.1,(fun h=>by cases h),fun _=>h.2⟩);refine Bv U U (Ak U U (A4 47 U ?_ ?_))
      ·intro h4;replace h4:=Bo h4;refine Af U (Af U (Af U (Af U (Af U (Af U (An U U (.bool _) U (Ab (Aa (Dc U (A9 (AB (Am (Am (AB (Fg U U ?_)))))))))))))));exact .inr (hu0 (by simpa using h4))
      ·intro h4;replace h4:=Bp h4;refine BP U (.func _ _ _) U ?_;refine Ae U U (Ae U U (Cp (Br ⟨i,rs.length,4503599627370496,0⟩) U JO Dn (by kernel_rfl) ?_));obtain ⟨M2,hJ2⟩:∃ M,J (ds.length+2*i+1) M w:=hu1 (by simp_all);have hY2:=hY _ (edV ⟨i,rs.length,4503599627370496,0⟩) M2 _ (hat2 h2 _ _ (ZG (by omega))) hJ2;refine Gg (vs:=edV ⟨i,rs.length,4503599627370496,0⟩) U U hY2 U ?_;rintro u w hu;obtain ⟨bb,rfl,hv1,hv0⟩:∃ bb,u = .bool bb∧(bb=true→∃ M,J (ds.length+2*i+1+1) M w)∧(bb=false→E w):=hu.elim (fun h=>⟨true,h.1,fun _=>let ⟨M',h1,_⟩:=h.2; ⟨M',h1⟩,fun h=>by cases h⟩) (fun h=>⟨false,h.1,(fun h=>by cases h),fun _=>h.2⟩);refine Bv U U (A1 U U (.bool _) U (Ab (Aa (Ay _ U ?_ ?_))))
       ·intro h5;replace h5:=Bo h5;refine A9 (AB (Am (Am (AB (Fg U U ?_)))));exact .inr (hv0 (by simpa using h5))
       ·intro h5;replace h5:=Bp h5;refine Ax (A3 (Aa (Aw (Ao U U U (by omega) (by omega) ?_))));refine Ae U U (Ab (Aa ?_));exact ⟨i+1,rfl,⟨rfl,trivial⟩,⟨by omega,by rw [show ds.length+2*(i+1)=ds.length+2*i+1+1 by omega]; exact hv1 (by simpa using h5)⟩,by omega⟩
     ·intro h3;replace h3:=AH h3;refine Bc (Aj (Aj (AD (Db U U ?_))));obtain rfl:i=rs.length:=by omega
      exact .inl ⟨M,by rw [hlen,if_neg (by rw [h2]; decide)]; exact hJ⟩
end Go.Proofs.YtapphbmlkdhnmaaGreat

/- Rounds: their edges; comparisons of edges and numbers. -/
namespace Go.Proofs.YtapphbmlkdhnmaaGreat
open Go.GV
attribute [local irreducible] AC W Wq Wt

abbrev U1 (x:Int):List Value:=[F1 x]
instance:DecidableEq Ed:=fun x y=>if h:x.f=y.f∧x.t=y.t∧x.cap=y.cap∧x.cost=y.cost then isTrue (by cases x; cases y; simp_all) else isFalse fun e=>h (by subst e; exact ⟨rfl,rfl,rfl,rfl⟩)
theorem KG (x y:Ed):decide (x=y)=true↔Br x=Br y:=by
 obtain ⟨a,b,c,d⟩:=x;obtain ⟨a',b',c',d'⟩:=y;simp [Br]
theorem V4 (a b:Option Addr) (n c m d:Nat) (net:Bool) (w:World):Ret Tryz.prog 116 #[.slice a n c,.slice b m d,.bool net] w fun v w'=>∃ b1 b2 b3,v = .func (.func 162) #[] #[ptr b1,ptr b2,ptr b3]∧Ctx w [] w' [(b2,Bl 4 [.bool net]),(b1,Bl 23 [.slice b m d]),(b3,Bl 29 [.slice a n c])]:=by
 obtain ⟨w0,rfl⟩:∃ w0,w0=w:=⟨_,rfl⟩;have H:=Ctx.start w0 [];refine A2 (fn:=Tryz.f116) Tryz.func116 U [.slice a n c,.slice b m d,.bool net] U (by kernel_rfl) ?_;refine Ag (Bt U _ (.slice _ _ _) U U H ?_);rintro b3 w - H;refine Bt U _ (.slice _ _ _) U U H ?_;rintro b4 w - H;refine Bt U _ (.bool _) U U H ?_;rintro b5 w - H;refine Cj U .nilFunc U ?_;refine Ab (Aa (Ag (C9 U [.pointer _,.pointer _,.pointer _] U (Cj U (.func _ _ _) U ?_))));refine Ab (Aa (A9 (AF (v:=(.func _ _ _)) U U U ?_)));exact ⟨_,_,_,rfl,H⟩
end Go.Proofs.YtapphbmlkdhnmaaGreat

/- Dues that are open, as the reference has them. -/
namespace Go.Proofs.YtapphbmlkdhnmaaGreat
open Go.GV
attribute [local irreducible] AC W Wq Wt

end Go.Proofs.YtapphbmlkdhnmaaGreat

/- What a round pays. -/
namespace Go.Proofs.YtapphbmlkdhnmaaGreat
open Go.GV
attribute [local irreducible] AC W Wq Wt

/-- How many are paid. -/
def cutK (k:Int) (n:Nat):Nat:=(max 0 (min k (n:Int))).toNat
end Go.Proofs.YtapphbmlkdhnmaaGreat

/- Dues and accounts, looked up. -/
namespace Go.Proofs.YtapphbmlkdhnmaaGreat
open Go.GV
attribute [local irreducible] AC W Wq Wt

section
variable {P:Program} {r:Option Nat} {ops rest:List Oper} {Q:Exit→Env→World→Prop} {e:Env} {w:World} {dst:Option Tmp} {ty:TypeId} {pos:String} {af:Array Edge} {g:Option (Nat × Bool)}
end
/-- The due of a number, and whether there is one. -/
def getD7 (ds:List Du) (k:Int):Du:=(XF ds k).getD d00
end Go.Proofs.YtapphbmlkdhnmaaGreat

/- May a round be built, as the reference has it. -/
namespace Go.Proofs.YtapphbmlkdhnmaaGreat
open Go.GV
attribute [local irreducible] AC W Wq Wt

def dueB (n:Nat) (d:Du):Bool:=FM d && (decide (d.fr<n) && decide (d.to<n))
def r19B (rs:List Int) (ds:List Du):Bool:=(decide (rs.length≤16) && decide (ds.length≤64)) && (rs.all Fz && (ds.all (dueB rs.length) && decide ((HW (ds.map Du.am)).2=0)))
theorem XI (ds:List Du):∀ i,(Ew i ds).map Du.am=ds.map Du.am:=by
 induction ds with
 | nil=>intro i; rfl
 | cons d ds ih=>intro i; show d.am::(Ew (i+1) ds).map Du.am=d.am::ds.map Du.am; rw [ih]
theorem XJ (rs:List Int):decide ((HW rs).2=1) = !rs.all Fz:=by
 unfold HW
 cases h:rs.all Fz with
 | false=>rw [if_pos rfl]; rfl
 | true =>
  rw [if_neg (by decide)]
  split <;> rfl
theorem Ael (rs:List Int) (ds:List Du) (hl:ds.length≤1000000):r19B rs ds=Dy rs ds:=by
 have h1:decide (ofC (Ew 0 ds) (ds.length+1)=0)=(decide (ds.length≤64) && (ds.all FM && decide ((HW (ds.map Du.am)).2=0))):=by
  have ha:=V1 (ds:=ds) 0;rw [show (((0:Nat):Int)+ds.length+1)=(ds.length:Int)+1 by omega] at ha;have ham:(Ew 0 ds).map (·.am)=ds.map Du.am:=XI ds 0;unfold ofC;rw [OK,ham,show JJ ((ds.length:Int)+1) 0 (Ew 0 ds)=ds.all FM from ha]
  by_cases h64:64<ds.length
  ·rw [if_pos h64,decide_eq_false (show ¬ ds.length≤64 by omega)]; rfl
  ·rw [if_neg h64,decide_eq_true (show ds.length≤64 by omega),Bool.true_and,if_neg (by rw [decide_eq_true (show 1≤(ds.length:Int)+1 by omega),decide_eq_true (show (ds.length:Int)+1≤4611686018427387904 by omega)]; decide)]
   cases hm:ds.all FM with
   | false=>rw [if_pos rfl]; rfl
   | true=>rw [if_neg (by decide),Bool.true_and]
 have h2:ds.all (dueB rs.length)=(ds.all (fun d=>decide (max d.fr d.to<rs.length)) && ds.all FM):=by
  rw [Bool.eq_iff_iff];simp only [Bool.and_eq_true,List.all_eq_true,decide_eq_true_eq,dueB];constructor
  ·intro h;exact ⟨fun d hd=>by have:=h d hd; omega,fun d hd=>(h d hd).1⟩
  ·intro h d hd;have:=h.1 d hd;exact ⟨h.2 d hd,by omega,by omega⟩
 unfold r19B Dy;rw [h1,h2,XJ];cases decide (rs.length≤16) <;> cases decide (ds.length≤64) <;> cases rs.all Fz <;> cases ds.all (fun d=>decide (max d.fr d.to<rs.length)) <;> cases ds.all FM <;> rfl
end Go.Proofs.YtapphbmlkdhnmaaGreat

/- Accounts, looked up. -/
namespace Go.Proofs.YtapphbmlkdhnmaaGreat
open Go.GV
attribute [local irreducible] AC W Wq Wt

def inA (acs:List Ac) (k:Int):Bool:=decide (0≤k) && decide (k<acs.length)
def getA (acs:List Ac) (k:Int):Ac:=if inA acs k=true then acs.getD k.toNat a00 else a00
end Go.Proofs.YtapphbmlkdhnmaaGreat

/- The dues: Add, where nothing stands against it. -/
namespace Go.Proofs.YtapphbmlkdhnmaaGreat
open Go.GV
attribute [local irreducible] AC W Wq Wt

section
variable {P:Program} {r:Option Nat} {ops rest:List Oper} {Q:Exit→Env→World→Prop} {e:Env} {w:World} {dst:Option Tmp} {ty:TypeId} {pos:String} {af:Array Edge} {g:Option (Nat × Bool)}
end
end Go.Proofs.YtapphbmlkdhnmaaGreat

/- Nets, as the reference has them. -/
namespace Go.Proofs.YtapphbmlkdhnmaaGreat
open Go.GV
attribute [local irreducible] AC W Wq Wt

def KH (N k:Int):Bool:=decide (0≤k) && decide (k<N)
theorem Rt (N:Int) (a:Option Addr) (n c:Nat) (k:Int) (w:World):Ret Tryz.prog 124 #[CT N a n c,.int .i64 k] w fun v w'=>v = .bool (KH N k)∧Ext [] w w':=by
 obtain ⟨w0,rfl⟩:∃ w0,w0=w:=⟨_,rfl⟩;have H:=Ctx.start w0 [];refine A2 (fn:=Tryz.f124) Tryz.func124 U [CT N a n c,.int .i64 k] U (by kernel_rfl) ?_;refine Ag (Bt U [.int .i64 N,.slice a n c] (.agg _) U U H ?_);rintro b2 w - H;refine Ai U U (Ab (Aa (Ag (Ae U U (CQ U U U (Ak U U (A4 7 U ?_ ?_)))))))
 ·intro h1;replace h1:=AG h1;refine Ae U U (Ah U Dj U (AA U BG U H at0 U (AO U U U (An U U (.bool _) U (Ai U U (Ab (Aa (A9 (AF (v:=(.bool _)) U U U ?_)))))))));exact ⟨congrArg Value.bool (by unfold KH; rw [Bool.eq_iff_iff]; simp_all; try omega),H.ext⟩
 ·intro h2;replace h2:=AH h2;refine Af U (Af U (Af U (Af U (A1 U U (.bool _) U (Ai U U (Ab (Aa (A9 (AF (v:=(.bool _)) U U U ?_)))))))));exact ⟨congrArg Value.bool (by unfold KH; rw [Bool.eq_iff_iff]; simp_all; try omega),H.ext⟩
end Go.Proofs.YtapphbmlkdhnmaaGreat

/- What is left when open dues are paid, one by one: plain law. -/
namespace Go.Proofs.YtapphbmlkdhnmaaGreat
open Go.GV

theorem OM {xs:List Int}:(HW xs).2=0↔(∀ x∈xs,Fz x=true)∧EW xs≤4503599627370496:=by
 unfold HW
 cases h:xs.all Fz with
 | false =>
  rw [if_pos rfl];refine ⟨fun h=>by simp at h,fun h2=>?_⟩;rw [List.all_eq_true.2 h2.1] at h; cases h
 | true =>
  rw [if_neg (by decide)];rw [List.all_eq_true] at h
  split
  ·rename_i h3; exact ⟨fun _=>⟨h,h3⟩,fun _=>rfl⟩
  ·rename_i h3; exact ⟨fun h=>by simp at h,fun h4=>absurd h4.2 h3⟩
/-- What is left when the open ones are paid. -/
def G0:List Du→List Int→List Du
 | [],_=>[]
 | d::ds,[]=>d::ds
 | d::ds,x::xs=>if d.held=true then d::G0 ds (x::xs) else if d.am=x then G0 ds xs else { d with am:=d.am - x }::G0 ds xs
theorem ON (ds:List Du):G0 ds []=ds:=by cases ds <;> rfl
theorem Tn {d:Du} (h:d.held=true) (ds:List Du) (xs:List Int):G0 (d::ds) xs=d::G0 ds xs:=by
 cases xs with
 | nil=>rw [ON,ON]
 | cons x xs=>show (if d.held=true then _ else _)=_; rw [if_pos h]
theorem To {d:Du} (h:¬ d.held=true) (ds:List Du) (x:Int) (xs:List Int):G0 (d::ds) (x::xs)=(if d.am=x then [] else [{ d with am:=d.am - x }])++G0 ds xs:=by
 show (if d.held=true then _ else _)=_;rw [if_neg h]
 split <;> rfl
theorem Ru (d:Du) (ds:List Du):opn (d::ds)=(if d.held=true then [] else [d])++opn ds:=by
 unfold opn;rw [List.filter_cons];cases d.held <;> rfl
/-- What is paid may be. -/
def PayIn (os:List Du) (xs:List Int):Prop:=os.length=xs.length∧∀ (i:Nat) (d:Du) (x:Int),os[i]? = some d→xs[i]? = some x→0≤x∧x≤d.am
theorem PayIn.tail {d:Du} {x:Int} {os:List Du} {xs:List Int} (h:PayIn (d::os) (x::xs)):(0≤x∧x≤d.am)∧PayIn os xs :=
 ⟨h.2 0 d x rfl rfl,by have:=h.1; simp only [List.length_cons] at this; omega,fun i e y he hy=>h.2 (i+1) e y he hy⟩
theorem PayIn.cons {d:Du} {os:List Du} {xs:List Int} (h:PayIn (d::os) xs):∃ x xs',xs=x::xs':=by
 cases xs with
 | nil=>have:=h.1; simp at this
 | cons x xs=>exact ⟨x,xs,rfl⟩
/-- Pays, one by one, each right. -/
def Aaz (ds:List Du):List (Du × Int)→Prop
 | []=>True
 | p::ps=>(XF ds p.1.id=some p.1∧p.1.held=false∧0≤p.2∧p.2≤p.1.am)∧Aaz (Vz ds p.1.id p.2) ps
def payA (ds:List Du):List (Du × Int)→List Du
 | []=>ds
 | p::ps=>payA (Vz ds p.1.id p.2) ps
theorem KI {d:Du} (h:FM d=true):(0≤d.fr∧d.fr<16)∧(0≤d.to∧d.to<16)∧d.fr≠d.to∧(1≤d.am∧d.am≤4503599627370496)∧(1≤d.we∧d.we≤1000)∧0≤d.un:=by
 unfold FM Fz OH at h;simp only [Bool.and_eq_true,decide_eq_true_eq,Bool.not_eq_true',decide_eq_false_iff_not] at h;exact ⟨h.1.1,h.1.2.1,h.1.2.2,⟨h.2.1,h.2.2.1.2⟩,⟨h.2.2.2.1,h.2.2.2.2.1⟩,h.2.2.2.2.2⟩
/-- Amounts stay small. -/
def AmOk (ds:List Du):Prop:=∀ d∈ds,0≤d.am∧d.am≤4503599627370496
end Go.Proofs.YtapphbmlkdhnmaaGreat

/- What flows in a round, and what that shifts: plain law. -/
namespace Go.Proofs.YtapphbmlkdhnmaaGreat
open Go.GV

theorem Uv (rs:List Int) (os:List Du) (net:Bool):(D9 rs os net).length=os.length+if net=true then 0 else 2*rs.length:=by
 unfold D9;rw [List.length_append,List.length_map]
 split
 ·rfl
 ·rw [Uu]
/-- What dues may be in a round of n banks. -/
def XK (n:Nat) (d:Du):Prop:=FM d=true∧d.fr<n∧d.to<n
theorem OO {n:Nat}:∀ {os:List Du},(∀ d∈os,XK n d)→((((os.map PT).map EX).sum:Nat):Int)≤1000*EW (os.map Du.am)
 | [],_=>by show (0:Int)≤1000*0; omega
 | d::os,h=>by
  have ih:=OO (os:=os) fun e he=>h e (List.mem_cons_of_mem _ he);have hm:=KI (h d (List.mem_cons_self ..)).1;rw [List.map_cons,List.map_cons,List.sum_cons,List.map_cons,Ef];have h1:EX (PT d)≤d.am.toNat*1000:=Nat.mul_le_mul_left _ (by show (-d.we).natAbs≤1000; omega);have h2:((d.am.toNat:Nat):Int)=d.am:=Int.toNat_of_nonneg (by omega);have h3:((EX (PT d):Nat):Int)≤d.am*1000:=by omega
  rw [Int.natCast_add,Int.mul_add]; omega
theorem V5 {rs:List Int} {os:List Du} {net:Bool} (hn:rs.length≤16) (hm:os.length≤64) (hrs:∀ x∈rs,Fz x=true) (hos:∀ d∈os,XK rs.length d) (hsum:EW (os.map Du.am)≤4503599627370496):Ci ((rs.length+1:Nat):Int) (D9 rs os net)=true:=by
 have hl:=Uv rs os net;have hE:(D9 rs os net).length≤200:=by rw [hl]; split <;> omega
 have hall:(D9 rs os net).all (DZ ((rs.length+1:Nat):Int))=true:=by
  rw [List.all_eq_true];intro e he;unfold D9 at he
  rcases List.mem_append.1 he with he | he
  ·obtain ⟨d,hd,rfl⟩:=List.mem_map.1 he;obtain ⟨h1,h2,h3⟩:=hos d hd;have:=KI h1;unfold DZ GS PT;simp only [Bool.and_eq_true,decide_eq_true_eq];omega
  ·split at he
   ·cases he
   ·unfold LI at he;obtain ⟨j,hj,rfl⟩:=List.mem_map.1 he;rw [List.mem_range] at hj;obtain ⟨r,hr⟩:=AE (l:=rs) (i:=j / 2) (by omega);have hr2:=HX.1 (hrs r (List.mem_of_getElem? hr));unfold DZ GS;rw [Bn hr]
    split
    ·simp only [Bool.and_eq_true,decide_eq_true_eq]; omega
    ·simp only [Bool.and_eq_true,decide_eq_true_eq]; omega
 have hp:Ei (D9 rs os net)≤4611686018427387904:=by
  unfold Ei D9;rw [List.map_append,List.sum_append];have h1:=OO hos
  have h2:((if net=true then [] else LI rs).map EX).sum=0:=by
   split
   ·rfl
   ·unfold LI;rw [List.map_map]
    have:∀ l:List Nat,(l.map (EX ∘ fun j=>if j % 2=0 then (⟨rs.length,(j / 2:Nat),rs.getD (j / 2) 0,0⟩:Ed) else ⟨(j / 2:Nat),rs.length,4503599627370496,0⟩)).sum=0:=by
     intro l
     induction l with
     | nil=>rfl
     | cons j l ih =>
      rw [List.map_cons,List.sum_cons,ih];show EX (if j % 2=0 then _ else _)+0=0
      split <;> rfl
    exact this _
  rw [h2]; omega
 unfold Ci;rw [hall,decide_eq_true hE,decide_eq_true hp,decide_eq_true (show (1:Int)≤((rs.length+1:Nat):Int) by omega),decide_eq_true (show ((rs.length+1:Nat):Int)≤40 by omega)]; rfl
theorem gr_f {N:Int} {es:List Ed} {i:Nat} {e:Ed} (h:es[i]? = some e):(grE N es).f i=e.f.toNat:=by show (es.getD i e0).f.toNat=_; rw [Bn h]
theorem gr_t {N:Int} {es:List Ed} {i:Nat} {e:Ed} (h:es[i]? = some e):(grE N es).t i=e.t.toNat:=by show (es.getD i e0).t.toNat=_; rw [Bn h]
theorem XL {N:Int} {es:List Ed} {i:Nat} {e:Ed} (h:es[i]? = some e):(grE N es).co i=e.cost:=by show (es.getD i e0).cost=_; rw [Bn h]
/-- What is paid to a bank, less what it pays. -/
def byK (rs:List Int) (os:List Du) (net:Bool) (fl:List Int) (k:Nat):Int:=EM (grE ((rs.length+1:Nat):Int) (D9 rs os net)) (flE fl) os.length k
/-- What a round that may be built says. -/
structure Bright (rs:List Int) (ds:List Du):Prop where
 n16:rs.length≤16
 may:∀ x∈rs,Fz x=true
 m64:ds.length≤64
 due:∀ d∈ds,XK rs.length d
 tot:EW (ds.map Du.am)≤4503599627370496
theorem Nr {rs:List Int} {ds:List Du} (hl:ds.length≤1000000):Dy rs ds=true↔Bright rs ds:=by
 rw [← Ael rs ds hl];unfold r19B;simp only [Bool.and_eq_true,decide_eq_true_eq,List.all_eq_true,dueB];constructor
 ·rintro ⟨⟨h1,h2⟩,h3,h4,h5⟩;exact ⟨h1,h3,h2,fun d hd=>⟨(h4 d hd).1,(h4 d hd).2.1,(h4 d hd).2.2⟩,(OM.1 h5).2⟩
 ·rintro ⟨h1,h3,h2,h4,h5⟩;refine ⟨⟨h1,h2⟩,h3,fun d hd=>⟨(h4 d hd).1,(h4 d hd).2.1,(h4 d hd).2.2⟩,OM.2 ⟨fun x hx=>?_,h5⟩⟩;obtain ⟨d,hd,rfl⟩:=List.mem_map.1 hx;have:=(KI (h4 d hd).1).2.2.2.1;exact HX.2 ⟨by omega,this.2⟩
theorem Uw {ds:List Du} {d:Du} (h:d∈opn ds):d∈ds∧d.held=false:=by
 unfold opn at h;rw [List.mem_filter] at h;exact ⟨h.1,by simpa using h.2⟩
theorem Ux (ds:List Du):(opn ds).length≤ds.length:=List.length_filter_le _ _
theorem ZH {ds:List Du} (h:∀ d∈ds,0≤d.am):EW ((opn ds).map Du.am)≤EW (ds.map Du.am):=by
 induction ds with
 | nil=>exact Int.le_refl _
 | cons d ds ih =>
  have h0:=h d (List.mem_cons_self ..);have ih:=ih fun e he=>h e (List.mem_cons_of_mem _ he);rw [Ru,List.map_cons,Ef]
  split
  ·rw [List.nil_append]; omega
  ·show EW (d.am::(opn ds).map Du.am)≤_;rw [Ef]; omega
theorem Bright.open' {rs:List Int} {ds:List Du} (h:Bright rs ds):Bright rs (opn ds) :=
 ⟨h.n16,h.may,Nat.le_trans (Ux ds) h.m64,fun d hd=>h.due d (Uw hd).1,Int.le_trans (ZH fun d hd=>by have:=(KI (h.due d hd).1).2.2.2.1; omega) h.tot⟩
theorem Bright.right {rs:List Int} {ds:List Du} (h:Bright rs ds) (net:Bool):Ci ((rs.length+1:Nat):Int) (D9 rs (opn ds) net)=true :=
 V5 h.n16 h.open'.m64 h.may h.open'.due h.open'.tot
end Go.Proofs.YtapphbmlkdhnmaaGreat

/- A round's net, built: the walk. -/
namespace Go.Proofs.YtapphbmlkdhnmaaGreat
open Go.GV
attribute [local irreducible] AC W Wq Wt

/-- Three results, the first in a cell, behind marks. -/
theorem Rv {P:Program} {e:Env} {w:World} {fn:Func} {R:Value→World→Prop} {a s2 s3:Tmp} {t:TypeId} {p:Addr} {v2 v3:Value} (hr:fn.results=#[.cell a t,.tmp s2,.tmp s3]) (ha:e.g a = .pointer (some p)) (h2:e.g s2=v2) (h3:e.g s3=v3) (h:Marks e.ds w fun w'=>∃ v,(loadVar t p).run P w' = .ok v w'∧R (.tuple #[v,v2,v3]) w'):Q4 P fn R .ret e w :=
 Marks.mono (fun w ⟨v,hv,h⟩ tmps ht=>by
  have h1:=(ht a).trans ha;have g2:=(ht s2).trans h2;have g3:=(ht s3).trans h3;rw [Array.getD_eq_getD_getElem?] at h1 g2 g3
  exact ⟨.tuple #[v,v2,v3],by simp [results,hr,h1,g2,g3,asAddr,hv],h⟩) h
/-- What a round's net is. -/
def XM (w:World) (rs:List Int) (ds:List Du) (net:Bool) (v:Value) (w':World):Prop :=
 Ext [] w w'∧((Dy rs ds=false∧v = .tuple #[CT 0 none 0 0,.slice none 0 0,.int .i64 1]) ∨
  (Dy rs ds=true∧∃ aE nE cE vI,v = .tuple #[CT ((rs.length+1:Nat):Int) aE nE cE,vI,.int .i64 0]∧Sl w w' (.slice aE nE cE) 4 Br (D9 rs (opn ds) net)∧Sl w w' vI 1 U1 ((opn ds).map Du.id)))
/-- What the rounds leave. -/
def rndJ (ws:World) (b6:Nat) (N:Int) (es:List Ed) (i:Nat) (M:Mt) (w:World):Prop :=
 ∃ a c full,(M=fun y=>y∈((b6,Bl 28 [.int .i64 N,.slice a i c])::ent a 92 full).map (·.1))∧Ctx ws [b6] w ((b6,Bl 28 [.int .i64 N,.slice a i c])::ent a 92 full) ∧
  OS a i c 4 full ((es.take i).flatMap Br)∧∀ y∈((b6,Bl 28 [.int .i64 N,.slice a i c])::ent a 92 full).map (·.1),y≠ws.heap.size∧y≠ws.heap.size+1
set_option maxRecDepth 20000 in
set_option maxHeartbeats 4000000 in
theorem OQ (a b:Option Addr) (n c m e:Nat) (rs:List Int) (ds:List Du) (net:Bool) (w:World) (R:Rd w a 1 I1 rs) (hn:rs.length=n) (hn2:n≤1000000) (Rd':Rd w b 7 DW ds) (hm:ds.length=m) (hm2:m≤1000000) :
  Ret Tryz.prog 58 #[.slice a n c,.slice b m e,.bool net] w (XM w rs ds net):=by
 subst hn hm;obtain ⟨w0,rfl⟩:∃ w0,w0=w:=⟨_,rfl⟩;have H:=Ctx.start w0 [];obtain ⟨bb,hbb⟩:∃ bb,bb=Dy rs ds:=⟨_,rfl⟩;obtain ⟨os,hos⟩:∃ os,os=opn ds:=⟨_,rfl⟩;have hol:os.length≤ds.length:=by rw [hos]; exact Ux ds
 refine G5 (fn:=Tryz.f58) Tryz.func58 U [.slice a rs.length c,.slice b ds.length e,.bool net] U (by kernel_rfl) ?_;refine Ag (Bs U TY H ?_);rintro b6 w - H;refine A5 U U (Ad U U (Ab (Aa (Aq (Ag (Ap U U (Ap U U (Al U Abn (V3 a b _ c _ e rs ds _ (R.ext0 H.ext) U hn2 (Rd'.ext0 H.ext) U hm2) U ?_))))))));rintro v w ⟨rfl,hx14⟩;replace H:=H.call hx14;rw [← hbb];refine Bv U U (Ab (Aa (Ay _ U ?_ ?_)))
 ·intro h1;replace h1:=Bo h1;refine Ag (Bh U C1 Cs U H at0 U (BL U Cs U U U (by simp [B4]) H at0 U ?_));rintro w H;refine A5 U U (Ad U U (Ab (Aa (A9 (Am (Rv U U U U ?_))))));exact ⟨_,Fq C1 Cs U (fun j v hv=>by rw [Au (H.get at0),Nat.zero_add]; exact hv),H.ext,.inl ⟨by rw [← hbb]; exact h1,rfl⟩⟩
 ·intro h1;replace h1:=Bp h1;refine Ax (Aa (Ag (Ap U U (AV U AU U (Ao U U U (by omega) (by omega) ?_)))));refine Ah U Dj U (BX (.int _ _) U EV U U U H at0 (by decide) ?_);rintro w H;refine Ab (Aa (Ag (Ap U U (Al U Abo (ZF b _ e ds _ (Rd'.ext0 H.ext) U hm2) U ?_))));rintro v w F;rw [← hos] at F;obtain ⟨a4,n4,c4,f4,rfl,O4,hb4⟩:=F.ex;have hl4:=O4.llen;rw [Np] at hl4;obtain rfl:os.length=n4:=by omega
  refine A5 U U (Ab (Aa (Aq ?_)));have hb6:=H.lt at0;have RO:Rd w a4 7 DW os:=OS.rd O4 (fun y hy=>(hb4 y hy).1) (fun _ _=>rfl) (by omega)
  have hROn:os≠[]→(adr a4).block∉[b6]:=fun hne=>by
   obtain ⟨q,rfl⟩:=O4.form (List.length_pos_iff.2 hne);have:=(hb4 (q,Bl 62 f4) (List.mem_singleton.2 rfl)).2;rw [List.mem_singleton];show q≠b6;dsimp only at this;omega
  have H4:=H.call F.ext;have hs4:=H4.size;have hl64:=H4.lt at0;obtain ⟨w4,rfl⟩:∃ z,z=w:=⟨_,rfl⟩;have H:=Ctx.lend (L1:=[_]) (L2:=[]) H4;dsimp only [List.map] at H;refine Ag (Ap U U (AV U D0 U (Ae U U (Ab (Aa (Av (Bd 34326185088 (α:=LSt) (fun t=>[(7,.slice t.a t.i t.c),(25,.int .i64 (t.i:Int))]) (fun t w'=>t.i≤os.length∧OS t.a t.i t.c 1 t.full (((os.take t.i).map Du.id).map F1)∧Ctx w4 [b6] w' ((b6,Bl 28 [.int .i64 ((rs.length:Int)+1),.slice none 0 0])::ent t.a 24 t.full)) (fun t=>os.length - t.i) ⟨0,none,0,[]⟩ U ?_ ?_ ?_)))))))
  ·exact ⟨rfl,rfl,trivial⟩
  ·exact ⟨Nat.zero_le _,OS.nil,H⟩
  ·clear H;rintro ⟨i,a2,c2,full⟩ jj w ⟨hi,O,H⟩; dsimp only at hi O H; dsimp only;refine Ag (AO U U U (Ab (Aa (Aq (Ay _ U ?_ ?_)))))
   ·intro h3;replace h3:=AG h3;obtain ⟨d,hd⟩:=AE (l:=os) (i:=i) (by omega);refine Ax (Aa (Aq (Av (Ag (AX RO U D0 Dm U U (by omega) (by omega) (by rfl) ?_)))));refine Cd _ U HK Dm U U ((RO.ext' H.ext hROn).row hd U) ?_;refine Bs U FQ H ?_;rintro b10 w - H;refine BL U Dm U U U (by exact Ff _) H at0 U ?_;rintro w H;refine Ab (Aa (Aw (Ap U U (Ah U J4 U (AA U BR U H at0 U (D4 _ (.int _ _) U Bf Be K6 U (by decide) (by decide) U U U H ?_))))));rintro b32 w - H;refine Dr (L:=[_,_]) U Bf Bf Be TT K6 U (by decide) U U H O U (by simp [B4]) (by omega) ?_;rintro a' c' full' w H O;refine A5 U U (Ab (A3 (Aa (Aw (Ao U U U (by omega) (by omega) ?_)))));refine Ae U U (Ab (Aa ?_));exact ⟨⟨i+1,a',c',full'⟩,rfl,⟨rfl,rfl,trivial⟩,⟨by dsimp only; omega,by dsimp only; rw [XD hd,List.map_append]; exact O,H.tail⟩,by dsimp only; omega⟩
   ·intro h3;replace h3:=AH h3;obtain rfl:i=os.length:=by omega
    rw [List.take_length] at O;refine Bc (Aj (Aj (AD (Aa (Aq (Ag (Ap U U (Ap U U (Ak U U (Al U Abr (V4 a a4 _ c _ c4 net _) U ?_))))))))));rintro v w ⟨x1,x2,x3,rfl,H10⟩;have H5:=H.call H10.ext;refine Ab (Aa (Av ?_));have RI0:Rd w a2 1 U1 (os.map Du.id):=O.rd1 fun x hx=>H5.blk x (List.mem_cons_of_mem _ hx)
    have hRIn:os.map Du.id≠[]→w4.heap.size≤(adr a2).block:=fun hne=>by
     obtain ⟨q,rfl⟩:=O.form (by have:=List.length_pos_iff.2 hne; rw [List.length_map] at this; exact this)
     rcases H.own (q,Bl 24 full) (List.mem_cons_of_mem _ (List.mem_singleton.2 rfl)) with h | h
     ·exact absurd (List.mem_singleton.1 h) fun h=>H.ne (i:=1) (j:=0) rfl rfl (by decide) h
     ·exact h
    have hk1:=H10.get at1;have hk2:=H10.get at0;have hk3:=H10.get at2;have ho1:=(H10.own _ (List.mem_of_getElem? at1)).elim (fun h=>by cases h) id;have ho2:=(H10.own _ (List.mem_of_getElem? at0)).elim (fun h=>by cases h) id;have ho3:=(H10.own _ (List.mem_of_getElem? at2)).elim (fun h=>by cases h) id;dsimp only at ho1 ho2 ho3;have hl6:=H.lt at0;have hs5:=H5.size;have hx5:=H4.ext.then H5.ext fun x hx => .inr (by rw [List.mem_singleton.1 hx]; exact (H4.own _ (List.mem_of_getElem? at0)).elim (fun h=>by cases h) id);have hb60:w0.heap.size≤b6:=(H4.own _ (List.mem_of_getElem? at0)).elim (fun h=>by cases h) id;have RR:=R.ext0 hx5;have RO5:=RO.ext' H5.ext hROn
    have hwe:∀ d∈os,-1000000000≤d.we∧d.we≤1000000000:=fun d hd=>by
     rw [hbb] at h1;have hB:=(Nr (by omega)).1 h1;rw [hos] at hd;have:=(KI (hB.due d (Uw hd).1).1).2.2.2.2.1;omega
    obtain ⟨ws,rfl⟩:∃ z,z=w:=⟨_,rfl⟩;have H:=Ctx.lend (L1:=[_]) (L2:=_) H5;dsimp only [List.map] at H;obtain ⟨es,hes⟩:∃ es,es=D9 rs os net:=⟨_,rfl⟩
    have hnR:rs≠[]→(adr a).block∉[b6]:=fun hne=>by
     have:=R.lt' (fun _ _=>rfl) (by decide) hne;rw [List.mem_singleton]; omega
    have heL:es.length≤3000000:=by rw [hes,Uv]; split <;> omega
    refine Kw (gf:=162) U Acg (Tm (b1:=x1) (b2:=x2) (b3:=x3) (a:=a) (b:=a4) (c:=c) (e:=c4) (rs:=rs) (ds:=os) (net:=net) U U hn2 (by omega) hwe) (by kernel_rfl) (by kernel_rfl) (fun v hv=>by obtain ⟨p,-,rfl⟩:=List.mem_map.1 hv; rfl)
     (rndJ ws b6 ((rs.length:Int)+1) es) (fun _=>False) (by simp)
     (fun w2 hx2 _=>⟨_,none,0,[],rfl,H.call hx2,OS.nil,by simp [ent]; omega⟩)
     (fun i M w' w'' hJ hx=>?_) (fun _ _ h _=>h) (fun i M w' hJ=>?_) ?_ ?_ (fun _ h _=>h.elim)
    ·obtain ⟨a7,c7,f7,hM,HJ,O7,hne⟩:=hJ;refine ⟨a7,c7,f7,hM,HJ.step hx (fun y hy hy2=>?_) (fun x hx => .inr ?_),O7,hne⟩
     ·have:=hne _ (List.mem_map_of_mem (f:=(·.1)) hy);simp only [List.mem_cons,List.not_mem_nil,or_false] at hy2;omega
     ·simp only [List.mem_cons,List.not_mem_nil,or_false] at hx;omega
    ·obtain ⟨a7,c7,f7,hM,HJ,O7,hne⟩:=hJ;refine ⟨fun x hx=>?_,HJ.ext.to hk1 (by rw [List.mem_singleton]; omega),HJ.ext.to hk2 (by rw [List.mem_singleton]; omega),HJ.ext.to hk3 (by rw [List.mem_singleton]; omega),RR.ext' HJ.ext hnR,RO5.ext' HJ.ext hROn⟩;rw [hM] at hx;obtain ⟨y,hy,rfl⟩:=List.mem_map.1 hx;exact ⟨B2 (HJ.blk y hy),hne _ hx⟩
    ·rintro i v M w hxv ⟨a7,c7,f7,rfl,HJ,O7,hne⟩ hsz;rw [List.getElem?_map] at hxv;obtain ⟨ed,hed,rfl⟩:=Option.map_eq_some_iff.1 hxv;rw [← hes] at hed;have hil:=CO hed;obtain ⟨w1,rfl⟩:∃ z,z=w:=⟨_,rfl⟩;have H:=Ctx.start w1 [];refine Aw (Bs U Dn H ?_);rintro b11 w - H;refine BL U B3 U U U (by exact CN _) H at0 U ?_;rintro w H;refine Ab ?_;refine ⟨H.ext,fun wB hxB=>?_⟩;have hb11:=(H.own _ (List.mem_cons_self ..)).elim (fun h=>by cases h) id;dsimp only at hb11;have hs1:=H.size;have hsB:=hxB.size
     have HB:=(HJ.callAdd H.ext (H.get at0) hb11).step hxB (fun y hy=>by
      rw [List.mem_singleton]
      rcases List.mem_cons.1 hy with rfl | hy
      ·dsimp only; omega
      ·exact (hne _ (List.mem_map_of_mem (f:=(·.1)) hy)).2) (fun z hz => .inr (by rw [List.mem_singleton.1 hz]; omega))
     obtain ⟨w2,rfl⟩:∃ z,z=wB:=⟨_,rfl⟩;rw [← List.append_nil (_::_::ent a7 92 f7)] at HB;have H:=Ctx.lend (L1:=_::_::ent a7 92 f7) (L2:=[]) HB;obtain ⟨SS,hSS⟩:∃ SS,SS=((b11,Bl 92 (Br ed))::(b6,Bl 28 [.int .i64 ((rs.length:Int)+1),.slice a7 i c7])::ent a7 92 f7).map (·.1):=⟨_,rfl⟩;rw [← hSS] at H;refine Av (Aw (Ah U BD U (AA U C5 U H at1 U (Bh U DT B3 U H at0 U (D4 _ (.agg _) U BO B3 Dn U (by decide) (by decide) U U U H ?_)))));rintro b43 w - H;refine Dr (L:=[_,_]) U BO BO B3 QK Dn U (by decide) U U H O7 U (CN ed) (by omega) ?_;rintro a' c' full' w H O;refine Ah U BD U (BX (.slice _ _ _) U TX U U U H at1 (by (simp; done)) ?_);rintro w H;refine Ab (A3 ?_);rw [hSS] at H;have HE:=H.ext;have HH:=Ctx.back HB H;rw [List.append_nil] at HH;refine ⟨_,⟨a',c',full',rfl,HH.tail,by rw [List.take_add_one,hed,List.flatMap_append]; exact O,fun y hy=>?_⟩,fun y hy=>?_,_,HE,fun y hy=>?_⟩
     ·obtain ⟨z,hz,rfl⟩:=List.mem_map.1 hy
      rcases H.own z (List.mem_cons_of_mem _ hz) with h | h
      ·rcases List.mem_cons.1 h with h | h
       ·dsimp only at h; omega
       ·exact hne _ h
      ·have:=hxB.size; have:=H.ext.size; omega
     ·obtain ⟨z,hz,rfl⟩:=List.mem_map.1 hy
      rcases H.own z (List.mem_cons_of_mem _ hz) with h | h
      ·rcases List.mem_cons.1 h with h | h
       ·exact .inr (by dsimp only at h; omega)
       ·exact .inl h
      ·exact .inr (by have:=hxB.size; omega)
     ·rcases List.mem_cons.1 hy with h | h
      ·exact .inr (by dsimp only at h; omega)
      ·exact .inl h
    ·rintro M w ⟨a7,c7,f7,rfl,HJ,O7,hne⟩ hD;rw [List.length_map,← hes] at HJ O7 hne;rw [List.take_length] at O7;have H:=HJ;obtain ⟨w1,rfl⟩:∃ z,z=w:=⟨_,rfl⟩;rw [← List.append_nil (_::ent a7 92 f7)] at HJ;have H:=Ctx.lend (L1:=_::ent a7 92 f7) (L2:=[]) HJ;obtain ⟨SS,hSS⟩:∃ SS,SS=((b6,Bl 28 [.int .i64 ((rs.length:Int)+1),.slice a7 es.length c7])::ent a7 92 f7).map (·.1):=⟨_,rfl⟩;rw [← hSS] at H hne;have hDn:ws.heap.size∉SS:=fun h=>(hne _ h).1 rfl;refine A3 (Aa (Ag (Bh U C1 Cs U H at0 U (Ap U U (BL U Cs U U U (by simp [B4]) H at0 U ?_)))));rintro w H;refine A5 U U (Ad U U (Ab (Aa (A9 (Rv U U U U ?_)))));refine G6 (H.ext.to hD hDn) U fun wF hxF=>?_;rw [hSS] at H;have HH:=Ctx.back HJ H;rw [List.append_nil] at HH;rw [hSS] at hne;have HF:=HH.step hxF (fun y hy h=>(hne _ (List.mem_map_of_mem (f:=(·.1)) hy)).1 (List.mem_singleton.1 h)) (fun z hz => .inr (by rw [List.mem_singleton.1 hz]; omega))
     have hown:∀ y∈((b6,Bl 28 [.int .i64 ((rs.length:Int)+1),.slice a7 es.length c7])::ent a7 92 f7),w0.heap.size≤y.1:=fun y hy=>by
      rcases HF.own y hy with h | h
      ·rw [List.mem_singleton.1 h]; exact hb60
      ·have:=hx5.size; omega
     have hxx:=hx5.then HF.ext fun x hx => .inr (by rw [List.mem_singleton.1 hx]; exact hb60);refine ⟨_,Fq C1 Cs U (fun j v hv=>by rw [Au (HF.get at0),Nat.zero_add]; exact hv),hxx,.inr ⟨by rw [← hbb]; exact h1,a7,es.length,c7,.slice a2 os.length c2,rfl,?_,?_⟩⟩
     ·rw [← hos,← hes];refine ⟨a7,c7,rfl,O7.le,OS.rd O7 (fun x hx=>HF.blk x (List.mem_cons_of_mem _ hx)) (fun _ _=>rfl) (by decide),fun hne'=>?_⟩;obtain ⟨q,rfl⟩:=O7.form (List.length_pos_iff.2 hne');exact hown (q,Bl 92 f7) (List.mem_cons_of_mem _ (List.mem_singleton.2 U))
     ·rw [← hos];have hd4:os.map Du.id≠[]→w4.heap.size≤(adr a2).block:=hRIn;refine ⟨a2,c2,by rw [List.length_map],by rw [List.length_map]; exact O.le,RI0.ext' HF.ext (fun hne'=>?_),fun hne'=>?_⟩
      ·have:=hRIn hne';rw [List.mem_singleton]; omega
      ·have:=hRIn hne';omega
end Go.Proofs.YtapphbmlkdhnmaaGreat

/- Nets, as the reference has them: Right, Within. -/
namespace Go.Proofs.YtapphbmlkdhnmaaGreat
open Go.GV
attribute [local irreducible] AC W Wq Wt

set_option maxRecDepth 20000 in
set_option maxHeartbeats 4000000 in
theorem Ho (N:Int) (a:Option Addr) (n c:Nat) (es:List Ed) (w:World) (R:Rd w a 4 Br es) (hn:es.length=n) (hn2:n≤1000000):Ret Tryz.prog 63 #[CT N a n c] w fun v w'=>v = .bool (Ci N es)∧Ext [] w w':=by
 subst hn;obtain ⟨w0,rfl⟩:∃ w0,w0=w:=⟨_,rfl⟩;have H:=Ctx.start w0 [];refine A2 (fn:=Tryz.f63) Tryz.func63 U [CT N a es.length c] U (by kernel_rfl) ?_;refine Ag (Bt U [.int .i64 N,.slice a es.length c] (.agg _) U U H ?_);rintro b1 w - H;refine Ai U U (Ab (Aa (Aq (Ag (B5 (α:=Unit) 1048512 (fun _=>[(19,.bool (!((decide (1≤N) && decide (N≤40)) && decide (es.length≤200))))]) (fun _ w'=>Ctx w0 [] w' [(b1,Bl 28 [.int .i64 N,.slice a es.length c])]) U ?_ ?_)))))
 ·refine Ah U Dj U (AA U BG U H at0 U (AO U U U (Ak U U (A4 9 U ?_ ?_))))
  ·intro h1;replace h1:=AG h1;refine Af U (Af U (Af U (An U U (.bool _) U (Ak U U (Af U (Af U (Af U (Af U (An U U (.bool _) U ?_)))))))));refine Ab ?_;exact ⟨rfl,(),rfl,⟨congrArg Value.bool (by rw [Bool.eq_iff_iff]; simp_all; try omega),trivial⟩,H⟩
  ·intro h2;replace h2:=AH h2;refine Ah U Dj U (AA U BG U H at0 U (Ct U U U (A1 U U (.bool _) U (Ak U U (A4 14 U ?_ ?_)))))
   ·intro h3;replace h3:=AG h3;refine Af U (Af U (Af U (Af U (An U U (.bool _) U (Ab ?_)))));exact ⟨rfl,(),rfl,⟨congrArg Value.bool (by rw [Bool.eq_iff_iff]; simp_all; try omega),trivial⟩,H⟩
   ·intro h4;replace h4:=AH h4;refine Ah U BD U (AA U C5 U H at0 U (AV U BO U (Ct U U U (A1 U U (.bool _) U (Ab ?_)))));exact ⟨rfl,(),rfl,⟨congrArg Value.bool (by rw [Bool.eq_iff_iff]; simp_all; try omega),trivial⟩,H⟩
 rintro - j19 w H;refine Ay _ U ?_ ?_
 ·intro h1;replace h1:=Bo h1;refine Ag (Ai U U (Ab (Aa (A9 (Am (AF (v:=(.bool _)) U U U ?_))))));exact ⟨congrArg Value.bool (by unfold Ci; rw [← Bool.and_assoc,show ((decide (1≤N) && decide (N≤40)) && decide (es.length≤200))=false by simpa using h1]; rfl),H.ext⟩
 ·intro h1;replace h1:=Bp h1;have h1':((decide (1≤N) && decide (N≤40)) && decide (es.length≤200))=true:=by simpa using h1
  have hrN:Ci N es=(es.all (DZ N) && decide (Ei es≤4611686018427387904)):=by unfold Ci; rw [← Bool.and_assoc,h1']; rfl
  refine Ax (Aa (Ag (Ad U U (Ab (Aa (Aq (Ag (Ad U U (Ab (Aa (Av (Bd 2417851639229258348363836 (α:=Nat) (fun i=>[(3,.int .i64 ((Ei (es.take i):Nat):Int)),(4,.int .i64 (i:Int))]) (fun i w'=>i≤es.length∧Ctx w0 [] w' [(b1,Bl 28 [.int .i64 N,.slice a es.length c])]∧Ei (es.take i)≤4611686018427387904∧∀ (k:Nat) (e:Ed),k<i→es[k]? = some e→DZ N e=true) (fun i=>es.length - i) 0 U ?_ ?_ ?_))))))))))))
  ·exact ⟨rfl,rfl,trivial⟩
  ·exact ⟨Nat.zero_le _,H,Nat.zero_le _,fun k e h=>absurd h (Nat.not_lt_zero _)⟩
  ·rintro i j w ⟨hi,H,hpr,hb⟩;refine Aq (Ag (Ae U U (Ah U BD U (AA U C5 U H at0 U (AV U BO U (AO U U U (Ab (Aa (Ay _ U ?_ ?_)))))))))
   ·intro h2;replace h2:=AG h2;obtain ⟨e,he⟩:=AE (l:=es) (i:=i) (by omega);have hps:=Ix he;have hpt:=Iy es (i+1);refine Ax (Aa (Aq (Av (Ag (Ah U BD U (AA U C5 U H at0 U (Ae U U (AX R U BO B3 U U (by omega) (by omega) (by rfl) ?_))))))));refine Cd _ U DT B3 U U ((R.ext0 H.ext).row he U) ?_;refine Bs U Dn H ?_;rintro b5 w - H;refine BL U B3 U U U (by exact CN _) H at0 U ?_;rintro w H;refine Ab (Aa (Aq (Ag (B5 (α:=Unit) 18446744069414584320 (fun _=>[(63,.bool (!DZ N e))]) (fun _ w'=>Ctx w0 [] w' [(b5,Bl 92 (Br e)),(b1,Bl 28 [.int .i64 N,.slice a es.length c])]) U ?_ ?_))))
    ·refine Bh U C1 Cs U H at1 U (Ah U CX U (AA U BG U H at0 U (Al U W1 (Rt N a es.length c e.f _) U ?_)));rintro v w ⟨rfl,hx35⟩;replace H:=H.call hx35;refine Bv U U (Ak U U (A4 37 U ?_ ?_))
     ·intro h5;replace h5:=Bo h5;refine Af U (Af U (Af U (Af U (Af U (An U U (.bool _) U (Ak U U (Af U (Af U (Af U ?_)))))))));refine An U U (.bool _) U (Ak U U (Af U (Af U (Af U (An U U (.bool _) U (Ak U U (Af U (Af U (Af U ?_)))))))));refine An U U (.bool _) U (Ak U U (Af U (Af U (Af U (An U U (.bool _) U (Ab ?_))))));exact ⟨rfl,(),rfl,⟨congrArg Value.bool (by unfold DZ; unfold KH at *; unfold GS; rw [Bool.eq_iff_iff]; simp_all; try omega),trivial⟩,H⟩
     ·intro h6;replace h6:=Bp h6;refine Bh U C1 Cs U H at1 U (Ah U Dl U (AA U BG U H at0 U (Al U W1 (Rt N a es.length c e.t _) U ?_)));rintro v w ⟨rfl,hx41⟩;replace H:=H.call hx41;refine Bv U U (A1 U U (.bool _) U (Ak U U (A4 44 U ?_ ?_)))
      ·intro h7;replace h7:=Bo h7;refine Af U (Af U (Af U (An U U (.bool _) U (Ak U U (Af U (Af U (Af U (An U U (.bool _) U (Ak U U ?_)))))))));refine Af U (Af U (Af U (An U U (.bool _) U (Ak U U (Af U (Af U (Af U (An U U (.bool _) U (Ab ?_)))))))));exact ⟨rfl,(),rfl,⟨congrArg Value.bool (by unfold DZ; unfold KH at *; unfold GS; rw [Bool.eq_iff_iff]; simp_all; try omega),trivial⟩,H⟩
      ·intro h8;replace h8:=Bp h8;refine Ah U CD U (AA U Bx U H at0 U (AO U U U (A1 U U (.bool _) U (Ak U U (A4 49 U ?_ ?_)))))
       ·intro h9;replace h9:=AG h9;refine Af U (Af U (Af U (An U U (.bool _) U (Ak U U (Af U (Af U (Af U (An U U (.bool _) U (Ak U U ?_)))))))));refine Af U (Af U (Af U (An U U (.bool _) U (Ab ?_))));exact ⟨rfl,(),rfl,⟨congrArg Value.bool (by unfold DZ; unfold KH at *; unfold GS; rw [Bool.eq_iff_iff]; simp_all; try omega),trivial⟩,H⟩
       ·intro h10;replace h10:=AH h10;refine Ah U CD U (AA U Bx U H at0 U (Ct U U U (A1 U U (.bool _) U (Ak U U (A4 54 U ?_ ?_)))))
        ·intro h11;replace h11:=AG h11;refine Af U (Af U (Af U (An U U (.bool _) U (Ak U U (Af U (Af U (Af U (An U U (.bool _) U (Ab ?_)))))))));exact ⟨rfl,(),rfl,⟨congrArg Value.bool (by unfold DZ; unfold KH at *; unfold GS; rw [Bool.eq_iff_iff]; simp_all; try omega),trivial⟩,H⟩
        ·intro h12;replace h12:=AH h12;refine Ah U De U (AA U Bx U H at0 U (AO U U U (A1 U U (.bool _) U (Ak U U (A4 59 U ?_ ?_)))))
         ·intro h13;replace h13:=AG h13;refine Af U (Af U (Af U (An U U (.bool _) U (Ab ?_))));exact ⟨rfl,(),rfl,⟨congrArg Value.bool (by unfold DZ; unfold KH at *; unfold GS; rw [Bool.eq_iff_iff]; simp_all; try omega),trivial⟩,H⟩
         ·intro h14;replace h14:=AH h14;refine Ah U De U (AA U Bx U H at0 U (Ct U U U (A1 U U (.bool _) U (Ab ?_))));exact ⟨rfl,(),rfl,⟨congrArg Value.bool (by unfold DZ; unfold KH at *; unfold GS; rw [Bool.eq_iff_iff]; simp_all; try omega),trivial⟩,H⟩
    rintro - j63 w H;refine Ay _ U ?_ ?_
    ·intro h3;replace h3:=Bo h3;refine Ag (Ai U U (Ab (Aa (A9 (Am (AB (Am (Am (AB (Am (AF (v:=(.bool _)) U U U ?_)))))))))));exact ⟨congrArg Value.bool (by rw [hrN,DP he (by simpa using h3)]; rfl),H.ext⟩
    ·intro h3;replace h3:=Bp h3;have h3':DZ N e=true:=by simpa using h3
     obtain ⟨-,-,-,-,q1,q2,q3,q4⟩:=CY h3';obtain ⟨cp,hcp⟩:∃ cp:Nat,e.cap=(cp:Int):=⟨e.cap.toNat,by omega⟩;have hpe:EX e=cp*e.cost.natAbs:=by unfold EX; rw [hcp,Int.toNat_natCast]
     have hpm:EX e≤4503599627370496*1000:=by rw [hpe]; exact Nat.mul_le_mul (by omega) (by omega)
     have hmx:e.cap*max e.cost (-e.cost)=((EX e:Nat):Int):=by
      rw [hpe,hcp,Int.natCast_mul]
      congr 1
      omega
     refine Ax (Aa (Ag (Ae U U (Ah U CD U (AA U Bx U H at0 U (Ah U De U (AA U Bx U H at0 U (Ah U De U (AA U Bx U H at0 U (EJ U U (by omega) (by omega) ?_))))))))));refine LO U U U ?_;refine Cn U U U (by rw [hmx]; omega) (by rw [hmx]; omega) ?_;rw [hmx];refine Ao U U U (by omega) (by omega) ?_;rw [← Int.natCast_add,← hps];refine Ad U U (Ab (Aa (Ag (B5 (α:=Unit) 2380072707366301187702784 (fun _=>[(80,.bool (!decide (Ei (es.take (i+1))≤4611686018427387904)))]) (fun _ w'=>Ctx w0 [] w' [(b5,Bl 92 (Br e)),(b1,Bl 28 [.int .i64 N,.slice a es.length c])]) U ?_ ?_))))
     ·refine Ae U U (AO U U U (Ak U U (A4 77 U ?_ ?_)))
      ·intro h15;replace h15:=AG h15;refine Af U (Af U (An U U (.bool _) U (Ab ?_)));exact ⟨rfl,(),rfl,⟨congrArg Value.bool (by rw [Bool.eq_iff_iff]; simp_all; try omega),trivial⟩,H⟩
      ·intro h16;replace h16:=AH h16;refine Ae U U (Ct U U U (A1 U U (.bool _) U (Ab ?_)));exact ⟨rfl,(),rfl,⟨congrArg Value.bool (by rw [Bool.eq_iff_iff]; simp_all; try omega),trivial⟩,H⟩
     rintro - j80 w H;refine Ay _ U ?_ ?_
     ·intro h4;replace h4:=Bo h4;refine Ag (Ai U U (Ab (Aa (A9 (AB (Am (Am (AB (Am (AF (v:=(.bool _)) U U U ?_))))))))));have h4':¬ Ei (es.take (i+1))≤4611686018427387904:=by simpa using h4
      exact ⟨congrArg Value.bool (by rw [hrN,decide_eq_false (show ¬ Ei es≤4611686018427387904 by omega),Bool.and_false]),H.ext⟩
     ·intro h4;replace h4:=Bp h4;have h4':Ei (es.take (i+1))≤4611686018427387904:=by simpa using h4
      refine Ax (A3 (Aa (Aw (Ae U U (Ao U U U (by omega) (by omega) ?_)))));refine Ad U U (Ab (Aa ?_));refine ⟨i+1,rfl,⟨rfl,rfl,trivial⟩,⟨by omega,H.tail,h4',fun k y hk hy=>?_⟩,by omega⟩
      rcases Nat.lt_or_ge k i with h7 | h7
      ·exact hb k y h7 hy
      ·obtain rfl:k=i:=by omega
       rw [he] at hy;cases hy;exact h3'
   ·intro h2;replace h2:=AH h2;refine Bc (Aj (Aj (AD (Aa (Ag (Ai U U (Ab (Aa (A9 (AF (v:=(.bool _)) U U U ?_))))))))));rw [List.take_of_length_le (by omega)] at hpr;exact ⟨congrArg Value.bool (by rw [hrN,EN fun k x hk hx=>hb k x (by omega) hx,decide_eq_true hpr]; rfl),H.ext⟩
set_option maxRecDepth 20000 in
set_option maxHeartbeats 4000000 in
theorem I7 (N:Int) (a b:Option Addr) (n c m d:Nat) (es:List Ed) (fl:List Int) (w:World) (R:Rd w a 4 Br es) (hn:es.length=n) (hn2:n≤1000000) (Rf:Rd w b 1 I1 fl) (hm:fl.length=m) (hm2:m≤1000000) :
  Ret Tryz.prog 125 #[CT N a n c,.slice b m d] w fun v w'=>v = .bool (BF N es fl)∧Ext [] w w':=by
 subst hn hm;obtain ⟨w0,rfl⟩:∃ w0,w0=w:=⟨_,rfl⟩;have H:=Ctx.start w0 [];refine A2 (fn:=Tryz.f125) Tryz.func125 U [CT N a es.length c,.slice b fl.length d] U (by kernel_rfl) ?_;refine Ag (Bt U [.int .i64 N,.slice a es.length c] (.agg _) U U H ?_);rintro b2 w - H;refine Ai U U (Ab (Aa (Aq (Ag (B5 (α:=Unit) 131008 (fun _=>[(16,.bool (!(decide (fl.length=es.length) && Ci N es)))]) (fun _ w'=>Ctx w0 [] w' [(b2,Bl 28 [.int .i64 N,.slice a es.length c])]) U ?_ ?_)))))
 ·refine Bh U C1 Cs U H at0 U (Al U TV (Ho N a es.length c es _ (R.ext0 H.ext) U hn2) U ?_);rintro v w ⟨rfl,hx7⟩;replace H:=H.call hx7;refine Bv U U (Ak U U (A4 9 U ?_ ?_))
  ·intro h1;replace h1:=Bo h1;refine Af U (Af U (Af U (Af U (Af U (Af U (An U U (.bool _) U (Ab ?_)))))));exact ⟨rfl,(),rfl,⟨congrArg Value.bool (by rw [Bool.eq_iff_iff]; simp_all; try omega),trivial⟩,H⟩
  ·intro h2;replace h2:=Bp h2;refine Ap U U (AV U AU U (Ah U BD U (AA U C5 U H at0 U (AV U BO U (CC U U U (A1 U U (.bool _) U (Ab ?_)))))));exact ⟨rfl,(),rfl,⟨congrArg Value.bool (by rw [Bool.eq_iff_iff]; simp_all; try omega),trivial⟩,H⟩
 rintro - j16 w H;refine Ay _ U ?_ ?_
 ·intro h1;replace h1:=Bo h1;refine Ag (Ai U U (Ab (Aa (A9 (Am (AF (v:=(.bool _)) U U U ?_))))));exact ⟨congrArg Value.bool (by unfold BF; rw [show (decide (fl.length=es.length) && Ci N es)=false by simpa using h1]; rfl),H.ext⟩
 ·intro h1;replace h1:=Bp h1;have h1':(decide (fl.length=es.length) && Ci N es)=true:=by simpa using h1
  have hw:BF N es fl=(List.zipWith inB es fl).all id:=by unfold BF; rw [h1']; rfl
  have hle:fl.length=es.length:=by simp only [Bool.and_eq_true,decide_eq_true_eq] at h1'; exact h1'.1
  refine Ax (Aa (Aq (Ag (Ad U U (Ab (Aa (Av (Bd 2199023124528 (α:=Nat) (fun i=>[(5,.int .i64 (i:Int))]) (fun i w'=>i≤fl.length∧Ctx w0 [] w' [(b2,Bl 28 [.int .i64 N,.slice a es.length c])]∧∀ (k:Nat) (e:Ed) (x:Int),k<i→es[k]? = some e→fl[k]? = some x→inB e x=true) (fun i=>fl.length - i) 0 U ?_ ?_ ?_))))))))
  ·exact ⟨rfl,trivial⟩
  ·exact ⟨Nat.zero_le _,H,fun k e x h=>absurd h (Nat.not_lt_zero _)⟩
  ·rintro i j w ⟨hi,H,hb⟩;refine Aq (Ag (Ae U U (Ap U U (AV U AU U (AO U U U (Ab (Aa (Ay _ U ?_ ?_))))))))
   ·intro h2;replace h2:=AG h2;obtain ⟨e,he⟩:=AE (l:=es) (i:=i) (by omega);obtain ⟨x,hx⟩:=AE (l:=fl) (i:=i) (by omega)
    have hnext:inB e x=true→∀ (k:Nat) (f:Ed) (y:Int),k<i+1→es[k]? = some f→fl[k]? = some y→inB f y=true:=fun h3 k f y hk hf hy=>by
     rcases Nat.lt_or_ge k i with h7 | h7
     ·exact hb k f y h7 hf hy
     ·obtain rfl:k=i:=by omega
      rw [he] at hf; rw [hx] at hy;cases hf; cases hy;exact h3
    have hbad:inB e x=false→BF N es fl=false:=fun h3=>by rw [hw,DP (Kg he hx) (show id (inB e x)=false from h3)]
    have hxf:=hx;refine Ax (Aa (Aq (Av (CI [([0,1,2,3,4,5,6,7,8,9,10,11,12,13,14,15,16],17)] (fun z=>Ext [] w0 z∧z.heap[b2]? = some (Bl 28 [.int .i64 N,.slice a es.length c])) [] B0 (by kernel_rfl) (⟨H.drew.ext,H.drew.get at0⟩) ?_))));refine AL U U ?_;refine Bq U U (AP U U (C3 Rf U AU Bz U U (by omega) (by omega) (by rfl) ?_));refine BM U Bx U (fun _ hx=>((Rf.ext0 hx.1).fld hxf rfl (j:=0) rfl)) ?_;refine Aai U U U (Ir U U (GI 28 U ?_ ?_))
    ·intro g1;replace g1:=AG g1;refine Er U (Er U (Er U (Er U (Er U (Er U (Er U (Er U (Er U (Er U ?_)))))))));refine Er U (Bu ?_);replace H:=H.drew;refine An U U (.bool _) U (Ab (BH (⟨H.ext,H.get at0⟩) (BS (Dc U (Ag (Ai U U (Ab (Aa (A9 (AB (Am (Am (AB (Am (AF (v:=(.bool _)) U U U ?_)))))))))))))));exact ⟨congrArg Value.bool (hbad (by unfold inB; rw [decide_eq_false (show ¬ 0≤x by omega)]; rfl)).symm,H.ext⟩
    ·intro g1;replace g1:=AH g1;refine Bq U U (AP U U (C3 Rf U AU Bz U U (by omega) (by omega) (by rfl) ?_));refine BM U Bx U (fun _ hx=>((Rf.ext0 hx.1).fld hxf rfl (j:=0) rfl)) ?_;refine AJ U BD U (BM U C5 U (fun _ hx=>(by rw [Au (hx.2)]; rfl)) ?_);refine AP U U (C3 R U BO B3 U U (by omega) (by omega) (by rfl) ?_);refine AJ U CD U (BM U Bx U (fun _ hx=>((R.ext0 hx.1).fld he rfl (j:=2) rfl)) ?_);refine Aaj U U U (Bu ?_);replace H:=H.drew;refine A1 U U (.bool _) U (Ab (BH (⟨H.ext,H.get at0⟩) (BS (Ay _ U ?_ ?_))))
     ·intro g2;replace g2:=AG g2;refine Ag (Ai U U (Ab (Aa (A9 (AB (Am (Am (AB (Am (AF (v:=(.bool _)) U U U ?_))))))))));exact ⟨congrArg Value.bool (hbad (by unfold inB; rw [decide_eq_false (show ¬ x≤e.cap by omega),Bool.and_false])).symm,H.ext⟩
     ·intro g2;replace g2:=AH g2;refine Ax (A3 (Aa (Aw (Ae U U (Ao U U U (by omega) (by omega) ?_)))));refine Ad U U (Ab (Aa ?_));exact ⟨i+1,rfl,⟨rfl,trivial⟩,⟨by omega,H,hnext (by unfold inB; rw [decide_eq_true (show 0≤x by omega),decide_eq_true (show x≤e.cap by omega)]; rfl)⟩,by omega⟩
   ·intro h2;replace h2:=AH h2;refine Bc (Aj (Aj (AD (Aa (Ag (Ai U U (Ab (Aa (A9 (AF (v:=(.bool _)) U U U ?_))))))))));refine ⟨congrArg Value.bool ?_,H.ext⟩;rw [hw,EN fun k x hk hx=>?_];rw [List.length_zipWith] at hk;obtain ⟨e,he⟩:=AE (l:=es) (i:=k) (by omega);obtain ⟨y,hy⟩:=AE (l:=fl) (i:=k) (by omega);rw [Kg he hy] at hx;cases hx;exact hb k e y (by omega) he hy
end Go.Proofs.YtapphbmlkdhnmaaGreat

/- Flows, as the reference has them: Over, Flows. -/
namespace Go.Proofs.YtapphbmlkdhnmaaGreat
open Go.GV
attribute [local irreducible] AC W Wq Wt

/-- What is over at the first nodes. -/
def ovI (g:Gr) (x:Nat→Int) (v i q:Nat):Int:=if q<v then BE g x q else if q=v then EM g x i v else 0
theorem XN (g:Gr) (x:Nat→Int) (q:Nat):ovI g x 0 0 q=0:=by
 unfold ovI;rw [if_neg (by omega)]
 split
 ·rfl
 ·rfl
theorem ZI (g:Gr) (x:Nat→Int) (v q:Nat):ovI g x v g.E q=ovI g x (v+1) 0 q:=by
 unfold ovI
 by_cases h:q<v
 ·rw [if_pos h,if_pos (by omega)]
 ·rw [if_neg h]
  by_cases h2:q=v
  ·subst h2;rw [if_pos rfl,if_pos (by omega)]; rfl
  ·rw [if_neg h2,if_neg (by omega)]
   split <;> rfl
theorem PU (g:Gr) (x:Nat→Int) (v i:Nat):ovI g x v i v=EM g x i v:=by unfold ovI; rw [if_neg (by omega),if_pos rfl]
theorem XO (g:Gr) (x:Nat→Int) (v i j:Nat) {q:Nat} (h:q≠v):ovI g x v i q=ovI g x v j q:=by unfold ovI; rw [if_neg h,if_neg h]
set_option maxRecDepth 20000 in
set_option maxHeartbeats 8000000 in
theorem Tp (N:Int) (a b:Option Addr) (n c m d:Nat) (es:List Ed) (fl:List Int) (w:World) (R:Rd w a 4 Br es) (hn:es.length=n) (hn2:n≤1000000) (Rf:Rd w b 1 I1 fl) (hm:fl.length=m) (hm2:m≤1000000) (hwi:BF N es fl=true) :
  Ret Tryz.prog 126 #[CT N a n c,.slice b m d] w fun v w'=>∃ b',v = .slice (some ⟨b',0,none⟩) N.toNat N.toNat∧Ctx w [] w' [(b',Bl 2 (B9 (BE (grE N es) (flE fl)) N.toNat))]:=by
 subst hn hm;obtain ⟨w0,rfl⟩:∃ w0,w0=w:=⟨_,rfl⟩;have H:=Ctx.start w0 [];obtain ⟨hl,hr,hin⟩:=BN hwi;obtain ⟨h1,h40,hE,hall,-⟩:=Cb hr;obtain ⟨nn,hnn⟩:∃ nn:Nat,N=(nn:Int):=⟨N.toNat,by omega⟩;obtain ⟨g,hg⟩:∃ g,g=grE N es:=⟨_,rfl⟩;obtain ⟨x,hx⟩:∃ x,x=flE fl:=⟨_,rfl⟩;have hgE:g.E=es.length:=by rw [hg]; rfl
 rw [← hg,← hx];subst hnn;rw [show ((nn:Int)).toNat=nn from rfl]
 have hxb:∀ j,j<es.length→0≤x j∧x j≤4503599627370496:=fun j hj=>by
  obtain ⟨e',he'⟩:=AE (l:=es) (i:=j) hj;obtain ⟨y,hy⟩:=AE (l:=fl) (i:=j) (by omega);have h3:=hin j e' y he' hy;have h4:=CY (hall e' (List.mem_of_getElem? he'));rw [hx];show 0≤fl.getD j 0∧fl.getD j 0≤4503599627370496;rw [Bn hy];omega
 refine A2 (fn:=Tryz.f126) Tryz.func126 U [CT (nn:Int) a es.length c,.slice b fl.length d] U (by kernel_rfl) ?_;refine Ag (Bt U [.int .i64 (nn:Int),.slice a es.length c] (.agg _) U U H ?_);rintro b2 w - H;refine A5 U U (Ab (Aa (Aq (Ag (Bh U C1 Cs U H at0 U (Ap U U (Al U SA (I7 (nn:Int) a b es.length c fl.length d es fl _ (R.ext0 H.ext) U hn2 (Rf.ext0 H.ext) U hm2) U ?_)))))));rintro v w ⟨rfl,hx10⟩;replace H:=H.call hx10;rw [hwi];refine Bv U U (Ab (Aa (Ay _ U ?_ ?_)))
 ·intro g1;replace g1:=Bo g1;cases g1
 ·intro g1;replace g1:=Bp g1;refine Ax (Aa (Ag (Ah U Dj U (AA U BG U H at0 U (FC U AU Bz Kz FJ U U (by omega) (by omega) (by omega) (by omega) H ?_)))));rintro b14 w - H;rw [show ((nn:Int)).toNat=nn from rfl,Ec] at H;refine A5 U U (Ab (Aa (Aq (Ag (Ad U U (Ab (Aa (Av (Bd 147573952589676380352 (α:=Nat) (fun v=>[(6,.int .i64 (v:Int))]) (fun v w'=>v≤nn∧Ctx w0 [] w' [(b14,Bl 2 (B9 (ovI g x v 0) nn)),(b2,Bl 28 [.int .i64 (nn:Int),.slice a es.length c])]) (fun v=>nn - v) 0 U ?_ ?_ ?_)))))))))
  ·exact ⟨rfl,trivial⟩
  ·refine ⟨Nat.zero_le _,?_⟩;rw [show B9 (ovI g x 0 0) nn=B9 (fun _=>0) nn from List.map_congr_left fun q _=>by rw [XN]];exact H
  ·clear H;rintro v j6 w ⟨hv,H⟩;refine Aq (Ag (Ae U U (Ah U Dj U (AA U BG U H at1 U (AO U U U (Ab (Aa (Ay _ U ?_ ?_))))))))
   ·intro g2;replace g2:=AG g2;refine Ax (Aa (Aq (Av (Ag (Ad U U (Ab (Aa (Av (Bd 147573952589674315904 (α:=Nat) (fun i=>[(7,.int .i64 (i:Int))]) (fun i w'=>i≤es.length∧Ctx w0 [] w' [(b14,Bl 2 (B9 (ovI g x v i) nn)),(b2,Bl 28 [.int .i64 (nn:Int),.slice a es.length c])]) (fun i=>es.length - i) 0 U ?_ ?_ ?_)))))))))
    ·exact ⟨rfl,trivial⟩
    ·exact ⟨Nat.zero_le _,H⟩
    ·clear H;rintro i j7 w ⟨hi,H⟩;refine Aq (Ag (Ae U U (Ap U U (AV U AU U (AO U U U (Ab (Aa (Ay _ U ?_ ?_))))))))
     ·intro g3;replace g3:=AG g3;obtain ⟨e,he⟩:=AE (l:=es) (i:=i) (by omega);obtain ⟨y,hy⟩:=AE (l:=fl) (i:=i) (by omega);have hxi:x i=y:=by rw [hx]; exact Bn hy
      obtain ⟨hf0,hfN,ht0,htN,-⟩:=CY (hall e (List.mem_of_getElem? he));have hgf:g.f i=e.f.toNat:=by rw [hg]; exact gr_f he
      have hgt:g.t i=e.t.toNat:=by rw [hg]; exact gr_t he
      have hbi:=Je (g:=g) (x:=x) (c:=4503599627370496) v (k:=i) fun j hj=>hxb j (by omega);have hyb:=hxb i (by omega);rw [hxi] at hyb;obtain ⟨z,hz⟩:∃ z,z=EM g x i v+if e.t=(v:Int) then y else 0:=⟨_,rfl⟩
      have hzb : -(300*4503599627370496)≤z∧z≤300*4503599627370496:=by
       rw [hz]; split <;> omega
      have hst:EM g x (i+1) v=z - if e.f=(v:Int) then y else 0:=by
       rw [Ov,hgf,hgt,hxi,hz]
       by_cases h1:e.t=(v:Int)
       ·rw [HQ (show e.t.toNat=v by omega),if_pos h1]
        by_cases h2:e.f=(v:Int)
        ·rw [HQ (show e.f.toNat=v by omega),if_pos h2]; omega
        ·rw [Hl (show ¬ e.f.toNat=v by omega),if_neg h2]; omega
       ·rw [Hl (show ¬ e.t.toNat=v by omega),if_neg h1]
        by_cases h2:e.f=(v:Int)
        ·rw [HQ (show e.f.toNat=v by omega),if_pos h2]; omega
        ·rw [Hl (show ¬ e.f.toNat=v by omega),if_neg h2]; omega
      refine Ax (Aa (Aq (Av (Aq (Ag (Ah U BD U (AA U C5 U H at1 U (Ae U U (AX R U BO B3 U U (by omega) (by omega) (by rfl) ?_)))))))));refine Ah U Dl U (AY U BG U (((R.ext0 H.ext).fld he U (j:=1) U)) ?_);refine Ae U U (BQ U U U (Ab (Aa (Eo 140703128616960 (α:=Unit) (fun _=>[]) (fun _ w'=>Ctx w0 [] w' [(b14,Bl 2 (B9 (fun q=>if q=v then z else ovI g x v i q) nn)),(b2,Bl 28 [.int .i64 (nn:Int),.slice a es.length c])]) U ?_ ?_))))
      ·skip
       refine Ay _ U ?_ ?_
       ·intro g4;replace g4:=AG g4;refine F8 12 B0 (by kernel_rfl) U U ?_;refine BV U U (AN U U (BV U U (AN U U (AR U AU Bz U U (by omega) (by omega) ?_))));refine Oa v _ U Bx U (by rintro _ rfl; exact H.drew) at0 (by simp) (by omega) (congrArg (Value.int .i64) (PU g x v i)) ?_;refine BV U U (AN U U (BA Rf U AU Bz U U (by omega) (by omega) (by rfl) ?_));refine Ch U Bx U (by rintro _ rfl; exact (((Rf.ext0 H.drew.ext).fld hy rfl (j:=0) rfl))) ?_;refine CU U U U (by omega) (by omega) ?_;refine AR U AU Bz U U (by omega) (by omega) ?_;refine Ca ?_;replace H:=H.drew;refine Cc v (fun q => .int .i64 (if q=v then z else ovI g x v i q)) (.int _ _) U Bz U U U H at0 (by simp) (by omega) (by rw [if_pos rfl,hz,if_pos g4]) (fun q _ hq=>by rw [if_neg hq]) ?_;rintro w H;refine Ab (Aa ?_);exact ⟨(),rfl,trivial,H⟩
       ·intro g4;replace g4:=AH g4;refine Ax (Aa ?_);refine ⟨(),rfl,trivial,?_⟩
        rw [show B9 (fun q=>if q=v then z else ovI g x v i q) nn=B9 (ovI g x v i) nn from List.map_congr_left fun q _=>by
         dsimp only
         split
         ·rename_i h; subst h; rw [PU,hz,if_neg g4,Int.add_zero]
         ·rfl]
        exact H
      ·rintro - j34 w H;refine Ag (Ah U BD U (AA U C5 U H at1 U (Ae U U (AX R U BO B3 U U (by omega) (by omega) (by rfl) ?_))));refine Ah U CX U (AY U BG U (((R.ext0 H.ext).fld he U (j:=0) U)) ?_);refine Ae U U (BQ U U U (Ab (Aa (Ay _ U ?_ ?_))))
       ·intro g5;replace g5:=AG g5;refine F8 12 B0 (by kernel_rfl) U U ?_;refine BV U U (AN U U (BV U U (AN U U (AR U AU Bz U U (by omega) (by omega) ?_))));refine Oa v _ U Bx U (by rintro _ rfl; exact H.drew) at0 (by simp) (by omega) (congrArg (Value.int .i64) (if_pos U)) ?_;refine BV U U (AN U U (BA Rf U AU Bz U U (by omega) (by omega) (by rfl) ?_));refine Ch U Bx U (by rintro _ rfl; exact (((Rf.ext0 H.drew.ext).fld hy rfl (j:=0) rfl))) ?_;refine Dg U U U (by omega) (by omega) ?_;refine AR U AU Bz U U (by omega) (by omega) ?_;refine Ca ?_;replace H:=H.drew;refine Cc v (fun q => .int .i64 (ovI g x v (i+1) q)) (.int _ _) U Bz U U U H at0 (by simp) (by omega) (by rw [PU,hst,if_pos g5]) (fun q _ hq=>by dsimp only; rw [if_neg hq,XO g x v (i+1) i hq]) ?_;rintro w H;refine Ab (A3 (Aa (Aw (Ae U U (Ao U U U (by omega) (by omega) ?_)))));refine Ad U U (Ab (Aa ?_))
        exact ⟨i+1,rfl,⟨rfl,trivial⟩,⟨by omega,H⟩,by omega⟩
       ·intro g5;replace g5:=AH g5;refine Ax (A3 (Aa (Aw (Ae U U (Ao U U U (by omega) (by omega) ?_)))));refine Ad U U (Ab (Aa ?_));refine ⟨i+1,rfl,⟨rfl,trivial⟩,⟨by omega,?_⟩,by omega⟩
        rw [show B9 (ovI g x v (i+1)) nn=B9 (fun q=>if q=v then z else ovI g x v i q) nn from List.map_congr_left fun q _=>by
         dsimp only
         split
         ·rename_i h; subst h; rw [PU,hst,if_neg g5,Int.sub_zero]
         ·rename_i h; rw [XO g x v (i+1) i h]]
        exact H
     ·intro g3;replace g3:=AH g3;refine Bc (Aj (Aj (AD (A3 (Aa (Aw (Ae U U (Ao U U U (by omega) (by omega) ?_))))))));refine Ad U U (Ab (Aa ?_));obtain rfl:i=es.length:=by omega
      refine ⟨v+1,rfl,⟨rfl,trivial⟩,⟨by omega,?_⟩,by omega⟩;rw [show B9 (ovI g x (v+1) 0) nn=B9 (ovI g x v es.length) nn from List.map_congr_left fun q _=>by rw [← ZI,hgE]];exact H
   ·intro g2;replace g2:=AH g2;refine Bc (Aj (Aj (AD (Aa (Ag (Ap U U (A5 U U (Ab (Aa (A9 (AF (v:=(.slice _ _ _)) U U U ?_)))))))))));obtain rfl:v=nn:=by omega
    rw [show B9 (ovI g x v 0) v=B9 (BE g x) v from List.map_congr_left fun q hq=>by
     rw [List.mem_range] at hq;unfold ovI
     rw [if_pos hq]] at H
    exact ⟨b14,rfl,H.left (L:=[_]) (L':=[_])⟩
set_option maxRecDepth 20000 in
set_option maxHeartbeats 2000000 in
theorem Rz (N:Int) (a b:Option Addr) (n c m d:Nat) (es:List Ed) (fl:List Int) (w:World) (R:Rd w a 4 Br es) (hn:es.length=n) (hn2:n≤1000000) (Rf:Rd w b 1 I1 fl) (hm:fl.length=m) (hm2:m≤1000000) :
  Ret Tryz.prog 64 #[CT N a n c,.slice b m d] w fun v w'=>v = .bool (E4 N es fl)∧Ext [] w w':=by
 subst hn hm;obtain ⟨w0,rfl⟩:∃ w0,w0=w:=⟨_,rfl⟩;have H:=Ctx.start w0 [];obtain ⟨bw,hbw⟩:∃ bw,bw=BF N es fl:=⟨_,rfl⟩;refine A2 (fn:=Tryz.f64) Tryz.func64 U [CT N a es.length c,.slice b fl.length d] U (by kernel_rfl) ?_;refine Ag (Bt U [.int .i64 N,.slice a es.length c] (.agg _) U U H ?_);rintro b2 w - H;refine Ai U U (Ab (Aa (Aq (Ag (Bh U C1 Cs U H at0 U (Ap U U (Al U SA (I7 N a b es.length c fl.length d es fl _ (R.ext0 H.ext) U hn2 (Rf.ext0 H.ext) U hm2) U ?_)))))));rintro v w ⟨rfl,hx9⟩;replace H:=H.call hx9;rw [← hbw];refine Bv U U (Ab (Aa (Ay _ U ?_ ?_)))
 ·intro h1;replace h1:=Bo h1;refine Ag (Ai U U (Ab (Aa (A9 (Am (AF (v:=(.bool _)) U U U ?_))))));exact ⟨congrArg Value.bool (by unfold E4; rw [← hbw,show bw=false by simpa using h1]; rfl),H.ext⟩
 ·intro h1;replace h1:=Bp h1;have h1':bw=true:=by simpa using h1
  have hw:BF N es fl=true:=by rw [← hbw]; exact h1'
  have hf:E4 N es fl=(JQ N es fl).all fun x=>decide (x=0):=by unfold E4; rw [hw]; rfl
  obtain ⟨h40a,h40,-⟩:=Cb (BN hw).2.1;obtain ⟨nn,hnn⟩:∃ nn:Nat,N=(nn:Int):=⟨N.toNat,by omega⟩;have hov:JQ N es fl=tab (BE (grE N es) (flE fl)) nn:=by rw [hnn]; rfl
  refine Ax (Aa (Ag (Bh U C1 Cs U H at0 U (Ap U U (Al U Abw (Tp N a b es.length c fl.length d es fl _ (R.ext0 H.ext) U hn2 (Rf.ext0 H.ext) U hm2 hw) U ?_)))));rintro v w ⟨b',rfl,H13⟩;replace H:=Ctx.back (L1:=[]) (L2:=[_]) H H13;rw [show N.toNat=nn by omega] at H ⊢;refine A5 U U (Ab (Aa (Aq (Ag (Ad U U (Ab (Aa (Av ?_))))))));obtain ⟨z,hz⟩:∃ z,z=BE (grE N es) (flE fl):=⟨_,rfl⟩;rw [hf,hov,← hz];rw [← hz] at H;have RT:Rd w (some ⟨b',0,none⟩) 1 I1 (tab z nn):=Cu (H.get at0);obtain ⟨w1,rfl⟩:∃ q,q=w:=⟨_,rfl⟩;have hx1:=H.ext;have H:=Ctx.start w1 [];refine Bd 33538128 (α:=Nat) (fun i=>[(6,.int .i64 (i:Int))]) (fun i w'=>i≤nn∧Ctx w1 [] w' []∧∀ k,k<i→z k=0) (fun i=>nn - i) 0 U ?_ ?_ ?_
  ·exact ⟨rfl,trivial⟩
  ·exact ⟨Nat.zero_le _,H,fun k h=>absurd h (Nat.not_lt_zero _)⟩
  ·clear H;rintro i j w ⟨hi,H,hb⟩;refine Aq (Ag (Ae U U (Ap U U (AV U AU U (AO U U U (Ab (Aa (Ay _ U ?_ ?_))))))))
   ·intro h2;replace h2:=AG h2;refine Ax (Aa (Aq (Av (Ag (Ap U U (Ae U U (Bi U AU Bz U U (by omega) (by omega) ?_)))))));refine AY U Bx U (((RT.ext0 H.ext).fld (BZ (f:=z) (show i<nn by omega)) U (j:=0) U)) ?_;refine CC U U U (Ab (Aa (Ay _ U ?_ ?_)))
    ·intro h3;replace h3:=CK h3;refine Ag (Ai U U (Ab (Aa (A9 (AB (Am (Am (AB (Am (AF (v:=(.bool _)) U U U ?_))))))))));exact ⟨congrArg Value.bool (DP (BZ (f:=z) (show i<nn by omega)) (decide_eq_false h3)).symm,hx1.trans H.ext⟩
    ·intro h3;replace h3:=CL h3;refine Ax (A3 (Aa (Aw (Ae U U (Ao U U U (by omega) (by omega) ?_)))));refine Ad U U (Ab (Aa ?_));refine ⟨i+1,rfl,⟨rfl,trivial⟩,⟨by omega,H,fun k hk=>?_⟩,by omega⟩
     rcases Nat.lt_or_ge k i with h7 | h7
     ·exact hb k h7
     ·obtain rfl:k=i:=by omega
      exact h3
   ·intro h2;replace h2:=AH h2;refine Bc (Aj (Aj (AD (Aa (Ag (Ai U U (Ab (Aa (A9 (AF (v:=(.bool _)) U U U ?_))))))))));have hin:i=nn:=by omega
    refine ⟨congrArg Value.bool (EN fun k x hk hx=>?_).symm,hx1.trans H.ext⟩;obtain ⟨h7,rfl⟩:=Nc hx;exact decide_eq_true (hb k (by omega))
end Go.Proofs.YtapphbmlkdhnmaaGreat

/- Arcs, and whether what flows is the best, as the reference has them. -/
namespace Go.Proofs.YtapphbmlkdhnmaaGreat
open Go.GV
attribute [local irreducible] AC W Wq Wt

theorem OR (N:Int) (a:Option Addr) (n c:Nat) (es:List Ed) (hn:es.length=n) (hb:n≤1000000) (k:Int) (w:World):Ret Tryz.prog 176 #[CT N a n c,.int .i64 k] w fun v w'=>v = .bool (HO es k)∧Ext [] w w':=by
 subst hn;obtain ⟨w0,rfl⟩:∃ w0,w0=w:=⟨_,rfl⟩;have H:=Ctx.start w0 [];refine A2 (fn:=Tryz.f176) Tryz.func176 U [CT N a es.length c,.int .i64 k] U (by kernel_rfl) ?_;refine Ag (Bt U [.int .i64 N,.slice a es.length c] (.agg _) U U H ?_);rintro b2 w - H;refine Ai U U (Ab (Aa (Ag (Ae U U (CQ U U U (Ak U U (A4 7 U ?_ ?_)))))))
 ·intro h1;replace h1:=AG h1;refine Ae U U (Ah U BD U (AA U C5 U H at0 U (AV U BO U (Cn U U U (by omega) (by omega) ?_))));refine AO U U U (An U U (.bool _) U (Ai U U (Ab (Aa (A9 (AF (v:=(.bool _)) U U U ?_))))));exact ⟨congrArg Value.bool (by unfold HO; rw [Bool.eq_iff_iff]; simp_all; try omega),H.ext⟩
 ·intro h2;replace h2:=AH h2;refine Af U (Af U (Af U (Af U (Af U (Af U (A1 U U (.bool _) U (Ai U U (Ab (Aa (A9 (AF (v:=(.bool _)) U U U ?_)))))))))));exact ⟨congrArg Value.bool (by unfold HO; rw [Bool.eq_iff_iff]; simp_all; try omega),H.ext⟩
theorem XP {es:List Ed} {k:Nat} (h:k<2*es.length):HO es (k:Int)=true:=by unfold HO; simp; omega
set_option maxRecDepth 20000 in
set_option maxHeartbeats 2000000 in
theorem Tq (N:Int) (a:Option Addr) (n c:Nat) (es:List Ed) (w:World) (R:Rd w a 4 Br es) (hn:es.length=n) (hb:n≤1000000) (k:Nat) {e:Ed} (he:es[k / 2]? = some e) (hr:Ci N es=true):Ret Tryz.prog 177 #[CT N a n c,.int .i64 (k:Int)] w fun v w'=>v = .tuple #[.int .i64 (Fe e k).1,.int .i64 (Fe e k).2.1,.int .i64 (Fe e k).2.2]∧Ext [] w w':=by
 subst hn;obtain ⟨w0,rfl⟩:∃ w0,w0=w:=⟨_,rfl⟩;have H:=Ctx.start w0 [];have hk:=CO he;have hco:=CY ((Cb hr).2.2.2.1 e (List.mem_of_getElem? he));refine A2 (fn:=Tryz.f177) Tryz.func177 U [CT N a es.length c,.int .i64 (k:Int)] U (by kernel_rfl) ?_;refine Ag (Bt U [.int .i64 N,.slice a es.length c] (.agg _) U U H ?_);rintro b2 w - H;refine Ad U U (Ad U U (Ad U U (Ab (Aa (Aq (Ag (B5 (α:=Unit) 130816 (fun _=>[(16,.bool (false))]) (fun _ w'=>Ctx w0 [] w' [(b2,Bl 28 [.int .i64 N,.slice a es.length c])]) U ?_ ?_)))))))
 ·refine Bh U C1 Cs U H at0 U (Al U TV (Ho N a es.length c es _ (R.ext0 H.ext) U hb) U ?_);rintro v w ⟨rfl,hx9⟩;replace H:=H.call hx9;rw [hr];refine Bv U U (Ak U U (A4 11 U ?_ ?_))
  ·intro h1;replace h1:=Bo h1;refine Af U (Af U (Af U (Af U (An U U (.bool _) U (Ab ?_)))));exact ⟨rfl,(),rfl,⟨congrArg Value.bool (by simp_all),trivial⟩,H⟩
  ·intro h2;replace h2:=Bp h2;refine Bh U C1 Cs U H at0 U (Ae U U (Al U W7 (OR N a es.length c es U hb (k:Int) _) U ?_));rintro v w ⟨rfl,hx14⟩;replace H:=H.call hx14;rw [XP (by omega)];refine Bv U U (A1 U U (.bool _) U (Ab ?_));exact ⟨rfl,(),rfl,⟨congrArg Value.bool (by rfl),trivial⟩,H⟩
 rintro - j16 w H;refine EQ U (Ax (Aa (Ag (Ah U BD U (AA U C5 U H at0 U (Ae U U (GF U U U (by omega) (by omega) (show _≤(9223372036854775807:Int) by omega) ?_)))))));rw [show (k:Int) / 2=((k / 2:Nat):Int) by omega];refine AX R U BO B3 U U (by omega) (by omega) (by rfl) ?_;refine Cd _ U DT B3 U U ((R.ext0 H.ext).row he U) ?_;refine Bs U Dn H ?_;rintro b7 w - H;refine BL U B3 U U U (by exact CN _) H at0 U ?_;rintro w H;refine Ab (Aa (Aq (Ag (Ae U U (Sp U U U (by omega) (by omega) ?_)))));rw [show (k:Int) % 2=((k % 2:Nat):Int) by omega];refine BQ U U U (Ab (Aa (Ay _ U ?_ ?_)))
 ·intro h1;replace h1:=AG h1;refine DQ (fun x=>x=_) B0 (by kernel_rfl) U ?_;refine A7 U CX U (Ce U BG U (by rintro _ rfl; exact H.drew) at0 U ?_);refine A7 U Dl U (Ce U BG U (by rintro _ rfl; exact H.drew) at0 U ?_);refine A7 U De U (Ce U Bx U (by rintro _ rfl; exact H.drew) at0 U ?_);refine Cm U U (Cm U U (Cm U U (Ca ?_)));rintro _ rfl;replace H:=H.drew;refine A9 (Am (CZ (v1:=(.int _ _)) (v2:=(.int _ _)) (v3:=(.int _ _)) U U U U U ?_));exact ⟨by unfold Fe; rw [if_neg (by omega)],H.ext⟩
 ·intro h1;replace h1:=AH h1;refine Ax (Aa (DQ (fun x=>x=_) B0 (by kernel_rfl) U ?_));refine A7 U Dl U (Ce U BG U (by rintro _ rfl; exact H.drew) at0 U ?_);refine A7 U CX U (Ce U BG U (by rintro _ rfl; exact H.drew) at0 U ?_);refine A7 U De U (Ce U Bx U (by rintro _ rfl; exact H.drew) at0 U ?_);refine NZ U U (by omega) (by omega) ?_;refine Cm U U (Cm U U (Cm U U (Ca ?_)));rintro _ rfl;replace H:=H.drew;refine A9 (CZ (v1:=(.int _ _)) (v2:=(.int _ _)) (v3:=(.int _ _)) U U U U U ?_);exact ⟨by unfold Fe; rw [if_pos (by omega)],H.ext⟩
set_option maxRecDepth 20000 in
set_option maxHeartbeats 2000000 in
theorem Ts (N:Int) (a b:Option Addr) (n c m d:Nat) (es:List Ed) (fl:List Int) (w:World) (R:Rd w a 4 Br es) (hn:es.length=n) (hb:n≤1000000) (Rf:Rd w b 1 I1 fl) (hm:fl.length=m) (k:Nat) {e:Ed} {x:Int} (he:es[k / 2]? = some e) (hx:fl[k / 2]? = some x) (hw:BF N es fl=true) :
  Ret Tryz.prog 127 #[CT N a n c,.slice b m d,.int .i64 (k:Int)] w fun v w'=>v = .int .i64 (Jf e x k)∧Ext [] w w':=by
 subst hn hm;obtain ⟨w0,rfl⟩:∃ w0,w0=w:=⟨_,rfl⟩;have H:=Ctx.start w0 [];have hk:=CO he;obtain ⟨hl,hr,hin⟩:=BN hw;have hco:=CY ((Cb hr).2.2.2.1 e (List.mem_of_getElem? he));have hxx:=hin _ e x he hx;refine A2 (fn:=Tryz.f127) Tryz.func127 U [CT N a es.length c,.slice b fl.length d,.int .i64 (k:Int)] U (by kernel_rfl) ?_;refine Ag (Bt U [.int .i64 N,.slice a es.length c] (.agg _) U U H ?_);rintro b3 w - H;refine Ad U U (Ab (Aa (Aq (Ag (B5 (α:=Unit) 130944 (fun _=>[(16,.bool (false))]) (fun _ w'=>Ctx w0 [] w' [(b3,Bl 28 [.int .i64 N,.slice a es.length c])]) U ?_ ?_)))))
 ·refine Bh U C1 Cs U H at0 U (Ap U U (Al U SA (I7 N a b es.length c fl.length d es fl _ (R.ext0 H.ext) U hb (Rf.ext0 H.ext) U (by omega)) U ?_));rintro v w ⟨rfl,hx9⟩;replace H:=H.call hx9;rw [hw];refine Bv U U (Ak U U (A4 11 U ?_ ?_))
  ·intro h1;replace h1:=Bo h1;refine Af U (Af U (Af U (Af U (An U U (.bool _) U (Ab ?_)))));exact ⟨rfl,(),rfl,⟨congrArg Value.bool (by simp_all),trivial⟩,H⟩
  ·intro h2;replace h2:=Bp h2;refine Bh U C1 Cs U H at0 U (Ae U U (Al U W7 (OR N a es.length c es U hb (k:Int) _) U ?_));rintro v w ⟨rfl,hx14⟩;replace H:=H.call hx14;rw [XP (by omega)];refine Bv U U (A1 U U (.bool _) U (Ab ?_));exact ⟨rfl,(),rfl,⟨congrArg Value.bool (by rfl),trivial⟩,H⟩
 rintro - j16 w H;refine EQ U (Ax (Aa (Aq (Ag (Ae U U (Sp U U U (by omega) (by omega) ?_))))));rw [show (k:Int) % 2=((k % 2:Nat):Int) by omega];refine BQ U U U (Ab (Aa (Ay _ U ?_ ?_)))
 ·intro h1;replace h1:=AG h1;refine DQ (fun x=>x=_) B0 (by kernel_rfl) U ?_;refine A7 U BD U (Ce U C5 U (by rintro _ rfl; exact H.drew) at0 U ?_);refine AN U U (Aag U U U (by omega) (by omega) (show _≤(9223372036854775807:Int) by omega) ?_);rw [show (k:Int) / 2=((k / 2:Nat):Int) by omega];refine BA R U BO B3 U U (by omega) (by omega) (by rfl) ?_;refine A7 U CD U (Ch U Bx U (by rintro _ rfl; exact (((R.ext0 H.drew.ext).fld he rfl (j:=2) rfl))) ?_);refine BV U U (AN U U (Aag U U U (by omega) (by omega) (show _≤(9223372036854775807:Int) by omega) ?_));rw [show (k:Int) / 2=((k / 2:Nat):Int) by omega];refine BA Rf U AU Bz U U (by omega) (by omega) (by rfl) ?_;refine Ch U Bx U (by rintro _ rfl; exact (((Rf.ext0 H.drew.ext).fld hx rfl (j:=0) rfl))) ?_;refine Dg U U U (by omega) (by omega) ?_;refine Cm U U (Ca ?_);rintro _ rfl;replace H:=H.drew;refine A9 (Am (AF (v:=(.int _ _)) U U U ?_))
  exact ⟨by unfold Jf; rw [if_neg (by omega)],H.ext⟩
 ·intro h1;replace h1:=AH h1;refine Ax (Aa (Ag (Ap U U (Ae U U (GF U U U (by omega) (by omega) (show _≤(9223372036854775807:Int) by omega) ?_)))));rw [show (k:Int) / 2=((k / 2:Nat):Int) by omega];refine AX Rf U AU Bz U U (by omega) (by omega) (by rfl) ?_;refine AY U Bx U (((Rf.ext0 H.drew.ext).fld hx U (j:=0) U)) ?_;refine Ad U U (Ab (Aa (A9 (AF (v:=(.int _ _)) U U U ?_))));exact ⟨by unfold Jf; rw [if_pos (by omega)],H.ext⟩
set_option maxRecDepth 20000 in
set_option maxHeartbeats 2000000 in
theorem V6 (N:Int) (a p:Option Addr) (n c q r:Nat) (es:List Ed) (pot:List Int) (w:World) (R:Rd w a 4 Br es) (hn:es.length=n) (hb:n≤1000000) (Rp:Rd w p 1 I1 pot) (hq:pot.length=q) (k:Nat) (hk:k<2*es.length) (hr:Ci N es=true) (hp:EO N pot=true) :
  Ret Tryz.prog 128 #[CT N a n c,.slice p q r,.int .i64 (k:Int)] w fun v w'=>v = .int .i64 (QV N es pot (k:Int))∧Ext [] w w':=by
 subst hn hq;obtain ⟨w0,rfl⟩:∃ w0,w0=w:=⟨_,rfl⟩;have H:=Ctx.start w0 [];obtain ⟨hN1,hN40,hn200,-⟩:=Cb hr;obtain ⟨hpl,hpb⟩:=Kh hp;obtain ⟨e,he,hE,q1,q2,q3,q4,q5,q6⟩:=Mc hr hk;obtain ⟨un,hun⟩:∃ un:Nat,(Fe e k).1=un:=⟨(Fe e k).1.toNat,by omega⟩;obtain ⟨vn,hvn⟩:∃ vn:Nat,(Fe e k).2.1=vn:=⟨(Fe e k).2.1.toNat,by omega⟩;obtain ⟨pu,hpu⟩:=AE (l:=pot) (i:=un) (by omega);obtain ⟨pv,hpv⟩:=AE (l:=pot) (i:=vn) (by omega);have hbu:=hpb _ _ hpu;have hbv:=hpb _ _ hpv
 have hli:QV N es pot (k:Int)=(Fe e k).2.2+pu - pv:=by
  unfold QV;rw [hE,hun,hvn,Int.toNat_natCast,Int.toNat_natCast,Bn hpu,Bn hpv]
 rw [hli];refine A2 (fn:=Tryz.f128) Tryz.func128 U [CT N a es.length c,.slice p pot.length r,.int .i64 (k:Int)] U (by kernel_rfl) ?_;refine Ag (Bt U [.int .i64 N,.slice a es.length c] (.agg _) U U H ?_);rintro b3 w - H;refine Ad U U (Ab (Aa (Ag (Bh U C1 Cs U H at0 U (Ae U U (Al U Acq (Tq N a es.length c es _ (R.ext0 H.ext) U hb k he hr) U ?_))))));rintro v w ⟨rfl,hx13⟩;replace H:=H.call hx13;rw [hun,hvn];refine BK U U (A6 U U U (A6 U U U (A6 U U U (Ad U U (Ad U U (Ad U U (Ab (Aa (DQ (fun x=>x=_) B0 (by kernel_rfl) U ?_)))))))));refine AN U U (BV U U (AN U U (BA Rp U AU Bz U U (by omega) (by omega) (by rfl) ?_)));refine Ch U Bx U (by rintro _ rfl; exact (((Rp.ext0 H.drew.ext).fld hpu rfl (j:=0) rfl))) ?_;refine CU U U U (by omega) (by omega) ?_;refine BV U U (AN U U (BA Rp U AU Bz U U (by omega) (by omega) (by rfl) ?_))
 refine Ch U Bx U (by rintro _ rfl; exact (((Rp.ext0 H.drew.ext).fld hpv rfl (j:=0) rfl))) ?_;refine Dg U U U (by omega) (by omega) ?_;refine Cm U U (Ca ?_);rintro _ rfl;replace H:=H.drew;refine A9 (AF (v:=(.int _ _)) U U U ?_);exact ⟨rfl,H.ext⟩
set_option maxRecDepth 20000 in
set_option maxHeartbeats 4000000 in
theorem Tt (N:Int) (a b p:Option Addr) (n c m d q r:Nat) (es:List Ed) (fl pot:List Int) (w:World) (R:Rd w a 4 Br es) (hn:es.length=n) (hn2:n≤1000000) (Rf:Rd w b 1 I1 fl) (hm:fl.length=m) (Rp:Rd w p 1 I1 pot) (hq:pot.length=q) (hq2:q≤1000000) (hw:BF N es fl=true) :
  Ret Tryz.prog 65 #[CT N a n c,.slice b m d,.slice p q r] w fun v w'=>v = .bool (EO N pot && Gq N es fl pot)∧Ext [] w w':=by
 subst hn hm hq;obtain ⟨w0,rfl⟩:∃ w0,w0=w:=⟨_,rfl⟩;have H:=Ctx.start w0 [];obtain ⟨hfl,hr,hin⟩:=BN hw;obtain ⟨hN1,hN40,hn200,-⟩:=Cb hr;refine A2 (fn:=Tryz.f65) Tryz.func65 U [CT N a es.length c,.slice b fl.length d,.slice p pot.length r] U (by kernel_rfl) ?_;refine Ag (Bt U [.int .i64 N,.slice a es.length c] (.agg _) U U H ?_);rintro b3 w - H;refine Ai U U (Ab (Aa (Aq (Ag (B5 (α:=Unit) 268434432 (fun _=>[(27,.bool (!decide ((pot.length:Int)=N)))]) (fun _ w'=>Ctx w0 [] w' [(b3,Bl 28 [.int .i64 N,.slice a es.length c])]) U ?_ ?_)))))
 ·refine Bh U C1 Cs U H at0 U (Al U TV (Ho N a es.length c es _ (R.ext0 H.ext) U hn2) U ?_);rintro v w ⟨rfl,hx11⟩;replace H:=H.call hx11;rw [hr];refine Bv U U (Ak U U (A4 13 U ?_ ?_))
  ·intro h1;replace h1:=Bo h1;refine Af U (Af U (Af U (Af U (Af U (Af U (An U U (.bool _) U (Ak U U (Af U (Af U ?_)))))))));refine Af U (Af U (Af U (An U U (.bool _) U (Ab ?_))));exact ⟨rfl,(),rfl,⟨congrArg Value.bool (by rw [Bool.eq_iff_iff] <;> simp_all <;> try omega),trivial⟩,H⟩
  ·intro h2;replace h2:=Bp h2;refine Ap U U (AV U AU U (Ah U BD U (AA U C5 U H at0 U (AV U BO U (CC U U U (A1 U U (.bool _) U (Ak U U (A4 21 U ?_ ?_))))))))
   ·intro h3;replace h3:=CK h3;refine Af U (Af U (Af U (Af U (Af U (An U U (.bool _) U (Ab ?_))))));exact ⟨rfl,(),rfl,⟨congrArg Value.bool (by rw [Bool.eq_iff_iff] <;> simp_all <;> try omega),trivial⟩,H⟩
   ·intro h4;replace h4:=CL h4;refine Ap U U (AV U AU U (Ah U Dj U (AA U BG U H at0 U (CC U U U (A1 U U (.bool _) U (Ab ?_))))));exact ⟨rfl,(),rfl,⟨congrArg Value.bool (by rw [Bool.eq_iff_iff] <;> simp_all <;> try omega),trivial⟩,H⟩
 rintro - j27 w H;refine Ay _ U ?_ ?_
 ·intro h1;replace h1:=Bo h1;refine Ag (Ai U U (Ab (Aa (A9 (Am (AF (v:=(.bool _)) U U U ?_))))));exact ⟨congrArg Value.bool (by unfold EO; rw [show decide ((pot.length:Int)=N)=false by simpa using h1]; simp),H.ext⟩
 ·intro h1;replace h1:=Bp h1;have h1':(pot.length:Int)=N:=by simpa using h1
  refine Ax (Aa (Aq (Ag (Ad U U (Ab (Aa (Av (Bd 4503599358935232 (α:=Nat) (fun i=>[(7,.int .i64 (i:Int))]) (fun i w'=>i≤fl.length∧Ctx w0 [] w' [(b3,Bl 28 [.int .i64 N,.slice a es.length c])]) (fun i=>fl.length - i) 0 U ?_ ?_ ?_))))))))
  ·exact ⟨rfl,trivial⟩
  ·exact ⟨Nat.zero_le _,H⟩
  ·clear H;rintro i j w ⟨hi,H⟩;refine Aq (Ag (Ae U U (Ap U U (AV U AU U (AO U U U (Ab (Aa (Ay _ U ?_ ?_))))))))
   ·intro h2;replace h2:=AG h2;obtain ⟨e,he⟩:=AE (l:=es) (i:=i) (by omega);obtain ⟨x,hxf⟩:=AE (l:=fl) (i:=i) (by omega);have hxx:=hin _ e x he hxf;refine Ax (Aa (Aq (Av (CI [([0,1,2,3,4,5,6,7,8,9,10,11,12,13,14,15,16],17)] (fun z=>Ext [] w0 z∧z.heap[b3]? = some (Bl 28 [.int .i64 N,.slice a es.length c])) [] B0 (by kernel_rfl) (⟨H.drew.ext,H.drew.get at0⟩) ?_))));refine AL U U ?_;refine Bq U U (AP U U (C3 Rf U AU Bz U U (by omega) (by omega) (by rfl) ?_));refine BM U Bx U (fun _ hx=>((Rf.ext0 hx.1).fld hxf rfl (j:=0) rfl)) ?_;refine Aai U U U (Ir U U (GI 39 U ?_ ?_))
    ·intro g1;replace g1:=AG g1;omega
    ·intro g1;replace g1:=AH g1;refine Bq U U (AP U U (C3 Rf U AU Bz U U (by omega) (by omega) (by rfl) ?_));refine BM U Bx U (fun _ hx=>((Rf.ext0 hx.1).fld hxf rfl (j:=0) rfl)) ?_;refine AJ U BD U (BM U C5 U (fun _ hx=>(by rw [Au (hx.2)]; rfl)) ?_);refine AP U U (C3 R U BO B3 U U (by omega) (by omega) (by rfl) ?_);refine AJ U CD U (BM U Bx U (fun _ hx=>((R.ext0 hx.1).fld he rfl (j:=2) rfl)) ?_);refine Aaj U U U (Bu ?_);replace H:=H.drew;refine A1 U U (.bool _) U (Ab (BH (⟨H.ext,H.get at0⟩) (BS (Ay _ U ?_ ?_))))
     ·intro g2;replace g2:=AG g2;omega
     ·intro g2;replace g2:=AH g2;refine Ax (A3 (Aa (Aw (Ae U U (Ao U U U (by omega) (by omega) ?_)))));refine Ad U U (Ab (Aa ?_));exact ⟨i+1,rfl,⟨rfl,trivial⟩,⟨by omega,H⟩,by omega⟩
   ·intro h2;replace h2:=AH h2;refine Bc (Aj (Aj (AD (Aa (Aq (Ag (Ad U U (Ab (Aa (Av (Bd 1180587117117783933248 (α:=Nat) (fun i=>[(8,.int .i64 (i:Int))]) (fun i w'=>i≤pot.length∧Ctx w0 [] w' [(b3,Bl 28 [.int .i64 N,.slice a es.length c])]∧∀ (k:Nat) (x:Int),k<i→pot[k]? = some x→JH x=true) (fun i=>pot.length - i) 0 U ?_ ?_ ?_)))))))))))
    ·exact ⟨rfl,trivial⟩
    ·exact ⟨Nat.zero_le _,H,fun k x h=>absurd h (Nat.not_lt_zero _)⟩
    ·clear H;rintro i8 j8 w ⟨hi8,H,hb⟩;refine Aq (Ag (Ae U U (Ap U U (AV U AU U (AO U U U (Ab (Aa (Ay _ U ?_ ?_))))))))
     ·intro h3;replace h3:=AG h3;obtain ⟨x,hx⟩:=AE (l:=pot) (i:=i8) (by omega);refine Ax (Aa (Aq (Av (Ag (B5 (α:=Unit) 1180303390341259591680 (fun _=>[(69,.bool (!JH x))]) (fun _ w'=>Ctx w0 [] w' [(b3,Bl 28 [.int .i64 N,.slice a es.length c])]) U ?_ ?_)))))
      ·refine Ap U U (Ae U U (AX Rp U AU Bz U U (by omega) (by omega) (by rfl) ?_));refine AY U Bx U (((Rp.ext0 H.ext).fld hx U (j:=0) U)) ?_;refine Ct U U U (Ak U U (A4 63 U ?_ ?_))
       ·intro h5;replace h5:=AG h5;refine Af U (Af U (Af U (Af U (Af U (An U U (.bool _) U (Ab ?_))))));exact ⟨rfl,(),rfl,⟨congrArg Value.bool (by unfold JH; rw [Bool.eq_iff_iff]; simp_all; try omega),trivial⟩,H⟩
       ·intro h6;replace h6:=AH h6;refine Ap U U (Ae U U (AX Rp U AU Bz U U (by omega) (by omega) (by rfl) ?_));refine AY U Bx U (((Rp.ext0 H.ext).fld hx U (j:=0) U)) ?_;refine AO U U U (A1 U U (.bool _) U (Ab ?_));exact ⟨rfl,(),rfl,⟨congrArg Value.bool (by unfold JH; rw [Bool.eq_iff_iff]; simp_all; try omega),trivial⟩,H⟩
      rintro - j69 w H;refine Ay _ U ?_ ?_
      ·intro g1;replace g1:=Bo g1;refine Ag (Ai U U (Ab (Aa (A9 (AB (Am (Am (AB (Am (AF (v:=(.bool _)) U U U ?_))))))))));exact ⟨congrArg Value.bool (by unfold EO; rw [DP hx (by simpa using g1)]; rfl),H.ext⟩
      ·intro g1;replace g1:=Bp g1;refine Ax (A3 (Aa (Aw (Ae U U (Ao U U U (by omega) (by omega) ?_)))));refine Ad U U (Ab (Aa ?_));exact ⟨i8+1,rfl,⟨rfl,trivial⟩,⟨by omega,H,XE hx hb (by simpa using g1)⟩,by omega⟩
     ·intro h3;replace h3:=AH h3
      have hp:EO N pot=true:=by
       unfold EO;rw [EN fun k x hk hx=>hb k x (by omega) hx,decide_eq_true h1']; rfl
      rw [hp,Bool.true_and];refine Bc (Aj (Aj (AD (Aa (Aq (Ag (Ad U U (Ab (Aa (Av (Bd 618968839051069420038259264 (α:=Nat) (fun i=>[(9,.int .i64 (i:Int))]) (fun i w'=>i≤2*es.length∧Ctx w0 [] w' [(b3,Bl 28 [.int .i64 N,.slice a es.length c])]∧∀ k,k<i→Fj N es fl pot k=true) (fun i=>2*es.length - i) 0 U ?_ ?_ ?_)))))))))))
      ·exact ⟨rfl,trivial⟩
      ·exact ⟨Nat.zero_le _,H,fun k h=>absurd h (Nat.not_lt_zero _)⟩
      ·clear H;rintro i9 j9 w ⟨hi9,H,hb9⟩;refine Aq (Ag (Ae U U (Ap U U (AV U AU U (Cn U U U (by omega) (by omega) ?_)))));refine AO U U U (Ab (Aa (Ay _ U ?_ ?_)))
       ·intro h4;replace h4:=AG h4;have hi2:i9<2*es.length:=by omega
        obtain ⟨e,x,he,hx,hro,r1,r2,r3⟩:=Md hw hi2
        have hgo:Fj N es fl pot i9=true→∀ k,k<i9+1→Fj N es fl pot k=true:=fun h3 k hk=>by
         rcases Nat.lt_or_ge k i9 with h7 | h7
         ·exact hb9 k h7
         ·obtain rfl:k=i9:=by omega
          exact h3
        refine Ax (Aa (Aq (Av (Ag (B5 (α:=Unit) 618818903915238308802723840 (fun _=>[(88,.bool (!Fj N es fl pot i9))]) (fun _ w'=>Ctx w0 [] w' [(b3,Bl 28 [.int .i64 N,.slice a es.length c])]) U ?_ ?_)))))
        ·refine Bh U C1 Cs U H at0 U (Ap U U (Ae U U (Al U Abx (Ts N a b es.length c fl.length d es fl _ (R.ext0 H.ext) U hn2 (Rf.ext0 H.ext) U i9 he hx hw) U ?_)));rintro v w ⟨rfl,hx80⟩;replace H:=H.call hx80;rw [← hro];refine Ct U U U (Ak U U (A4 82 U ?_ ?_))
         ·intro h7;replace h7:=AG h7;refine Bh U C1 Cs U H at0 U (Ap U U (Ae U U (Al U Aby (V6 N a p es.length c pot.length r es pot _ (R.ext0 H.ext) U hn2 (Rp.ext0 H.ext) U i9 hi2 hr hp) U ?_)));rintro v w ⟨rfl,hx86⟩;replace H:=H.call hx86;refine AO U U U (An U U (.bool _) U (Ab ?_));exact ⟨rfl,(),rfl,⟨congrArg Value.bool (by unfold Fj; rw [Bool.eq_iff_iff]; simp_all; try omega),trivial⟩,H⟩
         ·intro h8;replace h8:=AH h8;refine Af U (Af U (Af U (Af U (Af U (A1 U U (.bool _) U (Ab ?_))))));exact ⟨rfl,(),rfl,⟨congrArg Value.bool (by unfold Fj; rw [Bool.eq_iff_iff]; simp_all; try omega),trivial⟩,H⟩
        rintro - j88 w H;refine Ay _ U ?_ ?_
        ·intro g1;replace g1:=Bo g1;refine Ag (Ai U U (Ab (Aa (A9 (AB (Am (Am (AB (Am (AF (v:=(.bool _)) U U U ?_))))))))));exact ⟨congrArg Value.bool (by unfold Gq; rw [DP (List.getElem?_range hi2) (by simpa using g1)]),H.ext⟩
        ·intro g1;replace g1:=Bp g1;refine Ax (A3 (Aa (Aw (Ae U U (Ao U U U (by omega) (by omega) ?_)))));refine Ad U U (Ab (Aa ?_));exact ⟨i9+1,rfl,⟨rfl,trivial⟩,⟨by omega,H,hgo (by simpa using g1)⟩,by omega⟩
       ·intro h4;replace h4:=AH h4;refine Bc (Aj (Aj (AD (Aa (Ag (Ai U U (Ab (Aa (A9 (AF (v:=(.bool _)) U U U ?_))))))))));exact ⟨congrArg Value.bool (by unfold Gq; rw [List.all_eq_true.2 fun k hk=>hb9 k (by have:=List.mem_range.1 hk; omega)]),H.ext⟩
set_option maxRecDepth 20000 in
set_option maxHeartbeats 2000000 in
theorem R3 (N:Int) (a b p:Option Addr) (n c m d q r:Nat) (es:List Ed) (fl pot:List Int) (w:World) (R:Rd w a 4 Br es) (hn:es.length=n) (hn2:n≤1000000) (Rf:Rd w b 1 I1 fl) (hm:fl.length=m) (hm2:m≤1000000) (Rp:Rd w p 1 I1 pot) (hq:pot.length=q) (hq2:q≤1000000) :
  Ret Tryz.prog 20 #[CT N a n c,Nd b p m d q r] w fun v w'=>v = .bool (Et N es fl pot)∧Ext [] w w':=by
 subst hn hm hq;obtain ⟨w0,rfl⟩:∃ w0,w0=w:=⟨_,rfl⟩;have H:=Ctx.start w0 [];obtain ⟨br,hbr⟩:∃ x,x=Ci N es:=⟨_,rfl⟩;obtain ⟨bf,hbf⟩:∃ x,x=E4 N es fl:=⟨_,rfl⟩;obtain ⟨bp,hbp⟩:∃ x,x=(EO N pot && Gq N es fl pot):=⟨_,rfl⟩;have hC:Et N es fl pot=(br && (bf && bp)):=by rw [hbr,hbf,hbp]; rfl
 rw [hC];refine A2 (fn:=Tryz.f20) Tryz.func20 U [CT N a es.length c,Nd b p fl.length d pot.length r] U (by kernel_rfl) ?_;refine Ag (Bt U [.int .i64 N,.slice a es.length c] (.agg _) U U H ?_);rintro b2 w - H;refine Bt U [.slice b fl.length d,.slice p pot.length r] (.agg _) U U H ?_;rintro b3 w - H;refine Ai U U (Ab (Aa (Ag (Bh U C1 Cs U H at1 U (Al U TV (Ho N a es.length c es _ (R.ext0 H.ext) U hn2) U ?_)))));rintro v w ⟨rfl,hx6⟩;replace H:=H.call hx6;rw [← hbr];refine Ak U U (A4 7 U ?_ ?_)
 ·intro h1;refine Bh U C1 Cs U H at1 U (Ah U DM U (AA U BC U H at0 U (Al U ca_64 (Rz N a b es.length c fl.length d es fl _ (R.ext0 H.ext) U hn2 (Rf.ext0 H.ext) U hm2) U ?_)));rintro v w ⟨rfl,hx11⟩;replace H:=H.call hx11;rw [← hbf];refine An U U (.bool _) U (Ak U U (A4 13 U ?_ ?_))
  ·intro h2;refine Bh U C1 Cs U H at1 U (Ah U DM U (AA U BC U H at0 U (Ah U EU U (AA U BC U H at0 U ?_))));have hwi:BF N es fl=true:=(FK (by rw [← hbf]; simp_all)).1;refine Al U ca_65 (Tt N a b p es.length c fl.length d pot.length r es fl pot _ (R.ext0 H.ext) U hn2 (Rf.ext0 H.ext) U (Rp.ext0 H.ext) U hq2 hwi) U ?_;rintro v w ⟨rfl,hx19⟩;replace H:=H.call hx19;rw [← hbp];refine An U U (.bool _) U (Ai U U (Ab (Aa (A9 (AF (v:=(.bool _)) U U U ?_)))));exact ⟨congrArg Value.bool (by simp_all),H.ext⟩
  ·intro h3;refine Af U (Af U (Af U (Af U (Af U (Af U (A1 U U (.bool _) U (Ai U U (Ab (Aa (A9 (AF (v:=(.bool _)) U U U ?_)))))))))));exact ⟨congrArg Value.bool (by simp_all),H.ext⟩
 ·intro h4;refine Af U (Af U (Af U (Af U (A1 U U (.bool _) U (Ak U U (Af U (Af U (Af U (Af U ?_)))))))));refine Af U (Af U (A1 U U (.bool _) U (Ai U U (Ab (Aa (A9 (AF (v:=(.bool _)) U U U ?_)))))));exact ⟨congrArg Value.bool (by simp_all),H.ext⟩
end Go.Proofs.YtapphbmlkdhnmaaGreat

/- A round's net, as the reference has it. -/
namespace Go.Proofs.YtapphbmlkdhnmaaGreat
open Go.GV
attribute [local irreducible] AC W Wq Wt

/-- Two slices that grow. -/
structure LS2 where
 i:Nat
 a:Option Addr
 c:Nat
 f:List Value
 a2:Option Addr
 c2:Nat
 f2:List Value
end Go.Proofs.YtapphbmlkdhnmaaGreat
