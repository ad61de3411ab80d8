/- Part 11 of the proof. -/
import Derived.Test.YtdagmpmdcgedcaaGreatPart2
import Derived.Test.YtdagmpmdcgedcaaGreatPart10
import Derived.Test.YtdagmpmdcgedcaaGreatPart4
import Derived.Test.YtdagmpmdcgedcaaGreatPart9
/- The ledger in plain words: what it holds, and what each thing that may be asked does to that. -/
namespace Go.Proofs.YtdagmpmdcgedcaaGreat
open Go.GV

/-- What is asked. -/
structure Ak where
 kd:Int
 a:Int
 b:Int
 x:Int
 w:Int
 u:Int
 id:Int
structure Ld where
 day:Int
 acs:List Ac
 ds:List Du
 nx:Int
 rn:List Rnd
 no:Int
/-- A round that may be kept. -/
def M6 (r:Rnd):Bool:=Fc r.N r.es r.fl r.pot && (decide (r.ids.length≤64) && decide (0≤r.day))
structure Ld.Ok (s:Ld):Prop where
 ac:ED s.acs=0
 du:ofC s.ds s.nx=0
 bk:∀ d∈s.ds,d.fr<s.acs.length∧d.to<s.acs.length
 day:0≤s.day∧s.day≤9223372036854775807
 kept:s.rn.length≤4∧(s.rn.length:Int)≤s.no∧s.no≤4611686018427387904
 nos:∀ (i:Nat) (r:Rnd),s.rn[i]? = some r→r.no=s.no - s.rn.length+1+i
 may:∀ r∈s.rn,M6 r=true

/-! ### Accounts -/
def bas (acs:List Ac):List Int:=acs.map Ac.ba
def JT (acs:List Ac) (k:Int) (a:Ac):List Ac:=acs.set k.toNat a
def FU (acs:List Ac) (k x:Int):Int:=if inA acs k=false then 10 else if (decide (0<x) && CQ x)=false then 1 else if (E8 (bas acs++[x])).2≠0 then 13 else 0
def EA (acs:List Ac) (k x:Int):List Ac:=if FU acs k x=0 then JT acs k ⟨(Dg acs k).ba+x,(Dg acs k).re⟩ else acs
def F6 (acs:List Ac) (k x:Int):Int:=if inA acs k=false then 10 else if (decide (0<x) && CQ x)=false then 1 else if (Dg acs k).ba<x then 12 else 0
def Ev (acs:List Ac) (k x:Int):List Ac:=if F6 acs k x=0 then JT acs k ⟨(Dg acs k).ba - x,(Dg acs k).re⟩ else acs
def Ls (acs:List Ac) (k x:Int):Int:=if inA acs k=false then 10 else if CQ x=false then 1 else 0
def G4 (acs:List Ac) (k x:Int):List Ac:=if Ls acs k x=0 then JT acs k ⟨(Dg acs k).ba,x⟩ else acs
theorem Gj {acs:List Ac} {k:Int}:inA acs k=true↔0≤k∧k<acs.length:=by
 unfold inA;rw [Bool.and_eq_true,decide_eq_true_eq,decide_eq_true_eq]
theorem EV {acs:List Ac} {k:Int} (h:inA acs k=true):acs[k.toNat]? = some (Dg acs k):=by
 have h1:=Gj.1 h;obtain ⟨a,ha⟩:=AD (l:=acs) (i:=k.toNat) (by omega);unfold Dg;rw [if_pos h,ha,Bm ha]
theorem Lt {xs:List Int}:∀ {i:Nat} {x y:Int},xs[i]? = some x→Cm (xs.set i y)=Cm xs - x+y:=by
 induction xs with
 | nil=>intro i x y h; cases h
 | cons z xs ih =>
  intro i x y h
  cases i with
  | zero =>
   simp only [List.getElem?_cons_zero,Option.some.injEq] at h;subst h;rw [List.set_cons_zero,BV,BV];omega
  | succ i =>
   rw [List.set_cons_succ,BV,BV,ih (show xs[i]? = some x from h)];omega
theorem Lu (acs:List Ac) (k:Int) (a:Ac):bas (JT acs k a)=(bas acs).set k.toNat a.ba:=by
 unfold bas JT;rw [List.map_set]
theorem Lv (acs:List Ac) (k:Int) (a:Ac):(JT acs k a).length=acs.length:=by unfold JT; rw [List.length_set]
/-- One account turned. -/
theorem Qw {acs:List Ac} {k:Int} {a:Ac} (h:ED acs=0) (hk:inA acs k=true) (hm:Lk a=true) (hs:Cm (bas acs) - (Dg acs k).ba+a.ba≤4503599627370496):ED (JT acs k a)=0:=by
 obtain ⟨h1,h2,h3⟩:=Ch.1 h;have h4:=Dd.1 h3;have hg:(bas acs)[k.toNat]? = some (Dg acs k).ba:=by unfold bas; rw [List.getElem?_map,EV hk]; rfl
 refine Ch.2 ⟨by rw [Lv]; exact h1,fun b hb=>?_,Dd.2 ⟨fun x hx=>?_,?_⟩⟩
 ·unfold JT at hb
  rcases List.mem_or_eq_of_mem_set hb with h5 | rfl
  ·exact h2 b h5
  ·exact hm
 ·change x∈bas (JT acs k a) at hx
  rw [Lu] at hx
  rcases List.mem_or_eq_of_mem_set hx with h5 | rfl
  ·exact h4.1 x h5
  ·exact C9.2 (F4.1 hm).1
 ·change Cm (bas (JT acs k a))≤_
  rw [Lu,Lt hg];exact hs
theorem Iq {acs:List Ac} {k:Int} (h:ED acs=0) (hk:inA acs k=true):(0≤(Dg acs k).ba∧(Dg acs k).ba≤4503599627370496)∧0≤(Dg acs k).re∧(Dg acs k).re≤4503599627370496 :=
 F4.1 ((Ch.1 h).2.1 _ (List.mem_of_getElem? (EV hk)))
theorem TW {acs:List Ac} (h:ED acs=0):(∀ x∈bas acs,CQ x=true)∧Cm (bas acs)≤4503599627370496:=Dd.1 (Ch.1 h).2.2
theorem Kx (acs:List Ac) (k x:Int):(FU acs k x≠0∧EA acs k x=acs)∨(FU acs k x=0∧inA acs k=true∧0<x∧CQ x=true∧(E8 (bas acs++[x])).2=0∧EA acs k x=JT acs k ⟨(Dg acs k).ba+x,(Dg acs k).re⟩):=by
 by_cases h:FU acs k x=0
 ·refine .inr ⟨h,?_⟩;have h2:=h;unfold FU at h2
  cases h3:inA acs k with
  | false=>rw [if_pos h3] at h2; cases h2
  | true =>
   rw [if_neg (by rw [h3]; decide)] at h2
   cases h4:(decide (0<x) && CQ x) with
   | false=>rw [if_pos h4] at h2; cases h2
   | true =>
    rw [if_neg (by rw [h4]; decide)] at h2;rw [Bool.and_eq_true,decide_eq_true_eq] at h4
    by_cases h5:(E8 (bas acs++[x])).2≠0
    ·rw [if_pos h5] at h2; cases h2
    ·refine ⟨rfl,h4.1,h4.2,by omega,?_⟩;unfold EA;rw [if_pos h]
 ·refine .inl ⟨h,?_⟩;unfold EA;rw [if_neg h]
theorem Vf {acs:List Ac} (h:ED acs=0) (k x:Int):ED (EA acs k x)=0∧(EA acs k x).length=acs.length∧Cm (bas (EA acs k x))=Cm (bas acs)+(if FU acs k x=0 then x else 0):=by
 rcases Kx acs k x with ⟨h1,h2⟩ | ⟨h1,hk,hx,hm,ht,h2⟩
 ·rw [h2,if_neg h1];exact ⟨h,rfl,by omega⟩
 ·have hg:=Iq h hk;have h3:=(Dd.1 ht).2;rw [EP,BV] at h3;have h4:Cm ([]:List Int)=0:=rfl;have hmem:(Dg acs k).ba∈bas acs:=List.mem_map_of_mem (List.mem_of_getElem? (EV hk));have h5:=Sd (fun y hy=>(C9.1 ((TW h).1 y hy)).1) _ hmem;have hx2:=C9.1 hm;rw [h2,if_pos h1];refine ⟨Qw h hk (F4.2 ⟨⟨by dsimp only; omega,by dsimp only; omega⟩,hg.2⟩) (by dsimp only; omega),Lv ..,?_⟩;rw [Lu,Lt (x:=(Dg acs k).ba) (by unfold bas; rw [List.getElem?_map,EV hk]; rfl)];dsimp only;omega
theorem Kz (acs:List Ac) (k x:Int):(F6 acs k x≠0∧Ev acs k x=acs)∨(F6 acs k x=0∧inA acs k=true∧0<x∧CQ x=true∧x≤(Dg acs k).ba∧Ev acs k x=JT acs k ⟨(Dg acs k).ba - x,(Dg acs k).re⟩):=by
 by_cases h:F6 acs k x=0
 ·refine .inr ⟨h,?_⟩;have h2:=h;unfold F6 at h2
  cases h3:inA acs k with
  | false=>rw [if_pos h3] at h2; cases h2
  | true =>
   rw [if_neg (by rw [h3]; decide)] at h2
   cases h4:(decide (0<x) && CQ x) with
   | false=>rw [if_pos h4] at h2; cases h2
   | true =>
    rw [if_neg (by rw [h4]; decide)] at h2;rw [Bool.and_eq_true,decide_eq_true_eq] at h4
    by_cases h5:(Dg acs k).ba<x
    ·rw [if_pos h5] at h2; cases h2
    ·refine ⟨rfl,h4.1,h4.2,by omega,?_⟩;unfold Ev;rw [if_pos h]
 ·refine .inl ⟨h,?_⟩;unfold Ev;rw [if_neg h]
theorem Vg {acs:List Ac} (h:ED acs=0) (k x:Int):ED (Ev acs k x)=0∧(Ev acs k x).length=acs.length∧Cm (bas (Ev acs k x))=Cm (bas acs) - (if F6 acs k x=0 then x else 0):=by
 rcases Kz acs k x with ⟨h1,h2⟩ | ⟨h1,hk,hx,hm,hle,h2⟩
 ·rw [h2,if_neg h1];exact ⟨h,rfl,by omega⟩
 ·have hg:=Iq h hk;have h3:=(TW h).2;rw [h2,if_pos h1];refine ⟨Qw h hk (F4.2 ⟨⟨by dsimp only; omega,by dsimp only; omega⟩,hg.2⟩) (by dsimp only; omega),Lv ..,?_⟩;rw [Lu,Lt (x:=(Dg acs k).ba) (by unfold bas; rw [List.getElem?_map,EV hk]; rfl)];dsimp only;omega
theorem Pn (acs:List Ac) (k x:Int):(Ls acs k x≠0∧G4 acs k x=acs)∨(Ls acs k x=0∧inA acs k=true∧CQ x=true∧G4 acs k x=JT acs k ⟨(Dg acs k).ba,x⟩):=by
 by_cases h:Ls acs k x=0
 ·refine .inr ⟨h,?_⟩;have h2:=h;unfold Ls at h2
  cases h3:inA acs k with
  | false=>rw [if_pos h3] at h2; cases h2
  | true =>
   rw [if_neg (by rw [h3]; decide)] at h2
   cases h4:CQ x with
   | false=>rw [if_pos h4] at h2; cases h2
   | true =>
    refine ⟨rfl,rfl,?_⟩;unfold G4;rw [if_pos h]
 ·refine .inl ⟨h,?_⟩;unfold G4;rw [if_neg h]
theorem YU {acs:List Ac} (h:ED acs=0) (k x:Int):ED (G4 acs k x)=0∧(G4 acs k x).length=acs.length∧Cm (bas (G4 acs k x))=Cm (bas acs):=by
 rcases Pn acs k x with ⟨h1,h2⟩ | ⟨h1,hk,hm,h2⟩
 ·rw [h2];exact ⟨h,rfl,rfl⟩
 ·have hg:=Iq h hk;have h3:=(TW h).2;have hx:=C9.1 hm;rw [h2];refine ⟨Qw h hk (F4.2 ⟨hg.1,hx⟩) (by dsimp only; omega),Lv ..,?_⟩;rw [Lu,Lt (x:=(Dg acs k).ba) (by unfold bas; rw [List.getElem?_map,EV hk]; rfl)];dsimp only;omega
theorem YV {acs:List Ac} (h:ED acs=0) (hl:acs.length<16):ED (acs++[a00])=0∧Cm (bas (acs++[a00]))=Cm (bas acs):=by
 obtain ⟨h1,h2,h3⟩:=Ch.1 h;have h4:=Dd.1 h3
 have h5:Cm ((acs++[a00]).map Ac.ba)=Cm (acs.map Ac.ba):=by
  rw [List.map_append,EP];show Cm (acs.map Ac.ba)+0=_;omega
 refine ⟨Ch.2 ⟨by rw [List.length_append,List.length_singleton]; omega,fun b hb=>?_,Dd.2 ⟨fun x hx=>?_,by rw [h5]; exact h4.2⟩⟩,h5⟩
 ·rcases List.mem_append.1 hb with h6 | h6
  ·exact h2 b h6
  ·rw [List.mem_singleton.1 h6]; decide
 ·rw [List.map_append] at hx
  rcases List.mem_append.1 hx with h6 | h6
  ·exact h4.1 x h6
  ·rw [List.mem_singleton.1 h6]; decide

/-! ### Dues -/
def YW (nx fr to x w u:Int):Du:=⟨nx,fr,to,x,w,u,false⟩
def IP (ds:List Du) (nx fr to x w u:Int):Int:=if DT (YW nx fr to x w u)=false then 1 else if 64≤ds.length∨4611686018427387904≤nx then 6 else if (E8 (ds.map Du.am++[x])).2≠0 then 13 else 0
def LS (ds:List Du) (nx fr to x w u:Int):List Du:=if IP ds nx fr to x w u=0 then ds++[YW nx fr to x w u] else ds
def NU (ds:List Du) (nx fr to x w u:Int):Int:=if IP ds nx fr to x w u=0 then nx+1 else nx
/-- Held, or not. -/
def Lw (ds:List Du) (k:Int) (b:Bool):Int:=match CD ds k with
 | none=>11
 | some d=>if d.held=b then 14 else 0
def HU (ds:List Du) (k:Int) (b:Bool):List Du:=if Lw ds k b=0 then ds.map fun d=>if d.id=k then { d with held:=b } else d else ds
def Oi (ds:List Du) (k:Int):Int:=match CD ds k with
 | none=>11
 | some _=>0
def Qx (ds:List Du) (k:Int):List Du:=ds.filter fun d => !decide (d.id=k)
def LU (ds:List Du) (u:Int):List Du:=ds.filter fun d=>decide (u≤d.un)
theorem FO {ds:List Du} {nx:Int} (h:ofC ds nx=0):ds.length≤64∧(1≤nx∧nx≤4611686018427387904)∧Fk nx 0 ds=true∧Cm (ds.map Du.am)≤4503599627370496:=by
 obtain ⟨h1,h2,h3,h4⟩:=EU.1 h;exact ⟨h1,h2,h3,(Dd.1 h4).2⟩
/-- Dues by their numbers: as a list. -/
theorem Qy {nx:Int}:∀ {ah:Int} {ds:List Du},Fk nx ah ds=true↔(∀ d∈ds,DT d=true∧ah<d.id∧d.id<nx)∧(ds.map Du.id).Pairwise (·<·)
 | ah,[]=>⟨fun _=>⟨fun _ h=>(by cases h),List.Pairwise.nil⟩,fun _=>rfl⟩
 | ah,x::ds=>by
  simp only [Fk,Bool.and_eq_true,decide_eq_true_eq,List.map_cons,List.pairwise_cons];rw [Qy];constructor
  ·rintro ⟨⟨h1,h2,h3⟩,h4,h5⟩;refine ⟨fun d hd=>?_,fun y hy=>?_,h5⟩
   ·rcases List.mem_cons.1 hd with rfl | hd
    ·exact ⟨h1,h2,h3⟩
    ·obtain ⟨g1,g2,g3⟩:=h4 d hd;exact ⟨g1,by omega,g3⟩
   ·obtain ⟨d,hd,rfl⟩:=List.mem_map.1 hy;exact (h4 d hd).2.1
  ·rintro ⟨h1,h2,h3⟩;obtain ⟨g1,g2,g3⟩:=h1 x (List.mem_cons_self ..);refine ⟨⟨g1,g2,g3⟩,fun d hd=>?_,h3⟩;obtain ⟨k1,-,k3⟩:=h1 d (List.mem_cons_of_mem _ hd);exact ⟨k1,h2 _ (List.mem_map_of_mem hd),k3⟩
theorem Qz {ds:List Du} {nx:Int} (h1:ds.length≤64) (h2:1≤nx∧nx≤4611686018427387904) (h3:∀ d∈ds,DT d=true∧0<d.id∧d.id<nx) (h4:(ds.map Du.id).Pairwise (·<·)) (h5:Cm (ds.map Du.am)≤4503599627370496):ofC ds nx=0:=by
 refine EU.2 ⟨h1,h2,Qy.2 ⟨h3,h4⟩,Dd.2 ⟨fun x hx=>?_,h5⟩⟩;obtain ⟨d,hd,rfl⟩:=List.mem_map.1 hx;have:=D7 (h3 d hd).1;exact C9.2 (by omega)
theorem GK {ds:List Du} {nx:Int} (h:ofC ds nx=0):(∀ d∈ds,DT d=true∧0<d.id∧d.id<nx)∧(ds.map Du.id).Pairwise (·<·):=Qy.1 (FO h).2.2.1
theorem NV (p:Du→Bool):∀ {ds:List Du},(∀ d∈ds,0≤d.am)→Cm ((ds.filter p).map Du.am)≤Cm (ds.map Du.am)
 | [],_=>Int.le_refl _
 | d::ds,h=>by
  have ih:=NV p (ds:=ds) fun e he=>h e (List.mem_cons_of_mem _ he);have h0:=h d (List.mem_cons_self ..);rw [List.filter_cons]
  split
  ·rw [List.map_cons,List.map_cons,BV,BV]; omega
  ·rw [List.map_cons,BV]; omega
/-- Fewer dues are dues. -/
theorem Po {ds:List Du} {nx:Int} (h:ofC ds nx=0) (p:Du→Bool):ofC (ds.filter p) nx=0:=by
 obtain ⟨h1,h2,-,h4⟩:=FO h;obtain ⟨h5,h6⟩:=GK h;have h7:(ds.filter p).Sublist ds:=List.filter_sublist;refine Qz (Nat.le_trans h7.length_le h1) h2 (fun d hd=>h5 d (h7.subset hd)) ?_ (Int.le_trans (NV p fun d hd=>by have:=D7 (h5 d hd).1; omega) h4);exact h6.sublist (h7.map _)
theorem Ag2 {ds:List Du} {nx:Int} (h:ofC ds nx=0) (fr to x w u:Int):ofC (LS ds nx fr to x w u) (NU ds nx fr to x w u)=0:=by
 unfold LS NU
 by_cases hC:IP ds nx fr to x w u=0
 ·rw [if_pos hC,if_pos hC];unfold IP at hC
  cases hm:DT (YW nx fr to x w u) with
  | false=>rw [if_pos hm] at hC; cases hC
  | true =>
   rw [if_neg (by rw [hm]; decide)] at hC
   by_cases hl:64≤ds.length∨4611686018427387904≤nx
   ·rw [if_pos hl] at hC; cases hC
   ·rw [if_neg hl] at hC
    by_cases ht:(E8 (ds.map Du.am++[x])).2≠0
    ·rw [if_pos ht] at hC; cases hC
    ·obtain ⟨h1,h2,-,h4⟩:=FO h;obtain ⟨h5,h6⟩:=GK h;have h7:=(Dd.1 (show (E8 (ds.map Du.am++[x])).2=0 by omega)).2;refine Qz (by rw [List.length_append,List.length_singleton]; omega) (by omega) (fun d hd=>?_) ?_ (by rw [List.map_append]; exact h7)
     ·rcases List.mem_append.1 hd with h8 | h8
      ·obtain ⟨g1,g2,g3⟩:=h5 d h8;exact ⟨g1,g2,by omega⟩
      ·rw [List.mem_singleton.1 h8];exact ⟨hm,by show 0<nx; omega,by show nx<nx+1; omega⟩
     ·rw [List.map_append,List.pairwise_append];refine ⟨h6,List.pairwise_singleton ..,fun y hy z hz=>?_⟩;obtain ⟨d,hd,rfl⟩:=List.mem_map.1 hy;have hz':z=nx:=by simpa [YW] using hz
      rw [hz'];exact (h5 d hd).2.2
 ·rw [if_neg hC,if_neg hC];exact h
theorem YX {ds:List Du} {nx:Int} (h:ofC ds nx=0) (k:Int) (b:Bool):ofC (HU ds k b) nx=0:=by
 unfold HU
 split
 ·obtain ⟨h1,h2,-,h4⟩:=FO h;obtain ⟨h5,h6⟩:=GK h
  have hid:(ds.map fun d=>if d.id=k then { d with held:=b } else d).map Du.id=ds.map Du.id:=by
   rw [List.map_map];refine List.map_congr_left fun d _=>?_;show (if d.id=k then ({ d with held:=b }:Du) else d).id=d.id
   split <;> rfl
  have ham:(ds.map fun d=>if d.id=k then { d with held:=b } else d).map Du.am=ds.map Du.am:=by
   rw [List.map_map];refine List.map_congr_left fun d _=>?_;show (if d.id=k then ({ d with held:=b }:Du) else d).am=d.am
   split <;> rfl
  refine Qz (by rw [List.length_map]; exact h1) h2 (fun e he=>?_) (by rw [hid]; exact h6) (by rw [ham]; exact h4);obtain ⟨d,hd,rfl⟩:=List.mem_map.1 he;obtain ⟨g1,g2,g3⟩:=h5 d hd
  split
  ·exact ⟨g1,g2,g3⟩
  ·exact ⟨g1,g2,g3⟩
 ·exact h
theorem YY {ds:List Du} {k:Int} {b:Bool} {n:Nat} (h:∀ d∈ds,d.fr<(n:Int)∧d.to<(n:Int)) {e:Du} (he:e∈HU ds k b):e.fr<(n:Int)∧e.to<(n:Int):=by
 unfold HU at he
 split at he
 ·obtain ⟨d,hd,rfl⟩:=List.mem_map.1 he
  split
  ·exact h d hd
  ·exact h d hd
 ·exact h e he
end Go.Proofs.YtdagmpmdcgedcaaGreat

/- What a round does to what all have; and that a round right behind one changes nothing: plain law. -/
namespace Go.Proofs.YtdagmpmdcgedcaaGreat
open Go.GV

/-- How many are paid something. -/
def HK (xs:List Int) (k:Nat):Int:=B5 (fun i=>one (0<xs.getD i 0)) k
/-! ### The round of a ledger -/
/-- The kept ones with one more. -/
def Ir (rn:List Rnd) (r:Rnd):List Rnd:=(rn++[r]).drop (rn.length - 3)
theorem So {rn:List Rnd} (h:rn.length≤4) (r:Rnd):(Ir rn r).length=min (rn.length+1) 4:=by
 unfold Ir;rw [List.length_drop,List.length_append,List.length_singleton];omega
theorem YZ {rn:List Rnd} {r x:Rnd} (h:x∈Ir rn r):x∈rn∨x=r:=by
 have h1:=List.mem_of_mem_drop h
 rcases List.mem_append.1 h1 with h2 | h2
 ·exact .inl h2
 ·exact .inr (List.mem_singleton.1 h2)
/-- A ledger behind a round. -/
def Oj (s:Ld) (r:Rnd):Ld:=⟨s.day,Ft s.acs s.ds r,Ga s.acs s.ds r,s.nx,Ir s.rn { r with no:=s.no+1,day:=s.day },s.no+1⟩
theorem Ag3 {s:Ld} (h:s.Ok) {net:Bool} {r:Rnd} (P:PlanR s.acs s.ds net r) (hno:s.no<4611686018427387904):E0 s.acs s.ds r=0∧(Oj s r).Ok:=by
 have hBr:=Kv h.ac h.du h.bk;have hol:=HI s.ds;have h64:=hBr.m64;have hC:E0 s.acs s.ds r=0:=Pj ((Hm (by omega)).2 hBr) P;obtain ⟨h1,h2,h3⟩:=JP (r:=r) h.ac h.du;have hB2:=Sn h.ac h.du hC;obtain ⟨k1,k2,k3⟩:=h.kept;have hkl:=So k1 { r with no:=s.no+1,day:=s.day };refine ⟨hC,⟨h1,h2,fun d hd=>?_,h.day,⟨by show (Ir _ _).length≤4; omega,by show ((Ir _ _).length:Int)≤s.no+1; omega,by show s.no+1≤_; omega⟩,fun i x hx=>?_,fun x hx=>?_⟩⟩
 ·have:=(hB2.due d hd).2;rw [List.length_map] at this;exact this
 ·change (Ir s.rn { r with no:=s.no+1,day:=s.day })[i]? = some x at hx
  show x.no=s.no+1 - ((Ir s.rn { r with no:=s.no+1,day:=s.day }).length:Nat)+1+i;have hi:=Cu hx;rw [hkl] at hi ⊢;unfold Ir at hx;rw [List.getElem?_drop] at hx
  rcases Nat.lt_or_ge (s.rn.length - 3+i) s.rn.length with h5 | h5
  ·rw [List.getElem?_append_left h5] at hx;have:=h.nos _ x hx;omega
  ·rw [List.getElem?_append_right h5] at hx;have h6:s.rn.length - 3+i - s.rn.length=0:=by omega
   rw [h6] at hx;cases hx;show s.no+1=_;omega
 ·rcases YZ hx with h5 | rfl
  ·exact h.may x h5
  ·unfold M6;dsimp only;have hids:r.ids.length=(opn s.ds).length:=by rw [P.ids,List.length_map]
   rw [P.chk,decide_eq_true (show r.ids.length≤64 by omega),decide_eq_true h.day.1];rfl
end Go.Proofs.YtdagmpmdcgedcaaGreat

/- What a ledger answers to each thing that may be asked, and what it then holds: plain words. -/
namespace Go.Proofs.YtdagmpmdcgedcaaGreat
open Go.GV

/-- An answer: a code, and numbers where it is 0. -/
structure Rp where
 e:Int
 n:List Int
def rp (l:List Int) (e:Int):Rp:=if e=0 then ⟨0,l⟩ else ⟨e,[]⟩
theorem Sp {l:List Int} {e:Int} (h:e≠0):rp l e=⟨e,[]⟩:=if_neg h
/-- What a bank has. -/
def Ol (acs:List Ac) (k:Int):List Int:=[(Dg acs k).ba,(Dg acs k).re]
def Mu (b:Bool):Int:=if b=true then 1 else 0
/-- A round that is kept, by its number. -/
def Sq (s:Ld) (k:Int):Option Rnd:=if k≤s.no∧s.no - k<s.rn.length then s.rn[(k - (s.no - s.rn.length+1)).toNat]? else none
/-- What is told of a round. -/
def K3 (r:Rnd) (b:Int):Rp :=
 if b < -1∨(r.es.length:Int)+r.N≤b then ⟨1,[]⟩
 else if b = -1 then ⟨0,[r.day,Mu r.cmp,r.N,r.es.length,r.ids.length]⟩
 else if (r.es.length:Int)≤b then ⟨0,[r.pot.getD (b - r.es.length).toNat 0]⟩
 else ⟨0,[(r.es.getD b.toNat e0).f,(r.es.getD b.toNat e0).t,(r.es.getD b.toNat e0).cap,(r.es.getD b.toNat e0).cost,r.fl.getD b.toNat 0,if b<r.ids.length then IntKind.i64.wrap (r.ids.getD b.toNat 0) else 0]⟩
/-- What is no round. -/
def EI (s:Ld) (a:Ak):Ld :=
 if a.kd=1 then (if s.acs.length<16 then { s with acs:=s.acs++[a00] } else s)
 else if a.kd=2 then { s with acs:=EA s.acs a.a a.x }
 else if a.kd=3 then { s with acs:=Ev s.acs a.a a.x }
 else if a.kd=4 then { s with acs:=G4 s.acs a.a a.x }
 else if a.kd=5 then (if (inA s.acs a.a && inA s.acs a.b)=true∧s.day≤a.u then { s with ds:=LS s.ds s.nx a.a a.b a.x a.w a.u,nx:=NU s.ds s.nx a.a a.b a.x a.w a.u } else s)
 else if a.kd=6 then { s with ds:=HU s.ds a.id true }
 else if a.kd=7 then { s with ds:=HU s.ds a.id false }
 else if a.kd=8 then { s with ds:=Qx s.ds a.id }
 else if a.kd=9 then (if s.day≤a.u then { s with day:=a.u,ds:=LU s.ds a.u } else s)
 else s
def Fe (s:Ld) (a:Ak):Rp :=
 if a.kd=1 then rp [s.acs.length] (if s.acs.length<16 then 0 else 6)
 else if a.kd=2 then rp (Ol (EA s.acs a.a a.x) a.a) (FU s.acs a.a a.x)
 else if a.kd=3 then rp (Ol (Ev s.acs a.a a.x) a.a) (F6 s.acs a.a a.x)
 else if a.kd=4 then rp (Ol (G4 s.acs a.a a.x) a.a) (Ls s.acs a.a a.x)
 else if a.kd=5 then (if (inA s.acs a.a && inA s.acs a.b)=false then ⟨10,[]⟩ else if a.u<s.day then ⟨1,[]⟩ else rp [IntKind.i64.wrap s.nx] (IP s.ds s.nx a.a a.b a.x a.w a.u))
 else if a.kd=6 then rp [] (Lw s.ds a.id true)
 else if a.kd=7 then rp [] (Lw s.ds a.id false)
 else if a.kd=8 then rp [] (Oi s.ds a.id)
 else if a.kd=9 then (if a.u<s.day then ⟨3,[]⟩ else ⟨0,[((s.ds.length - (LU s.ds a.u).length:Nat):Int)]⟩)
 else if a.kd=12 then (if inA s.acs a.a=true then ⟨0,Ol s.acs a.a⟩ else ⟨10,[]⟩)
 else if a.kd=13 then (if inA s.acs a.a=true then ⟨0,[J6 s.acs s.ds a.a.toNat]⟩ else ⟨10,[]⟩)
 else if a.kd=14 then (match CD s.ds a.id with
  | none=>⟨11,[]⟩
  | some d=>⟨0,[d.fr,d.to,d.am,d.we,d.un,Mu d.held]⟩)
 else if a.kd=15 then (match Sq s a.id with
  | none=>⟨4,[]⟩
  | some r=>K3 r a.b)
 else ⟨1,[]⟩
/-- One thing that is asked. -/
def CR (s:Ld) (a:Ak) (s':Ld) (p:Rp):Prop :=
 if a.kd=10∨a.kd=11 then
  (4611686018427387904≤s.no∧s'=s∧p=⟨6,[]⟩) ∨
  (s.no<4611686018427387904∧∃ r,PlanR s.acs s.ds (decide (a.kd=11)) r∧s'=Oj s r ∧
   p=⟨0,[IntKind.i64.wrap (s.no+1),EQ (opn s.ds) r.fl (opn s.ds).length,HK (r.fl.take (opn s.ds).length) (opn s.ds).length]⟩)
 else s'=EI s a∧p=Fe s a
theorem IQ {s:Ld} (h:s.Ok) (a:Ak) (hu:a.u≤9223372036854775807):(EI s a).Ok:=by
 unfold EI
 split
 ·split
  ·rename_i hl
   exact ⟨(YV h.ac hl).1,h.du,fun d hd=>by have:=h.bk d hd; show _<((s.acs++[a00]).length:Int)∧_<((s.acs++[a00]).length:Int); rw [List.length_append,List.length_singleton]; omega,h.day,h.kept,h.nos,h.may⟩
  ·exact h
 split
 ·obtain ⟨h1,h2,-⟩:=Vf h.ac a.a a.x;exact ⟨h1,h.du,fun d hd=>by show _<((EA s.acs a.a a.x).length:Int)∧_<((EA s.acs a.a a.x).length:Int); rw [h2]; exact h.bk d hd,h.day,h.kept,h.nos,h.may⟩
 split
 ·obtain ⟨h1,h2,-⟩:=Vg h.ac a.a a.x;exact ⟨h1,h.du,fun d hd=>by show _<((Ev s.acs a.a a.x).length:Int)∧_<((Ev s.acs a.a a.x).length:Int); rw [h2]; exact h.bk d hd,h.day,h.kept,h.nos,h.may⟩
 split
 ·obtain ⟨h1,h2,-⟩:=YU h.ac a.a a.x;exact ⟨h1,h.du,fun d hd=>by show _<((G4 s.acs a.a a.x).length:Int)∧_<((G4 s.acs a.a a.x).length:Int); rw [h2]; exact h.bk d hd,h.day,h.kept,h.nos,h.may⟩
 split
 ·split
  ·rename_i hb
   refine ⟨h.ac,Ag2 h.du ..,fun d hd=>?_,h.day,h.kept,h.nos,h.may⟩
   change d∈LS s.ds s.nx a.a a.b a.x a.w a.u at hd
   unfold LS at hd
   split at hd
   ·rcases List.mem_append.1 hd with h1 | h1
    ·exact h.bk d h1
    ·rw [List.mem_singleton.1 h1];rw [Bool.and_eq_true] at hb;exact ⟨(Gj.1 hb.1.1).2,(Gj.1 hb.1.2).2⟩
   ·exact h.bk d hd
  ·exact h
 split
 ·exact ⟨h.ac,YX h.du ..,fun d hd=>YY h.bk hd,h.day,h.kept,h.nos,h.may⟩
 split
 ·exact ⟨h.ac,YX h.du ..,fun d hd=>YY h.bk hd,h.day,h.kept,h.nos,h.may⟩
 split
 ·exact ⟨h.ac,Po h.du _,fun d hd=>h.bk d (List.mem_filter.1 hd).1,h.day,h.kept,h.nos,h.may⟩
 split
 ·split
  ·rename_i hd
   exact ⟨h.ac,Po h.du _,fun d hd=>h.bk d (List.mem_filter.1 hd).1,⟨Int.le_trans h.day.1 hd,hu⟩,h.kept,h.nos,h.may⟩
  ·exact h
 ·exact h
/-! ### What all have together -/
def fundI (s:Ld) (a:Ak):Int:=(if a.kd=2∧FU s.acs a.a a.x=0 then a.x else 0) - (if a.kd=3∧F6 s.acs a.a a.x=0 then a.x else 0)
end Go.Proofs.YtdagmpmdcgedcaaGreat

/- What an error leaves, and what is only asked: plain words. -/
namespace Go.Proofs.YtdagmpmdcgedcaaGreat
open Go.GV

theorem CH {ds:List Du} {nx fr to x w u:Int} (h:IP ds nx fr to x w u≠0):LS ds nx fr to x w u=ds∧NU ds nx fr to x w u=nx:=by
 unfold LS NU;rw [if_neg h,if_neg h];exact ⟨rfl,rfl⟩
theorem Sr {ds:List Du} {k:Int} {b:Bool} (h:Lw ds k b≠0):HU ds k b=ds:=by
 unfold HU;rw [if_neg h]
theorem Za {ds:List Du} {k:Int} (h:Oi ds k≠0):Qx ds k=ds:=by
 unfold Oi at h;unfold Qx;rw [List.filter_eq_self];intro d hd
 cases hf:CD ds k with
 | some e=>rw [hf] at h; exact absurd rfl h
 | none =>
  have h1:=List.find?_eq_none.1 hf d hd
  simpa using h1
end Go.Proofs.YtdagmpmdcgedcaaGreat

/- The accounts: one more, one turned by any function: the walks. -/
namespace Go.Proofs.YtdagmpmdcgedcaaGreat
open Go.GV
attribute [local irreducible] AB W Wq Wt

abbrev AL (bd:Nat) (x1 x2:Nat × Obj) (a:Option Addr) (n c:Nat) (full:List Value):List (Nat × Obj):=(bd,Bl 162 [.slice a n c])::x1::x2::ent a 43 full
theorem W3 {bd c:Nat} {x1 x2:Nat × Obj} {a:Option Addr} {full:List Value} {acs:List Ac} {S:List Nat} {w0 w:World} (H0:Ctx w0 S w (AL bd x1 x2 a acs.length c full)) (O:OS a acs.length c 2 full (acs.flatMap CP)) (hn:acs.length≤1000000) :
  Ret Tryz.prog 102 #[ptr bd] w fun v w'=>(16≤acs.length→v = .tuple #[.int .i64 0,.int .i64 6]∧Ctx w0 S w' (AL bd x1 x2 a acs.length c full)) ∧
   (acs.length<16→v = .tuple #[.int .i64 (acs.length:Int),.int .i64 0]∧∃ a' c' full',OS a' (acs++[a00]).length c' 2 full' ((acs++[a00]).flatMap CP)∧Ctx w0 S w' (AL bd x1 x2 a' (acs++[a00]).length c' full')):=by
 have H:=H0;refine Au (fn:=Tryz.f102) Tryz.func102 U [.pointer (some ⟨bd,0,none⟩)] U (by kernel_rfl) ?_;refine Ad (Ae U U (Ae U U (Ab (Aa (Aw (Az (Ad (A3 U U (Cq U Mg U ?_)))))))));refine Ai U U (Ab (Aa (Aq _ U ?_ ?_)))
 ·intro h0;cases h0
 ·intro h0;refine Ad (A3 U U (A8 U U (Ah U Ej U (AE U Hz U H at0 U (Bf U Es U (C3 U U U (Ai U U (Ab (Aa (Aq _ U ?_ ?_))))))))))
  ·intro h1;replace h1:=AM h1;refine Ad (Ae U U (Ae U U (Ab (Aa (A5 (A9 (Ao (BR (v1:=(.int _ _)) (v2:=(.int _ _)) U U U U ?_))))))));exact ⟨fun _=>⟨rfl,H⟩,fun h=>by omega⟩
  ·intro h1;replace h1:=AN h1;refine Av (A6 (Aa (Ad (A3 U U (A3 U U (A8 U U (Ah U Ej U (AE U Hz U H at0 U (B7 [.int .i64 0,.int .i64 0] U Acj IX (by kernel_rfl) ?_)))))))));refine Ci _ (.agg _) U Es Ek IX U (by decide) (by decide) U U U H ?_;rintro b20 w - H;refine CJ (L:=[_,_,_]) U Es Es Ek Ace IX U (by decide) U U H O U (fun v hv=>by simp [CP,Be] at hv; rcases hv with rfl | rfl <;> rfl) (by omega) ?_;rintro a' c' full' w H O;refine A8 U U (Ah U Ej U (Cg (.slice _ _ _) U sz_26 U U U H at0 (by (simp; done)) ?_));rintro w H;refine Ab (Aa (Ad (A3 U U (A8 U U (Ah U Ej U (AE U Hz U H at0 U (Bf U Es U (Bp U U U (by omega) (by omega) ?_))))))));refine Ae U U (Ae U U (Ab (Aa (A5 (BR (v1:=(.int _ _)) (v2:=(.int _ _)) U U U U ?_)))));refine ⟨fun h=>by omega,fun _=>⟨?_,a',c',full',?_,?_⟩⟩
   ·rw [show (((acs.length+1:Nat):Int) - 1)=(acs.length:Int) by omega]
   ·rw [List.flatMap_append,List.length_append]; exact O
   ·rw [List.length_append]; exact H
/-- What is asked ahead of a turn. -/
structure Qk where
 e:Int
 fid:FuncId
 cl:List Value
 b:Bool
abbrev LV (q:Qk):List Value:=[.int .i64 q.e,.func (.func q.fid) #[] q.cl.toArray]
theorem Zb (q:Qk):∀ v∈LV q,Be v=true:=by
 intro v hv
 rcases List.mem_cons.1 hv with rfl | hv
 ·rfl
 ·rw [List.mem_singleton.1 hv]; rfl
def Mv:List Qk→Int
 | []=>0
 | q::qs=>if q.b=false then q.e else Mv qs
theorem Vh:∀ {qs:List Qk} {i:Nat} {q:Qk},qs[i]? = some q→q.b=false→(∀ (j:Nat) (p:Qk),j<i→qs[j]? = some p→p.b=true)→Mv qs=q.e
 | [],_,_,h,_,_=>by cases h
 | p::qs,0,q,h,hb,_=>by
  cases h;exact if_pos hb
 | p::qs,i+1,q,h,hb,ha=>by
  unfold Mv;rw [if_neg (by rw [ha 0 p (by omega) rfl]; decide)];exact Vh (show qs[i]? = some q from h) hb fun j r hj hr=>ha (j+1) r (by omega) hr
theorem Ss:∀ {qs:List Qk},(∀ q∈qs,q.b=true)→Mv qs=0
 | [],_=>rfl
 | q::qs,h=>by
  unfold Mv;rw [if_neg (by rw [h q (List.mem_cons_self ..)]; decide)];exact Ss fun p hp=>h p (List.mem_cons_of_mem _ hp)
def HV (acs:List Ac) (k:Int) (qs:List Qk):Int:=if inA acs k=false then 10 else Mv qs
/-- What a turn of an account leaves: the code, and the accounts. -/
def AcsAt (w w':World) (a:Option Addr) (n c:Nat) (full:List Value) (acs:List Ac):Prop :=
 ∃ full',OS a n c 2 full' (acs.flatMap CP)∧(∀ x∈ent a 43 full',w'.heap[x.1]? = some x.2)∧Ext ((ent a 43 full).map (·.1)) w w'
set_option maxRecDepth 20000 in
set_option maxHeartbeats 1000000 in
theorem NW {bd c cq:Nat} {a aq:Option Addr} {full:List Value} {acs:List Ac} {qs:List Qk} {k:Int} {fid:FuncId} {cl:List Value} {e:Ac} (w:World) (hd:w.heap[bd]? = some (Bl 162 [.slice a acs.length c])) (O:OS a acs.length c 2 full (acs.flatMap CP)) (hb:∀ x∈ent a 43 full,w.heap[x.1]? = some x.2) (hn:acs.length≤1000000)
  (Rq:Rd w aq 2 LV qs) (hql:qs.length≤1000) (hq:∀ q∈qs,Ap Tryz.prog q.fid=true∧q.e≠0∧∀ w',Ext [] w w'→Ret Tryz.prog q.fid q.cl.toArray w' fun v w''=>v = .bool q.b∧Ext [] w' w'')
  (hfc:Ap Tryz.prog fid=true) (hdo:∀ q w',a=some ⟨q,0,none⟩→inA acs k=true→Mv qs=0→Ext [] w w'→Ret Tryz.prog fid (Value.pointer (some ⟨q,0+k.toNat*2,none⟩)::cl).toArray w' fun _ w''=>∃ full',OS a acs.length c 2 full' ((JT acs k e).flatMap CP)∧Ctx w' [q] w'' [(q,Bl 43 full')]) :
  Ret Tryz.prog 167 #[ptr bd,.int .i64 k,.func (.func fid) #[] cl.toArray,.slice aq qs.length cq] w fun v w'=>v = .int .i64 (HV acs k qs) ∧
   AcsAt w w' a acs.length c full (if HV acs k qs=0 then JT acs k e else acs):=by
 obtain ⟨w1,rfl⟩:∃ w1,w1=w:=⟨_,rfl⟩;have H:=Ctx.start w1 [];have hsame:∀ w',Ext [] w1 w'→AcsAt w1 w' a acs.length c full acs:=fun w' hx=>⟨full,O,fun x hxm=>hx.to (hb x hxm) (by simp),hx.mono (by simp)⟩;unfold HV;refine Au (fn:=Tryz.f167) Tryz.func167 U [.pointer (some ⟨bd,0,none⟩),.int .i64 k,.func (.func fid) #[] cl.toArray,.slice aq qs.length cq] U (by kernel_rfl) ?_;refine Ad (Ae U U (Ab (Aa (Aw (Az (Ad (A3 U U (Cq U Mg U ?_))))))));refine Ai U U (Ab (Aa (Aq _ U ?_ ?_)))
 ·intro h0;cases h0
 ·intro h0;refine Aw (Ad (Af U U (Bj U U U (Ai U U (Ab (Aa (Db 14 U ?_ ?_)))))))
  ·intro h1;replace h1:=AM h1
   have hi:inA acs k=false:=by cases h:inA acs k with | false=>rfl | true=>have:=Gj.1 h; omega
   refine Av (Aa (D3 U (Ad (Ae U U (Ab (Aa (A5 (A9 (Ao (AA (v:=(.int _ _)) U U U ?_))))))))));rw [if_pos hi,if_neg (by decide)];exact ⟨rfl,hsame _ H.ext⟩
  ·intro h1;replace h1:=AN h1;refine A0 (Af U U (A3 U U (A8 U U (Ah U Ej U (Bd U Hz U ((H.old (Aj hd _) (by simp))) ?_)))));refine Bf U Es U (C3 U U U (Ai U U (Ab (Aa (Db 14 U ?_ ?_)))))
   ·intro h2;replace h2:=AM h2
    have hi:inA acs k=false:=by cases h:inA acs k with | false=>rfl | true=>have:=Gj.1 h; omega
    refine Ad (Ae U U (Ab (Aa (A5 (A9 (Ao (AA (v:=(.int _ _)) U U U ?_)))))));rw [if_pos hi,if_neg (by decide)];exact ⟨rfl,hsame _ H.ext⟩
   ·intro h2;replace h2:=AN h2;have hi:inA acs k=true:=Gj.2 (by omega);rw [if_neg (by rw [hi]; decide)];refine Av (A6 (Aa (Aw (Ad (A4 U U (Bf U Nx U (Af U U (Ab (Aa (Az (Bv 137371845888 (α:=Nat) (fun i=>[(26,.int .i64 (i:Int))]) (fun i w'=>i≤qs.length∧Ctx w1 [] w' []∧∀ (j:Nat) (p:Qk),j<i→qs[j]? = some p→p.b=true) (fun i=>qs.length - i) 0 U ?_ ?_ ?_)))))))))))
    ·exact ⟨rfl,trivial⟩
    ·exact ⟨Nat.zero_le _,H,fun j p h=>absurd h (Nat.not_lt_zero _)⟩
    ·clear H;rintro i ji w ⟨hii,H,hbb⟩;refine Ad (Bj U U U (Ab (Aa (Aw (Aq _ U ?_ ?_)))))
     ·intro h3;replace h3:=AM h3;obtain ⟨q,hqi⟩:=AD (l:=qs) (i:=i) (by omega);obtain ⟨hqc,hqe,hqr⟩:=hq q (List.mem_of_getElem? hqi);refine Av (Aa (Aw (Az (Ad (Bo Rq U Nx LH U U (by omega) (by omega) (by rfl) ?_)))));refine Cn _ U Ac9 LH U U ((Rq.ext0 H.ext).row hqi U) ?_;refine AZ U IA H ?_;rintro b10 w - H;refine Bn U LH U U U (by exact Zb _) H at0 U ?_;rintro w H;refine Ab (Aa (Ad (Ah U XD U (AE U Acb U H at0 U (F8 U U hqc (hqr _ H.ext) U ?_)))));rintro v w ⟨rfl,hx32⟩;replace H:=H.call hx32;refine BG U U (Ab (Aa (Aq _ U ?_ ?_)))
      ·intro h4;replace h4:=BD h4
       have hqb:q.b=false:=by cases hh:q.b with | false=>rfl | true=>rw [hh] at h4; cases h4
       refine Ad (Ah U XC U (AE U Ut U H at0 U (Ae U U (Ab (Aa (A5 (A9 (Ao (Ao (A9 (Ao (AA (v:=(.int _ _)) U U U ?_))))))))))));rw [Vh hqi hqb hbb,if_neg hqe];exact ⟨rfl,hsame _ H.ext⟩
      ·intro h4;replace h4:=BE h4
       have hqb:q.b=true:=by cases hh:q.b with | true=>rfl | false=>rw [hh] at h4; cases h4
       refine Av (A6 (Aa (A0 (Ay U U U (by omega) (by omega) ?_))));refine Af U U (Ab (Aa ?_))
       exact ⟨i+1,rfl,⟨rfl,trivial⟩,⟨by omega,H.tail,fun j p hj hp=>by
        rcases Nat.lt_or_ge j i with h5 | h5
        ·exact hbb j p h5 hp
        ·obtain rfl:j=i:=by omega
         rw [hqi] at hp;cases hp
         exact hqb⟩,by omega⟩
     ·intro h3;replace h3:=AN h3;obtain rfl:i=qs.length:=by omega
      have hC:Mv qs=0:=Ss fun p hp=>by
       obtain ⟨j,hj⟩:=List.getElem?_of_mem hp;exact hbb j p (Cu hj) hj
      have hin:=Gj.1 hi;obtain ⟨q,hqa⟩:=O.form (by omega);subst hqa;refine Bt (Am (Am (AK (Aa (Ad (De U (.func _ _ _) U ?_))))));refine A3 U U (A8 U U (Ah U Ej U (Bd U Hz U ((H.old (Aj hd _) (by simp))) ?_)));refine Af U U (Bh U Es Ek U U (by omega) (by omega) ?_);refine F8 U U hfc (hdo q _ U hi hC H.ext) U ?_;rintro v w ⟨full',O',H2⟩;refine Ab (Aa (Ad (Ae U U (Ab (Aa (A5 (AA (v:=(.int _ _)) U U U ?_)))))));rw [hC,if_pos rfl];exact ⟨rfl,full',O',fun x hx=>by rw [List.mem_singleton.1 hx]; exact H2.get at0,(H.ext.mono (by simp)).trans H2.ext⟩
set_option maxRecDepth 20000 in
theorem Zc {bd c:Nat} {a:Option Addr} {acs:List Ac} {k:Int} {f q:Value} (w:World) (hd:w.heap[bd]? = some (Bl 162 [.slice a acs.length c])) (hi:inA acs k=false) :
  Ret Tryz.prog 167 #[ptr bd,.int .i64 k,f,q] w fun v w'=>v = .int .i64 10∧Ext [] w w':=by
 obtain ⟨w1,rfl⟩:∃ w1,w1=w:=⟨_,rfl⟩;have H:=Ctx.start w1 [];have hi2:¬ (0≤k∧k<acs.length):=fun h=>by rw [Gj.2 h] at hi; cases hi
 refine Au (fn:=Tryz.f167) Tryz.func167 U [.pointer (some ⟨bd,0,none⟩),.int .i64 k,f,q] U (by kernel_rfl) ?_;refine Ad (Ae U U (Ab (Aa (Aw (Az (Ad (A3 U U (Cq U Mg U ?_))))))));refine Ai U U (Ab (Aa (Aq _ U ?_ ?_)))
 ·intro h0;cases h0
 ·intro h0;refine Aw (Ad (Af U U (Bj U U U (Ai U U (Ab (Aa (Db 14 U ?_ ?_)))))))
  ·intro h1;replace h1:=AM h1;refine Av (Aa (D3 U (Ad (Ae U U (Ab (Aa (A5 (A9 (Ao (AA (v:=(.int _ _)) U U U ?_))))))))));exact ⟨rfl,H.ext⟩
  ·intro h1;replace h1:=AN h1;refine A0 (Af U U (A3 U U (A8 U U (Ah U Ej U (Bd U Hz U ((H.old (Aj hd _) (by simp))) ?_)))));refine Bf U Es U (C3 U U U (Ai U U (Ab (Aa (Db 14 U ?_ ?_)))))
   ·intro h2;replace h2:=AM h2;refine Ad (Ae U U (Ab (Aa (A5 (A9 (Ao (AA (v:=(.int _ _)) U U U ?_)))))));exact ⟨rfl,H.ext⟩
   ·intro h2;replace h2:=AN h2;exact absurd ⟨by omega,by omega⟩ hi2
end Go.Proofs.YtdagmpmdcgedcaaGreat

/- Fund, Draw and Reserve: what they hand to a turn. -/
namespace Go.Proofs.YtdagmpmdcgedcaaGreat
open Go.GV
attribute [local irreducible] AB W Wq Wt

theorem Zd {bx:Nat} {x:Int} (w:World) (h7:w.heap[bx]? = some (Bl 2 [.int .i64 x])) :
  Ret Tryz.prog 169 #[ptr bx] w fun v w'=>v = .bool (decide (0<x) && CQ x)∧Ext [] w w':=by
 obtain ⟨w0,rfl⟩:∃ w0,w0=w:=⟨_,rfl⟩;have H:=Ctx.start w0 [];refine Au (fn:=Tryz.f169) Tryz.func169 U [.pointer (some ⟨bx,0,none⟩)] U (by kernel_rfl) ?_;refine Ad (Ai U U (Ab (Aa (Ad (Bd U Bw U ((H.old (Aj h7 _) (by simp))) ?_)))));refine Dn U U U (A7 U U (AV 4 U ?_ ?_))
 ·intro h1;replace h1:=AM h1;refine Bd U Bw U ((H.old (Aj h7 _) (by simp))) ?_;refine Al U Km (Kt x _) U ?_;rintro v w ⟨rfl,rfl⟩;refine AG U U (.bool _) U (Ai U U (Ab (Aa (A5 (AA (v:=(.bool _)) U U U ?_)))));exact ⟨congrArg Value.bool (by rw [Bool.eq_iff_iff]; simp_all; try omega),H.ext⟩
 ·intro h2;replace h2:=AN h2;refine Ag U (Ag U (AJ U U (.bool _) U (Ai U U (Ab (Aa (A5 (AA (v:=(.bool _)) U U U ?_)))))));exact ⟨congrArg Value.bool (by rw [Bool.eq_iff_iff]; simp_all; try omega),H.ext⟩
theorem Ze {bx:Nat} {x:Int} (w:World) (h7:w.heap[bx]? = some (Bl 2 [.int .i64 x])) :
  Ret Tryz.prog 172 #[ptr bx] w fun v w'=>v = .bool (decide (0<x) && CQ x)∧Ext [] w w':=by
 obtain ⟨w0,rfl⟩:∃ w0,w0=w:=⟨_,rfl⟩;have H:=Ctx.start w0 [];refine Au (fn:=Tryz.f172) Tryz.func172 U [.pointer (some ⟨bx,0,none⟩)] U (by kernel_rfl) ?_;refine Ad (Ai U U (Ab (Aa (Ad (Bd U Bw U ((H.old (Aj h7 _) (by simp))) ?_)))));refine Dn U U U (A7 U U (AV 4 U ?_ ?_))
 ·intro h1;replace h1:=AM h1;refine Bd U Bw U ((H.old (Aj h7 _) (by simp))) ?_;refine Al U Km (Kt x _) U ?_;rintro v w ⟨rfl,rfl⟩;refine AG U U (.bool _) U (Ai U U (Ab (Aa (A5 (AA (v:=(.bool _)) U U U ?_)))));exact ⟨congrArg Value.bool (by rw [Bool.eq_iff_iff]; simp_all; try omega),H.ext⟩
 ·intro h2;replace h2:=AN h2;refine Ag U (Ag U (AJ U U (.bool _) U (Ai U U (Ab (Aa (A5 (AA (v:=(.bool _)) U U U ?_)))))));exact ⟨congrArg Value.bool (by rw [Bool.eq_iff_iff]; simp_all; try omega),H.ext⟩
theorem Abm {bx:Nat} {x:Int} (w:World) (h7:w.heap[bx]? = some (Bl 2 [.int .i64 x])) :
  Ret Tryz.prog 175 #[ptr bx] w fun v w'=>v = .bool (CQ x)∧Ext [] w w':=by
 obtain ⟨w0,rfl⟩:∃ w0,w0=w:=⟨_,rfl⟩;have H:=Ctx.start w0 [];refine Au (fn:=Tryz.f175) Tryz.func175 U [.pointer (some ⟨bx,0,none⟩)] U (by kernel_rfl) ?_;refine Ad (Ai U U (Ab (Aa (Ad (Bd U Bw U ((H.old (Aj h7 _) (by simp))) ?_)))));refine Al U Km (Kt x _) U ?_;rintro v w ⟨rfl,rfl⟩;refine Ai U U (Ab (Aa (A5 (AA (v:=(.bool _)) U U U ?_))));exact ⟨rfl,H.ext⟩
set_option maxRecDepth 20000 in
theorem Zf {q j bx:Nat} {ba x:Int} {full:List Value} (w:World) (h9:w.heap[q]? = some (Bl 43 full)) (hf:full[j]? = some (.int .i64 ba)) (h7:w.heap[bx]? = some (Bl 2 [.int .i64 x])) (hne:bx≠q) (hb:0≤ba∧ba≤4503599627370496) (hx:0≤x∧x≤4503599627370496) :
  Ret Tryz.prog 168 #[.pointer (some ⟨q,j,none⟩),ptr bx] w fun _ w'=>Ctx w [q] w' [(q,Bl 43 (full.set (j+0) (.int .i64 (ba+x))))]:=by
 obtain ⟨w0,rfl⟩:∃ w0,w0=w:=⟨_,rfl⟩;have H:=Ctx.start1 h9;have hn:bx∉[q]:=by rw [List.mem_singleton]; exact hne
 have hj:=Cu hf;refine Au (fn:=Tryz.f168) Tryz.func168 U [.pointer (some ⟨q,j,none⟩),.pointer (some ⟨bx,0,none⟩)] U (by kernel_rfl) ?_;refine Fa [([0,1,2,3,4,5],6),([7],8)] (fun z=>z.heap[q]? = some (Bl 43 full)∧z.heap[bx]? = some (Bl 2 [.int .i64 x])) [8] Bq (by kernel_rfl) (⟨H.drew.get at0,H.drew.ext.to h7 hn⟩) ?_;refine AH U U ?_;refine BQ U U (Bg U U (An U FH U (B0 U Bw U (fun _ hx=>(by rw [Aj hx.1]; exact hf)) ?_)));refine B0 U Bw U (fun _ hx=>(by rw [Aj hx.2]; rfl)) ?_;refine DW U U U (by omega) (by omega) ?_;refine AS ?_;replace H:=H.drew;refine A8 U U (Ab (Cl (⟨H.get at0,H.ext.to h7 hn⟩) (AH U U ?_)));refine An U FH U (AS (Cg (.int _ _) U Bx U U U H at0 (by omega) ?_));rintro w H;refine Ab (B3 U (BJ (CG U U ?_)));exact H
set_option maxRecDepth 20000 in
theorem Zg {q j bx:Nat} {ba x:Int} {full:List Value} (w:World) (h9:w.heap[q]? = some (Bl 43 full)) (hf:full[j]? = some (.int .i64 ba)) (h7:w.heap[bx]? = some (Bl 2 [.int .i64 x])) (hne:bx≠q) (hb:0≤ba∧ba≤4503599627370496) (hx:0≤x∧x≤4503599627370496) :
  Ret Tryz.prog 171 #[.pointer (some ⟨q,j,none⟩),ptr bx] w fun _ w'=>Ctx w [q] w' [(q,Bl 43 (full.set (j+0) (.int .i64 (ba - x))))]:=by
 obtain ⟨w0,rfl⟩:∃ w0,w0=w:=⟨_,rfl⟩;have H:=Ctx.start1 h9;have hn:bx∉[q]:=by rw [List.mem_singleton]; exact hne
 have hj:=Cu hf;refine Au (fn:=Tryz.f171) Tryz.func171 U [.pointer (some ⟨q,j,none⟩),.pointer (some ⟨bx,0,none⟩)] U (by kernel_rfl) ?_;refine Fa [([0,1,2,3,4,5],6),([7],8)] (fun z=>z.heap[q]? = some (Bl 43 full)∧z.heap[bx]? = some (Bl 2 [.int .i64 x])) [8] Bq (by kernel_rfl) (⟨H.drew.get at0,H.drew.ext.to h7 hn⟩) ?_;refine AH U U ?_;refine BQ U U (Bg U U (An U FH U (B0 U Bw U (fun _ hx=>(by rw [Aj hx.1]; exact hf)) ?_)));refine B0 U Bw U (fun _ hx=>(by rw [Aj hx.2]; rfl)) ?_;refine EC U U U (by omega) (by omega) ?_;refine AS ?_;replace H:=H.drew;refine A8 U U (Ab (Cl (⟨H.get at0,H.ext.to h7 hn⟩) (AH U U ?_)));refine An U FH U (AS (Cg (.int _ _) U Bx U U U H at0 (by omega) ?_));rintro w H;refine Ab (B3 U (BJ (CG U U ?_)));exact H
set_option maxRecDepth 20000 in
theorem Abn {q j bx:Nat} {x:Int} {full:List Value} (w:World) (h9:w.heap[q]? = some (Bl 43 full)) (hj:j+1<full.length) (h7:w.heap[bx]? = some (Bl 2 [.int .i64 x])) (hne:bx≠q) :
  Ret Tryz.prog 174 #[.pointer (some ⟨q,j,none⟩),ptr bx] w fun _ w'=>Ctx w [q] w' [(q,Bl 43 (full.set (j+1) (.int .i64 x)))]:=by
 obtain ⟨w0,rfl⟩:∃ w0,w0=w:=⟨_,rfl⟩;have H:=Ctx.start1 h9;have hn:bx∉[q]:=by rw [List.mem_singleton]; exact hne
 refine Au (fn:=Tryz.f174) Tryz.func174 U [.pointer (some ⟨q,j,none⟩),.pointer (some ⟨bx,0,none⟩)] U (by kernel_rfl) ?_;refine A0 (A3 U U (Bd U Bw U ((H.old (Aj h7 _) hn)) ?_));refine A8 U U (Ah U MF U (Cg (.int _ _) U Bx U U U H at0 (by omega) ?_));rintro w H;refine Ab (CG U U ?_);exact H
set_option maxRecDepth 20000 in
theorem Zh {bx b3 b4 bd c:Nat} {a:Option Addr} {acs:List Ac} {k x:Int} (w:World) (h7:w.heap[bx]? = some (Bl 2 [.int .i64 x])) (h3:w.heap[b3]? = some (Bl 99 [ptr bd])) (h4:w.heap[b4]? = some (Bl 3 [.int .i64 k])) (hd:w.heap[bd]? = some (Bl 162 [.slice a acs.length c])) (R:Rd w a 2 CP acs) (hi:inA acs k=true) :
  Ret Tryz.prog 173 #[ptr bx,ptr b3,ptr b4] w fun v w'=>v = .bool (decide (x≤(Dg acs k).ba))∧Ext [] w w':=by
 obtain ⟨w0,rfl⟩:∃ w0,w0=w:=⟨_,rfl⟩;have H:=Ctx.start w0 [];have hin:=Gj.1 hi;have hg:=EV hi;refine Au (fn:=Tryz.f173) Tryz.func173 U [.pointer (some ⟨bx,0,none⟩),.pointer (some ⟨b3,0,none⟩),.pointer (some ⟨b4,0,none⟩)] U (by kernel_rfl) ?_;refine Ad (Ai U U (Ab (Aa (Dx (fun x=>x=_) Bq (by kernel_rfl) U ?_))));refine BP U Bw U (by rintro _ rfl; exact ((H.drew.old (Aj h7 _) (by simp)))) ?_;refine BP U Ic U (by rintro _ rfl; exact ((H.drew.old (Aj h3 _) (by simp)))) ?_;refine AX U U (A2 U Ej U (BP U Hz U (by rintro _ rfl; exact ((H.drew.old (Aj hd _) (by simp)))) ?_));refine BP U BS U (by rintro _ rfl; exact ((H.drew.old (Aj h4 _) (by simp)))) ?_;refine BM R U Es Ek U U (by omega) (by omega) (by rfl) ?_;refine A2 U FH U (BP U Bw U (by rintro _ rfl; exact (((R.ext0 H.drew.ext).fld hg rfl (j:=0) rfl))) ?_);refine Nf U U U (LA U U (BK ?_));rintro _ rfl;replace H:=H.drew
 refine A5 (AA (v:=(.bool _)) U U U ?_);exact ⟨rfl,H.ext⟩
set_option maxRecDepth 20000 in
set_option maxHeartbeats 1000000 in
theorem Zi {bx b3 bd c:Nat} {a:Option Addr} {acs:List Ac} {x:Int} (w:World) (h3:w.heap[b3]? = some (Bl 99 [ptr bd])) (h7:w.heap[bx]? = some (Bl 2 [.int .i64 x])) (hd:w.heap[bd]? = some (Bl 162 [.slice a acs.length c])) (R:Rd w a 2 CP acs) (hn:acs.length≤1000) :
  Ret Tryz.prog 170 #[ptr b3,ptr bx] w fun v w'=>v = .bool (decide ((E8 (bas acs++[x])).2=0))∧Ext [] w w':=by
 obtain ⟨w0,rfl⟩:∃ w0,w0=w:=⟨_,rfl⟩;have H:=Ctx.start w0 [];obtain ⟨tt,htt⟩:∃ tt,tt=E8 (bas acs++[x]):=⟨_,rfl⟩;rw [← htt];refine Au (fn:=Tryz.f170) Tryz.func170 U [.pointer (some ⟨b3,0,none⟩),.pointer (some ⟨bx,0,none⟩)] U (by kernel_rfl) ?_;refine Ad (Ai U U (Ab (Aa (Ac0 (.two [0,2] 1 (.one [] 3 (.one [] 4 (.one [] 5 (.one [6,7,8] 9 (.one [] 10 .stop))))) 3 (.one [] 1 (.one [] 4 (.one [] 5 (.one [6,7,8] 9 (.one [] 10 .stop)))))) (fun z=>Ext [] w0 z) Bq (by kernel_rfl) (Ext.drew [] w0) ?_))));refine HM U U U ?_;refine B0 U Ic U (fun _ hx=>(by rw [Aj (hx.to h3 (by simp))]; rfl)) ?_;refine B0 U Bw U (fun _ hx=>(by rw [Aj (hx.to h7 (by simp))]; rfl)) ?_;refine AS ?_;replace H:=H.drew;refine ⟨?_,?_⟩
 ·skip
  refine Al U Tk (J3 a acs.length c acs _ (H.ext.to hd (by simp)) (R.ext0 H.ext) U (by omega)) U ?_;rintro v w F;obtain ⟨a3,n3,c3,f3,rfl,O3,hb3⟩:=F.ex;have hl3:=O3.llen;rw [List.length_map,List.length_map] at hl3;replace H:=H.callEnt F.ext hb3 F9;refine Ab (BH (H.ext) (BF U U ?_));refine AS (Ci _ (.int _ _) U AR Bx Eb U (by decide) (by decide) U U U H ?_);rintro b9 w - H;refine Ab (BH (H.ext) (BF U U ?_));refine AS (CJ (L:=[]) U AR AR Bx Kl Eb U (by decide) U U H O3 U (by simp [Be]) (by omega) ?_);rintro a' c' full' w H O;refine Ab (BH (H.ext) (BF U U ?_));refine AS (Al U Nw (Li a' (n3+1) c' (bas acs++[x]) _ (OS.rd1 (f:=Dq) (t:=2) (xs:=bas acs++[x]) (by rw [List.map_append]; exact O) (fun x hx=>H.blk x (List.mem_append_right [] hx))) (by unfold bas; rw [List.length_append,List.length_map]; show acs.length+1=_; omega) (by omega)) U ?_);rintro v w ⟨rfl,rfl⟩;rw [← htt]
  refine Ab (BH (H.ext) (BF U U ?_));refine D5 U U (Bs U U U (Bs U U U (AS (Ae U U (Ab (BH (H.ext) (BF U U ?_)))))));refine AS (Ae U U (Ab (BH (H.ext) (DO ?_))));refine Ad (Af U U (Cz U U U (Ai U U (Ab (Aa (A5 (AA (v:=(.bool _)) U U U ?_)))))));exact ⟨rfl,H.ext⟩
 ·skip
  refine Ci _ (.int _ _) U AR Bx Eb U (by decide) (by decide) U U U H ?_;rintro b9 w - H;refine Ab (BH (H.ext) (BF U U ?_));refine AS (Al U Tk (J3 a acs.length c acs _ (H.ext.to hd (by simp)) (R.ext0 H.ext) U (by omega)) U ?_);rintro v w F;obtain ⟨a3,n3,c3,f3,rfl,O3,hb3⟩:=F.ex;have hl3:=O3.llen;rw [List.length_map,List.length_map] at hl3;replace H:=H.callEnt F.ext hb3 F9;refine Ab (BH (H.ext) (BF U U ?_));refine AS (CJ (L:=[]) U AR AR Bx Kl Eb U (by decide) U U H O3 U (by simp [Be]) (by omega) ?_);rintro a' c' full' w H O;refine Ab (BH (H.ext) (BF U U ?_));refine AS (Al U Nw (Li a' (n3+1) c' (bas acs++[x]) _ (OS.rd1 (f:=Dq) (t:=2) (xs:=bas acs++[x]) (by rw [List.map_append]; exact O) (fun x hx=>H.blk x (List.mem_append_right [] hx))) (by unfold bas; rw [List.length_append,List.length_map]; show acs.length+1=_; omega) (by omega)) U ?_);rintro v w ⟨rfl,rfl⟩;rw [← htt]
  refine Ab (BH (H.ext) (BF U U ?_));refine D5 U U (Bs U U U (Bs U U U (AS (Ae U U (Ab (BH (H.ext) (BF U U ?_)))))));refine AS (Ae U U (Ab (BH (H.ext) (DO ?_))));refine Ad (Af U U (Cz U U U (Ai U U (Ab (Aa (A5 (AA (v:=(.bool _)) U U U ?_)))))));exact ⟨rfl,H.ext⟩
end Go.Proofs.YtdagmpmdcgedcaaGreat

/- Fund, Draw and Reserve. -/
namespace Go.Proofs.YtdagmpmdcgedcaaGreat
open Go.GV
attribute [local irreducible] AB W Wq Wt

abbrev AcB (bd:Nat) (a:Option Addr) (n c:Nat) (w:World):Prop:=w.heap[bd]? = some (Bl 162 [.slice a n c])
theorem AcsAt.back {w0 w w':World} {a:Option Addr} {n c:Nat} {full:List Value} {acs:List Ac} (h:AcsAt w w' a n c full acs) (hx:Ext [] w0 w):AcsAt w0 w' a n c full acs:=by
 obtain ⟨f,O,hb,he⟩:=h;exact ⟨f,O,hb,(hx.mono (by simp)).trans he⟩
theorem AcsAt.of {w w':World} {a:Option Addr} {n c:Nat} {full:List Value} {acs acs':List Ac} (h:AcsAt w w' a n c full acs) (he:acs=acs'):AcsAt w w' a n c full acs':=he ▸ h
abbrev Vi (b3 b5:Nat) (acs:List Ac) (x:Int):List Qk:=[⟨1,169,[ptr b5],decide (0<x) && CQ x⟩,⟨13,170,[ptr b3,ptr b5],decide ((E8 (bas acs++[x])).2=0)⟩]
abbrev Vj (b3 b4 b5:Nat) (acs:List Ac) (k x:Int):List Qk:=[⟨1,172,[ptr b5],decide (0<x) && CQ x⟩,⟨12,173,[ptr b5,ptr b3,ptr b4],decide (x≤(Dg acs k).ba)⟩]
abbrev rsvQ (b5:Nat) (x:Int):List Qk:=[⟨1,175,[ptr b5],CQ x⟩]
theorem Pp {b3 b5:Nat} {acs:List Ac} {k x:Int}:HV acs k (Vi b3 b5 acs x)=FU acs k x:=by
 unfold HV FU
 cases inA acs k with
 | false=>rfl
 | true =>
  rw [if_neg (by decide),if_neg (by decide)];show (if (decide (0<x) && CQ x)=false then (1:Int) else if decide ((E8 (bas acs++[x])).2=0)=false then 13 else 0)=_
  by_cases h:(E8 (bas acs++[x])).2=0
  ·rw [if_neg (show ¬ (decide ((E8 (bas acs++[x])).2=0)=false) by simpa using h),if_neg (show ¬ (E8 (bas acs++[x])).2≠0 from fun h2=>h2 h)]
  ·rw [if_pos (show decide ((E8 (bas acs++[x])).2=0)=false by simpa using h),if_pos h]
theorem Pq {b3 b4 b5:Nat} {acs:List Ac} {k x:Int}:HV acs k (Vj b3 b4 b5 acs k x)=F6 acs k x:=by
 unfold HV F6
 cases inA acs k with
 | false=>rfl
 | true =>
  rw [if_neg (by decide),if_neg (by decide)];show (if (decide (0<x) && CQ x)=false then (1:Int) else if decide (x≤(Dg acs k).ba)=false then 12 else 0)=_
  by_cases h:x≤(Dg acs k).ba
  ·rw [if_neg (show ¬ (decide (x≤(Dg acs k).ba)=false) by simpa using h),if_neg (show ¬ (Dg acs k).ba<x by omega)]
  ·rw [if_pos (show decide (x≤(Dg acs k).ba)=false by simpa using h),if_pos (show (Dg acs k).ba<x by omega)]
theorem Zj {b5:Nat} {acs:List Ac} {k x:Int}:HV acs k (rsvQ b5 x)=Ls acs k x:=rfl
section
variable {bd c:Nat} {a:Option Addr} {full:List Value} {acs:List Ac} {w:World}
theorem LW {q:Nat} {k:Int} {w':World} (O:OS (some ⟨q,0,none⟩) acs.length c 2 full (acs.flatMap CP)) (h9:w'.heap[q]? = some (Bl 43 full)) (hi:inA acs k=true) :
  full[0+k.toNat*2]? = some (.int .i64 (Dg acs k).ba)∧0+k.toNat*2+1<full.length:=by
 have R:Rd w' (some ⟨q,0,none⟩) 2 CP acs:=OS.rd (t:=43) O (fun y hy=>by rw [List.mem_singleton.1 hy]; exact h9) (fun _ _=>rfl) (by omega);have h1:w'.cell? ⟨q,0+k.toNat*2+0,none⟩=some (.int .i64 (Dg acs k).ba):=R.fld (EV hi) rfl (j:=0) rfl;have h2:w'.cell? ⟨q,0+k.toNat*2+1,none⟩=some (.int .i64 (Dg acs k).re):=R.fld (EV hi) rfl (j:=1) rfl;rw [Aj h9] at h1 h2;exact ⟨h1,Cu h2⟩
theorem W4 {b3 b5 b14:Nat} {k x:Int} (hd:AcB bd a acs.length c w) (O:OS a acs.length c 2 full (acs.flatMap CP)) (hb:∀ x∈ent a 43 full,w.heap[x.1]? = some x.2∧x.1≠b5) (hac:ED acs=0)
  (h3:w.heap[b3]? = some (Bl 99 [ptr bd])) (h5:w.heap[b5]? = some (Bl 2 [.int .i64 x])) (h14:w.heap[b14]? = some (Bl 223 ((Vi b3 b5 acs x).flatMap LV))) :
  Ret Tryz.prog 167 #[ptr bd,.int .i64 k,.func (.func 168) #[] [ptr b5].toArray,.slice (some ⟨b14,0,none⟩) 2 2] w fun v w'=>v = .int .i64 (FU acs k x)∧AcsAt w w' a acs.length c full (EA acs k x):=by
 have hn16:=(Ch.1 hac).1;have R:Rd w a 2 CP acs:=OS.rd O (fun y hy=>(hb y hy).1) (fun _ _=>rfl) (by omega);refine Ret.mono (NW (qs:=Vi b3 b5 acs x) (e:=⟨(Dg acs k).ba+x,(Dg acs k).re⟩) w hd O (fun y hy=>(hb y hy).1) (by omega) (Rd.of_bl h14 (List.append_nil _).symm fun _ _=>rfl) (show (2:Nat)≤1000 by decide) (fun q hq=>?_) Ady fun q w' hqa hi hC hx=>?_) fun v w' h=>?_
 ·rcases List.mem_cons.1 hq with rfl | hq
  ·exact ⟨Adz,(show (1:Int)≠0 by decide),fun w' hx=>Zd w' (hx.to h5 (by simp))⟩
  ·rw [List.mem_singleton.1 hq];exact ⟨Ad0,(show (13:Int)≠0 by decide),fun w' hx=>Zi w' (hx.to h3 (by simp)) (hx.to h5 (by simp)) (hx.to hd (by simp)) (R.ext0 hx) (by omega)⟩
 ·subst hqa;obtain ⟨h1,h2⟩:=hb (q,Bl 43 full) (List.mem_singleton.2 rfl);have h9:w'.heap[q]? = _:=hx.to h1 (by simp);have hg:=Iq hac hi;have hC2:FU acs k x=0:=by rw [← Pp (b3:=b3) (b5:=b5)]; unfold HV; rw [if_neg (by rw [hi]; decide)]; exact hC
  rcases Kx acs k x with ⟨hc,-⟩ | ⟨-,-,h0,hm,-⟩
  ·exact absurd hC2 hc
  ·refine Ret.mono (Zf w' h9 (LW O h9 hi).1 (hx.to h5 (by simp)) (fun h=>h2 h.symm) ⟨hg.1.1,hg.1.2⟩ ⟨by omega,(C9.1 hm).2⟩) fun _ w'' H2=>⟨_,?_,H2⟩;rw [show 0+k.toNat*2+0=k.toNat*2+0 by omega];exact OS.setf O (y:=⟨(Dg acs k).ba+x,(Dg acs k).re⟩) (j:=0) (v := .int .i64 ((Dg acs k).ba+x)) (fun _=>rfl) (EV hi) (by decide) U
 ·rw [Pp] at h;exact ⟨h.1,h.2.of (by unfold EA; rfl)⟩
theorem W5 {b3 b4 b5 b14:Nat} {k x:Int} (hd:AcB bd a acs.length c w) (O:OS a acs.length c 2 full (acs.flatMap CP)) (hb:∀ x∈ent a 43 full,w.heap[x.1]? = some x.2∧x.1≠b5) (hac:ED acs=0)
  (h3:w.heap[b3]? = some (Bl 99 [ptr bd])) (h4:w.heap[b4]? = some (Bl 3 [.int .i64 k])) (h5:w.heap[b5]? = some (Bl 2 [.int .i64 x])) (h14:w.heap[b14]? = some (Bl 223 ((Vj b3 b4 b5 acs k x).flatMap LV))) :
  Ret Tryz.prog 167 #[ptr bd,.int .i64 k,.func (.func 171) #[] [ptr b5].toArray,.slice (some ⟨b14,0,none⟩) 2 2] w fun v w'=>v = .int .i64 (F6 acs k x)∧AcsAt w w' a acs.length c full (Ev acs k x):=by
 have hn16:=(Ch.1 hac).1;have R:Rd w a 2 CP acs:=OS.rd O (fun y hy=>(hb y hy).1) (fun _ _=>rfl) (by omega)
 cases hi0:inA acs k with
 | false =>
  refine Ret.mono (Zc w hd hi0) fun v w' h=>?_;have hc:F6 acs k x=10:=by unfold F6; rw [if_pos hi0]
  refine ⟨by rw [hc]; exact h.1,full,?_,fun y hy=>h.2.to (hb y hy).1 (by simp),h.2.mono (by simp)⟩;unfold Ev;rw [if_neg (by rw [hc]; decide)];exact O
 | true =>
  refine Ret.mono (NW (qs:=Vj b3 b4 b5 acs k x) (e:=⟨(Dg acs k).ba - x,(Dg acs k).re⟩) w hd O (fun y hy=>(hb y hy).1) (by omega) (Rd.of_bl h14 (List.append_nil _).symm fun _ _=>rfl) (show (2:Nat)≤1000 by decide) (fun q hq=>?_) Ad1 fun q w' hqa hi hC hx=>?_) fun v w' h=>?_
  ·rcases List.mem_cons.1 hq with rfl | hq
   ·exact ⟨Ad2,(show (1:Int)≠0 by decide),fun w' hx=>Ze w' (hx.to h5 (by simp))⟩
   ·rw [List.mem_singleton.1 hq];exact ⟨Ad3,(show (12:Int)≠0 by decide),fun w' hx=>Zh w' (hx.to h5 (by simp)) (hx.to h3 (by simp)) (hx.to h4 (by simp)) (hx.to hd (by simp)) (R.ext0 hx) hi0⟩
  ·subst hqa;obtain ⟨h1,h2⟩:=hb (q,Bl 43 full) (List.mem_singleton.2 rfl);have h9:w'.heap[q]? = _:=hx.to h1 (by simp);have hg:=Iq hac hi;have hC2:F6 acs k x=0:=by rw [← Pq (b3:=b3) (b4:=b4) (b5:=b5)]; unfold HV; rw [if_neg (by rw [hi]; decide)]; exact hC
   rcases Kz acs k x with ⟨hc,-⟩ | ⟨-,-,h0,hm,-⟩
   ·exact absurd hC2 hc
   ·refine Ret.mono (Zg w' h9 (LW O h9 hi).1 (hx.to h5 (by simp)) (fun h=>h2 h.symm) ⟨hg.1.1,hg.1.2⟩ ⟨by omega,(C9.1 hm).2⟩) fun _ w'' H2=>⟨_,?_,H2⟩;rw [show 0+k.toNat*2+0=k.toNat*2+0 by omega];exact OS.setf O (y:=⟨(Dg acs k).ba - x,(Dg acs k).re⟩) (j:=0) (v := .int .i64 ((Dg acs k).ba - x)) (fun _=>rfl) (EV hi) (by decide) U
  ·rw [Pq] at h;exact ⟨h.1,h.2.of (by unfold Ev; rfl)⟩
theorem Zk {b5 b14:Nat} {k x:Int} (hd:AcB bd a acs.length c w) (O:OS a acs.length c 2 full (acs.flatMap CP)) (hb:∀ x∈ent a 43 full,w.heap[x.1]? = some x.2∧x.1≠b5) (hac:ED acs=0)
  (h5:w.heap[b5]? = some (Bl 2 [.int .i64 x])) (h14:w.heap[b14]? = some (Bl 223 ((rsvQ b5 x).flatMap LV))) :
  Ret Tryz.prog 167 #[ptr bd,.int .i64 k,.func (.func 174) #[] [ptr b5].toArray,.slice (some ⟨b14,0,none⟩) 1 1] w fun v w'=>v = .int .i64 (Ls acs k x)∧AcsAt w w' a acs.length c full (G4 acs k x):=by
 have hn16:=(Ch.1 hac).1;refine Ret.mono (NW (qs:=rsvQ b5 x) (e:=⟨(Dg acs k).ba,x⟩) w hd O (fun y hy=>(hb y hy).1) (by omega) (Rd.of_bl h14 (List.append_nil _).symm fun _ _=>rfl) (show (1:Nat)≤1000 by decide) (fun q hq=>?_) Ad4 fun q w' hqa hi hC hx=>?_) fun v w' h=>?_
 ·rw [List.mem_singleton.1 hq];exact ⟨Ad5,(show (1:Int)≠0 by decide),fun w' hx=>Abm w' (hx.to h5 (by simp))⟩
 ·subst hqa;obtain ⟨h1,h2⟩:=hb (q,Bl 43 full) (List.mem_singleton.2 rfl);have h9:w'.heap[q]? = _:=hx.to h1 (by simp);refine Ret.mono (Abn w' h9 (LW O h9 hi).2 (hx.to h5 (by simp)) (fun h=>h2 h.symm)) fun _ w'' H2=>⟨_,?_,H2⟩;rw [show 0+k.toNat*2+1=k.toNat*2+1 by omega];exact OS.setf O (y:=⟨(Dg acs k).ba,x⟩) (j:=1) (v := .int .i64 x) (fun _=>rfl) (EV hi) (by decide) U
 ·rw [Zj] at h;exact ⟨h.1,h.2.of (by unfold G4; rfl)⟩
end
set_option maxRecDepth 20000 in
set_option maxHeartbeats 1000000 in
theorem Zl {bd c:Nat} {a:Option Addr} {full:List Value} {acs:List Ac} {k x:Int} (w:World) (hd:AcB bd a acs.length c w) (O:OS a acs.length c 2 full (acs.flatMap CP)) (hb:∀ x∈ent a 43 full,w.heap[x.1]? = some x.2) (hac:ED acs=0) :
  Ret Tryz.prog 104 #[ptr bd,.int .i64 k,.int .i64 x] w fun v w'=>v = .int .i64 (FU acs k x)∧AcsAt w w' a acs.length c full (EA acs k x):=by
 obtain ⟨w0,rfl⟩:∃ w0,w0=w:=⟨_,rfl⟩;have H:=Ctx.start w0 [];refine Au (fn:=Tryz.f104) Tryz.func104 U [.pointer (some ⟨bd,0,none⟩),.int .i64 k,.int .i64 x] U (by kernel_rfl) ?_;refine Ad (Bu U _ (.pointer _) U U H ?_);rintro b3 w - H;refine Bu U _ (.int _ _) U U H ?_;rintro b5 w - H;refine Ae U U (Ab (Aa (Ad (AE U Ic U H at1 U (Af U U (BZ U [ptr b5] U (BZ U [ptr b5] U (B7 (LV ⟨1,169,[ptr b5],true⟩) U N2 IA (by kernel_rfl) ?_))))))));refine BZ U [ptr b3,ptr b5] U (B7 (LV ⟨13,170,[ptr b3,ptr b5],true⟩) U N2 IA (by kernel_rfl) ?_);refine D4 ((Vi b3 b5 acs x).flatMap LV) U Nx LH IA (by decide) (by decide) (by kernel_rfl) H ?_;rintro b14 w - H
 refine Al U Tm (W4 (H.ext.to hd (by simp)) O (fun y hy=>⟨H.ext.to (hb y hy) (by simp),fun hne=>by have h1:=Bb (hb y hy); rw [hne] at h1; have h2:=(H.own _ (List.mem_of_getElem? at1)).elim (fun h=>by cases h) id; dsimp only at h2; omega⟩) hac (H.get at2) (H.get at1) (H.get at0)) U ?_;rintro v w2 ⟨rfl,A⟩;replace A:=A.back H.ext;refine Ae U U (Ab (Aa (A5 (AA (v:=(.int _ _)) U U U ?_))));exact ⟨rfl,A⟩
set_option maxRecDepth 20000 in
set_option maxHeartbeats 1000000 in
theorem Zm {bd c:Nat} {a:Option Addr} {full:List Value} {acs:List Ac} {k x:Int} (w:World) (hd:AcB bd a acs.length c w) (O:OS a acs.length c 2 full (acs.flatMap CP)) (hb:∀ x∈ent a 43 full,w.heap[x.1]? = some x.2) (hac:ED acs=0) :
  Ret Tryz.prog 105 #[ptr bd,.int .i64 k,.int .i64 x] w fun v w'=>v = .int .i64 (F6 acs k x)∧AcsAt w w' a acs.length c full (Ev acs k x):=by
 obtain ⟨w0,rfl⟩:∃ w0,w0=w:=⟨_,rfl⟩;have H:=Ctx.start w0 [];refine Au (fn:=Tryz.f105) Tryz.func105 U [.pointer (some ⟨bd,0,none⟩),.int .i64 k,.int .i64 x] U (by kernel_rfl) ?_;refine Ad (Bu U _ (.pointer _) U U H ?_);rintro b3 w - H;refine Bu U _ (.int _ _) U U H ?_;rintro b4 w - H;refine Bu U _ (.int _ _) U U H ?_;rintro b5 w - H;refine Ae U U (Ab (Aa (Ad (AE U Ic U H at2 U (AE U BS U H at1 U (BZ U [ptr b5] U (BZ U [ptr b5] U (B7 (LV ⟨1,172,[ptr b5],true⟩) U N2 IA (by kernel_rfl) ?_))))))));refine BZ U [ptr b5,ptr b3,ptr b4] U (B7 (LV ⟨12,173,[ptr b5,ptr b3,ptr b4],true⟩) U N2 IA (by kernel_rfl) ?_);refine D4 ((Vj b3 b4 b5 acs k x).flatMap LV) U Nx LH IA (by decide) (by decide) (by kernel_rfl) H ?_;rintro b14 w - H
 refine Al U Tm (W5 (H.ext.to hd (by simp)) O (fun y hy=>⟨H.ext.to (hb y hy) (by simp),fun hne=>by have h1:=Bb (hb y hy); rw [hne] at h1; have h2:=(H.own _ (List.mem_of_getElem? at1)).elim (fun h=>by cases h) id; dsimp only at h2; omega⟩) hac (H.get at3) (H.get at2) (H.get at1) (H.get at0)) U ?_;rintro v w2 ⟨rfl,A⟩;replace A:=A.back H.ext;refine Ae U U (Ab (Aa (A5 (AA (v:=(.int _ _)) U U U ?_))));exact ⟨rfl,A⟩
set_option maxRecDepth 20000 in
set_option maxHeartbeats 1000000 in
theorem Abo {bd c:Nat} {a:Option Addr} {full:List Value} {acs:List Ac} {k x:Int} (w:World) (hd:AcB bd a acs.length c w) (O:OS a acs.length c 2 full (acs.flatMap CP)) (hb:∀ x∈ent a 43 full,w.heap[x.1]? = some x.2) (hac:ED acs=0) :
  Ret Tryz.prog 106 #[ptr bd,.int .i64 k,.int .i64 x] w fun v w'=>v = .int .i64 (Ls acs k x)∧AcsAt w w' a acs.length c full (G4 acs k x):=by
 obtain ⟨w0,rfl⟩:∃ w0,w0=w:=⟨_,rfl⟩;have H:=Ctx.start w0 [];refine Au (fn:=Tryz.f106) Tryz.func106 U [.pointer (some ⟨bd,0,none⟩),.int .i64 k,.int .i64 x] U (by kernel_rfl) ?_;refine Ad (Bu U _ (.int _ _) U U H ?_);rintro b5 w - H;refine Ae U U (Ab (Aa (Ad (A3 U U (Af U U (BZ U [ptr b5] U (BZ U [ptr b5] U (B7 (LV ⟨1,175,[ptr b5],true⟩) U N2 IA (by kernel_rfl) ?_))))))));refine D4 ((rsvQ b5 x).flatMap LV) U Nx LH IA (by decide) (by decide) (by kernel_rfl) H ?_;rintro b14 w - H;refine Al U Tm (Zk (H.ext.to hd (by simp)) O (fun y hy=>⟨H.ext.to (hb y hy) (by simp),fun hne=>by have h1:=Bb (hb y hy); rw [hne] at h1; have h2:=(H.own _ (List.mem_of_getElem? at1)).elim (fun h=>by cases h) id; dsimp only at h2; omega⟩) hac (H.get at1) (H.get at0)) U ?_;rintro v w2 ⟨rfl,A⟩;replace A:=A.back H.ext;refine Ae U U (Ab (Aa (A5 (AA (v:=(.int _ _)) U U U ?_))));exact ⟨rfl,A⟩
end Go.Proofs.YtdagmpmdcgedcaaGreat

/- The dues: one is turned by any function; held, released, cancelled. -/
namespace Go.Proofs.YtdagmpmdcgedcaaGreat
open Go.GV
attribute [local irreducible] AB W Wq Wt

/-- The dues with the one of a number another. -/
def Su:List Du→Int→Du→List Du
 | [],_,_=>[]
 | d::ds,k,e=>if d.id=k then e::ds else d::Su ds k e
def TX:List Du→Int→List Du
 | [],_=>[]
 | d::ds,k=>if d.id=k then ds else d::TX ds k
theorem Zn {ds:List Du} {k:Int} {d e:Du} (h:CD ds k=some d) (he:e.id=k):KE (dm ds) k (FN e)=dm (Su ds k e):=by
 induction ds with
 | nil=>cases h
 | cons y ds ih =>
  unfold CD at h;rw [List.find?_cons] at h
  by_cases c:y.id=k
  ·unfold Su;rw [if_pos c];show (if y.id=k then (k,_)::dm ds else _)=_;rw [if_pos c,← he]; rfl
  ·rw [show (y.id == k)=false by simpa using c] at h;unfold Su;rw [if_neg c];show (if y.id=k then _ else (y.id,FN y)::KE (dm ds) k _)=_;rw [if_neg c,ih h]; rfl
theorem Zo {ds:List Du} {k:Int} {d:Du} (h:CD ds k=some d):Ki (dm ds) k=dm (TX ds k):=by
 induction ds with
 | nil=>cases h
 | cons y ds ih =>
  unfold CD at h;rw [List.find?_cons] at h
  by_cases c:y.id=k
  ·unfold TX;rw [if_pos c];show (if y.id=k then dm ds else _)=_;rw [if_pos c]
  ·rw [show (y.id == k)=false by simpa using c] at h;unfold TX;rw [if_neg c];show (if y.id=k then _ else (y.id,FN y)::Ki (dm ds) k)=_;rw [if_neg c,ih h]; rfl
theorem Sv {k:Int} {b:Bool}:∀ {ds:List Du} {d:Du},(ds.map Du.id).Nodup→CD ds k=some d→Su ds k { d with held:=b }=ds.map fun x=>if x.id=k then { x with held:=b } else x
 | y::ds,d,hn,h=>by
  rw [List.map_cons,List.nodup_cons] at hn;unfold CD at h;rw [List.find?_cons] at h
  by_cases c:y.id=k
  ·rw [show (y.id == k)=true by simpa using c] at h
   injection h with h
   subst h;unfold Su;rw [if_pos c,List.map_cons,if_pos c]
   congr 1
   refine (List.map_id ds).symm.trans (List.map_congr_left fun x hx=>?_);rw [if_neg fun hxk=>hn.1 (by rw [c,← hxk]; exact List.mem_map_of_mem hx)];rfl
  ·rw [show (y.id == k)=false by simpa using c] at h;unfold Su;rw [if_neg c,List.map_cons,if_neg c,Sv hn.2 h]
theorem Mw {k:Int}:∀ {ds:List Du},(ds.map Du.id).Nodup→TX ds k=ds.filter fun x => !decide (x.id=k)
 | [],_=>rfl
 | y::ds,hn=>by
  rw [List.map_cons,List.nodup_cons] at hn;unfold TX
  by_cases c:y.id=k
  ·rw [if_pos c,List.filter_cons,if_neg (by simpa using c)];refine (List.filter_eq_self.2 fun x hx=>?_).symm;have:¬ x.id=k:=fun hxk=>hn.1 (by rw [c,← hxk]; exact List.mem_map_of_mem hx)
   simpa using this
  ·rw [if_neg c,List.filter_cons,if_pos (by simpa using c),Mw hn.2]
/-- What a turn leaves. -/
def trnD (ds:List Du) (k:Int) (c:Int) (e:Du):List Du:=if c≠0 then ds else if e.am=0 then TX ds k else Su ds k e
set_option maxRecDepth 20000 in
theorem Sx {bd b:Nat} {nx k code:Int} {o:Obj} {ds:List Du} {d e:Du} {fid:FuncId} {cl:List Value} (w:World) (hd:w.heap[bd]? = some (Bl 165 (DU b nx))) (hb:w.heap[b]? = some o) (hM:CL .u64 (dm ds) o) (hbd:bd≠b) (hf:CD ds k=some d) (he:e.id=k) (hfc:Ap Tryz.prog fid=true)
  (hcl:∀ (b7:Nat) (w':World),w.heap.size≤b7→Ext [b] w w'→w'.heap[b7]? = some (Bl 67 (CO d))→Ret Tryz.prog fid (ptr b7::cl).toArray w' fun v w''=>v = .int .i64 code∧Ctx w' [b7] w'' [(b7,Bl 67 (CO e))]) :
  Ret Tryz.prog 177 #[ptr bd,.int .u64 k,.func (.func fid) #[] cl.toArray] w fun v w'=>v = .int .i64 code∧∃ o',CL .u64 (dm (trnD ds k code e)) o'∧Ctx w [b] w' [(b,o')]:=by
 obtain ⟨w0,rfl⟩:∃ w0,w0=w:=⟨_,rfl⟩;have H:=Ctx.start1 hb;have hmg:DZ (dm ds) k=some (FN d):=by rw [GQ,hf]; rfl
 unfold trnD;refine Au (fn:=Tryz.f177) Tryz.func177 U [.pointer (some ⟨bd,0,none⟩),.int .u64 k,.func (.func fid) #[] cl.toArray] U (by kernel_rfl) ?_;refine Ad (Ae U U (Ab (Aa (Aw (Ad (A3 U U (Cq U I9 U ?_)))))));refine Ab (Aa (Aq _ U ?_ ?_))
 ·intro h0;cases h0
 ·intro h0;refine Av (Aa (Ad (A3 U U (A8 U U (Ah U DA U (Bd U EN U ((H.old (Aj hd _) (by rw [List.mem_singleton]; exact hbd))) ?_))))));refine Af U U (Gp U Fb EZ N5 U U H at0 hM ?_);rw [hmg];rw [Option.getD_some,Option.isSome_some];refine C0 U U (AO U U U (AO U U U (AZ U Et H ?_)));rintro b7 w - H;refine Bn U Cj U U U (by exact CY _) H at0 U ?_;rintro w H;refine Ai U U (Ab (Aa (Aw (Ad (A7 U U (BG U U (Ab (Aa (Aq _ U ?_ ?_)))))))))
  ·intro h1;replace h1:=BD h1;cases h1
  ·intro h1;replace h1:=BE h1;refine Av (Aa (Ad (De U (.func _ _ _) U ?_)));have hb7:w0.heap.size≤b7:=(H.own _ (List.mem_cons_self ..)).elim (fun h=>by have h8:=H.ne at0 at1 (by decide); exact absurd (List.mem_singleton.1 h) h8) id;refine F8 U U hfc (hcl b7 _ hb7 H.ext (H.get at0)) U ?_;rintro v w ⟨rfl,H2⟩;replace H:=Ctx.back (L1:=[_]) (L2:=[_]) H H2;refine Ae U U (Ab (Aa (Aw (Az (Ad (Af U U (CI U U U (Ai U U (Ab (Aa (Aq _ U ?_ ?_)))))))))))
   ·intro h2;replace h2:=CE h2;refine Av (A6 (Aa (Ad (Af U U (Ae U U (Ab (Aa (A5 (AA (v:=(.int _ _)) U U U ?_)))))))));rw [if_pos h2];exact ⟨rfl,o,hM,H.tail⟩
   ·intro h2;replace h2:=CF h2;rw [if_neg (by omega)];refine Ad (Ah U ET U (AE U Bw U H at0 U (Cz U U U (Ai U U (Ab (Aa (Aq _ U ?_ ?_)))))))
    ·intro h3;replace h3:=AM h3;refine A0 (A3 U U (A8 U U (Ah U DA U (Bd U EN U ((H.old (Aj hd _) (by rw [List.mem_singleton]; exact hbd))) ?_))));refine Af U U (LD U Fb EZ U U H at1 hM ?_);rintro o2 w hM2 H;refine Ab (A6 (Aa (Ad (Af U U (Ae U U (Ab (Aa (A5 (AA (v:=(.int _ _)) U U U ?_)))))))));rw [if_pos h3];exact ⟨rfl,o2,by rw [← Zo hf]; exact hM2,H.tail⟩
    ·intro h3;replace h3:=AN h3;refine Fq 6 Bq (by kernel_rfl) U U ?_;refine B4 U U (AX U U (A2 U DA U (BP U EN U (by rintro _ rfl; exact ((H.old (Aj hd _) (by rw [List.mem_singleton]; exact hbd)))) ?_)));refine AU U U (Nd U EW Cj U (by rintro _ rfl; exact H.drew) at0 U ?_);refine BK ?_;replace H:=H.drew;refine Ix (FN e) U Fb EZ U U U H at1 hM ?_;rintro o2 w hM2 H;refine Ab (A6 (Aa (Ad (Af U U (Ae U U (Ab (Aa (A5 (AA (v:=(.int _ _)) U U U ?_)))))))));rw [if_neg h3];exact ⟨rfl,o2,by rw [← Zn hf he]; exact hM2,H.tail⟩
theorem NX {bd b:Nat} {nx k:Int} {o:Obj} {ds:List Du} {fid:FuncId} {cl:List Value} (w:World) (hd:w.heap[bd]? = some (Bl 165 (DU b nx))) (hb:w.heap[b]? = some o) (hM:CL .u64 (dm ds) o) (hbd:bd≠b) (hf:CD ds k=none) :
  Ret Tryz.prog 177 #[ptr bd,.int .u64 k,.func (.func fid) #[] cl.toArray] w fun v w'=>v = .int .i64 11∧∃ o',CL .u64 (dm ds) o'∧Ctx w [b] w' [(b,o')]:=by
 obtain ⟨w0,rfl⟩:∃ w0,w0=w:=⟨_,rfl⟩;have H:=Ctx.start1 hb;have hmg:DZ (dm ds) k=none:=by rw [GQ,hf]; rfl
 refine Au (fn:=Tryz.f177) Tryz.func177 U [.pointer (some ⟨bd,0,none⟩),.int .u64 k,.func (.func fid) #[] cl.toArray] U (by kernel_rfl) ?_;refine Ad (Ae U U (Ab (Aa (Aw (Ad (A3 U U (Cq U I9 U ?_)))))));refine Ab (Aa (Aq _ U ?_ ?_))
 ·intro h0;cases h0
 ·intro h0;refine Av (Aa (Ad (A3 U U (A8 U U (Ah U DA U (Bd U EN U ((H.old (Aj hd _) (by rw [List.mem_singleton]; exact hbd))) ?_))))));refine Af U U (Gp U Fb EZ N5 U U H at0 hM ?_);rw [hmg];rw [Option.getD_none,Option.isSome_none];refine C0 U U (AO U U U (AO U U U (AZ U Et H ?_)));rintro b7 w - H;refine Bn U Cj U U U (by exact CY d00) H at0 U ?_;rintro w H;refine Ai U U (Ab (Aa (Aw (Ad (A7 U U (BG U U (Ab (Aa (Aq _ U ?_ ?_)))))))))
  ·intro h1;replace h1:=BD h1;refine Ad (Ae U U (Ab (Aa (A5 (Ao (AA (v:=(.int _ _)) U U U ?_))))));exact ⟨rfl,o,hM,H.tail⟩
  ·intro h1;replace h1:=BE h1;cases h1
end Go.Proofs.YtdagmpmdcgedcaaGreat

/- The dues: held, released, cancelled: the walks. -/
namespace Go.Proofs.YtdagmpmdcgedcaaGreat
open Go.GV
attribute [local irreducible] AB W Wq Wt

theorem Ag4 {P:Program} {ops rest:List Oper} {e:Env} {dst:Option Tmp} {ty:TypeId} {pos:String} {af:Array Edge} {g:Option (Nat × Bool)} {C:World→Prop} {K:Env→Prop} {t t2:TypeId} {x y:Operand} {a b:Bool} (ht:P.underlying t=some .bool) (hg:AP ⟨dst,.binOp .eql t x y t2,ty,pos,af,g⟩ ops e=true) (hx:ev e x = .bool a) (hy:ev e y = .bool b)
  (h:Wq P ops C K rest (put e dst (.bool (a == b)))):Wq P ops C K (⟨dst,.binOp .eql t x y t2,ty,pos,af,g⟩::rest) e :=
 DY hg (fun w _=>by
  have hq:eqGuard .eql t x y (.bool a) (.bool b)=pure ():=rfl;have he:∀ d w,(Op.equalIn (d+1) t (.bool a) (.bool b)).run P w = .ok (a == b) w:=fun d w=>by simp [Op.equalIn,AY ht]
  simp only [execOp,hx,hy,hq,Sem.run_bind,Sem.run_pure,Result.andThen_ok,binOp,Op.equal,Op.maxDepth,he 9999]) h
theorem Pr {ds:List Du} {nx:Int} (h:ofC ds nx=0):(ds.map Du.id).Nodup:=(GK h).2.imp fun h=>Int.ne_of_lt h
theorem Zp {b7 bi:Nat} {d:Du} {b:Bool} (w:World) (h7:w.heap[b7]? = some (Bl 67 (CO d))) (hi:w.heap[bi]? = some (Bl 4 [.bool b])) (hne:bi≠b7) :
  Ret Tryz.prog 206 #[ptr b7,ptr bi] w fun v w'=>v = .int .i64 (if d.held=b then 14 else 0)∧Ctx w [b7] w' [(b7,Bl 67 (CO (if d.held=b then d else { d with held:=b })))]:=by
 obtain ⟨w0,rfl⟩:∃ w0,w0=w:=⟨_,rfl⟩;have H:=Ctx.start1 h7;have hn:bi∉[b7]:=by rw [List.mem_singleton]; exact hne
 refine Au (fn:=Tryz.f206) Tryz.func206 U [.pointer (some ⟨b7,0,none⟩),.pointer (some ⟨bi,0,none⟩)] U (by kernel_rfl) ?_;refine Ad (Ae U U (Ab (Aa (Aw (Dx (fun x=>x=_) Bq (by kernel_rfl) U ?_)))));refine B4 U U (AX U U (A2 U KV U (BU U JR U (by rintro _ rfl; exact H.drew) at0 U ?_)));refine BP U JR U (by rintro _ rfl; exact ((H.old (Aj hi _) hn))) ?_;refine Ag4 un_4 U U U ?_;refine BK ?_;rintro _ rfl;replace H:=H.drew;refine Aq _ U ?_ ?_
 ·intro h1;have h1':d.held=b:=by simpa using h1
  refine Ad (Ae U U (Ab (Aa (A5 (Ao (AA (v:=(.int _ _)) U U U ?_))))));rw [if_pos h1',if_pos h1'];exact ⟨rfl,H⟩
 ·intro h1;have h1':¬ d.held=b:=by simpa using h1
  refine Av (Aa (Ad (A3 U U (Bd U JR U ((H.old (Aj hi _) hn)) ?_))));refine A8 U U (Ah U KV U (Cg (.bool _) U VC U U U H at0 (by (simp; done)) ?_));rintro w H;refine Ab (Aa (Ad (Ae U U (Ab (Aa (A5 (AA (v:=(.int _ _)) U U U ?_)))))));rw [if_neg h1',if_neg h1'];exact ⟨rfl,H⟩
theorem TY {b7:Nat} {d:Du} (w:World) (h7:w.heap[b7]? = some (Bl 67 (CO d))) :
  Ret Tryz.prog 178 #[ptr b7] w fun v w'=>v = .int .i64 0∧Ctx w [b7] w' [(b7,Bl 67 (CO { d with am:=0 }))]:=by
 obtain ⟨w0,rfl⟩:∃ w0,w0=w:=⟨_,rfl⟩;have H:=Ctx.start1 h7;refine Au (fn:=Tryz.f178) Tryz.func178 U [.pointer (some ⟨b7,0,none⟩)] U (by kernel_rfl) ?_;refine Ad (Ae U U (Ab (Aa (Ad (A3 U U (A8 U U (Ah U ET U (Cg (.int _ _) U Bx U U U H at0 (by (simp; done)) ?_))))))));rintro w H;refine Ab (Aa (Ad (Ae U U (Ab (Aa (A5 (AA (v:=(.int _ _)) U U U ?_)))))));exact ⟨rfl,H⟩
theorem Vk {bd b:Nat} {nx k:Int} {o:Obj} {ds:List Du} (h:Bool) (w:World) (hd:w.heap[bd]? = some (Bl 165 (DU b nx))) (hb:w.heap[b]? = some o) (hM:CL .u64 (dm ds) o) (hbd:bd≠b) (hof:ofC ds nx=0) :
  Ret Tryz.prog 176 #[ptr bd,.int .u64 k,.bool h] w fun v w'=>v = .int .i64 (Lw ds k h)∧∃ o',CL .u64 (dm (HU ds k h)) o'∧Ctx w [b] w' [(b,o')]:=by
 obtain ⟨w0,rfl⟩:∃ w0,w0=w:=⟨_,rfl⟩;have H:=Ctx.start w0 [];have hbl:=Bb hb
 have hT:∀ (bi:Nat) (w:World),w0.heap.size≤bi→Ext [] w0 w→w.heap[bi]? = some (Bl 4 [.bool h])→Ret Tryz.prog 177 #[ptr bd,.int .u64 k,.func (.func 206) #[] [ptr bi].toArray] w fun v w'=>v = .int .i64 (Lw ds k h)∧∃ o',CL .u64 (dm (HU ds k h)) o'∧Ctx w [b] w' [(b,o')]:=fun bi w hbi hx hi=>by
  cases hf:CD ds k with
  | none =>
   have hc:Lw ds k h=11:=by unfold Lw; rw [hf]
   refine Ret.mono (NX w (hx.to hd (by simp)) (hx.to hb (by simp)) hM hbd hf) fun v w' ⟨h1,o',h2,h3⟩=>⟨by rw [hc]; exact h1,o',?_,h3⟩;rw [Sr (by rw [hc]; decide)];exact h2
  | some d =>
   have hid:=(Hi hf).2;have hm:=D7 ((GK hof).1 d (Hi hf).1).1;have hc:Lw ds k h=if d.held=h then 14 else 0:=by unfold Lw; rw [hf]
   refine Ret.mono (Sx (e:=if d.held=h then d else { d with held:=h }) w (hx.to hd (by simp)) (hx.to hb (by simp)) hM hbd hf (by split <;> exact hid) Aef fun b7 w' hb7 hx' h7=>Zp w' h7 (hx'.to hi (by rw [List.mem_singleton]; omega)) (by have:=Bb hi; omega)) fun v w' ⟨h1,o',h2,h3⟩=>⟨by rw [hc]; exact h1,o',?_,h3⟩
   by_cases hh:d.held=h
   ·rw [if_pos hh,if_pos hh] at h2;rw [Sr (by rw [hc,if_pos hh]; decide)];exact h2
   ·rw [if_neg hh,if_neg hh] at h2;unfold trnD at h2;rw [if_neg (by decide),if_neg (by show ¬ d.am=0; omega),Sv (Pr hof) hf] at h2;unfold HU;rw [hc,if_neg hh,if_pos rfl];exact h2
 refine Au (fn:=Tryz.f176) Tryz.func176 U [.pointer (some ⟨bd,0,none⟩),.int .u64 k,.bool h] U (by kernel_rfl) ?_;refine Ad (Bu U _ (.bool _) U U H ?_);rintro b5 w - H;refine Ae U U (Ab (Aa (Ad (A3 U U (Af U U (BZ U [.pointer _] U (Al U Tn (hT b5 _ ((H.own _ (List.mem_cons_self ..)).elim (fun h=>by cases h) id) H.ext (H.get at0)) U ?_)))))));rintro v w ⟨rfl,o',hM',H2⟩;refine Ae U U (Ab (Aa (A5 (AA (v:=(.int _ _)) U U U ?_))));have H3:=H.ext.mono (S':=[b]) (by simp);exact ⟨rfl,o',hM',⟨H3.trans H2.ext,H2.blk,H2.nd,fun y hy=>by rw [List.mem_singleton.1 hy]; exact .inl (List.mem_singleton.2 rfl)⟩⟩
end Go.Proofs.YtdagmpmdcgedcaaGreat

/- The dues: Hold, Release, Cancel, Expire. -/
namespace Go.Proofs.YtdagmpmdcgedcaaGreat
open Go.GV
attribute [local irreducible] AB W Wq Wt

section
variable {bd b:Nat} {nx:Int} {o:Obj} {ds:List Du}
theorem Abp {k:Int} (w:World) (hd:w.heap[bd]? = some (Bl 165 (DU b nx))) (hb:w.heap[b]? = some o) (hM:CL .u64 (dm ds) o) (hbd:bd≠b) (hof:ofC ds nx=0) :
  Ret Tryz.prog 108 #[ptr bd,.int .u64 k] w fun v w'=>v = .int .i64 (Lw ds k true)∧∃ o',CL .u64 (dm (HU ds k true)) o'∧Ctx w [b] w' [(b,o')]:=by
 obtain ⟨w0,rfl⟩:∃ w0,w0=w:=⟨_,rfl⟩;refine Au (fn:=Tryz.f108) Tryz.func108 U [.pointer (some ⟨bd,0,none⟩),.int .u64 k] U (by kernel_rfl) ?_;refine Ad (Ae U U (Ab (Aa (Ad (A3 U U (Af U U (Al U Xt (Vk true _ hd hb hM hbd hof) U ?_)))))));rintro v w ⟨rfl,E⟩;refine Ae U U (Ab (Aa (A5 (AA (v:=(.int _ _)) U U U ?_))));exact ⟨rfl,E⟩
theorem TZ {k:Int} (w:World) (hd:w.heap[bd]? = some (Bl 165 (DU b nx))) (hb:w.heap[b]? = some o) (hM:CL .u64 (dm ds) o) (hbd:bd≠b) (hof:ofC ds nx=0) :
  Ret Tryz.prog 109 #[ptr bd,.int .u64 k] w fun v w'=>v = .int .i64 (Lw ds k false)∧∃ o',CL .u64 (dm (HU ds k false)) o'∧Ctx w [b] w' [(b,o')]:=by
 obtain ⟨w0,rfl⟩:∃ w0,w0=w:=⟨_,rfl⟩;refine Au (fn:=Tryz.f109) Tryz.func109 U [.pointer (some ⟨bd,0,none⟩),.int .u64 k] U (by kernel_rfl) ?_;refine Ad (Ae U U (Ab (Aa (Ad (A3 U U (Af U U (Al U Xt (Vk false _ hd hb hM hbd hof) U ?_)))))));rintro v w ⟨rfl,E⟩;refine Ae U U (Ab (Aa (A5 (AA (v:=(.int _ _)) U U U ?_))));exact ⟨rfl,E⟩
theorem Sy {k:Int} (w:World) (hd:w.heap[bd]? = some (Bl 165 (DU b nx))) (hb:w.heap[b]? = some o) (hM:CL .u64 (dm ds) o) (hbd:bd≠b) (hof:ofC ds nx=0) :
  Ret Tryz.prog 177 #[ptr bd,.int .u64 k,.func (.func 178) #[] #[]] w fun v w'=>v = .int .i64 (Oi ds k)∧∃ o',CL .u64 (dm (Qx ds k)) o'∧Ctx w [b] w' [(b,o')]:=by
 cases hf:CD ds k with
 | none =>
  have hc:Oi ds k=11:=by unfold Oi; rw [hf]
  refine Ret.mono (NX (cl:=[]) w hd hb hM hbd hf) fun v w' ⟨h1,o',h2,h3⟩=>⟨by rw [hc]; exact h1,o',?_,h3⟩;rw [Za (by rw [hc]; decide)];exact h2
 | some d =>
  have hid:=(Hi hf).2;have hc:Oi ds k=0:=by unfold Oi; rw [hf]
  refine Ret.mono (Sx (cl:=[]) (e:={ d with am:=0 }) w hd hb hM hbd hf hid Ad6 fun b7 w' hb7 hx' h7=>TY w' h7) fun v w' ⟨h1,o',h2,h3⟩=>⟨by rw [hc]; exact h1,o',?_,h3⟩;unfold trnD at h2;rw [if_neg (by decide),if_pos rfl,Mw (Pr hof)] at h2;exact h2
theorem W6 {k:Int} (w:World) (hd:w.heap[bd]? = some (Bl 165 (DU b nx))) (hb:w.heap[b]? = some o) (hM:CL .u64 (dm ds) o) (hbd:bd≠b) (hof:ofC ds nx=0) :
  Ret Tryz.prog 110 #[ptr bd,.int .u64 k] w fun v w'=>v = .int .i64 (Oi ds k)∧∃ o',CL .u64 (dm (Qx ds k)) o'∧Ctx w [b] w' [(b,o')]:=by
 obtain ⟨w0,rfl⟩:∃ w0,w0=w:=⟨_,rfl⟩;refine Au (fn:=Tryz.f110) Tryz.func110 U [.pointer (some ⟨bd,0,none⟩),.int .u64 k] U (by kernel_rfl) ?_;refine Ad (Ae U U (Ab (Aa (Ad (A3 U U (Af U U (Al U Tn (Sy _ hd hb hM hbd hof) U ?_)))))));rintro v w ⟨rfl,E⟩;refine Ae U U (Ab (Aa (A5 (AA (v:=(.int _ _)) U U U ?_))));exact ⟨rfl,E⟩
end
/-! ### Those whose day is past go -/
def Q0 (ds:List Du) (u:Int) (i:Nat):List Du:=(ds.take i).filter (fun d=>decide (u≤d.un))++ds.drop i
def Ho (ds:List Du) (u:Int) (i:Nat):List Value:=((ds.take i).filter fun d => !decide (u≤d.un)).map fun d => .int .u64 d.id
theorem Abq {X Y:List Du} {d:Du} (h:∀ x∈X,x.id≠d.id):Ki (dm (X++d::Y)) d.id=dm (X++Y):=by
 induction X with
 | nil=>show (if d.id=d.id then dm Y else _)=_; rw [if_pos rfl]; rfl
 | cons x X ih =>
  show (if x.id=d.id then _ else (x.id,FN x)::Ki (dm (X++d::Y)) d.id)=_;rw [if_neg (h x (List.mem_cons_self ..)),ih fun y hy=>h y (List.mem_cons_of_mem _ hy)];rfl
theorem Zq {ds:List Du} {u nx:Int} {i:Nat} {d:Du} (hof:ofC ds nx=0) (hd:ds[i]? = some d) :
  (u≤d.un→Q0 ds u (i+1)=Q0 ds u i∧Ho ds u (i+1)=Ho ds u i)∧(¬ u≤d.un→Ki (dm (Q0 ds u i)) d.id=dm (Q0 ds u (i+1))∧Ho ds u (i+1)=Ho ds u i++[.int .u64 d.id]):=by
 have hil:=Cu hd;have ht:ds.take (i+1)=ds.take i++[d]:=List.take_add_one.trans (by rw [hd]; rfl)
 have hdr:ds.drop i=d::ds.drop (i+1):=by
  have h1:=List.drop_eq_getElem_cons hil;have h2:=List.getElem?_eq_getElem hil;rw [hd] at h2
  injection h2 with h2
  rw [h1,h2]
 have hn:∀ x∈ds.take i,x.id≠d.id:=fun x hx=>by
  have h1:=(GK hof).2;rw [← List.take_append_drop i ds,List.map_append,List.pairwise_append,hdr] at h1;exact Int.ne_of_lt (h1.2.2 x.id (List.mem_map_of_mem hx) d.id (List.mem_map_of_mem (List.mem_cons_self ..)))
 constructor
 ·intro h;unfold Q0 Ho;rw [ht,List.filter_append,List.filter_append,hdr];constructor
  ·rw [List.filter_cons,if_pos (by simpa using h),List.filter_nil,List.append_assoc];rfl
  ·rw [List.filter_cons,if_neg (by simpa using h),List.filter_nil,List.append_nil]
 ·intro h;unfold Q0 Ho;rw [ht,List.filter_append,List.filter_append,hdr];constructor
  ·rw [List.filter_cons,if_neg (by simpa using h),List.filter_nil,List.append_nil];exact Abq fun x hx=>hn x (List.mem_filter.1 hx).1
  ·rw [List.filter_cons,if_pos (by simpa using h),List.filter_nil,List.map_append];rfl
theorem Zr (ds:List Du) (u:Int):(Ho ds u ds.length).length=ds.length - (LU ds u).length∧Q0 ds u ds.length=LU ds u:=by
 unfold Ho Q0 LU;rw [List.take_length,List.drop_length,List.append_nil,List.length_map];refine ⟨?_,rfl⟩
 induction ds with
 | nil=>rfl
 | cons d ds ih =>
  have h1:=List.length_filter_le (fun d=>decide (u≤d.un)) ds;rw [List.filter_cons,List.filter_cons]
  by_cases h:u≤d.un
  ·rw [if_neg (by simpa using h),if_pos (by simpa using h),List.length_cons,List.length_cons,ih]; omega
  ·rw [if_pos (by simpa using h),if_neg (by simpa using h),List.length_cons,List.length_cons,ih]; omega
structure ExS where
 i:Nat
 o:Obj
 a:Option Addr
 c:Nat
 full:List Value
set_option maxRecDepth 20000 in
set_option maxHeartbeats 1000000 in
theorem W7 {bd b:Nat} {nx u:Int} {o:Obj} {ds:List Du} (w:World) (hd:w.heap[bd]? = some (Bl 165 (DU b nx))) (hb:w.heap[b]? = some o) (hM:CL .u64 (dm ds) o) (hbd:bd≠b) (hof:ofC ds nx=0) :
  Ret Tryz.prog 111 #[ptr bd,.int .i64 u] w fun v w'=>∃ o',CL .u64 (dm (LU ds u)) o'∧Ctx w [b] w' [(b,o')]∧∃ a c,v = .slice a (ds.length - (LU ds u).length) c:=by
 obtain ⟨w0,rfl⟩:∃ w0,w0=w:=⟨_,rfl⟩;obtain ⟨h64,-,h3,-⟩:=FO hof;have hbl:=Bb hb;refine Au (fn:=Tryz.f111) Tryz.func111 U [.pointer (some ⟨bd,0,none⟩),.int .i64 u] U (by kernel_rfl) ?_;refine Ad (A1 U U (Ab (Aa (Ad (A1 U U (Ab (Aa (Aw (Ad (A3 U U (Al U Me (NN _ hd hb hM (Lp hof) (by omega)) U ?_)))))))))));rintro v w ⟨ds',hS,F⟩;have hde:=NT hS (J2 h3).2.1;rw [hde] at F;obtain ⟨a3,n3,c3,f3,rfl,O3,hb3⟩:=F.ex;obtain rfl:=O3.numN (fun _ _=>rfl) (by decide);have hx9:=F.ext;refine Bf U Dh U (Af U U (Ab (Aa (Az ?_))));obtain ⟨w1,rfl⟩:∃ z,z=w:=⟨_,rfl⟩;have R:Rd w1 a3 7 CO ds:=OS.rd O3 (fun x hx=>(hb3 x hx).1) (fun _ _=>rfl) (by decide)
 have hnb:ds≠[]→(adr a3).block∉[b]:=fun hne=>by
  have hpos:=List.length_pos_iff.2 hne;obtain ⟨q,rfl⟩:=O3.form hpos;have h1:=(hb3 (q,Bl 67 f3) (List.mem_singleton.2 rfl)).2;rw [List.mem_singleton];show ¬ q=b;dsimp only at h1;omega
 have H:=Ctx.start1 (hx9.to hb (by simp));have hd1:=hx9.to hd (by simp);have hn:bd∉[b]:=by rw [List.mem_singleton]; exact hbd
 refine Bv 2147481760 (α:=ExS) (fun t=>[(5,.slice t.a (Ho ds u t.i).length t.c),(11,.int .i64 (t.i:Int))]) (fun t w'=>t.i≤ds.length∧CL .u64 (dm (Q0 ds u t.i)) t.o∧OS t.a (Ho ds u t.i).length t.c 1 t.full (Ho ds u t.i)∧Ctx w1 [b] w' ((b,t.o)::ent t.a 28 t.full)) (fun t=>ds.length - t.i) ⟨0,o,none,0,[]⟩ U ?_ ?_ ?_
 ·exact ⟨rfl,rfl,trivial⟩
 ·exact ⟨Nat.zero_le _,hM,OS.nil,H⟩
 ·rintro ⟨i,o,a,c,full⟩ j w ⟨hi,hM,O,H⟩; dsimp only at hi hM O H; dsimp only;refine Ad (Bj U U U (Ab (Aa (Aw (Aq _ U ?_ ?_)))))
  ·intro h1;replace h1:=AM h1;obtain ⟨d,hdi⟩:=AD (l:=ds) (i:=i) (by omega);have hne:ds≠[]:=fun h=>by rw [h] at hdi; cases hdi
   have hdl:(Ho ds u i).length≤ds.length:=by unfold Ho; rw [List.length_map]; exact Nat.le_trans (List.length_filter_le ..) (by rw [List.length_take]; omega)
   obtain ⟨hs1,hs2⟩:=Zq (u:=u) hof hdi;refine Av (Aa (Aw (Az (Ad (Bo R U Dh Cj U U (by omega) (by omega) (by rfl) ?_)))));refine Cn _ U EW Cj U U (((R.ext' H.ext fun _=>hnb hne).row hdi U)) ?_;refine AZ U Et H ?_;rintro b7 w - H;refine Bn U Cj U U U (by exact CY _) H at0 U ?_;rintro w H;refine Ab (Aa (Ad (Ah U PV U (AE U Bw U H at0 U (Af U U (Bj U U U (Ab (Aa (Aq _ U ?_ ?_)))))))))
   ·intro h2;replace h2:=AM h2;obtain ⟨hs3,hs4⟩:=hs2 (by omega);have hl4:(Ho ds u (i+1)).length=(Ho ds u i).length+1:=by rw [hs4,List.length_append,List.length_singleton]
    refine Ad (A4 U U (Ah U Gh U (AE U B2 U H at0 U (Ci _ (.int _ _) U Br Bi N4 U (by decide) (by decide) U U U H ?_))));rintro b22 w - H;refine CJ (L:=[_,_]) U Br Br Bi Uu N4 U (by decide) U U H O U (by simp [Be]) (by omega) ?_;rintro a' c' full' w H O;refine A1 U U (Ab (Aa (Fq 6 Bq (by kernel_rfl) U U ?_)));refine B4 U U (AX U U (A2 U DA U (BP U EN U (by rintro _ rfl; exact ((H.drew.old (Aj hd1 _) hn))) ?_)));refine A2 U Gh U (BU U B2 U (by rintro _ rfl; exact H.drew) at0 U ?_);refine BK ?_;replace H:=H.drew;refine LD U Fb EZ U U H at1 hM ?_;rintro o2 w hM2 H;refine Ab (A6 (Aa (A0 (Ay U U U (by omega) (by omega) ?_))));refine Af U U (Ab (Aa ?_));rw [hs3] at hM2;exact ⟨⟨i+1,o2,a',c',full'⟩,rfl,⟨by dsimp only; rw [hl4]; rfl,rfl,trivial⟩,⟨by dsimp only; omega,hM2,by dsimp only; rw [hl4,hs4]; exact O,H.tail⟩,by dsimp only; omega⟩
   ·intro h2;replace h2:=AN h2;obtain ⟨hs3,hs4⟩:=hs1 (by omega);refine Av (A6 (Aa (A0 (Ay U U U (by omega) (by omega) ?_))));refine Af U U (Ab (Aa ?_));exact ⟨⟨i+1,o,a,c,full⟩,rfl,⟨by dsimp only; rw [hs4]; rfl,rfl,trivial⟩,⟨by dsimp only; omega,by dsimp only; rw [hs3]; exact hM,by dsimp only; rw [hs4]; exact O,H.tail⟩,by dsimp only; omega⟩
  ·intro h1;replace h1:=AN h1;obtain rfl:i=ds.length:=by omega
   obtain ⟨g1,g2⟩:=Zr ds u;rw [g2] at hM;refine Bt (Am (Am (AK (Aa (Ad (A4 U U (A1 U U (Ab (Aa (A5 (AA (v:=(.slice _ _ _)) U U U ?_)))))))))));exact ⟨o,hM,⟨(hx9.mono (by simp)).trans H.ext,fun y hy=>H.blk y (List.mem_cons.2 (.inl (List.mem_singleton.1 hy))),by simp,fun y hy=>by rw [List.mem_singleton.1 hy]; exact .inl (List.mem_singleton.2 rfl)⟩,a,c,by rw [g1]⟩
end Go.Proofs.YtdagmpmdcgedcaaGreat

/- The dues: Add, with each error. -/
namespace Go.Proofs.YtdagmpmdcgedcaaGreat
open Go.GV
attribute [local irreducible] AB W Wq Wt

set_option maxRecDepth 20000 in
set_option maxHeartbeats 4000000 in
theorem Zs {bd b:Nat} {nx:Int} {o:Obj} {ds:List Du} (fr to x we un:Int) (w:World) (hd:w.heap[bd]? = some (Bl 165 (DU b nx))) (hb:w.heap[b]? = some o) (hM:CL .u64 (dm ds) o) (hbd:bd≠b) (hof:ofC ds nx=0) :
  Ret Tryz.prog 107 #[ptr bd,.int .i64 fr,.int .i64 to,.int .i64 x,.int .i64 we,.int .i64 un] w fun v w'=>v = .tuple #[.int .u64 (if IP ds nx fr to x we un=0 then nx else 0),.int .i64 (IP ds nx fr to x we un)] ∧
   ∃ o',CL .u64 (dm (LS ds nx fr to x we un)) o'∧Ctx w [bd,b] w' [(bd,Bl 165 (DU b (NU ds nx fr to x we un))),(b,o')]:=by
 obtain ⟨w0,rfl⟩:∃ w0,w0=w:=⟨_,rfl⟩
 have H:Ctx w0 [bd,b] w0 [(bd,Bl 165 (DU b nx)),(b,o)]:=⟨Ext.refl _ _,fun y hy=>by
  simp only [List.mem_cons,List.not_mem_nil,or_false] at hy
  rcases hy with rfl | rfl
  ·exact hd
  ·exact hb,by simp only [List.pairwise_cons,List.mem_singleton,forall_eq,List.not_mem_nil,false_implies,implies_true,List.Pairwise.nil,and_true]; exact hbd,fun y hy=>by
  simp only [List.mem_cons,List.not_mem_nil,or_false] at hy
  rcases hy with rfl | rfl
  ·exact .inl (List.mem_cons_self ..)
  ·exact .inl (List.mem_cons_of_mem _ (List.mem_cons_self ..))⟩
 obtain ⟨hlen,hnx,-,-⟩:=FO hof;have hnew:∀ x∈ds,x.id≠nx:=fun x hx=>Int.ne_of_lt ((GK hof).1 x hx).2.2;have hdl:(dm ds).length=ds.length:=by unfold dm; rw [List.length_map]
 have hno:DZ (dm ds) nx=none:=Pc hnew;obtain ⟨d,hdd⟩:∃ d,d=YW nx fr to x we un:=⟨_,rfl⟩;obtain ⟨tt,htt⟩:∃ tt,tt=E8 (ds.map Du.am++[x]):=⟨_,rfl⟩;have henc:[Value.int .u64 nx,.int .i64 fr,.int .i64 to,.int .i64 x,.int .i64 we,.int .i64 un,.bool false]=CO d:=by rw [hdd]; rfl
 have hadd:IP ds nx fr to x we un=if DT d=false then 1 else if 64≤ds.length∨4611686018427387904≤nx then 6 else if tt.2≠0 then 13 else 0:=by rw [htt,hdd]; rfl
 have herr:∀ c,c≠0→IP ds nx fr to x we un=c→LS ds nx fr to x we un=ds∧NU ds nx fr to x we un=nx:=fun c h0 hc=>CH (by rw [hc]; exact h0);refine Au (fn:=Tryz.f107) Tryz.func107 U [.pointer (some ⟨bd,0,none⟩),.int .i64 fr,.int .i64 to,.int .i64 x,.int .i64 we,.int .i64 un] U (by kernel_rfl) ?_;refine Ad (Ae U U (Ae U U (Ab (Aa (Aw (Ad (A3 U U (Cq U I9 U ?_))))))));refine Ab (Aa (Aq _ U ?_ ?_))
 ·intro h0;cases h0
 ·intro h0;refine Av (Aa (Ad (A3 U U (A8 U U (Ah U KO U (AE U B2 U H at0 U (Af U U (Af U U (Af U U (Af U U ?_))))))))));refine Af U U (B7 (CO d) U pl_67 Et (by rw [← henc]; kernel_rfl) ?_);refine AZ U Et H ?_;rintro b14 w - H;refine Bn U Cj U U U (by exact CY d) H at0 U ?_;rintro w H;refine Ab (Aa (Aw (Az (Ad (Ce U EW Cj U H at0 U (Al U Xr (UR d _) U ?_))))));rintro v w ⟨rfl,hx31⟩;replace H:=H.call hx31;refine BG U U (Ai U U (Ab (Aa (Aq _ U ?_ ?_))))
  ·intro h1;replace h1:=BD h1
   have hm:DT d=false:=by cases hh:DT d with | false=>rfl | true=>rw [hh] at h1; cases h1
   have hc:IP ds nx fr to x we un=1:=by rw [hadd,if_pos hm]
   obtain ⟨hc1,hc2⟩:=herr 1 (by decide) hc;refine Ad (Ae U U (Ae U U (Ab (Aa (A5 (A9 (Ao (BR (v1:=(.int _ _)) (v2:=(.int _ _)) U U U U ?_))))))));rw [hc,hc1,hc2,if_neg (by decide)];exact ⟨rfl,o,hM,H.tail⟩
  ·intro h1;replace h1:=BE h1
   have hm:DT d=true:=by cases hh:DT d with | true=>rfl | false=>rw [hh] at h1; cases h1
   rw [hm] at hadd;rw [if_neg (by decide)] at hadd;refine Aw (Ad (A3 U U (A8 U U (Ah U DA U (AE U EN U H at1 U (Abd U Fb U (H.get at2) hM ?_))))));rw [hdl];refine C3 U U U (Ai U U (Ab (Aa (Db 33 U ?_ ?_))))
   ·intro h2;replace h2:=AM h2;have hc:IP ds nx fr to x we un=6:=by rw [hadd,if_pos (.inl (by omega))]
    obtain ⟨hc1,hc2⟩:=herr 6 (by decide) hc;refine Av (Aa (D3 U (Ad (Ae U U (Ae U U (Ab (Aa (A5 (A9 (Ao (BR (v1:=(.int _ _)) (v2:=(.int _ _)) U U U U ?_)))))))))));rw [hc,hc1,hc2,if_neg (by decide)];exact ⟨rfl,o,hM,H.tail⟩
   ·intro h2;replace h2:=AN h2;refine A0 (A3 U U (A8 U U (Ah U KO U (AE U B2 U H at1 U (C3 U U U (Ai U U (Ab (Aa (Db 33 U ?_ ?_)))))))))
    ·intro h3;replace h3:=AM h3;have hc:IP ds nx fr to x we un=6:=by rw [hadd,if_pos (.inr (by omega))]
     obtain ⟨hc1,hc2⟩:=herr 6 (by decide) hc;refine Ad (Ae U U (Ae U U (Ab (Aa (A5 (A9 (Ao (BR (v1:=(.int _ _)) (v2:=(.int _ _)) U U U U ?_))))))));rw [hc,hc1,hc2,if_neg (by decide)];exact ⟨rfl,o,hM,H.tail⟩
    ·intro h3;replace h3:=AN h3;rw [if_neg (by omega)] at hadd;refine Av (A6 (Aa (Aw (Ad (A3 U U (Al U Xs (NM _ (H.get at1) (H.get at2) hM (by omega)) U ?_))))));rintro v w ⟨l,hlp,F⟩;obtain ⟨a3,n3,c3,f3,rfl,O3,hb3⟩:=F.ex;have hl3:=O3.llen;rw [List.length_map] at hl3;have hlq:=hlp.length_eq;rw [List.length_map] at hlq;replace H:Ctx w0 [bd,b] w ([(b14,Bl 67 (CO d)),(bd,Bl 165 (DU b nx)),(b,o)]++ent a3 2 f3):=H.callEnt F.ext hb3 F9;refine Af U U (Ci _ (.int _ _) U AR Bx Eb U (by decide) (by decide) U U U H ?_);rintro b49 w - H;refine CJ (L:=[_,_,_]) U AR AR Bx Kl Eb U (by decide) U U H O3 U (by simp [Be]) (by omega) ?_;rintro a' c' full' w H O;refine Al U Nw (Li a' (n3+1) c' (l++[x]) _ (OS.rd1 (f:=Dq) (t:=2) (xs:=l++[x]) (by rw [List.map_append]; exact O) (fun y hy=>H.blk y (List.mem_append_right [_,_,_] hy))) (by rw [List.length_append]; show l.length+1=_; omega) (by omega)) U ?_
     rintro v w ⟨rfl,rfl⟩;rw [Pb (hlp.append_right [x])];rw [← htt];refine C0 U U (AO U U U (AO U U U (Ae U U (Ae U U (Ab (Aa (Ad (Af U U (CI U U U (Ab (Aa ?_)))))))))));refine Aq _ U ?_ ?_
     ·intro h4;replace h4:=CE h4
      have ht13:tt.2=13:=by
       rw [htt] at h4 ⊢;have hxm:=C9.2 (show 0≤x∧x≤4503599627370496 by obtain ⟨-,-,-,hxa,-⟩:=D7 hm; rw [hdd] at hxa; change 1≤x∧x≤_ at hxa; exact ⟨by omega,hxa.2⟩)
       have hall:(ds.map Du.am++[x]).all CQ=true:=by
        rw [List.all_append,Bool.and_eq_true];refine ⟨List.all_eq_true.2 fun y hy=>?_,by simpa using hxm⟩;exact (Dd.1 (EU.1 hof).2.2.2).1 y hy
       unfold E8 at h4 ⊢;rw [if_neg (by rw [hall]; decide)] at h4 ⊢
       split at h4
       ·exact absurd U h4
       ·rename_i hh; rw [if_neg hh]
      have hc:IP ds nx fr to x we un=13:=by rw [hadd,if_pos (by rw [ht13]; decide)]
      obtain ⟨hc1,hc2⟩:=herr 13 (by decide) hc;refine Ad (Af U U (Ae U U (Ae U U (Ab (Aa (A5 (Ao (BR (v1:=(.int _ _)) (v2:=(.int _ _)) U U U U ?_))))))));rw [hc,hc1,hc2,if_neg (by decide),ht13];exact ⟨rfl,o,hM,H.left.tail⟩
     ·intro h4;replace h4:=CF h4;have hc:IP ds nx fr to x we un=0:=by rw [hadd,if_neg (by omega)]
      replace H:=H.left;refine Av (Aa (DM 7 Bq (by kernel_rfl) U U ?_));refine B4 U U (AX U U (A2 U DA U (BU U EN U (by rintro _ rfl; exact H.drew) at1 U ?_)));refine A2 U Gh U (BU U B2 U (by rintro _ rfl; exact H.drew) at0 U ?_);refine Nd U EW Cj U (by rintro _ rfl; exact H.drew) at0 U ?_;refine BK ?_;replace H:=H.drew;refine Ix (FN d) U Fb EZ U U U H at2 hM ?_;rintro o2 w hM2 H;refine Ab (Aa (Ad (A3 U U (A8 U U (Ah U KO U (AE U B2 U H at1 U (EK U U U (by omega) (by omega) ?_)))))));refine A8 U U (Ah U KO U (Cg (.int _ _) U Bi U U U H at1 (by (simp; done)) ?_));rintro w H;refine Ab (Aa (Ad (Ah U Gh U (AE U B2 U H at0 U (Ae U U (Ae U U (Ab (Aa (A5 (BR (v1:=(.int _ _)) (v2:=(.int _ _)) U U U U ?_))))))))));have hid:d.id=nx:=by rw [hdd]; rfl
      rw [← hid] at hno;rw [YG hno] at hM2;unfold LS NU;rw [hc,if_pos rfl,if_pos rfl,if_pos rfl];rw [hdd] at hM2 ⊢;exact ⟨rfl,o2,hM2,H.tail⟩
end Go.Proofs.YtdagmpmdcgedcaaGreat

/- Things that touch other banks, or other dues, do not mind which comes first: plain words. -/
namespace Go.Proofs.YtdagmpmdcgedcaaGreat
open Go.GV

def newA (kd:Int) (a:Ac) (x:Int):Ac:=if kd=2 then ⟨a.ba+x,a.re⟩ else if kd=3 then ⟨a.ba - x,a.re⟩ else ⟨a.ba,x⟩
def bankC (kd:Int) (acs:List Ac) (k x:Int):Int:=if kd=2 then FU acs k x else if kd=3 then F6 acs k x else Ls acs k x
def bankA (kd:Int) (acs:List Ac) (k x:Int):List Ac:=if kd=2 then EA acs k x else if kd=3 then Ev acs k x else G4 acs k x
/-- The code, if it is not that all together would be too much. -/
def liteC (kd:Int) (is:Bool) (a:Ac) (x:Int):Int :=
 if is=false then 10
 else if kd=2 then (if (decide (0<x) && CQ x)=false then 1 else 0)
 else if kd=3 then (if (decide (0<x) && CQ x)=false then 1 else if a.ba<x then 12 else 0)
 else if CQ x=false then 1 else 0
end Go.Proofs.YtdagmpmdcgedcaaGreat

/- Rounds one behind the other, and days: plain words. -/
namespace Go.Proofs.YtdagmpmdcgedcaaGreat
open Go.GV

end Go.Proofs.YtdagmpmdcgedcaaGreat

/- Nets that are the same; whether a round is one of now, as the reference has it. -/
namespace Go.Proofs.YtdagmpmdcgedcaaGreat
open Go.GV
attribute [local irreducible] AB W Wq Wt

def Ps (N M:Int) (xs ys:List Ed):Bool:=decide (N=M) && decide (xs=ys)
set_option maxRecDepth 20000 in
set_option maxHeartbeats 2000000 in
theorem Ua (N M:Int) (a b:Option Addr) (n c m d:Nat) (xs ys:List Ed) (w:World) (R:Rd w a 4 C4 xs) (hn:xs.length=n) (hn2:n≤1000000) (Ry:Rd w b 4 C4 ys) (hm:ys.length=m) (hm2:m≤1000000) :
  Ret Tryz.prog 188 #[DG N a n c,DG M b m d] w fun v w'=>v = .bool (Ps N M xs ys)∧Ext [] w w':=by
 subst hn hm;obtain ⟨w0,rfl⟩:∃ w0,w0=w:=⟨_,rfl⟩;have H:=Ctx.start w0 [];refine Au (fn:=Tryz.f188) Tryz.func188 U [DG N a xs.length c,DG M b ys.length d] U (by kernel_rfl) ?_;refine Ad (Bu U [.int .i64 N,.slice a xs.length c] (.agg _) U U H ?_);rintro b2 w - H;refine Bu U [.int .i64 M,.slice b ys.length d] (.agg _) U U H ?_;rintro b3 w - H;refine Ai U U (Ab (Aa (Aw (Ad (Cw (α:=Unit) 1048512 (fun _=>[(19,.bool (!(decide (N=M) && decide (xs.length=ys.length))))]) (fun _ w'=>Ctx w0 [] w' [(b3,Bl 51 [.int .i64 M,.slice b ys.length d]),(b2,Bl 51 [.int .i64 N,.slice a xs.length c])]) U ?_ ?_)))))
 ·refine Ah U Ex U (AE U BS U H at1 U (Ah U Ex U (AE U BS U H at0 U (CI U U U (A7 U U (AV 11 U ?_ ?_))))))
  ·intro h1;replace h1:=CE h1;refine Ag U (Ag U (Ag U (Ag U (Ag U (Ag U (Ag U (AG U U (.bool _) U (Ab ?_))))))));exact ⟨rfl,(),rfl,⟨congrArg Value.bool (by rw [Bool.eq_iff_iff]; simp_all; try omega),trivial⟩,H⟩
  ·intro h2;replace h2:=CF h2;refine Ah U CN U (AE U Ei U H at1 U (Bf U CW U (Ah U CN U (AE U Ei U H at0 U (Bf U CW U (CI U U U (AJ U U (.bool _) U (Ab ?_))))))));exact ⟨rfl,(),rfl,⟨congrArg Value.bool (by rw [Bool.eq_iff_iff]; simp_all; try omega),trivial⟩,H⟩
 rintro - j19 w H;refine Aq _ U ?_ ?_
 ·intro h1;replace h1:=BD h1;refine Ad (Ai U U (Ab (Aa (A5 (Ao (AA (v:=(.bool _)) U U U ?_))))));have h1':¬ (N=M∧xs.length=ys.length):=by simpa using h1
  refine ⟨congrArg Value.bool ?_,H.ext⟩;unfold Ps
  by_cases h2:N=M
  ·rw [decide_eq_true h2,decide_eq_false (fun h=>h1' ⟨h2,by rw [h]⟩)]; rfl
  ·rw [decide_eq_false h2]; rfl
 ·intro h1;replace h1:=BE h1;have h1':N=M∧xs.length=ys.length:=by simpa using h1
  have hsb:Ps N M xs ys=decide (xs=ys):=by unfold Ps; rw [decide_eq_true h1'.1]; rfl
  have hle:=h1'.2;rw [hsb];refine Av (Aa (Aw (Ad (Ae U U (Ab (Aa (Az (Bv 274876858416 (α:=Nat) (fun i=>[(5,.int .i64 (i:Int))]) (fun i w'=>i≤xs.length∧Ctx w0 [] w' [(b3,Bl 51 [.int .i64 M,.slice b ys.length d]),(b2,Bl 51 [.int .i64 N,.slice a xs.length c])]∧∀ (k:Nat) (x y:Ed),k<i→xs[k]? = some x→ys[k]? = some y→x=y) (fun i=>xs.length - i) 0 U ?_ ?_ ?_))))))))
  ·exact ⟨rfl,trivial⟩
  ·exact ⟨Nat.zero_le _,H,fun k x y h=>absurd h (Nat.not_lt_zero _)⟩
  ·clear H;rintro i j w ⟨hi,H,hb⟩;refine Aw (Ad (Af U U (Ah U CN U (AE U Ei U H at1 U (Bf U CW U (Bj U U U (Ab (Aa (Aq _ U ?_ ?_)))))))))
   ·intro h2;replace h2:=AM h2;obtain ⟨x,hx⟩:=AD (l:=xs) (i:=i) (by omega);obtain ⟨y,hy⟩:=AD (l:=ys) (i:=i) (by omega);refine Av (Aa (Aw (Az (Dx (fun x=>x=_) Bq (by kernel_rfl) U ?_))));refine A2 U CN U (BU U Ei U (by rintro _ rfl; exact H.drew) at1 U ?_);refine AU U U (BM R U CW CX U U (by omega) (by omega) (by rfl) ?_);refine FT _ U Ib CX U U (by rintro _ rfl; exact ((R.ext0 H.drew.ext).row hx rfl)) ?_;refine A2 U CN U (BU U Ei U (by rintro _ rfl; exact H.drew) at0 U ?_);refine AU U U (BM Ry U CW CX U U (by omega) (by omega) (by rfl) ?_);refine FT _ U Ib CX U U (by rintro _ rfl; exact ((Ry.ext0 H.drew.ext).row hy rfl)) ?_;refine Us (ks:=[true,true,true,true]) (xs:=C4 x) (ys:=C4 y) (decide (x=y)) U (by kernel_rfl) U U ⟨rfl,rfl,rfl,rfl,trivial⟩ (RV x y) ?_;refine BK ?_;rintro _ rfl;replace H:=H.drew;refine Aq _ U ?_ ?_
    ·intro h3;refine Ad (Ai U U (Ab (Aa (A5 (A9 (Ao (Ao (A9 (Ao (AA (v:=(.bool _)) U U U ?_))))))))));have hne:¬ x=y:=by simpa using h3
     exact ⟨congrArg Value.bool (decide_eq_false fun h=>by subst h; rw [hx] at hy; injection hy with hy; exact hne hy).symm,H.ext⟩
    ·intro h3;refine Av (A6 (Aa (A0 (Af U U (Ay U U U (by omega) (by omega) ?_)))));refine Ae U U (Ab (Aa ?_));have heq:x=y:=by simpa using h3
     refine ⟨i+1,rfl,⟨rfl,trivial⟩,⟨by omega,H,fun k x' y' hk hx' hy'=>?_⟩,by omega⟩
     rcases Nat.lt_or_ge k i with h7 | h7
     ·exact hb k x' y' h7 hx' hy'
     ·obtain rfl:k=i:=by omega
      rw [hx] at hx'; rw [hy] at hy';cases hx'; cases hy';exact heq
   ·intro h2;replace h2:=AN h2;refine Bt (Am (Am (AK (Aa (Ad (Ai U U (Ab (Aa (A5 (AA (v:=(.bool _)) U U U ?_))))))))));have hin:i=xs.length:=by omega
    rw [hin] at hb;exact ⟨congrArg Value.bool (decide_eq_true (Ll hle hb)).symm,H.ext⟩
/-- Dues of the reference, to be read. -/
def RdAt (w:World) (br:Nat) (ds:List Du):Prop:=∃ a c nx,w.heap[br]? = some (Bl 148 [.slice a ds.length c,.int .u64 nx])∧Rd w a 7 CO ds
theorem RdAt.ext0 {w w':World} {br:Nat} {ds:List Du} (h:RdAt w br ds) (he:Ext [] w w'):RdAt w' br ds:=by
 obtain ⟨a,c,nx,h1,h2⟩:=h;exact ⟨a,c,nx,he.to h1 (by simp),h2.ext0 he⟩
end Go.Proofs.YtdagmpmdcgedcaaGreat

/- A round, applied as the reference has it. -/
namespace Go.Proofs.YtdagmpmdcgedcaaGreat
open Go.GV
attribute [local irreducible] AB W Wq Wt

abbrev RDU (ad:Option Addr) (m cd:Nat) (nx:Int):Obj:=Bl 148 [.slice ad m cd,.int .u64 nx]
abbrev RX (ba:Nat) (a:Option Addr) (n c:Nat) (full:List Value) (br:Nat) (ad:Option Addr) (m cd:Nat) (nx:Int) (fd:List Value):List (Nat × Obj):=(ba,Bl 125 [.slice a n c])::(br,RDU ad m cd nx)::(ent ad 67 fd++ent a 43 full)
structure RP7 where
 i:Nat
 ad:Option Addr
 cd:Nat
 fd:List Value
end Go.Proofs.YtdagmpmdcgedcaaGreat

/- Accounts and dues, of the program's and of the reference: what the laws begin with. -/
namespace Go.Proofs.YtdagmpmdcgedcaaGreat
open Go.GV
attribute [local irreducible] AB W Wq Wt

/-- Accounts and dues, twice. -/
structure Four where
 bx:Nat
 a:Option Addr
 c:Nat
 full:List Value
 bd:Nat
 b:Nat
 o:Obj
 ba:Nat
 ra:Option Addr
 rc:Nat
 rfull:List Value
 br:Nat
 ad:Option Addr
 cd:Nat
 fd:List Value
def Four.L (z:Four) (acs:List Ac) (ds:List Du) (nx:Int):List (Nat × Obj):=LX z.bx z.a acs.length z.c z.full z.bd z.b nx z.o++RX z.ba z.ra acs.length z.rc z.rfull z.br z.ad ds.length z.cd nx z.fd
structure Four.Ok (z:Four) (acs:List Ac) (ds:List Du):Prop where
 O:OS z.a acs.length z.c 2 z.full (acs.flatMap CP)
 M:CL .u64 (dm ds) z.o
 RO:OS z.ra acs.length z.rc 2 z.rfull (acs.flatMap CP)
 RD:OS z.ad ds.length z.cd 7 z.fd (ds.flatMap CO)
def Acy (acs:List Ac) (ds:List Du) (nx:Int):Bool:=decide (ED acs=0) && decide (ofC ds nx=0)
def BothRes (w:World) (acs:List Ac) (ds:List Du) (nx:Int) (v:Value) (w':World):Prop :=
 (Acy acs ds nx=false∧v = .tuple #[.pointer none,.pointer none,.pointer none,.pointer none,.bool false]∧Ext [] w w') ∨
  (Acy acs ds nx=true∧∃ z:Four,v = .tuple #[ptr z.bx,ptr z.bd,ptr z.ba,ptr z.br,.bool true]∧z.Ok acs ds∧Ctx w [] w' (z.L acs ds nx))
end Go.Proofs.YtdagmpmdcgedcaaGreat

/- Plans and rounds among what else one holds; the chapter's example. -/
namespace Go.Proofs.YtdagmpmdcgedcaaGreat
open Go.GV
attribute [local irreducible] AB W Wq Wt

theorem Ub {α:Type} (B L R:List α):(B++(L++R)).Perm (L++(B++R)):=by
 classical exact List.perm_iff_count.2 fun x=>by simp only [List.count_append]; omega
theorem Ctx.mid {w0 w w':World} {S:List Nat} {B L L' R:List (Nat × Obj)} (H:Ctx w0 S w (B++(L++R))) (H':Ctx w (L.map (·.1)) w' L'):Ctx w0 S w' (B++(L'++R)) :=
 (Ctx.back (H.perm (Ub B L R)) H').perm (Ub B L' R).symm
theorem Ctx.in' {w0 w:World} {S:List Nat} {B L R:List (Nat × Obj)} (H:Ctx w0 S w (B++(L++R))):Ctx w (L.map (·.1)) w L:=Ctx.lend (H.perm (Ub B L R))
theorem LX.ac {bx:Nat} {a:Option Addr} {c:Nat} {full:List Value} {bd b:Nat} {nx:Int} {o:Obj} {acs:List Ac} {w0 w:World} {S:List Nat} (H:Ctx w0 S w (LX bx a acs.length c full bd b nx o)) (O:OS a acs.length c 2 full (acs.flatMap CP)):AcAt w 162 bx acs :=
 ⟨a,c,H.get at0,OS.rd O (fun x hx=>H.blk x (List.mem_cons_of_mem _ (List.mem_cons_of_mem _ (List.mem_cons_of_mem _ hx)))) (fun _ _=>rfl) (by decide)⟩
theorem LX.du {bx:Nat} {a:Option Addr} {n c:Nat} {full:List Value} {bd b:Nat} {nx:Int} {o:Obj} {ds:List Du} {w0 w:World} {S:List Nat} (H:Ctx w0 S w (LX bx a n c full bd b nx o)) (hM:CL .u64 (dm ds) o):DuAt w bd ds :=
 ⟨b,nx,o,H.get at1,H.get at2,hM⟩
theorem RX.ac {ba:Nat} {a:Option Addr} {c:Nat} {full:List Value} {br:Nat} {ad:Option Addr} {m cd:Nat} {nx:Int} {fd:List Value} {acs:List Ac} {w0 w:World} {S:List Nat} (H:Ctx w0 S w (RX ba a acs.length c full br ad m cd nx fd)) (O:OS a acs.length c 2 full (acs.flatMap CP)):AcAt w 125 ba acs :=
 ⟨a,c,H.get at0,OS.rd O (fun x hx=>H.blk x (List.mem_cons_of_mem _ (List.mem_cons_of_mem _ (List.mem_append_right _ hx)))) (fun _ _=>rfl) (by decide)⟩
theorem RX.du {ba:Nat} {a:Option Addr} {n c:Nat} {full:List Value} {br:Nat} {ad:Option Addr} {cd:Nat} {nx:Int} {fd:List Value} {ds:List Du} {w0 w:World} {S:List Nat} (H:Ctx w0 S w (RX ba a n c full br ad ds.length cd nx fd)) (O:OS ad ds.length cd 7 fd (ds.flatMap CO)):RdAt w br ds :=
 ⟨ad,cd,nx,H.get at1,OS.rd O (fun x hx=>H.blk x (List.mem_cons_of_mem _ (List.mem_cons_of_mem _ (List.mem_append_left _ hx)))) (fun _ _=>rfl) (by decide)⟩
theorem ROff.old {w0 w:World} {S:List Nat} {L:List (Nat × Obj)} {q:RSl} {r:Rnd} (H:Ctx w0 S w L) (h:ROff q r (fun x=>x<w.heap.size)):ROff q r (·∈L.map (·.1)) :=
 h.mono fun x hx=>by
  obtain ⟨y,hy,rfl⟩:=List.mem_map.1 hx;exact Bb (H.blk y hy)
/-- Limits of a round that is held. -/
structure RBnd (r:Rnd):Prop where
 N:I64 r.N
 es:r.es.length≤1000000
 ids:r.ids.length≤1000000
 fl:r.fl.length≤1000000
 pot:r.pot.length≤1000000
theorem Zt {acs:List Ac} {ds:List Du} {net:Bool} {r:Rnd} (P:PlanR acs ds net r):RBnd r:=by
 obtain ⟨h1,h2,-⟩:=F5.1 P.chk;obtain ⟨g1,g2,g3,-⟩:=C8 (Ck (E4 h1).1).2.1;have g4:=(Ck (E4 h1).1).1;have g5:=(Kr h2).1;refine ⟨⟨by omega,by omega⟩,by omega,?_,by omega,by omega⟩;rw [P.ids,List.length_map];have:(opn ds).length≤r.es.length:=by rw [P.es,GJ]; omega
 omega
theorem W8 {bx bd b c:Nat} {a:Option Addr} {full:List Value} {o:Obj} {acs:List Ac} {ds:List Du} {nx:Int} {r:Rnd} {q:RSl} {w w0:World} {S:List Nat} {B R:List (Nat × Obj)} (ha:ED acs=0) (hd:ofC ds nx=0) (H:Ctx w0 S w (B++(LX bx a acs.length c full bd b nx o++R))) (O:OS a acs.length c 2 full (acs.flatMap CP)) (hM:CL .u64 (dm ds) o) (RA:RAt w r q) (hoff:ROff q r (·∈(LX bx a acs.length c full bd b nx o).map (·.1))) (hr:RBnd r) :
  Ret Tryz.prog 113 #[ptr bx,ptr bd,.agg (Bz r q).toArray] w fun v w'=>v = .int .i64 (E0 acs ds r)∧∃ full' o',OS a acs.length c 2 full' ((Ft acs ds r).flatMap CP)∧CL .u64 (dm (Ga acs ds r)) o' ∧
   Ext ((LX bx a acs.length c full bd b nx o).map (·.1)) w w'∧Ctx w0 S w' (B++(LX bx a acs.length c full' bd b nx o'++R)):=by
 refine Ret.mono (YS ha hd w (Ctx.in' H) O hM RA hoff hr.N hr.es hr.ids hr.fl hr.pot) fun v w' h=>?_;obtain ⟨h1,full',o',O',hM',H'⟩:=h;exact ⟨h1,full',o',O',hM',H'.ext,Ctx.mid H H'⟩
theorem Vl {a:Option Addr} {t:TypeId} {f g:List Value}:(ent a t f).map (·.1)=(ent a t g).map (·.1):=by cases a <;> rfl
/-! ### The example -/
abbrev xA0:List Ac:=[⟨5,0⟩,⟨0,0⟩]
abbrev xA1:List Ac:=[⟨0,0⟩,⟨5,0⟩]
abbrev xD0:List Du:=[⟨1,0,1,9,1,1,false⟩]
abbrev xD1:List Du:=[⟨1,0,1,4,1,1,false⟩]
abbrev xE0:List Ed:=[⟨0,1,9,-1⟩,⟨2,0,5,0⟩,⟨0,2,4503599627370496,0⟩,⟨2,1,0,0⟩,⟨1,2,4503599627370496,0⟩]
theorem Pt {l:List Int} (h:0<l.length):l.take 1=[flE l 0]:=by
 cases l with
 | nil=>exact absurd h (by decide)
 | cons x l=>rfl
end Go.Proofs.YtdagmpmdcgedcaaGreat

/- Where a ledger lies. -/
namespace Go.Proofs.YtdagmpmdcgedcaaGreat
open Go.GV
attribute [local irreducible] AB W Wq Wt

structure Lm where
 bl:Nat
 ba:Nat
 bd:Nat
 br:Nat
 b:Nat
 a:Option Addr
 c:Nat
 full:List Value
 o:Obj
 arch:List Value
abbrev LL (m:Lm) (s:Ld):List (Nat × Obj):=(m.bl,Bl 106 [ptr m.ba,ptr m.bd,ptr m.br,.int .i64 s.day])::(m.br,Bl 168 m.arch)::LX m.ba m.a s.acs.length m.c m.full m.bd m.b s.nx m.o
abbrev Di (m:Lm) (s:Ld):List Nat:=(LL m s).map fun x=>x.1
/-- A round that is kept, in its place. -/
def KIn (w:World) (arch:List Value) (r:Rnd) (T:Nat→Prop):Prop :=
 ∃ q,(∀ j v,(Bz r q)[j]? = some v→arch[(r.no % 4).toNat*8+j]? = some v)∧RAt w r q∧ROff q r T
/-- T: what may be turned by others, or by this ledger. -/
structure LdIn (w:World) (m:Lm) (s:Ld) (T:Nat→Prop):Prop where
 O:OS m.a s.acs.length m.c 2 m.full (s.acs.flatMap CP)
 M:CL .u64 (dm s.ds) m.o
 ok:s.Ok
 len:m.arch.length=34
 n:m.arch[32]? = some (.int .u64 s.rn.length)
 no:m.arch[33]? = some (.int .u64 s.no)
 kept:∀ r∈s.rn,KIn w m.arch r T
 own:∀ x∈Di m s,T x
 low:∀ x,T x→x<w.heap.size
abbrev Cd (k:Ak):List Value:=[.int .u8 k.kd,.int .i64 k.a,.int .i64 k.b,.int .i64 k.x,.int .i64 k.w,.int .i64 k.u,.int .u64 k.id]
theorem Ctx.acs7 {w0 w w':World} {S:List Nat} {P:List (Nat × Obj)} {a:Option Addr} {t:TypeId} {full full':List Value} (H:Ctx w0 S w (P++ent a t full)) (he:Ext ((ent a t full).map fun x=>x.1) w w') (hb:∀ x∈ent a t full',w'.heap[x.1]? = some x.2):Ctx w0 S w' (P++ent a t full'):=by
 have h1:Ctx w ((ent a t full).map fun x=>x.1) w' (ent a t full'):=⟨he,hb,F9,fun x hx => .inl (by
  rw [Vl (f:=full) (g:=full')]
  exact List.mem_map_of_mem (f:=fun x:Nat × Obj=>x.1) hx)⟩
 exact (Ctx.back H.comm h1).comm
/-- Nothing of the archive is turned. -/
theorem LdIn.turn {w w':World} {m m':Lm} {s s':Ld} {T:Nat→Prop} {S:List Nat} (I:LdIn w m s T) (he:Ext S w w') (hs:∀ x∈S,T x) (O:OS m'.a s'.acs.length m'.c 2 m'.full (s'.acs.flatMap CP)) (M:CL .u64 (dm s'.ds) m'.o) (ok:s'.Ok) (ha:m'.arch=m.arch) (hr:s'.rn=s.rn) (hn:s'.no=s.no) (hid:∀ x∈Di m' s',(T x∨w.heap.size≤x)∧x<w'.heap.size) :
  LdIn w' m' s' (fun x=>T x∨x∈Di m' s') where
 O:=O
 M:=M
 ok:=ok
 len:=by rw [ha]; exact I.len
 n:=by rw [ha,hr]; exact I.n
 no:=by rw [ha,hn]; exact I.no
 kept:=fun r h=>by
  rw [hr] at h;obtain ⟨q,h1,h2,h3⟩:=I.kept r h;rw [ha];exact ⟨q,h1,h2.ext he (h3.mono hs),(h3.or h2.lt).mono fun x hx=>hx.elim .inl fun hx=>(hid x hx).1⟩
 own:=fun x hx => .inr hx
 low:=fun x hx=>hx.elim (fun h=>Nat.lt_of_lt_of_le (I.low x h) he.size) fun h=>(hid x h).2
/-- What each function of the ledger answers, and what it leaves. -/
def FP (w:World) (m:Lm) (s:Ld) (T:Nat→Prop) (k:Ak) (v:Value) (w':World):Prop :=
 ∃ a n c full code l s' m',v = .tuple #[.slice a n c,.int .i64 code]∧OS a n c 1 full (l.map Dq)∧CR s k s' (rp l code)∧Ctx w (Di m s) w' (LL m' s'++ent a 2 full)∧(∀ x∈ent a 2 full,w.heap.size≤x.1)∧LdIn w' m' s' (fun x=>T x∨x∈Di m' s')∧m'.bl=m.bl
/-- As the ledger stands behind a step: the ids, and what lies there. -/
theorem D9 {w w1 w':World} {m m':Lm} {s s':Ld} {T:Nat→Prop} {k:Ak} {P:List (Nat × Obj)} {a:Option Addr} {n c:Nat} {code:Int} {l:List Int} (I:LdIn w m s T) (H:Ctx w (Di m s) w1 (P++LL m' s')) (F:Fresh w1 w' 2 1 (.slice a n c) (l.map Dq)) (hst:CR s k s' (rp l code))
  (O:OS m'.a s'.acs.length m'.c 2 m'.full (s'.acs.flatMap CP)) (M:CL .u64 (dm s'.ds) m'.o) (ok:s'.Ok) (ha:m'.arch=m.arch) (hr:s'.rn=s.rn) (hn:s'.no=s.no) (hbl:m'.bl=m.bl):FP w m s T k (.tuple #[.slice a n c,.int .i64 code]) w':=by
 obtain ⟨a',n',c',full,hv,OF,hb⟩:=F.ex;cases hv;have H1:Ctx w (Di m s) w1 (LL m' s'):=H.right;have H2:=H1.callEnt F.ext hb F9;refine ⟨a,n,c,full,code,l,s',m',rfl,OF,hst,H2,fun x hx=>Nat.le_trans H1.size (hb x hx).2,I.turn H2.ext I.own O M ok ha hr hn fun x hx=>?_,hbl⟩;obtain ⟨y,hy,rfl⟩:=List.mem_map.1 hx;exact ⟨(H1.own y hy).imp_left (I.own _),Bb (H2.left.blk y hy)⟩
end Go.Proofs.YtdagmpmdcgedcaaGreat

/- The ledger: has, fund, draw, reserve (printed by gen/genLeQ.py). -/
namespace Go.Proofs.YtdagmpmdcgedcaaGreat
open Go.GV
attribute [local irreducible] AB W Wq Wt

structure AkIn (k:Ak):Prop where
 kd:0≤k.kd∧k.kd≤255
 a:I64 k.a
 b:I64 k.b
 x:I64 k.x
 w:I64 k.w
 u:I64 k.u
 id:0≤k.id∧k.id≤18446744073709551615
theorem Gc {w0 w:World} {b:Nat} {t:TypeId} {l:List Value} {n:Nat} {L:List (Nat × Obj)} (H:Ctx w0 [] w ((b,Bl t l)::L)) (hn:l.length=n):Fresh w0 w t 1 (.slice (some ⟨b,0,none⟩) n n) l:=by
 subst hn;refine ⟨⟨some ⟨b,0,none⟩,l.length,l.length,l,rfl,⟨fun p hp=>?_,fun h=>?_,by rw [Nat.mul_one],Nat.le_refl _,by rw [Nat.mul_one,List.take_length]⟩,fun x hx=>?_⟩,H.ext⟩
 ·cases hp; rfl
 ·cases h
 ·rw [List.mem_singleton.1 hx];exact ⟨H.get at0,(H.own _ (List.mem_cons_self ..)).elim (fun h=>by cases h) id⟩
set_option maxRecDepth 20000 in
set_option maxHeartbeats 1000000 in
theorem MP {bl ba c:Nat} {v1 v2 v3:Value} {a:Option Addr} {acs:List Ac} (k e:Int) (w:World) (hl:w.heap[bl]? = some (Bl 106 [ptr ba,v1,v2,v3])) (hd:AcB ba a acs.length c w) (R:Rd w a 2 CP acs) (hn:acs.length≤1000000) :
  Ret Tryz.prog 103 #[ptr bl,.int .i64 k,.int .i64 e] w fun v w'=>∃ a' c',v = .tuple #[.slice a' 2 c',.int .i64 (if e=0∧inA acs k=false then 10 else e)]∧Fresh w w' 2 1 (.slice a' 2 c') ((Ol acs k).map Dq):=by
 obtain ⟨w0,rfl⟩:∃ w0,w0=w:=⟨_,rfl⟩;have H:=Ctx.start w0 [];refine Au (fn:=Tryz.f103) Tryz.func103 U [.pointer (some ⟨bl,0,none⟩),.int .i64 k,.int .i64 e] U (by kernel_rfl) ?_;refine Ad (A1 U U (Ae U U (Ab (Aa (Ad (A3 U U (A8 U U (Ah U FD U (Bd U Ic U ((H.old (Aj hl _) (by simp))) ?_)))))))));refine Af U U (Al U PJ (MO a _ c acs k _ (H.ext.to hd (by simp)) (R.ext0 H.ext) U hn) U ?_);rintro v w ⟨rfl,hx16⟩;replace H:=H.call hx16;refine C0 U U (AO U U U (AO U U U (AZ U IX H ?_)));rintro b8 w - H;refine Bn U Ek U U U (by simp [Be]) H at0 U ?_;rintro w H;refine Ai U U (Ab (Aa (Aw (Ad (Cw (α:=Unit) 33030144 (fun _=>[(24,.bool (decide (e=0) && !inA acs k))]) (fun _ w'=>Ctx w0 [] w' [(b8,Bl 43 (CP (Dg acs k)))]) U ?_ ?_)))))
 ·refine Af U U (Cz U U U (A7 U U (AV 21 U ?_ ?_)))
  ·intro h1;replace h1:=AM h1;refine A7 U U (BG U U (AG U U (.bool _) U (Ab ?_)));exact ⟨rfl,(),rfl,⟨congrArg Value.bool (by rw [Bool.eq_iff_iff]; simp_all; try omega),trivial⟩,H⟩
  ·intro h2;replace h2:=AN h2;refine Ag U (Ag U (AJ U U (.bool _) U (Ab ?_)));exact ⟨rfl,(),rfl,⟨congrArg Value.bool (by rw [Bool.eq_iff_iff]; simp_all; try omega),trivial⟩,H⟩
 rintro - j24 w H;refine Aq _ U ?_ ?_
 ·intro h1;rw [Bool.and_eq_true,decide_eq_true_eq,Bool.not_eq_true'] at h1;rw [if_pos h1];refine A0 (Ae U U (Ab (Aa (Ad (Ah U FH U (AE U Bw U H at0 U (Ah U MF U (AE U Bw U H at0 U (D4 [.int .i64 (Dg acs k).ba,.int .i64 (Dg acs k).re] U AR Bx Eb (by decide) (by decide) (by kernel_rfl) H ?_)))))))));rintro b29 w - H;refine Af U U (A1 U U (Ae U U (Ab (Aa (A5 (BR (v1:=(.slice _ _ _)) (v2:=(.int _ _)) U U U U ?_))))));exact ⟨_,_,rfl,Gc H rfl⟩
 ·intro h1;rw [if_neg (fun h=>by rw [h.2,decide_eq_true h.1] at h1; cases h1)];refine Av (Aa (Ad (Ah U FH U (AE U Bw U H at0 U (Ah U MF U (AE U Bw U H at0 U (D4 [.int .i64 (Dg acs k).ba,.int .i64 (Dg acs k).re] U AR Bx Eb (by decide) (by decide) (by kernel_rfl) H ?_)))))));rintro b29 w - H;refine Af U U (A1 U U (Ae U U (Ab (Aa (A5 (BR (v1:=(.slice _ _ _)) (v2:=(.int _ _)) U U U U ?_))))));exact ⟨_,_,rfl,Gc H rfl⟩
set_option maxRecDepth 20000 in
set_option maxHeartbeats 1000000 in
theorem Zu {m:Lm} {s:Ld} {T:Nat→Prop} {k:Ak} (hk:k.kd=2) (hin:AkIn k) (w:World) (I:LdIn w m s T) (H0:Ctx w (Di m s) w (LL m s)) :
  Ret Tryz.prog 55 #[ptr m.bl,.agg (Cd k).toArray] w (FP w m s T k):=by
 obtain ⟨w0,rfl⟩:∃ w0,w0=w:=⟨_,rfl⟩;obtain ⟨bl,ba,bd,br,b,a,c,full,o,arch⟩:=m;obtain ⟨S0,hS0⟩:∃ S,S=Di ⟨bl,ba,bd,br,b,a,c,full,o,arch⟩ s:=⟨_,rfl⟩;have H:Ctx w0 S0 w0 ((bl,Bl 106 [ptr ba,ptr bd,ptr br,.int .i64 s.day])::(br,Bl 168 arch)::(ba,Bl 162 [.slice a s.acs.length c])::(bd,Bl 165 (DU b s.nx))::(b,o)::ent a 43 full):=by rw [hS0]; exact H0
 have hn16:=(Ch.1 I.ok.ac).1;obtain ⟨hok,hlen,-⟩:=Vf I.ok.ac k.a k.x;have hoth:EI s k={ s with acs:=EA s.acs k.a k.x }:=by unfold EI; rw [if_neg (by omega),if_pos hk]
 have hokS:({ s with acs:=EA s.acs k.a k.x }:Ld).Ok:=by rw [← hoth]; exact IQ I.ok k hin.u.2
 have hstep:CR s k { s with acs:=EA s.acs k.a k.x } (rp (Ol (EA s.acs k.a k.x) k.a) (FU s.acs k.a k.x)):=by
  unfold CR;rw [if_neg (by omega)];exact ⟨hoth.symm,by unfold Fe; rw [if_neg (by omega),if_pos hk]⟩
 have hcode:(if FU s.acs k.a k.x=0∧inA (EA s.acs k.a k.x) k.a=false then 10 else FU s.acs k.a k.x)=FU s.acs k.a k.x:=by
  rw [if_neg];rintro ⟨h1,h2⟩
  rcases Kx s.acs k.a k.x with ⟨h3,-⟩ | ⟨-,h4,-⟩
  ·exact h3 h1
  ·have h5:inA (EA s.acs k.a k.x) k.a=inA s.acs k.a:=by unfold inA; rw [hlen]
   rw [h5,h4] at h2;cases h2
 refine Au (fn:=Tryz.f55) Tryz.func55 U [.pointer (some ⟨bl,0,none⟩),.agg (Cd k).toArray] U (by kernel_rfl) ?_;refine Ad (Bu U (Cd k) (.agg _) U U H ?_);rintro b3 w - H;refine A1 U U (Ae U U (Ab (Aa (Cv [([0,1,2,3,4,5,6,7,8,9,10],11),([],12),([13,14,15],16)] (fun z=>z.heap[b3]? = some (Bl 40 (Cd k))∧z.heap[bl]? = some (Bl 106 [ptr ba,ptr bd,ptr br,.int .i64 s.day])) [] Bq (by kernel_rfl) (⟨H.drew.get at0,H.drew.get at1⟩) ?_))));refine AH U U ?_;refine BQ U U (An U FG U (B0 U BS U (fun _ hx=>(by rw [Aj hx.1]; rfl)) ?_));refine BQ U U (Bg U U (An U FD U (B0 U Ic U (fun _ hx=>(by rw [Aj hx.2]; rfl)) ?_)));refine An U FG U (B0 U BS U (fun _ hx=>(by rw [Aj hx.1]; rfl)) ?_);refine An U ME U (B0 U Bw U (fun _ hx=>(by rw [Aj hx.1]; rfl)) ?_);refine AS ?_;replace H:=H.drew;refine Al U Adf (Zl _ (H.get at3) I.O (fun y hy=>H.blk y (List.mem_append_right [_,_,_,_,_,_] hy)) I.ok.ac) U ?_
 rintro v w ⟨rfl,full',O',hb',he'⟩;replace H:Ctx w0 S0 w ((b3,Bl 40 (Cd k))::(bl,Bl 106 [ptr ba,ptr bd,ptr br,.int .i64 s.day])::(br,Bl 168 arch)::(ba,Bl 162 [.slice a (EA s.acs k.a k.x).length c])::(bd,Bl 165 (DU b s.nx))::(b,o)::ent a 43 full'):=(by rw [hlen]; exact Ctx.acs7 (P:=[_,_,_,_,_,_]) H he' hb');replace O':OS a (EA s.acs k.a k.x).length c 2 full' ((EA s.acs k.a k.x).flatMap CP):=(by rw [hlen]; exact O');refine Ab (Cl (⟨H.get at0,H.get at1⟩) (AH U U ?_));refine AS (Al U PH (MP k.a _ _ (H.get at1) (H.get at3) (OS.rd (t:=43) O' (fun y hy=>H.blk y (List.mem_append_right [_,_,_,_,_,_] hy)) (fun _ _=>rfl) (by decide)) (by omega)) U ?_);rintro v w ⟨a',c',rfl,F⟩;rw [hcode];have H8:=H;replace H:=H.call F.ext;refine Ab (Cl (⟨H.get at0,H.get at1⟩) (AH U U ?_))
 refine Bs U U U (Bs U U U (DX U U (AS (Ae U U (Ab (Cl (⟨H.get at0,H.get at1⟩) (BJ (A5 (BR (v1:=(.slice _ _ _)) (v2:=(.int _ _)) U U U U ?_)))))))));subst hS0;exact D9 (P:=[_]) (m':=⟨bl,ba,bd,br,b,a,c,full',o,arch⟩) (s':={ s with acs:=EA s.acs k.a k.x }) I H8 F hstep O' I.M hokS U U U U
set_option maxRecDepth 20000 in
set_option maxHeartbeats 1000000 in
theorem Zv {m:Lm} {s:Ld} {T:Nat→Prop} {k:Ak} (hk:k.kd=3) (hin:AkIn k) (w:World) (I:LdIn w m s T) (H0:Ctx w (Di m s) w (LL m s)) :
  Ret Tryz.prog 56 #[ptr m.bl,.agg (Cd k).toArray] w (FP w m s T k):=by
 obtain ⟨w0,rfl⟩:∃ w0,w0=w:=⟨_,rfl⟩;obtain ⟨bl,ba,bd,br,b,a,c,full,o,arch⟩:=m;obtain ⟨S0,hS0⟩:∃ S,S=Di ⟨bl,ba,bd,br,b,a,c,full,o,arch⟩ s:=⟨_,rfl⟩;have H:Ctx w0 S0 w0 ((bl,Bl 106 [ptr ba,ptr bd,ptr br,.int .i64 s.day])::(br,Bl 168 arch)::(ba,Bl 162 [.slice a s.acs.length c])::(bd,Bl 165 (DU b s.nx))::(b,o)::ent a 43 full):=by rw [hS0]; exact H0
 have hn16:=(Ch.1 I.ok.ac).1;obtain ⟨hok,hlen,-⟩:=Vg I.ok.ac k.a k.x;have hoth:EI s k={ s with acs:=Ev s.acs k.a k.x }:=by unfold EI; rw [if_neg (by omega),if_neg (by omega),if_pos hk]
 have hokS:({ s with acs:=Ev s.acs k.a k.x }:Ld).Ok:=by rw [← hoth]; exact IQ I.ok k hin.u.2
 have hstep:CR s k { s with acs:=Ev s.acs k.a k.x } (rp (Ol (Ev s.acs k.a k.x) k.a) (F6 s.acs k.a k.x)):=by
  unfold CR;rw [if_neg (by omega)];exact ⟨hoth.symm,by unfold Fe; rw [if_neg (by omega),if_neg (by omega),if_pos hk]⟩
 have hcode:(if F6 s.acs k.a k.x=0∧inA (Ev s.acs k.a k.x) k.a=false then 10 else F6 s.acs k.a k.x)=F6 s.acs k.a k.x:=by
  rw [if_neg];rintro ⟨h1,h2⟩
  rcases Kz s.acs k.a k.x with ⟨h3,-⟩ | ⟨-,h4,-⟩
  ·exact h3 h1
  ·have h5:inA (Ev s.acs k.a k.x) k.a=inA s.acs k.a:=by unfold inA; rw [hlen]
   rw [h5,h4] at h2;cases h2
 refine Au (fn:=Tryz.f56) Tryz.func56 U [.pointer (some ⟨bl,0,none⟩),.agg (Cd k).toArray] U (by kernel_rfl) ?_;refine Ad (Bu U (Cd k) (.agg _) U U H ?_);rintro b3 w - H;refine A1 U U (Ae U U (Ab (Aa (Cv [([0,1,2,3,4,5,6,7,8,9,10],11),([],12),([13,14,15],16)] (fun z=>z.heap[b3]? = some (Bl 40 (Cd k))∧z.heap[bl]? = some (Bl 106 [ptr ba,ptr bd,ptr br,.int .i64 s.day])) [] Bq (by kernel_rfl) (⟨H.drew.get at0,H.drew.get at1⟩) ?_))));refine AH U U ?_;refine BQ U U (An U FG U (B0 U BS U (fun _ hx=>(by rw [Aj hx.1]; rfl)) ?_));refine BQ U U (Bg U U (An U FD U (B0 U Ic U (fun _ hx=>(by rw [Aj hx.2]; rfl)) ?_)));refine An U FG U (B0 U BS U (fun _ hx=>(by rw [Aj hx.1]; rfl)) ?_);refine An U ME U (B0 U Bw U (fun _ hx=>(by rw [Aj hx.1]; rfl)) ?_);refine AS ?_;replace H:=H.drew;refine Al U Adg (Zm _ (H.get at3) I.O (fun y hy=>H.blk y (List.mem_append_right [_,_,_,_,_,_] hy)) I.ok.ac) U ?_
 rintro v w ⟨rfl,full',O',hb',he'⟩;replace H:Ctx w0 S0 w ((b3,Bl 40 (Cd k))::(bl,Bl 106 [ptr ba,ptr bd,ptr br,.int .i64 s.day])::(br,Bl 168 arch)::(ba,Bl 162 [.slice a (Ev s.acs k.a k.x).length c])::(bd,Bl 165 (DU b s.nx))::(b,o)::ent a 43 full'):=(by rw [hlen]; exact Ctx.acs7 (P:=[_,_,_,_,_,_]) H he' hb');replace O':OS a (Ev s.acs k.a k.x).length c 2 full' ((Ev s.acs k.a k.x).flatMap CP):=(by rw [hlen]; exact O');refine Ab (Cl (⟨H.get at0,H.get at1⟩) (AH U U ?_));refine AS (Al U PH (MP k.a _ _ (H.get at1) (H.get at3) (OS.rd (t:=43) O' (fun y hy=>H.blk y (List.mem_append_right [_,_,_,_,_,_] hy)) (fun _ _=>rfl) (by decide)) (by omega)) U ?_);rintro v w ⟨a',c',rfl,F⟩;rw [hcode];have H8:=H;replace H:=H.call F.ext;refine Ab (Cl (⟨H.get at0,H.get at1⟩) (AH U U ?_))
 refine Bs U U U (Bs U U U (DX U U (AS (Ae U U (Ab (Cl (⟨H.get at0,H.get at1⟩) (BJ (A5 (BR (v1:=(.slice _ _ _)) (v2:=(.int _ _)) U U U U ?_)))))))));subst hS0;exact D9 (P:=[_]) (m':=⟨bl,ba,bd,br,b,a,c,full',o,arch⟩) (s':={ s with acs:=Ev s.acs k.a k.x }) I H8 F hstep O' I.M hokS U U U U
set_option maxRecDepth 20000 in
set_option maxHeartbeats 1000000 in
theorem Abr {m:Lm} {s:Ld} {T:Nat→Prop} {k:Ak} (hk:k.kd=4) (hin:AkIn k) (w:World) (I:LdIn w m s T) (H0:Ctx w (Di m s) w (LL m s)) :
  Ret Tryz.prog 57 #[ptr m.bl,.agg (Cd k).toArray] w (FP w m s T k):=by
 obtain ⟨w0,rfl⟩:∃ w0,w0=w:=⟨_,rfl⟩;obtain ⟨bl,ba,bd,br,b,a,c,full,o,arch⟩:=m;obtain ⟨S0,hS0⟩:∃ S,S=Di ⟨bl,ba,bd,br,b,a,c,full,o,arch⟩ s:=⟨_,rfl⟩;have H:Ctx w0 S0 w0 ((bl,Bl 106 [ptr ba,ptr bd,ptr br,.int .i64 s.day])::(br,Bl 168 arch)::(ba,Bl 162 [.slice a s.acs.length c])::(bd,Bl 165 (DU b s.nx))::(b,o)::ent a 43 full):=by rw [hS0]; exact H0
 have hn16:=(Ch.1 I.ok.ac).1;obtain ⟨hok,hlen,-⟩:=YU I.ok.ac k.a k.x;have hoth:EI s k={ s with acs:=G4 s.acs k.a k.x }:=by unfold EI; rw [if_neg (by omega),if_neg (by omega),if_neg (by omega),if_pos hk]
 have hokS:({ s with acs:=G4 s.acs k.a k.x }:Ld).Ok:=by rw [← hoth]; exact IQ I.ok k hin.u.2
 have hstep:CR s k { s with acs:=G4 s.acs k.a k.x } (rp (Ol (G4 s.acs k.a k.x) k.a) (Ls s.acs k.a k.x)):=by
  unfold CR;rw [if_neg (by omega)];exact ⟨hoth.symm,by unfold Fe; rw [if_neg (by omega),if_neg (by omega),if_neg (by omega),if_pos hk]⟩
 have hcode:(if Ls s.acs k.a k.x=0∧inA (G4 s.acs k.a k.x) k.a=false then 10 else Ls s.acs k.a k.x)=Ls s.acs k.a k.x:=by
  rw [if_neg];rintro ⟨h1,h2⟩
  rcases Pn s.acs k.a k.x with ⟨h3,-⟩ | ⟨-,h4,-⟩
  ·exact h3 h1
  ·have h5:inA (G4 s.acs k.a k.x) k.a=inA s.acs k.a:=by unfold inA; rw [hlen]
   rw [h5,h4] at h2;cases h2
 refine Au (fn:=Tryz.f57) Tryz.func57 U [.pointer (some ⟨bl,0,none⟩),.agg (Cd k).toArray] U (by kernel_rfl) ?_;refine Ad (Bu U (Cd k) (.agg _) U U H ?_);rintro b3 w - H;refine A1 U U (Ae U U (Ab (Aa (Cv [([0,1,2,3,4,5,6,7,8,9,10],11),([],12),([13,14,15],16)] (fun z=>z.heap[b3]? = some (Bl 40 (Cd k))∧z.heap[bl]? = some (Bl 106 [ptr ba,ptr bd,ptr br,.int .i64 s.day])) [] Bq (by kernel_rfl) (⟨H.drew.get at0,H.drew.get at1⟩) ?_))));refine AH U U ?_;refine BQ U U (An U FG U (B0 U BS U (fun _ hx=>(by rw [Aj hx.1]; rfl)) ?_));refine BQ U U (Bg U U (An U FD U (B0 U Ic U (fun _ hx=>(by rw [Aj hx.2]; rfl)) ?_)));refine An U FG U (B0 U BS U (fun _ hx=>(by rw [Aj hx.1]; rfl)) ?_);refine An U ME U (B0 U Bw U (fun _ hx=>(by rw [Aj hx.1]; rfl)) ?_);refine AS ?_;replace H:=H.drew;refine Al U Adh (Abo _ (H.get at3) I.O (fun y hy=>H.blk y (List.mem_append_right [_,_,_,_,_,_] hy)) I.ok.ac) U ?_
 rintro v w ⟨rfl,full',O',hb',he'⟩;replace H:Ctx w0 S0 w ((b3,Bl 40 (Cd k))::(bl,Bl 106 [ptr ba,ptr bd,ptr br,.int .i64 s.day])::(br,Bl 168 arch)::(ba,Bl 162 [.slice a (G4 s.acs k.a k.x).length c])::(bd,Bl 165 (DU b s.nx))::(b,o)::ent a 43 full'):=(by rw [hlen]; exact Ctx.acs7 (P:=[_,_,_,_,_,_]) H he' hb');replace O':OS a (G4 s.acs k.a k.x).length c 2 full' ((G4 s.acs k.a k.x).flatMap CP):=(by rw [hlen]; exact O');refine Ab (Cl (⟨H.get at0,H.get at1⟩) (AH U U ?_));refine AS (Al U PH (MP k.a _ _ (H.get at1) (H.get at3) (OS.rd (t:=43) O' (fun y hy=>H.blk y (List.mem_append_right [_,_,_,_,_,_] hy)) (fun _ _=>rfl) (by decide)) (by omega)) U ?_);rintro v w ⟨a',c',rfl,F⟩;rw [hcode];have H8:=H;replace H:=H.call F.ext;refine Ab (Cl (⟨H.get at0,H.get at1⟩) (AH U U ?_))
 refine Bs U U U (Bs U U U (DX U U (AS (Ae U U (Ab (Cl (⟨H.get at0,H.get at1⟩) (BJ (A5 (BR (v1:=(.slice _ _ _)) (v2:=(.int _ _)) U U U U ?_)))))))));subst hS0;exact D9 (P:=[_]) (m':=⟨bl,ba,bd,br,b,a,c,full',o,arch⟩) (s':={ s with acs:=G4 s.acs k.a k.x }) I H8 F hstep O' I.M hokS U U U U
end Go.Proofs.YtdagmpmdcgedcaaGreat
