/- Part 6 of the proof. -/
import Derived.Test.YtdagmpmdcgedcaaGreatPart2
import Derived.Test.YtdagmpmdcgedcaaGreatPart5
import Derived.Test.YtdagmpmdcgedcaaGreatPart4
import Derived.Test.YtdagmpmdcgedcaaGreatPart3
namespace Go.Proofs.YtdagmpmdcgedcaaGreat
open Go.GV
attribute [local irreducible] AB W Wq Wt
structure Slo where
 a:Option Addr
 n:Nat
 c:Nat
 full:List Value
def sloV (s:Slo):Value := .slice s.a s.n s.c
abbrev Ln (s:Slo):List (Nat × Obj):=ent s.a 299 s.full
abbrev Xp (nn:Nat) (st:Nat→Slo):List Value:=(List.range nn).map fun u=>sloV (st u)
structure OutR (w0 w:World) (oo nn:Nat) (g:Gr) (p:Nat→Int) (st:Nat→Slo) (sel:Nat→List Nat) (oth:Nat→Prop):Prop where
 tbl:w.heap[oo]? = some (Bl 300 (Xp nn st))
 os:∀ u,u<nn→OS (st u).a (st u).n (st u).c 4 (st u).full ((sel u).flatMap (GD g p))
 blk:∀ u,u<nn→∀ y∈Ln (st u),w.heap[y.1]? = some y.2∧w0.heap.size≤y.1∧¬ oth y.1∧y.1≠oo
 ne:∀ u v,u<nn→v<nn→u≠v→∀ y∈Ln (st u),∀ z∈Ln (st v),y.1≠z.1
def Pc (oo nn:Nat) (st:Nat→Slo):Mt:=fun x=>x=oo∨∃ u,u<nn∧∃ y∈Ln (st u),y.1=x
theorem OutR.keep {w0 w w':World} {oo nn:Nat} {g:Gr} {p:Nat→Int} {st:Nat→Slo} {sel:Nat→List Nat} {oth:Nat→Prop} (R:OutR w0 w oo nn g p st sel oth) {S:List Nat} (h:Ext S w w') (hS:∀ x∈S,¬ Pc oo nn st x):OutR w0 w' oo nn g p st sel oth :=
 ⟨h.to R.tbl fun hm=>hS _ hm (.inl rfl),R.os,fun u hu y hy=>⟨h.to (R.blk u hu y hy).1 fun hm=>hS _ hm (.inr ⟨u,hu,y,hy,rfl⟩),(R.blk u hu y hy).2⟩,R.ne⟩
def stS (st:Nat→Slo) (u:Nat) (s:Slo):Nat→Slo:=fun q=>if q=u then s else st q
theorem Hz (st:Nat→Slo) (u:Nat) (s:Slo):stS st u s u=s:=if_pos rfl
theorem Kf {st:Nat→Slo} {u:Nat} {s:Slo} {q:Nat} (h:q≠u):stS st u s q=st q:=if_neg h
theorem OutR.step {w0 w w':World} {oo nn:Nat} {g:Gr} {p:Nat→Int} {st:Nat→Slo} {sel sel':Nat→List Nat} {oth:Nat→Prop} (R:OutR w0 w oo nn g p st sel oth) {u:Nat} (hu:u<nn) {s:Slo} (hoth:∀ x,oth x→x<w.heap.size) (h0:w0.heap.size≤w.heap.size)
  (H:Ctx w ((oo::(Ln (st u)).map (·.1))) w' ((oo,Bl 300 (Xp nn (stS st u s)))::Ln s)) (O:OS s.a s.n s.c 4 s.full ((sel' u).flatMap (GD g p))) (hsel:∀ q,q≠u→sel' q=sel q) :
  OutR w0 w' oo nn g p (stS st u s) sel' oth∧∀ x,Pc oo nn (stS st u s) x→Pc oo nn st x∨w.heap.size≤x:=by
 have hlt:∀ q,q<nn→∀ y∈Ln (st q),y.1<w.heap.size:=fun q hq y hy=>Ba (R.blk q hq y hy).1;have hoo:=Ba R.tbl;have hnd:=(List.pairwise_cons.1 H.nd).1
 have hnew:∀ y∈Ln s,(∃ z∈Ln (st u),z.1=y.1)∨w.heap.size≤y.1:=fun y hy=>by
  rcases H.own y (List.mem_cons_of_mem _ hy) with h | h
  ·rcases List.mem_cons.1 h with h | h
   ·exact absurd h.symm (hnd y hy)
   ·obtain ⟨z,hz,he⟩:=List.mem_map.1 h;exact .inl ⟨z,hz,he⟩
  ·exact .inr h
 have hout:∀ q,q<nn→q≠u→∀ y∈Ln (st q),y.1∉oo::(Ln (st u)).map (·.1):=fun q hq hqu y hy hm=>by
  rcases List.mem_cons.1 hm with h | h
  ·exact (R.blk q hq y hy).2.2.2 h
  ·obtain ⟨z,hz,he⟩:=List.mem_map.1 h;exact R.ne q u hq hu hqu y hy z hz he.symm
 refine ⟨⟨H.get at0,fun q hq=>?_,fun q hq y hy=>?_,fun q v hq hv hqv y hy z hz=>?_⟩,fun x hx=>?_⟩
 ·by_cases e:q=u
  ·subst e; rw [Hz]; exact O
  ·rw [Kf e,hsel q e]; exact R.os q hq
 ·by_cases e:q=u
  ·subst e;rw [Hz] at hy;refine ⟨H.blk y (List.mem_cons_of_mem _ hy),?_,?_,fun h=>hnd y hy h.symm⟩
   ·rcases hnew y hy with ⟨z,hz,he⟩ | h
    ·rw [← he]; exact (R.blk q hq z hz).2.1
    ·omega
   ·rcases hnew y hy with ⟨z,hz,he⟩ | h
    ·rw [← he]; exact (R.blk q hq z hz).2.2.1
    ·exact fun ho=>by have:=hoth _ ho; omega
  ·rw [Kf e] at hy;obtain ⟨h1,h2,h3,h4⟩:=R.blk q hq y hy;exact ⟨H.ext.to h1 (hout q hq e y hy),h2,h3,h4⟩
 ·by_cases e:q=u
  ·subst e;rw [Hz] at hy;rw [Kf (Ne.symm hqv)] at hz
   rcases hnew y hy with ⟨t,ht,he⟩ | h
   ·rw [← he]; exact R.ne q v hq hv hqv t ht z hz
   ·have:=hlt v hv z hz; omega
  ·rw [Kf e] at hy
   by_cases e2:v=u
   ·subst e2;rw [Hz] at hz
    rcases hnew z hz with ⟨t,ht,he⟩ | h
    ·rw [← he]; exact R.ne q v hq hv hqv y hy t ht
    ·have:=hlt q hq y hy; omega
   ·rw [Kf e2] at hz;exact R.ne q v hq hv hqv y hy z hz
 ·rcases hx with h | ⟨q,hq,y,hy,rfl⟩
  ·exact .inl (.inl h)
  ·by_cases e:q=u
   ·subst e;rw [Hz] at hy
    rcases hnew y hy with ⟨t,ht,he⟩ | h
    ·exact .inl (.inr ⟨q,hq,t,ht,he⟩)
    ·exact .inr h
   ·rw [Kf e] at hy;exact .inl (.inr ⟨q,hq,y,hy,rfl⟩)
theorem OutR.ctx {w0 w:World} {oo nn:Nat} {g:Gr} {p:Nat→Int} {st:Nat→Slo} {sel:Nat→List Nat} {oth:Nat→Prop} (R:OutR w0 w oo nn g p st sel oth) {u:Nat} (hu:u<nn):Ctx w (oo::(Ln (st u)).map (·.1)) w ((oo,Bl 300 (Xp nn st))::Ln (st u)):=by
 refine ⟨.refl _ _,fun x hx=>?_,List.pairwise_cons.2 ⟨fun y hy h=>(R.blk u hu y hy).2.2.2 h.symm,FD⟩,fun x hx => .inl ?_⟩
 ·rcases List.mem_cons.1 hx with rfl | hx
  ·exact R.tbl
  ·exact (R.blk u hu x hx).1
 ·rcases List.mem_cons.1 hx with rfl | hx
  ·exact List.mem_cons_self ..
  ·exact List.mem_cons_of_mem _ (List.mem_map.2 ⟨x,hx,rfl⟩)
def IQ (g:Gr) (l:List Nat) (u:Nat):List Nat:=l.filter fun a=>decide (g.u a=u)
theorem Xq {g:Gr} {l:List Nat} {i a:Nat} (h:l[i]? = some a):IQ g (l.take (i+1)) (g.u a)=IQ g (l.take i) (g.u a)++[a]∧∀ q,q≠g.u a→IQ g (l.take (i+1)) q=IQ g (l.take i) q:=by
 unfold IQ;rw [Fj h];refine ⟨by rw [List.filter_append]; congr 1; rw [List.filter_cons,decide_eq_true rfl]; rfl,fun q hq=>?_⟩;rw [List.filter_append,List.filter_cons,decide_eq_false (Ne.symm hq)];simp
end Go.Proofs.YtdagmpmdcgedcaaGreat
namespace Go.Proofs.YtdagmpmdcgedcaaGreat
open Go.GV
theorem Ajo {g:Gr} {cap x p:Nat→Int} {src:List Nat} {n:Nat} {m:Int} {s:Lb} {by':Nat→Int} {all done:Nat→Prop} (D:Done (N0 g cap x p) src n m s) (hA:RQ (N0 g cap x p) n m) (B:BI g p s all done by') (hall:∀ a,all a→a<2*g.E∧0<CC cap x a) (hdone:∀ a,a<2*g.E→0<CC cap x a→done a) :
  Bys g cap x p s fun v=>if by' v = -1 then none else some (by' v).toNat:=by
 have hmem:∀ a,a<2*g.E→0<CC cap x a→(g.u a,g.v a,g.len p a)∈N0 g cap x p:=fun a h1 h2=>Ka.2 ⟨a,h1,h2,rfl⟩;refine ⟨fun v hv=>?_,fun v hd hh=>?_⟩
 ·dsimp only
  by_cases e:by' v = -1
  ·rw [if_pos e]
  ·exfalso
   rcases B.val v with h | ⟨a,_,ha,⟨h1,h2,h3,h4⟩,hva⟩
   ·exact e h
   ·obtain ⟨ha1,ha2⟩:=hall a ha;have hl:=(hA _ (hmem a ha1 ha2)).2.2.1;dsimp only at hl;rw [hva] at h2 h3
    rcases hv with hv | hv
    ·have:=D.J.low (g.u a);omega
    ·exact h2 hv
 ·obtain ⟨b,hb,hbv,hb1,hb2,hb3⟩:=D.pre v hd hh;obtain ⟨a,ha1,ha2,rfl⟩:=Ka.1 hb;dsimp only at hbv hb1 hb2 hb3;have hg:LU g p s a:=⟨hb1,by rw [hbv]; exact hh,by rw [hbv]; exact hb2,by rw [hbv]; exact hb3⟩;have hne:=B.in' a (hdone a ha1 ha2) hg;rw [hbv] at hne
  rcases B.val v with h | ⟨a',hby,ha',⟨h1,h2,h3,h4⟩,hva⟩
  ·exact absurd h hne
  ·obtain ⟨q1,q2⟩:=hall a' ha';refine ⟨a',by dsimp only; rw [if_neg hne,hby]; rfl,⟨q1,q2,h1,by rw [hva]; exact hd,h3,h4⟩,hva⟩
theorem Xr {n:Nat} {A:List Ar} {src:List Nat} {d:Int} (hA:∀ v,v<n→IP A v≤d) (_hd:0≤d:=by omega):psi n A (-1) (lb0 src) (Ju src)≤src.length+n*(d*(n+1)):=by
 have hg:∀ v,gv n (-1) (lb0 src) (Ju src) v=(n:Int)+1:=fun v=>by
  unfold gv;rw [if_neg];rintro ⟨h1,h2⟩;unfold lb0 at h1 h2;dsimp only at h1 h2
  split at h1 <;> split at h2 <;> omega
 have h1:=JY (f:=fun v=>IP A v*gv n (-1) (lb0 src) (Ju src) v) (g:=fun _=>d*((n:Int)+1)) (k:=n) fun i hi=>by
  rw [hg]; exact Int.mul_le_mul_of_nonneg_right (hA i hi) (by omega)
 have h2:∀ (c:Int) (k:Nat),B7 (fun _=>c) k=k*c:=fun c k=>by
  induction k with
  | zero=>show (0:Int)=((0:Nat):Int)*c; rw [show ((0:Nat):Int)=0 from rfl,Int.zero_mul]
  | succ k ih =>
   show B7 (fun _=>c) k+c=_;rw [ih,Int.natCast_add,Int.add_mul]; simp
 rw [h2] at h1;unfold psi Ju;rw [List.length_map];have h3:B7 (fun v=>IP A v*gv n (-1) (lb0 src) (List.map (fun v=>((0:Int),v)) src) v) n≤(n:Int)*(d*((n:Int)+1)):=h1;omega
theorem Wc {A:List Ar} {src:List Nat} {n:Nat} {m D:Int} {u:Nat} (hA:RQ A n m) (hm:0≤m) (hn:n≤60) (hD:0≤D):∀ (l dn:List Ar) (s:Lb) (hp:List Tg),DJ A src n m s→Clo A s hp u dn→(∀ a∈l,a∈A∧a.1=u)→s.d u=D→PI n D s hp →
  DJ A src n m (l.foldl Jt (s,hp)).1∧Clo A (l.foldl Jt (s,hp)).1 (l.foldl Jt (s,hp)).2 u (dn++l)∧(l.foldl Jt (s,hp)).1.d u=D∧PI n D (l.foldl Jt (s,hp)).1 (l.foldl Jt (s,hp)).2∧psi n A D (l.foldl Jt (s,hp)).1 (l.foldl Jt (s,hp)).2≤psi n A D s hp+l.length
 | [],dn,s,hp,J,K,_,hu,P=>⟨J,by simpa using K,hu,P,by simp⟩
 | a::l,dn,s,hp,J,K,hl,hu,P=>by
  obtain ⟨ha,hau⟩:=hl a (List.mem_cons_self ..);obtain ⟨J1,K1,h1,h2,-⟩:=DJ.relax hA hm hn J K ha hau (by rw [hu]; omega);obtain ⟨P1,h3⟩:=P.relax (A:=A) (a:=a) (by rw [hau]; exact hu) hD (hA a ha).2.2.1 J.low fun h=>J1.hops h;obtain ⟨r1,r2,r3,r4,r5⟩:=Wc hA hm hn hD l (dn++[a]) (GA s a) (Iy s a hp) J1 K1 (fun b hb=>hl b (List.mem_cons_of_mem _ hb)) (by rw [h1]; exact hu) P1;rw [List.append_assoc] at r2;refine ⟨r1,r2,r3,r4,?_⟩;rw [List.length_cons,List.foldl_cons];have h4:Jt (s,hp) a=(GA s a,Iy s a hp):=rfl;rw [h4];omega
end Go.Proofs.YtdagmpmdcgedcaaGreat
namespace Go.Proofs.YtdagmpmdcgedcaaGreat
open Go.GV
structure MI (A:List Ar) (src:List Nat) (n:Nat) (m D:Int) (s:Lb) (hp:List Tg):Prop where
 dj:DJ A src n m s
 clo:Clo A s hp 0 A
 pi:PI n D s hp
theorem Clo.any {A:List Ar} {s:Lb} {hp:List Tg} {u:Nat} (K:Clo A s hp u A) (v:Nat):Clo A s hp v A:=fun x hx=>(K x hx).imp id fun h a ha hax _=>h a ha hax fun _=>ha
theorem Clo.perm {A:List Ar} {s:Lb} {hp hq:List Tg} {u:Nat} {dn:List Ar} (K:Clo A s hp u dn) (h:hp.Perm hq):Clo A s hq u dn:=fun x hx=>(K x hx).imp (fun h'=>h.mem_iff.1 h') id
theorem MI.perm {A:List Ar} {src:List Nat} {n:Nat} {m D:Int} {s:Lb} {hp hq:List Tg} (M:MI A src n m D s hp) (h:hp.Perm hq):MI A src n m D s hq:=⟨M.dj,M.clo.perm h,M.pi.perm h⟩
theorem MI.start {A:List Ar} {src:List Nat} {n:Nat} {m:Int} (hs:∀ v∈src,v<n) (hnd:src.Nodup):MI A src n m (-1) (lb0 src) (Ju src):=by
 refine ⟨DJ.start hs,fun v hv=>?_,fun t ht=>?_,fun t ht=>?_,fun v hv=>?_⟩
 ·have hm:v∈src:=by
   rcases Decidable.em (v∈src) with h | h
   ·exact h
   ·exact absurd (if_neg h) hv
  have:(lb0 src).d v=0:=if_pos hm;rw [this];exact .inl (List.mem_map.2 ⟨v,hm,rfl⟩)
 ·obtain ⟨v,_,rfl⟩:=List.mem_map.1 ht;show (-1:Int)≤0;omega
 ·obtain ⟨v,hv,rfl⟩:=List.mem_map.1 ht;have:(lb0 src).d v=0:=if_pos hv;dsimp only;rw [this];omega
 ·have hm:v∈src:=by
   rcases Decidable.em (v∈src) with h | h
   ·exact h
   ·exact absurd (if_neg h) hv
  have h1:(Ju src).Nodup:=List.Pairwise.map _ (fun a b h e=>h (Prod.mk.inj e).2) hnd;have h2:=List.nodup_iff_count.1 h1 ((lb0 src).d v,v);have h3:=hs v hm;show _+0≤n;omega
section
variable {A:List Ar} {src:List Nat} {n:Nat} {m D:Int} {s:Lb} {hp:List Tg} {t:Tg}
theorem MI.lt (hA:RQ A n m) (M:MI A src n m D s hp) {v:Nat} (hv:s.d v ≠ -1):v<n:=by
 by_cases h:s.h v=0
 ·exact (M.dj.src' v (M.dj.zero v hv h)).1
 ·obtain ⟨a,ha,h1,_⟩:=M.dj.pre v hv h;rw [← h1];exact (hA a ha).2.1
theorem MI.top (hA:RQ A n m) (M:MI A src n m D s (t::hp)):t.2<n:=M.lt hA (M.pi.item t (List.mem_cons_self ..)).1
theorem MI.drop (hA:RQ A n m) (M:MI A src n m D s (t::hp)) (hmin:∀ x∈hp,t.1≤x.1) (hne:t.1≠s.d t.2):MI A src n m t.1 s hp∧psi n A t.1 s hp+1≤psi n A D s (t::hp):=by
 obtain ⟨P1,h1,-⟩:=M.pi.pop (A:=A) hmin (M.top hA);refine ⟨⟨M.dj,fun v hv=>(M.clo v hv).imp (fun h=>?_) id,P1⟩,h1⟩
 rcases List.mem_cons.1 h with h | h
 ·exact absurd (by rw [← h]) hne
 ·exact h
theorem MI.key0 (M:MI A src n m D s (t::hp)) (he:t.1=s.d t.2):0≤t.1:=by
 have h1:=(M.pi.item t (List.mem_cons_self ..)).1;have:=M.dj.low t.2;omega
theorem MI.go (hA:RQ A n m) (hm:0≤m) (hn:n≤60) (M:MI A src n m D s (t::hp)) (hmin:∀ x∈hp,t.1≤x.1) (he:t.1=s.d t.2) {l l1:List Ar} (hl:A.filter (fun a=>decide (a.1=t.2))=l++l1) :
  DJ A src n m (l.foldl Jt (s,hp)).1∧(l1=[]→MI A src n m t.1 (l.foldl Jt (s,hp)).1 (l.foldl Jt (s,hp)).2∧psi n A t.1 (l.foldl Jt (s,hp)).1 (l.foldl Jt (s,hp)).2+1≤psi n A D s (t::hp)):=by
 obtain ⟨P1,-,h1⟩:=M.pi.pop (A:=A) hmin (M.top hA)
 have hla:∀ a∈l,a∈A∧a.1=t.2:=fun a ha=>by
  have h2:a∈A.filter (fun a=>decide (a.1=t.2)):=by rw [hl]; exact List.mem_append_left _ ha
  obtain ⟨h3,h4⟩:=List.mem_filter.1 h2;exact ⟨h3,of_decide_eq_true h4⟩
 have K0:Clo A s hp t.2 []:=fun v hv=>by
  by_cases e:v=t.2
  ·exact .inr fun a _ hav hd=>by cases hd e
  ·refine (M.clo v hv).imp (fun h=>?_) fun h a ha hav _=>h a ha hav fun _=>ha
   rcases List.mem_cons.1 h with h | h
   ·exact absurd (by rw [← h]) e
   ·exact h
 obtain ⟨r1,r2,r3,r4,r5⟩:=Wc hA hm hn (M.key0 he) l [] s hp M.dj K0 hla he.symm P1;refine ⟨r1,fun hl1=>?_⟩;rw [hl1,List.append_nil] at hl
 have KK:Clo A (l.foldl Jt (s,hp)).1 (l.foldl Jt (s,hp)).2 t.2 A:=fun v hv=>(r2 v hv).imp id fun h a ha hav hd=>h a ha hav fun e=>by
  rw [List.nil_append,← hl];exact List.mem_filter.2 ⟨ha,decide_eq_true (hav.trans e)⟩
 refine ⟨⟨r1,KK.any 0,r4⟩,?_⟩;have h2:=h1 he;have h3:IP A t.2=(l.length:Nat):=by unfold IP; rw [hl]
 omega
theorem MI.ends (M:MI A src n m D s []):Done A src n m s:=M.dj.ends M.clo
end
theorem ZO (g:Gr) (cap x p:Nat→Int):N0 g cap x p=(E0 cap x g.E).map (Js g p):=rfl
theorem Ty (g:Gr) (cap x p:Nat→Int) (u:Nat):(N0 g cap x p).filter (fun a=>decide (a.1=u))=(IQ g (E0 cap x g.E) u).map (Js g p):=by
 rw [ZO,List.filter_map]; rfl
theorem Sa {N:Int} {es:List Ed} {fl pot:List Int} (h:Ij N es fl pot=true):Fine (grE N es) (Cr es) (flE fl) (ES pot):=by
 unfold Ij at h;simp only [Bool.and_eq_true] at h;obtain ⟨hw,_,ha⟩:=h;obtain ⟨h1,_,h2⟩:=Cv hw;refine ⟨fun i hi=>?_,fun a ha' hr=>?_⟩
 ·obtain ⟨e,he⟩:=A8 (l:=es) (i:=i) (h:=hi);obtain ⟨x,hx⟩:=A8 (l:=fl) (i:=i) (h:=by rw [h1]; exact hi);have:=h2 i e x he hx;unfold flE Cr;rw [Bo he,Bo hx];exact this
 ·have:=List.all_eq_true.1 ha a (List.mem_filter.2 ⟨List.mem_range.2 ha',decide_eq_true hr⟩);exact of_decide_eq_true this
theorem Sb {N:Int} {es:List Ed} {fl pot:List Int} (hw:Cm N es fl=true) (hp:Ge N pot=true) (h:Fine (grE N es) (Cr es) (flE fl) (ES pot)):Ij N es fl pot=true:=by
 unfold Ij;rw [hw,hp,Bool.true_and,Bool.true_and];refine List.all_eq_true.2 fun a ha=>?_;obtain ⟨h1,h2⟩:=List.mem_filter.1 ha;exact decide_eq_true (h.fit a (List.mem_range.1 h1) (of_decide_eq_true h2))
theorem Ad1 {N:Int} {es:List Ed} {pot:List Int} (hr:Cw N es=true) {B:Int} (hB:∀ v,-B≤ES pot v∧ES pot v≤B) (a:Nat):(grE N es).len (ES pot) a≤1000+2*B ∧ -(1000+2*B)≤(grE N es).len (ES pot) a:=by
 have h1 : -1000≤(grE N es).c a∧(grE N es).c a≤1000:=by
  have h2 : -1000≤(grE N es).co (a / 2)∧(grE N es).co (a / 2)≤1000:=by
   show -1000≤(es.getD (a / 2) e0).cost∧(es.getD (a / 2) e0).cost≤1000
   rcases Nat.lt_or_ge (a / 2) es.length with h | h
   ·obtain ⟨e,he⟩:=A8 (l:=es) (h:=h);have:=EC ((CD hr).2.2.2.1 e (List.mem_of_getElem? he));rw [Bo he];omega
   ·rw [List.getD_eq_getElem?_getD,List.getElem?_eq_none h];exact ⟨by decide,by decide⟩
  unfold Gr.c
  split
  ·exact h2
  ·omega
 have h3:=hB ((grE N es).u a);have h4:=hB ((grE N es).v a);unfold Gr.len;omega
theorem Ad2 {N:Int} {pot:List Int} (hp:Ge N pot=true) (v:Nat) : -1099511627776≤ES pot v∧ES pot v≤1099511627776:=by
 unfold ES
 rcases Nat.lt_or_ge v pot.length with h | h
 ·obtain ⟨x,hx⟩:=A8 (l:=pot) (h:=h);rw [Bo hx];exact (Ll hp).2 v x hx
 ·rw [List.getD_eq_getElem?_getD,List.getElem?_eq_none h];exact ⟨by decide,by decide⟩
theorem DJ.dist {A:List Ar} {src:List Nat} {n:Nat} {m:Int} {s:Lb} (J:DJ A src n m s) (hm:0≤m) (hn:n≤60) (v:Nat) : -1≤s.d v∧s.d v≤60*m∧s.h v≤60:=by
 by_cases h:s.d v = -1
 ·have h1:=J.none' v h;have:0≤60*m:=by omega
  omega
 ·have h1:=J.hops h;have h2:=J.bnd v h;have h3:=J.low v;have h4:(s.h v:Int)*m≤60*m:=Int.mul_le_mul_of_nonneg_right (by omega) hm;omega
end Go.Proofs.YtdagmpmdcgedcaaGreat
namespace Go.Proofs.YtdagmpmdcgedcaaGreat
open Go.GV
attribute [local irreducible] AB W Wq Wt
abbrev SC (N:Nat) (ae:Option Addr) (n ce bf bp bo:Nat) (k:Int):List Value:=[.int .i64 (N:Int),.slice ae n ce,.slice (some ⟨bf,0,none⟩) n n,.slice (some ⟨bp,0,none⟩) N N,.slice (some ⟨bo,0,none⟩) N N,.int .i64 k]
def HW (ov:Nat→Int) (N:Nat):List Nat:=(List.range N).filter fun v=>decide (0<ov v)
theorem Qx (ov:Nat→Int) (i:Nat):HW ov (i+1)=HW ov i++if 0<ov i then [i] else []:=by
 unfold HW;rw [List.range_succ,List.filter_append]
 congr 1
 by_cases h:0<ov i <;> simp [h]
theorem ZP (ov:Nat→Int) (i:Nat):(HW ov i).length≤i:=by
 have:=List.length_filter_le (fun v=>decide (0<ov v)) (List.range i);rw [List.length_range] at this;exact this
abbrev iN (v:Nat):Value := .int .i64 (v:Int)
structure LSt where
 i:Nat
 a:Option Addr
 c:Nat
 full:List Value
section
variable {w:World} {bs:Nat} {N:Nat} {ae:Option Addr} {n ce bf bp bo:Nat} {k:Int} {ov:Nat→Int}
set_option maxRecDepth 20000 in
theorem Va (hs:w.heap[bs]? = some (Bl 254 (SC N ae n ce bf bp bo k))) (ho:w.heap[bo]? = some (Bl 2 (BS ov N)))  (hN:N≤1000000:=by omega):
  Ret Tryz.prog 244 #[ptr bs] w fun v w'=>Fresh w w' 3 1 v ((HW ov N).map iN):=by
 obtain ⟨w0,rfl⟩:∃ w0,w0=w:=⟨_,rfl⟩;have H:=Ctx.start w0 [];have R:=Cx ho;refine Aw (fn:=Tryz.f244) Tryz.func244 U [.pointer (some ⟨bs,0,none⟩)] U (by kernel_rfl) ?_;refine Af (A1 U (Ab (Aa (Af (A1 U (Ab (Aa (Aq (Af (Ay U (A9 U ?_)))))))))));refine Ag G8 U (AZ Cg U ((by rw [Aj hs]; rfl)) ?_);refine Bi Bg U (Ae U (Ab (Aa (A0 (Bt 8386616 (α:=LSt) (fun t=>[(11,.int .i64 (t.i:Int)),(3,.slice t.a (HW ov t.i).length t.c)]) (fun t w'=>t.i≤N∧OS t.a (HW ov t.i).length t.c 1 t.full ((HW ov t.i).map iN)∧Ctx w0 [] w' (ent t.a 3 t.full)) (fun t=>N - t.i) ⟨0,none,0,[]⟩ U ?_ ?_ ?_)))))
 ·exact ⟨rfl,rfl,trivial⟩
 ·exact ⟨Nat.zero_le _,OS.nil,H⟩
 ·rintro ⟨i,a,c,full⟩ j w ⟨hi,O,H⟩; dsimp only at hi O H; dsimp only;have hpl:=ZP ov i;refine Af (Bj U U (Ab (Aa (Aq (Ap _ U ?_ ?_)))))
  ·intro h1;replace h1:=AJ h1;have hgd:(tab ov N)[i]? = some (ov i):=BT (by omega);refine Au (Aa (Aq (A0 (Af (Ae U (Bn Bg B6 U U ?_))))));refine AZ Bw U (((R.ext0 H.ext).fld hgd U (j:=0) U)) ?_;refine Ad U (Ad U (Ab (Aa (Af (Ae U (Cs U U (Ab (Aa (Ap _ U ?_ ?_)))))))))
   ·intro h2;replace h2:=AJ h2;have hps:HW ov (i+1)=HW ov i++[i]:=by rw [Qx,if_pos h2]
    refine Az (A3 U (Ae U (Ct _ (.int _ _) Fu FY US U (by decide) (by decide) U U U H ?_)));rintro b20 w - H;refine CA (L:=[]) Fu Fu FY by_3 US U (by decide) U U H O U (by simp [AO]) ?_;rintro a' c' full' w H O;refine A1 U (Ab (A5 (Aa (Az (Ax U U ?_)))));refine Ae U (Ab (Aa ?_));exact ⟨⟨i+1,a',c',full'⟩,rfl,⟨rfl,by dsimp only; rw [hps,List.length_append]; rfl,trivial⟩,⟨by dsimp only; omega,by dsimp only; rw [hps,List.length_append,List.map_append]; exact O,H⟩,by dsimp only; omega⟩
   ·intro h2;replace h2:=AK h2;have hps:HW ov (i+1)=HW ov i:=by rw [Qx,if_neg (by omega),List.append_nil]
    refine Au (A5 (Aa (Az (Ax U U ?_))));refine Ae U (Ab (Aa ?_));exact ⟨⟨i+1,a,c,full⟩,rfl,⟨rfl,by dsimp only; rw [hps]; rfl,trivial⟩,⟨by dsimp only; omega,by dsimp only; rw [hps]; exact O,H⟩,by dsimp only; omega⟩
  ·intro h1;replace h1:=AK h1;refine Bq (Am (Am (AG (Aa (Af (A3 U (A1 U (Ab (Aa (A4 (AD (v:=(.slice _ _ _)) U U U ?_)))))))))));obtain rfl:i=N:=by omega
   exact Ctx.fresh (L:=[]) H O
set_option maxRecDepth 20000 in
theorem Vb {od:Nat} {d:Nat→Int} (hs:w.heap[bs]? = some (Bl 254 (SC N ae n ce bf bp bo k))) (ho:w.heap[bo]? = some (Bl 2 (BS ov N))) (hd:w.heap[od]? = some (Bl 2 (BS d N)))  (hN:N≤1000000:=by omega):
  Ret Tryz.prog 246 #[ptr bs,.slice (some ⟨od,0,none⟩) N N] w fun v w'=>(∃ to:Int,v = .int .i64 to∧((to = -1∧∀ u,u<N→¬ (ov u<0∧0≤d u))∨∃ x:Nat,x<N∧to=x∧ov x<0∧0≤d x))∧w=w':=by
 obtain ⟨w0,rfl⟩:∃ w0,w0=w:=⟨_,rfl⟩;have RO:=Cx ho;have RD:=Cx hd;refine Aw (fn:=Tryz.f246) Tryz.func246 U [.pointer (some ⟨bs,0,none⟩),.slice (some ⟨od,0,none⟩) N N] U (by kernel_rfl) ?_;refine Af (Ad U (Ab (Aa (Af (Ad U (Ab (Aa (Aq (Af (A3 U (Bi Bg U ?_)))))))))));refine Ae U (Ab (Aa (A0 (Bt 2199023254752 (α:=Nat × Int) (fun t=>[(10,.int .i64 (t.1:Int)),(5,.int .i64 t.2)]) (fun t w'=>w0=w'∧t.1≤N∧((t.2 = -1∧∀ u,u<t.1→¬ (ov u<0∧0≤d u))∨∃ x:Nat,x<N∧t.2=x∧ov x<0∧0≤d x)) (fun t=>N - t.1) (0,-1) U ?_ ?_ ?_))))
 ·exact ⟨rfl,rfl,trivial⟩
 ·exact ⟨rfl,Nat.zero_le _,.inl ⟨rfl,fun u h=>absurd h (Nat.not_lt_zero _)⟩⟩
 ·rintro ⟨i,to⟩ j w ⟨rfl,hi,hto⟩; dsimp only at hi hto; dsimp only;refine Af (Bj U U (Ab (Aa (Aq (Ap _ U ?_ ?_)))))
  ·intro h1;replace h1:=AJ h1;have hgd:(tab d N)[i]? = some (d i):=BT (by omega);have hgo:(tab ov N)[i]? = some (ov i):=BT (by omega);have htd:=CV d N
   obtain ⟨dx,hdx⟩:∃ dx:Int,0≤to→∃ x:Nat,x<N∧to=x∧(tab d N)[x]? = some dx:=by
    rcases hto with ⟨h,_⟩ | ⟨x,hx,h,_⟩
    ·exact ⟨0,fun h7=>by omega⟩
    ·exact ⟨d x,fun _=>⟨x,hx,h,BT hx⟩⟩
   refine Au (Aa (Aq (A0 (Af (Ae U (AS RD Bg B6 U U (by omega) ?_))))));refine AZ Bw U ((RD.fld hgd U (j:=0) U)) ?_;refine Ad U (Ad U (Ab (Aa (Af (BU (α:=Unit) 549755781120 (fun _=>[(38,.bool (decide ((ov i<0∧0≤d i)∧(to<0∨d i<dx))))]) (fun _ w'=>w'=w0) U ?_ ?_)))))
   ·refine Ay U (A9 U (Ag G8 U (AZ Cg U ((by rw [Aj hs]; rfl)) ?_)));refine Ae U (Bn Bg B6 U U ?_);refine AZ Bw U ((RO.fld hgo U (j:=0) U)) ?_;refine Bj U U (AE U (AY 23 U ?_ ?_))
    ·intro h1;replace h1:=AJ h1;refine Ae U (C4 U U (AN U (.bool _) U (AE U (AY 27 U ?_ ?_))))
     ·intro h2;replace h2:=AJ h2;refine Ae U (Bj U U (AE U (AY 30 U ?_ ?_)))
      ·intro h3;replace h3:=AJ h3;refine Ah U (Ah U (Ah U (Ah U (Ah U (Ah U (AN U (.bool _) U (AN U (.bool _) U (Ab ?_))))))));exact ⟨rfl,(),rfl,⟨congrArg Value.bool (by clear hgd hgo; rw [Bool.eq_iff_iff]; simp_all; try omega),trivial⟩,rfl⟩
      ·intro h4;replace h4:=AK h4;refine Ae U (A3 U (Ae U ?_));obtain ⟨x,hx,rfl,hgx⟩:=hdx (by omega);refine AS RD Bg B6 U U (by omega) ?_;refine AZ Bw U (RD.fld hgx U (j:=0) U) ?_;refine Bj U U (AU U (.bool _) U (AN U (.bool _) U (Ab ?_)));exact ⟨rfl,(),rfl,⟨congrArg Value.bool (by clear hgd hgo; rw [Bool.eq_iff_iff]; simp_all; try omega),trivial⟩,rfl⟩
     ·intro h5;replace h5:=AK h5;refine Ah U (Ah U (Ah U (Ah U (Ah U (Ah U (Ah U (Ah U (Ah U (Ah U ?_)))))))));refine AU U (.bool _) U (Ab ?_);exact ⟨rfl,(),rfl,⟨congrArg Value.bool (by clear hgd hgo; rw [Bool.eq_iff_iff]; simp_all; try omega),trivial⟩,rfl⟩
    ·intro h6;replace h6:=AK h6;refine Ah U (Ah U (AU U (.bool _) U (AE U (Ah U (Ah U (Ah U (Ah U (Ah U (Ah U ?_)))))))));refine Ah U (Ah U (Ah U (Ah U (AU U (.bool _) U (Ab ?_)))));exact ⟨rfl,(),rfl,⟨congrArg Value.bool (by clear hgd hgo; rw [Bool.eq_iff_iff]; simp_all; try omega),trivial⟩,rfl⟩
   rintro - j38 w hw;subst hw;refine Ap _ U ?_ ?_
   ·intro h2;have h2:=of_decide_eq_true h2;refine Az (Ae U (Ad U (Ab (A5 (Aa (Az (Ax U U ?_)))))));refine Ae U (Ab (Aa ?_));exact ⟨(i+1,(i:Int)),rfl,⟨rfl,rfl,trivial⟩,⟨rfl,by dsimp only; omega,.inr ⟨i,by omega,rfl,h2.1⟩⟩,by dsimp only; omega⟩
   ·intro h2;have h2:=of_decide_eq_false h2;refine Au (A5 (Aa (Az (Ax U U ?_))));refine Ae U (Ab (Aa ?_));refine ⟨(i+1,to),rfl,⟨rfl,rfl,trivial⟩,⟨rfl,by dsimp only; omega,?_⟩,by dsimp only; omega⟩
    rcases hto with ⟨h,h7⟩ | h
    ·refine .inl ⟨h,fun u hu hh=>?_⟩;dsimp only at hu
     by_cases e:u=i
     ·subst e; exact h2 ⟨hh,.inl (by omega)⟩
     ·exact h7 u (by omega) hh
    ·exact .inr h
  ·intro h1;replace h1:=AK h1;refine Bq (Am (Am (AG (Aa (Af (Ae U (Ad U (Ab (Aa (A4 (AD (v:=(.int _ _)) U U U ?_)))))))))));obtain rfl:i=N:=by omega
   exact ⟨⟨to,rfl,hto⟩,rfl⟩
def Pd (d:Nat→Int) (D:Int) (v:Nat):Int:=if d v<0∨D<d v then D else d v
def H6 (p d:Nat→Int) (D:Int) (i v:Nat):Int:=if v<i then p v+Pd d D v else p v
set_option maxRecDepth 20000 in
theorem ZQ {od:Nat} {d p:Nat→Int} {D:Int} (hs:w.heap[bs]? = some (Bl 254 (SC N ae n ce bf bp bo k))) (hp:w.heap[bp]? = some (Bl 2 (BS p N))) (hd:w.heap[od]? = some (Bl 2 (BS d N))) (n1:bs≠bp) (n2:od≠bp)
  (hD:0≤D∧D≤1152921504606846976) (hpb:∀ v,-1152921504606846976≤p v∧p v≤1152921504606846976)  (hN:N≤1000000:=by omega):
  Ret Tryz.prog 249 #[ptr bs,.slice (some ⟨od,0,none⟩) N N,.int .i64 D] w fun v w'=>v = .tuple #[]∧Ctx w [bp] w' [(bp,Bl 2 (BS (fun v=>p v+Pd d D v) N))]:=by
 obtain ⟨w0,rfl⟩:∃ w0,w0=w:=⟨_,rfl⟩;have H:=Ctx.start1 hp;have n1':bs∉[bp]:=by rw [List.mem_singleton]; exact n1
 have n2':od∉[bp]:=by rw [List.mem_singleton]; exact n2
 have RD:=Cx hd;refine Aw (fn:=Tryz.f249) Tryz.func249 U [.pointer (some ⟨bs,0,none⟩),.slice (some ⟨od,0,none⟩) N N,.int .i64 D] U (by kernel_rfl) ?_;refine Af (A3 U (Bi Bg U (Ae U (Ab (Aa (A0 ?_))))));have h0:BS p N=BS (H6 p d D 0) N:=List.map_congr_left fun v _=>by unfold H6; rw [if_neg (Nat.not_lt_zero _)]
 rw [h0] at H;refine Bt 17179868352 (α:=Nat) (fun i=>[(10,.int .i64 (i:Int))]) (fun i w'=>i≤N∧Ctx w0 [bp] w' [(bp,Bl 2 (BS (H6 p d D i) N))]) (fun i=>N - i) 0 U ?_ ?_ ?_
 ·exact ⟨rfl,trivial⟩
 ·exact ⟨Nat.zero_le _,H⟩
 ·rintro i j w ⟨hi,H⟩;refine Af (Bj U U (Ab (Aa (Aq (Ap _ U ?_ ?_)))))
  ·intro h1;replace h1:=AJ h1;have hgd:(tab d N)[i]? = some (d i):=BT (by omega);have hgp:(tab (H6 p d D i) N)[i]? = some (p i):=by rw [BT (by omega)]; unfold H6; rw [if_neg (Nat.lt_irrefl _)]
   have hbi:=hpb i;have hsucc:∀ r,r=Pd d D i→Value.int .i64 (p i+r)=Value.int .i64 (H6 p d D (i+1) i):=fun r hr=>by unfold H6; rw [if_pos (by omega),hr]
   have hoth:∀ q,q≠i→Value.int .i64 (H6 p d D (i+1) q)=Value.int .i64 (H6 p d D i q):=fun q hq=>by
    unfold H6
    by_cases h:q<i
    ·rw [if_pos h,if_pos (by omega)]
    ·rw [if_neg h,if_neg (by omega)]
   refine Au (Aa (Aq (A0 (Af (Ae U (Bn Bg B6 U U ?_))))));refine AZ Bw U (((RD.ext H.ext n2').fld hgd U (j:=0) U)) ?_;refine Ad U (Ad U (Ab (Aa (Aq (Af (Ae U (Bj U U (AE U (AY 17 U ?_ ?_)))))))))
   ·intro h1;replace h1:=AJ h1;refine Ah U (Ah U (Ah U (AN U (.bool _) U (Ab (Aa (Dz U (Az (Ae U (Ad U (Ab (Aa ?_)))))))))));refine Az (Ay U (A9 U (Ag EJ U (AZ Cg U ((by rw [Aj (H.ext.to hs n1')]; rfl)) ?_))));refine Ae U (Bn Bg B6 U U ?_);refine AZ Bw U (((Cx (H.get at0)).fld hgp U (j:=0) U)) ?_;refine Ae U (Ax U U ?_);refine Bn Bg B6 U U ?_;refine Cc i (fun q => .int .i64 (H6 p d D (i+1) q)) (.int _ _) B6 U U U H at0 (by simp) (hsucc _ (by unfold Pd; (rw [if_pos (by omega)]; done))).symm (fun q _ hq=>hoth q hq) ?_;rintro w H;refine Ab (A5 (Aa (Az (Ax U U ?_))));refine Ae U (Ab (Aa ?_));exact ⟨i+1,rfl,⟨rfl,trivial⟩,⟨by omega,H⟩,by omega⟩
   ·intro h2;replace h2:=AK h2;refine Ae U (Ae U (Cs U U (AU U (.bool _) U (Ab (Aa (Ap _ U ?_ ?_))))))
    ·intro h3;replace h3:=AJ h3;refine Az (Ae U (Ad U (Ab (Aa (Az (Ay U (A9 U (Ag EJ U (AZ Cg U ((by rw [Aj (H.ext.to hs n1')]; rfl)) ?_)))))))));refine Ae U (Bn Bg B6 U U ?_);refine AZ Bw U (((Cx (H.get at0)).fld hgp U (j:=0) U)) ?_;refine Ae U (Ax U U ?_);refine Bn Bg B6 U U ?_;refine Cc i (fun q => .int .i64 (H6 p d D (i+1) q)) (.int _ _) B6 U U U H at0 (by simp) (hsucc _ (by unfold Pd; (rw [if_pos (by omega)]; done))).symm (fun q _ hq=>hoth q hq) ?_;rintro w H;refine Ab (A5 (Aa (Az (Ax U U ?_))));refine Ae U (Ab (Aa ?_));exact ⟨i+1,rfl,⟨rfl,trivial⟩,⟨by omega,H⟩,by omega⟩
    ·intro h4;replace h4:=AK h4;refine Au (Aa (Az (Ay U (A9 U (Ag EJ U (AZ Cg U ((by rw [Aj (H.ext.to hs n1')]; rfl)) ?_))))));refine Ae U (Bn Bg B6 U U ?_);refine AZ Bw U (((Cx (H.get at0)).fld hgp U (j:=0) U)) ?_;refine Ae U (Ax U U ?_);refine Bn Bg B6 U U ?_;refine Cc i (fun q => .int .i64 (H6 p d D (i+1) q)) (.int _ _) B6 U U U H at0 (by simp) (hsucc _ (by unfold Pd; (rw [if_neg (by omega)]; done))).symm (fun q _ hq=>hoth q hq) ?_;rintro w H;refine Ab (A5 (Aa (Az (Ax U U ?_))));refine Ae U (Ab (Aa ?_));exact ⟨i+1,rfl,⟨rfl,trivial⟩,⟨by omega,H⟩,by omega⟩
  ·intro h1;replace h1:=AK h1;refine Bq (Am (Am (AG (CF U U ?_))));obtain rfl:i=N:=by omega
   have h9:BS (H6 p d D i) i=BS (fun v=>p v+Pd d D v) i:=List.map_congr_left fun v hv=>by unfold H6; rw [if_pos (List.mem_range.1 hv)]
   rw [h9] at H;exact ⟨rfl,H⟩
end
end Go.Proofs.YtdagmpmdcgedcaaGreat
namespace Go.Proofs.YtdagmpmdcgedcaaGreat
open Go.GV
attribute [local irreducible] AB W Wq Wt
def KD (g:Gr) (cap x:Nat→Int) (k:Nat):List Ar:=((List.range k).filter fun a=>decide (0<CC cap x a)).map fun a=>(g.u a,g.v a,g.c a)
theorem Xs (g:Gr) (cap x:Nat→Int) (k:Nat):KD g cap x (k+1)=KD g cap x k++if 0<CC cap x k then [(g.u k,g.v k,g.c k)] else []:=by
 unfold KD;rw [List.range_succ,List.filter_append,List.map_append]
 congr 1
 by_cases h:0<CC cap x k <;> simp [h]
theorem ZR {g:Gr} {cap x:Nat→Int} {k m:Nat} (h:k≤m):∀ a∈KD g cap x k,a∈KD g cap x m:=fun a ha=>by
 obtain ⟨b,hb,rfl⟩:=List.mem_map.1 ha;obtain ⟨h1,h2⟩:=List.mem_filter.1 hb;exact List.mem_map.2 ⟨b,List.mem_filter.2 ⟨List.mem_range.2 (by have:=List.mem_range.1 h1; omega),h2⟩,rfl⟩
theorem IR {w:World} {bs:Nat} {t:TypeId} {N:Nat} {ae:Option Addr} {n ce bf bp bo:Nat} {k:Int} (h:w.heap[bs]? = some (Bl t (SC N ae n ce bf bp bo k))):∀ j v,[Value.int .i64 (N:Int),.slice ae n ce][j]? = some v→w.cell? ⟨bs,0+j,none⟩=some v:=fun j v hv=>by
 rw [Aj h,Nat.zero_add]
 match j,hv with
 | 0,hv=>exact hv
 | 1,hv=>exact hv
theorem Ad3 {x:Nat→Int} {n i:Nat} (h:i<n):flE (tab x n) i=x i:=by
 unfold flE; exact Bo (BT h)
theorem Pe {N:Nat} {es:List Ed} {x:Nat→Int} (hw:Cm (N:Int) es (tab x es.length)=true) {k:Nat} (hk:k<2*es.length) :
  FN (N:Int) es (k:Int)=(((grE (N:Int) es).u k:Int),((grE (N:Int) es).v k:Int),(grE (N:Int) es).c k)∧KP (N:Int) es (tab x es.length) (k:Int)=CC (Cr es) x k∧(grE (N:Int) es).u k<N∧(grE (N:Int) es).v k<N ∧ -1000≤(grE (N:Int) es).c k∧(grE (N:Int) es).c k≤1000∧0≤CC (Cr es) x k∧CC (Cr es) x k≤4503599627370496:=by
 obtain ⟨hl,hr,hin⟩:=Cv hw;obtain ⟨e,he,hE,q1,q2,q3,q4,q5,q6⟩:=RW hr hk;obtain ⟨e',xx,he',hx,hro,r1,r2,r3⟩:=RY hw hk;obtain rfl:e'=e:=Option.some.inj (he'.symm.trans he);obtain ⟨hxk,rfl⟩:=OY hx;have hce:Cr es (k / 2)=e'.cap:=by unfold Cr; rw [Bo he]
 have hge:(grE (N:Int) es).f (k / 2)=e'.f.toNat∧(grE (N:Int) es).t (k / 2)=e'.t.toNat∧(grE (N:Int) es).co (k / 2)=e'.cost:=by
  refine ⟨?_,?_,?_⟩ <;> (show _=_; unfold grE; dsimp only; rw [Bo he])
 rw [hE,hro];unfold Gr.u Gr.v Gr.c CC Nm;rw [hge.1,hge.2.1,hge.2.2,hce];unfold HV at q1 q2 q3 q4 q5 q6 ⊢
 by_cases hp:k % 2=1
 ·have hp2:¬ k % 2=0:=by omega
  simp only [if_pos hp] at q1 q2 q3 q4 q5 q6 ⊢;simp only [if_neg hp2];exact ⟨by rw [Int.toNat_of_nonneg q1,Int.toNat_of_nonneg q3],trivial,by omega,by omega,q5,q6,r1,by omega⟩
 ·have hp2:k % 2=0:=by omega
  simp only [if_neg hp] at q1 q2 q3 q4 q5 q6 ⊢;simp only [if_pos hp2];exact ⟨by rw [Int.toNat_of_nonneg q1,Int.toNat_of_nonneg q3],trivial,by omega,by omega,q5,q6,by omega,by omega⟩
section
variable {w:World} {bs:Nat} {N:Nat} {ae:Option Addr} {ce bf bp bo:Nat} {k:Int} {es:List Ed} {x p:Nat→Int}
set_option maxRecDepth 20000 in
set_option maxHeartbeats 4000000 in
theorem Ad4 (hs:w.heap[bs]? = some (Bl 254 (SC N ae es.length ce bf bp bo k))) (Re:Rd w ae 4 CI es) (hen:es≠[]→(adr ae).block≠bp) (hf:w.heap[bf]? = some (Bl 2 (BS x es.length))) (hp:w.heap[bp]? = some (Bl 2 (BS p N))) (n1:bs≠bp) (n2:bf≠bp)
  (hw:Cm (N:Int) es (tab x es.length)=true) {p0:Nat→Int} (hF:Fine (grE (N:Int) es) (Cr es) x p0) :
  Ret Tryz.prog 274 #[ptr bs] w fun v w'=>v = .tuple #[]∧Ctx w [bp] w' [(bp,Bl 2 (BS (Fc (KD (grE (N:Int) es) (Cr es) x (2*es.length)) N fun _=>0) N))]:=by
 obtain ⟨w0,rfl⟩:∃ w0,w0=w:=⟨_,rfl⟩;have H:=Ctx.start1 hp;have n1':bs∉[bp]:=by rw [List.mem_singleton]; exact n1
 have n2':bf∉[bp]:=by rw [List.mem_singleton]; exact n2
 obtain ⟨hwl,hr,-⟩:=Cv hw;obtain ⟨hN1,hN40,hn200,-⟩:=CD hr;have hI:I64 (N:Int):=by unfold I64; omega
 obtain ⟨g,hg⟩:∃ g,g=grE (N:Int) es:=⟨_,rfl⟩;obtain ⟨cap,hcap⟩:∃ cap,cap=Cr es:=⟨_,rfl⟩
 have hat:∀ {a:Nat},a<2*es.length→FN (N:Int) es (a:Int)=((g.u a:Int),(g.v a:Int),g.c a)∧KP (N:Int) es (tab x es.length) (a:Int)=CC cap x a∧g.u a<N∧g.v a<N ∧ -1000≤g.c a∧g.c a≤1000∧0≤CC cap x a∧CC cap x a≤4503599627370496:=fun ha=>by
  rw [hg,hcap]; exact Pe hw ha
 rw [← hg,← hcap] at hF ⊢;obtain ⟨A,hA⟩:∃ A,A=KD g cap x (2*es.length):=⟨_,rfl⟩;have hgE:g.E=es.length:=by rw [hg]; rfl
 have hAm:∀ b∈A,b.1<N∧b.2.1<N ∧ -1000≤b.2.2:=fun b hb=>by
  rw [hA] at hb;obtain ⟨a,ha,rfl⟩:=List.mem_map.1 hb;obtain ⟨-,-,h1,h2,h3,-⟩:=hat (List.mem_range.1 (List.mem_filter.1 ha).1);exact ⟨h1,h2,h3⟩
 have hfea:Fea A p0:=by rw [hA,← hgE]; exact Ts hF
 have hfe2:=UU hfea fun a ha=>⟨(hAm a ha).1,(hAm a ha).2.1⟩;have hfb:=VT (A:=A) (m:=1000) (by omega) (fun a ha=>(hAm a ha).2.2) N
 have hbnd:∀ r k v,-40000≤(KD g cap x k).foldl IJ (Fc A r fun _=>0) v∨2*es.length<k:=fun r k v=>by
  rcases Nat.lt_or_ge (2*es.length) k with h | h
  ·exact .inr h
  ·refine .inl ?_;have h1:=RL (A:=KD g cap x k) (p:=Fc A r fun _=>0) (f:=DD A N) (fun a ha=>hfe2 a (by rw [hA]; exact ZR h a ha)) (fun v=>K3 hfe2 (fun v=>by have:=LN A v (Nat.zero_le N); exact this) r v) v;have h2:=hfb v;have h3:(N:Int)*1000≤40000:=by omega
   omega
 have hbnd2:∀ r k v,(KD g cap x k).foldl IJ (Fc A r fun _=>0) v≤0:=fun r k v=>by
  refine Int.le_trans (LP _ _ v) ?_
  induction r with
  | zero=>exact Int.le_refl _
  | succ r ih=>exact Int.le_trans (LP _ _ v) ih
 rw [← hA];refine Aw (fn:=Tryz.f274) Tryz.func274 U [.pointer (some ⟨bs,0,none⟩)] U (by kernel_rfl) ?_;refine Af (Ay U (A9 U (Ag EJ U (AZ Cg U ((by rw [Aj hs]; rfl)) ?_))));refine Qj U Bg EK U (by simp [AO]) U H at0 (by simp) ?_;rintro w H;refine Ab (Aa ?_)
 have hz:over (BS p N) 0 (List.replicate N [Value.int .i64 0]).flatten=BS (Fc A 0 fun _=>0) N:=by
  rw [_root_.Go.GV.over_all (by simp)];show _=(List.range N).map fun _=>Value.int .i64 0;rw [← EO];simp
 rw [hz] at H;refine Af (Ay U (A9 U (Ag G7 U (Ag Fl U (AZ Ca U ((by rw [Aj (H.ext.to hs n1')]; rfl)) ?_)))));refine Ae U (Ab (Aa (A0 (Bt 151115727451828646772860 (α:=Nat) (fun r=>[(16,.int .i64 (r:Int))]) (fun r w'=>r≤N∧Ctx w0 [bp] w' [(bp,Bl 2 (BS (Fc A r fun _=>0) N))]) (fun r=>N - r) 0 U ?_ ?_ ?_))))
 ·exact ⟨rfl,trivial⟩
 ·exact ⟨Nat.zero_le _,H⟩
 ·rintro r j w ⟨hr2,H⟩;refine Af (Bj U U (Ab (Aa (Aq (Ap _ U ?_ ?_)))))
  ·intro h1;replace h1:=AJ h1;refine Au (Aa (Aq (A0 (Af (Ay U (A9 U (Ag EI U (AZ Cg U ((by rw [Aj (H.ext.to hs n1')]; rfl)) ?_))))))));refine Bi Bg U (DE U U ?_);refine Ae U (Ab (Aa (A0 (Bt 75557863725914306642044 (α:=Nat) (fun a=>[(24,.int .i64 (a:Int))]) (fun a w'=>a≤2*es.length∧Ctx w0 [bp] w' [(bp,Bl 2 (BS ((KD g cap x a).foldl IJ (Fc A r fun _=>0)) N))]) (fun a=>2*es.length - a) 0 U ?_ ?_ ?_))))
   ·exact ⟨rfl,trivial⟩
   ·exact ⟨Nat.zero_le _,H⟩
   ·rintro a j2 w ⟨ha2,H⟩;refine Af (Bj U U (Ab (Aa (Aq (Ap _ U ?_ ?_)))))
    ·intro h2;replace h2:=AJ h2;have ha:a<2*es.length:=by omega
     obtain ⟨hE,hR,q1,q2,q3,q4,q5,q6⟩:=hat ha;obtain ⟨un,hun⟩:∃ un,un=g.u a:=⟨_,rfl⟩;obtain ⟨vn,hvn⟩:∃ vn,vn=g.v a:=⟨_,rfl⟩;obtain ⟨co,hco⟩:∃ co,co=g.c a:=⟨_,rfl⟩;obtain ⟨q,hq⟩:∃ q,q=(KD g cap x a).foldl IJ (Fc A r fun _=>0):=⟨_,rfl⟩;have hb1:∀ v,-40000≤q v∧q v≤0:=fun v=>by rw [hq]; exact ⟨(hbnd r a v).resolve_right (by omega),hbnd2 r a v⟩
     have hsucc:(KD g cap x (a+1)).foldl IJ (Fc A r fun _=>0)=if 0<CC cap x a then IJ q (un,vn,co) else q:=by
      rw [Xs,List.foldl_append,← hq]
      split
      ·rw [hun,hvn,hco]; rfl
      ·rfl
     rw [← hq] at H;rw [← hun,← hvn,← hco] at hE;have hE1:(FN (N:Int) es (a:Int)).1=un:=by rw [hE]
     have hE2:(FN (N:Int) es (a:Int)).2.1=vn:=by rw [hE]
     have hE3:(FN (N:Int) es (a:Int)).2.2=co:=by rw [hE]
     rw [← hun] at q1;rw [← hvn] at q2;rw [← hco] at q3 q4;have b1:=hb1 un;have b2:=hb1 vn;have hgu:(tab q N)[un]? = some (q un):=BT q1;have hgv:(tab q N)[vn]? = some (q vn):=BT q2;have hne:(es≠[]→(adr ae).block∉[bp]):=fun h=>by rw [List.mem_singleton]; exact hen h
     have hes:es≠[]:=fun h=>by rw [h] at ha; simp at ha
     refine Au (Aa (Aq (A0 (Af (Ae U (Ad U (Ab (Aa (Af (Ay U (A9 U ?_)))))))))));refine Ag G7 U (Cj _ Df CL U U ((IR (H.ext.to hs n1'))) ?_);refine Ae U (Al UM (RU (N:Int) ae es.length ce es _ (Re.ext H.ext (hne hes)) U hI (a:Int)) U ?_);rintro v w ⟨rfl,hx33⟩;replace H:=H.call hx33;rw [hE1,hE2,hE3];refine BM U (A6 U U (A6 U U (A6 U U (Ad U (Ad U (Ad U (Ab (Aa (Af (Ay U ?_))))))))));refine A9 U (Ag EJ U (AZ Cg U ((by rw [Aj (H.ext.to hs n1')]; rfl)) ?_));refine Ae U (Bn Bg B6 U U ?_);refine AZ Bw U (((Cx (H.get at0)).fld hgu U (j:=0) U)) ?_;refine Ae U (Ax U U ?_);refine Ad U (Ab (Aa (Eb 19 Bs (by kernel_rfl) U U ?_)));refine Bh U (B4 U (Bb U (A7 EJ U (BX Cg U (by rintro _ rfl; exact ((by rw [Aj (H.drew.ext.to hs n1')]; rfl))) ?_))))
     refine Bh U (Bf Bg B6 U U ?_);refine BX Bw U (by rintro _ rfl; exact (((Cx (H.drew.get at0)).fld hgv rfl (j:=0) rfl))) ?_;refine KI U U (CU U (Dw 55 U ?_ ?_))
     ·intro h3;replace h3:=AJ h3;refine B4 U (Bb U (A7 G7 U (KH _ U Df CL U U (by rintro _ rfl; exact ((IR (H.drew.ext.to hs n1')))) ?_)));refine B4 U (Bb U (A7 EI U (BX Cg U (by rintro _ rfl; exact ((by rw [Aj (H.drew.ext.to hs n1')]; rfl))) ?_)));refine Bh U (BW ?_);replace H:=H.drew;refine Al UL (RV (N:Int) ae (some ⟨bf,0,none⟩) es.length ce es.length es.length es (tab x es.length) _ (Re.ext H.ext (hne hes)) U hI (Cx (H.ext.to hf n2')) (CV _ _) (a:Int)) U ?_;rintro v w ⟨rfl,hx65⟩;replace H:=H.call hx65;rw [hR];refine Cs U U (AN U (.bool _) U (Ab (Aa (Ap _ U ?_ ?_))))
      ·intro h4;replace h4:=AJ h4;refine Az (Ay U (A9 U (Ag EJ U (AZ Cg U ((by rw [Aj (H.ext.to hs n1')]; rfl)) ?_))));refine Ae U (Ae U (Bn Bg B6 U U ?_));refine Cc vn (fun z => .int .i64 (upd q vn (q un+co) z)) (.int _ _) B6 U U U H at0 (by simp) (hk:=q2) (by rw [Di,Int.add_comm]) (fun z _ hz=>by rw [Et hz]) ?_;rintro w H;refine Ab (A5 (Aa (Az (Ax U U ?_))));refine Ae U (Ab (Aa ?_));refine ⟨a+1,rfl,⟨rfl,trivial⟩,⟨by omega,?_⟩,by omega⟩;rw [hsucc,if_pos h4];unfold IJ;rw [if_pos (by dsimp only; omega)];exact H
      ·intro h4;replace h4:=AK h4;refine Au (A5 (Aa (Az (Ax U U ?_))));refine Ae U (Ab (Aa ?_));refine ⟨a+1,rfl,⟨rfl,trivial⟩,⟨by omega,?_⟩,by omega⟩;rw [hsucc,if_neg (by omega)];exact H
     ·intro h3;replace h3:=AK h3;refine A2 U (A2 U (A2 U (A2 U (A2 U (A2 U (A2 U (A2 U (A2 U (BW ?_)))))))));replace H:=H.drew;refine Ah U (Ah U (AU U (.bool _) U (Ab (Aa (Fg U (Au (A5 (Aa (Az (Ax U U ?_))))))))));refine Ae U (Ab (Aa ?_));refine ⟨a+1,rfl,⟨rfl,trivial⟩,⟨by omega,?_⟩,by omega⟩;rw [hsucc]
      split
      ·unfold IJ;rw [if_neg (by dsimp only; omega)];exact H
      ·exact H
    ·intro h2;replace h2:=AK h2;refine Bq (Am (Am (AG (A5 (Aa (Az (Ax U U ?_)))))));refine Ae U (Ab (Aa ?_));obtain rfl:a=2*es.length:=by omega
     refine ⟨r+1,rfl,⟨rfl,trivial⟩,⟨by omega,?_⟩,by omega⟩;rw [← hA] at H;exact H
  ·intro h1;replace h1:=AK h1;refine Bq (Am (Am (AG (CF U U ?_))));obtain rfl:r=N:=by omega
   exact ⟨rfl,H⟩
end
end Go.Proofs.YtdagmpmdcgedcaaGreat
namespace Go.Proofs.YtdagmpmdcgedcaaGreat
open Go.GV
attribute [local irreducible] AB W Wq Wt
theorem ZS {g:Gr} {cap x p q:Nat→Int} (h:Fine g cap x p) (hq:Fea (KD g cap x (2*g.E)) q):Fine g cap x q:=ZA h hq
theorem Pf {g:Gr} (hg:g.Ok) {cap x p q:Nat→Int} (h:Fine g cap x p) (hq:∀ v,v<g.N→q v=p v):Fine g cap x q :=
 ⟨h.in',fun a ha hr=>by
  have:=h.fit a ha hr;unfold Gr.len at this ⊢
  rw [hq _ (hg.u ha),hq _ (hg.v ha)]; exact this⟩
section
variable {w:World} {bs:Nat} {N:Nat} {ae:Option Addr} {ce bf bp bo:Nat} {k:Int} {es:List Ed} {x p:Nat→Int}
set_option maxRecDepth 20000 in
theorem Xt (hs:w.heap[bs]? = some (Bl 254 (SC N ae es.length ce bf bp bo k))) (Re:Rd w ae 4 CI es) (hen:es≠[]→(adr ae).block≠bp) (hf:w.heap[bf]? = some (Bl 2 (BS x es.length))) (hp:w.heap[bp]? = some (Bl 2 (BS p N))) (n1:bs≠bp) (n2:bf≠bp)
  (hw:Cm (N:Int) es (tab x es.length)=true) (hF:Fine (grE (N:Int) es) (Cr es) x p) :
  Ret Tryz.prog 250 #[ptr bs] w fun v w'=>v = .tuple #[]∧∃ p':Nat→Int,Fine (grE (N:Int) es) (Cr es) x p'∧(∀ v,v<N → -1073741824≤p' v∧p' v≤1073741824)∧Ctx w [bp] w' [(bp,Bl 2 (BS p' N))]:=by
 obtain ⟨w0,rfl⟩:∃ w0,w0=w:=⟨_,rfl⟩;have H:=Ctx.start1 hp;have R:=Cx hp;obtain ⟨hwl,hr,-⟩:=Cv hw;obtain ⟨hN1,hN40,hn200,-⟩:=CD hr;refine Aw (fn:=Tryz.f250) Tryz.func250 U [.pointer (some ⟨bs,0,none⟩)] U (by kernel_rfl) ?_;refine Af (Ay U (A9 U (Ag EJ U (AZ Cg U ((by rw [Aj hs]; rfl)) ?_))));refine Bi Bg U (Ae U (Ab (Aa (A0 (Bt 4193800 (α:=Nat) (fun i=>[(9,.int .i64 (i:Int))]) (fun i w'=>w0=w'∧i≤N∧∀ v,v<i → -1073741824≤p v∧p v≤1073741824) (fun i=>N - i) 0 U ?_ ?_ ?_)))))
 ·exact ⟨rfl,trivial⟩
 ·exact ⟨rfl,Nat.zero_le _,fun v h=>absurd h (Nat.not_lt_zero _)⟩
 ·rintro i j w ⟨rfl,hi,hb⟩;refine Af (Bj U U (Ab (Aa (Aq (Ap _ U ?_ ?_)))))
  ·intro h1;replace h1:=AJ h1;have hgp:(tab p N)[i]? = some (p i):=BT (by omega);refine Au (Aa (Aq (A0 (Af (Bn Bg B6 U U ?_)))));refine AZ Bw U ((R.fld hgp U (j:=0) U)) ?_;refine Ad U (Ab (Aa (Af (BU (α:=Unit) 516096 (fun _=>[(18,.bool (decide (p i < -1073741824∨1073741824<p i)))]) (fun _ w'=>w'=w0) U ?_ ?_))))
   ·refine Ae U (Bj U U (AE U (AY 15 U ?_ ?_)))
    ·intro h1;replace h1:=AJ h1;refine Ah U (Ah U (AN U (.bool _) U (Ab ?_)));exact ⟨rfl,(),rfl,⟨congrArg Value.bool (by clear hgp; rw [Bool.eq_iff_iff]; simp_all; try omega),trivial⟩,rfl⟩
    ·intro h2;replace h2:=AK h2;refine Ae U (Cs U U (AU U (.bool _) U (Ab ?_)));exact ⟨rfl,(),rfl,⟨congrArg Value.bool (by clear hgp; rw [Bool.eq_iff_iff]; simp_all; try omega),trivial⟩,rfl⟩
   rintro - j18 w hw;subst hw;refine Ap _ U ?_ ?_
   ·intro h2;refine Af (Ay U (Al Aiz (Ad4 hs Re hen hf hp n1 n2 hw hF) U ?_));rintro v w ⟨rfl,H⟩;refine Ab (Aa (A4 (AA (Ao (Ao (AA (FA U U ?_)))))));obtain ⟨g,hg⟩:∃ g,g=grE (N:Int) es:=⟨_,rfl⟩;have hgE:g.E=es.length:=by rw [hg]; rfl
    rw [← hg] at H hF ⊢
    have hAm:∀ b∈KD g (Cr es) x (2*es.length),b.1<N∧b.2.1<N ∧ -1000≤b.2.2:=fun b hb=>by
     obtain ⟨a,ha,rfl⟩:=List.mem_map.1 hb;obtain ⟨-,-,h1,h2,h3,-⟩:=Pe hw (List.mem_range.1 (List.mem_filter.1 ha).1);rw [hg];exact ⟨h1,h2,h3⟩
    have hfea:Fea (KD g (Cr es) x (2*es.length)) p:=by rw [← hgE]; exact Ts hF
    refine ⟨rfl,_,?_,fun v _=>?_,H⟩
    ·have h7:=Xi hfea fun a ha=>⟨(hAm a ha).1,(hAm a ha).2.1⟩;rw [← hgE] at h7 ⊢;exact ZS hF h7
    ·have h7:=Z4 hfea (fun a ha=>⟨(hAm a ha).1,(hAm a ha).2.1⟩) (m:=1000) (fun a ha=>(hAm a ha).2.2) N v;omega
   ·intro h2;have h2:=of_decide_eq_false h2;refine Au (A5 (Aa (Az (Ax U U ?_))));refine Ae U (Ab (Aa ?_));refine ⟨i+1,rfl,⟨rfl,trivial⟩,⟨rfl,by omega,fun v hv=>?_⟩,by omega⟩
    by_cases e:v=i
    ·subst e; omega
    ·exact hb v (by omega)
  ·intro h1;replace h1:=AK h1;refine Bq (Am (Am (AG (CF U U ?_))));obtain rfl:i=N:=by omega
   exact ⟨rfl,p,hF,hb,H⟩
end
end Go.Proofs.YtdagmpmdcgedcaaGreat
namespace Go.Proofs.YtdagmpmdcgedcaaGreat
open Go.GV
attribute [local irreducible] AB W Wq Wt
theorem Tz (s by':Value) (ob:Option Addr) (on oc:Nat) (bs:Nat) (v:Int) (w:World) (hs:s=ptr bs) (hb:by' = .slice ob on oc):Ret Tryz.prog 247 #[s,by',.int .i64 v] w fun r w'=>∃ b3 b4 b5,r = .func (.func 271) #[] #[ptr b4,ptr b5,ptr b3]∧w'.heap[b3]? = some (Bl 252 [ptr bs])∧w'.heap[b4]? = some (Bl 94 [.slice ob on oc])∧w'.heap[b5]? = some (Bl 3 [.int .i64 v])∧w.heap.size≤b3∧w.heap.size≤b4∧w.heap.size≤b5∧b5≠b3∧b5≠b4∧Ext [] w w':=by
 subst hs hb;obtain ⟨w0,rfl⟩:∃ w0,w0=w:=⟨_,rfl⟩;have H:=Ctx.start w0 [];refine Aw (fn:=Tryz.f247) Tryz.func247 U [.pointer (some ⟨bs,0,none⟩),.slice ob on oc,.int .i64 v] U (by kernel_rfl) ?_;refine Af (Bv _ (.pointer _) U U H ?_);rintro b3 w - H;refine Bv _ (.slice _ _ _) U U H ?_;rintro b4 w - H;refine Bv _ (.int _ _) U U H ?_;rintro b5 w - H;refine CG U .nilFunc U ?_;refine Ab (Aa (Af (BQ [.pointer _,.pointer _,.pointer _] U (CG U (.func _ _ _) U ?_))));refine Ab (Aa (A4 (AD (v:=(.func _ _ _)) U U U ?_)));have h3:=H.own _ (List.mem_of_getElem? at2);have h4:=H.own _ (List.mem_of_getElem? at1);have h5:=H.own _ (List.mem_of_getElem? at0);exact ⟨_,_,_,rfl,H.get at2,H.get at1,H.get at0,h3.elim (fun h=>by cases h) id,h4.elim (fun h=>by cases h) id,h5.elim (fun h=>by cases h) id,H.ne at0 at2 (by decide),H.ne at0 at1 (by decide),H.ext⟩
def byO (by':Nat→Int) (v:Nat):Option Nat:=if by' v = -1 then none else some (by' v).toNat
def ZT (g:Gr) (a:Nat):List Value:=[.int .i64 (a:Int),.int .i64 (g.u a:Int)]
structure BackK (b3 b4 b5 bs ob:Nat) (N:Nat) (ae:Option Addr) (ce bf bp bo:Nat) (k:Int) (es:List Ed) (by':Nat→Int) (M:Mt) (w:World):Prop where
 h4:w.heap[b4]? = some (Bl 94 [.slice (some ⟨ob,0,none⟩) N N])
 h3:w.heap[b3]? = some (Bl 252 [ptr bs])
 hs:w.heap[bs]? = some (Bl 254 (SC N ae es.length ce bf bp bo k))
 ho:w.heap[ob]? = some (Bl 3 (BS by' N))
 Re:Rd w ae 4 CI es
 nm:¬ M b5
theorem T0 {g:Gr} {cap x p:Nat→Int} {s:Lb} {by':Nat→Option Nat} (hB:Bys g cap x p s by'):∀ {k v:Nat},s.d v ≠ -1→s.h v=k→(Ea by' g k v).length=k
 | 0,_,_,_=>rfl
 | k+1,v,hd,hk=>by
  obtain ⟨a,h1,h2,h3⟩:=hB.2 v hd (by omega);have hh:=h2.h;rw [h3,hk] at hh;rw [(Hh (g:=g) (k:=k) h1).1,List.length_cons,T0 hB h2.du (by omega)]
set_option maxRecDepth 20000 in
set_option maxHeartbeats 4000000 in
theorem T5 {b3 b4 b5 bs ob:Nat} {N:Nat} {ae:Option Addr} {ce bf bp bo:Nat} {kk:Int} {es:List Ed} {by':Nat→Int} {x p:Nat→Int} {s:Lb} (hw:Cm (N:Int) es (tab x es.length)=true) (hB:Bys (grE (N:Int) es) (Cr es) x p s (byO by')) (hby:∀ v,by' v = -1∨∃ a:Nat,by' v=(a:Int)∧a<2*es.length) {k v:Nat} (hv:v<N) (hd:s.d v ≠ -1) (hk:s.h v=k) :
  VC Tryz.prog 271 #[ptr b4,ptr b5,ptr b3] [b5] (fun M w=>BackK b3 b4 b5 bs ob N ae ce bf bp bo kk es by' M w) ((Ea (byO by') (grE (N:Int) es) k v).map (ZT (grE (N:Int) es))) (fun w=>w.heap[b5]? = some (Bl 3 [.int .i64 (v:Int)])):=by
 intro l w hS J E hJ0 hJs hEs hK hY;obtain ⟨M0,hJ0⟩:=hJ0;obtain ⟨w0,rfl⟩:∃ w0,w0=w:=⟨_,rfl⟩;have hr:=(Cv hw).2.1;obtain ⟨hN1,hN40,hn200,-⟩:=CD hr;have hI:I64 (N:Int):=by unfold I64; omega
 obtain ⟨g,hg⟩:∃ g,g=grE (N:Int) es:=⟨_,rfl⟩
 have hat:∀ {a:Nat},a<2*es.length→FN (N:Int) es (a:Int)=((g.u a:Int),(g.v a:Int),g.c a)∧g.u a<N:=fun ha=>by
  rw [hg]; exact ⟨(Pe hw ha).1,(Pe hw ha).2.2.1⟩
 rw [← hg] at hB hY ⊢;have hlen:((Ea (byO by') g k v).map (ZT g)).length=k:=by rw [List.length_map,T0 hB hd hk]
 refine Aw (fn:=Tryz.f271) Tryz.func271 U [.func (.yield l) #[] #[],.pointer (some ⟨b4,0,none⟩),.pointer (some ⟨b5,0,none⟩),.pointer (some ⟨b3,0,none⟩)] U (by kernel_rfl) ?_;refine A0 (Bt 1073741792 (α:=Nat × Nat) (fun _=>[]) (fun t w'=>t.1≤k∧(∃ M,J t.1 M w')∧w'.heap[b5]? = some (Bl 3 [.int .i64 (t.2:Int)])∧t.2<N∧s.d t.2 ≠ -1∧s.h t.2=k - t.1∧(Ea (byO by') g k v).drop t.1=Ea (byO by') g (k - t.1) t.2) (fun t=>k - t.1) (0,v) U ?_ ?_ ?_)
 ·exact trivial
 ·exact ⟨Nat.zero_le _,⟨M0,hJ0⟩,hS,hv,hd,hk,rfl⟩
 ·rintro ⟨i,u⟩ j w ⟨hi,⟨M,hJ⟩,hb5,hun,hdu,hhu,hdrop⟩; dsimp only at hi hJ hb5 hun hdu hhu hdrop; dsimp only;have KK:=(hK _ _ _ hJ).2;obtain ⟨w1,rfl⟩:∃ w1,w1=w:=⟨_,rfl⟩;have H:=Ctx.start1 hb5;have hgb:(tab by' N)[u]? = some (by' u):=BT hun;refine Aq (Af (AZ Ie U ((by rw [Aj KK.h4]; rfl)) ?_));refine AM Ca U H at0 U (Bn Fu FY U U ?_);refine AZ Ca U (((Cx KK.ho).fld hgb U (j:=0) U)) ?_;refine C4 U U (Ab (Aa (Ap _ U ?_ ?_)))
  ·intro h1;replace h1:=AJ h1;have hne:byO by' u≠none:=by unfold byO; rw [if_neg (by omega)]; exact fun h=>by cases h
   have hh0:s.h u≠0:=fun h=>hne (hB.1 u (.inr h));obtain ⟨a,ha,hW,hva⟩:=hB.2 u hdu hh0
   have hba:by' u=(a:Int):=by
    unfold byO at ha;rw [if_neg (by omega)] at ha;have:=Option.some.inj ha;omega
   have ha2:a<2*es.length:=by
    rcases hby u with h | ⟨a',h,h7⟩
    ·omega
    ·omega
   obtain ⟨hE,hu2⟩:=hat ha2;rw [hba] at hgb;obtain ⟨u2,hu2e⟩:∃ u2,u2=g.u a:=⟨_,rfl⟩;obtain ⟨v2,hv2e⟩:∃ v2,v2=g.v a:=⟨_,rfl⟩;obtain ⟨c2,hc2e⟩:∃ c2,c2=g.c a:=⟨_,rfl⟩;rw [← hu2e,← hv2e,← hc2e] at hE;rw [← hu2e] at hu2;have hE1:(FN (N:Int) es (a:Int)).1=u2:=by rw [hE]
   have hE2:(FN (N:Int) es (a:Int)).2.1=v2:=by rw [hE]
   have hE3:(FN (N:Int) es (a:Int)).2.2=c2:=by rw [hE]
   have hki:k - i=(k - (i+1))+1:=by omega
   have hps:=(Hh (g:=g) (k:=k - (i+1)) ha).1;rw [← hki,← hdrop,← hu2e] at hps
   have hgi:(Ea (byO by') g k v)[i]? = some a:=by
    have:=congrArg (·[0]?) hps
    simpa using this
   have hdrop2:(Ea (byO by') g k v).drop (i+1)=Ea (byO by') g (k - (i+1)) u2:=by
    have:=congrArg List.tail hps
    simpa using this
   refine Au (Aa (A0 (Af (AZ Ie U ((by rw [Aj KK.h4]; rfl)) ?_))));refine AM Ca U H at0 U (Bn Fu FY U U ?_);refine AZ Ca U (((Cx KK.ho).fld hgb U (j:=0) U)) ?_;refine Ad U (Ab (Aa (Af (AZ EB U ((by rw [Aj KK.h3]; rfl)) ?_))));refine A9 U (Ag G7 U (Cj _ Df CL U U ((IR KK.hs)) ?_));refine Ae U (Al UM (RU (N:Int) ae es.length ce es _ KK.Re U hI (a:Int)) U ?_);rintro r w ⟨rfl,hx21⟩;replace H:=H.call hx21;rw [hE1,hE2,hE3];refine BM U (A6 U U (A6 U U (A6 U U (Cp (.int _ _) FY U U U H at0 (by (simp; done)) ?_))));rintro w H;refine Ab (Aa ?_);have hJ1:=hJs _ _ _ _ hJ H.ext;have hY1:=hY i (ZT g a) M w (by rw [List.getElem?_map,hgi]; rfl) hJ1;have hb51:=H.get at0;have hnm:=KK.nm;have hwv:ZT g a=[.int .i64 (a:Int),.int .i64 (u2:Int)]:=by rw [hu2e]; rfl
   rw [hwv] at hY1;refine Af (Da U (.func _ _ _) U ?_);refine Ae U (AM Ca U H at0 U (G6 (vs:=[.int .i64 (a:Int),.int .i64 (u2:Int)]) U hY1 U ?_));rintro u' w hu';obtain ⟨bb,rfl,hu1,hu0⟩:∃ bb,u' = .bool bb∧(bb=true→(∃ M,J (i+1) M w)∧w.heap[b5]? = some (Bl 3 [.int .i64 (u2:Int)]))∧(bb=false→E w):=hu'.elim (fun h=>⟨true,h.1,fun _=>let ⟨M',h1,h2⟩:=h.2; ⟨⟨M',h1⟩,h2.to hb51 hnm⟩,fun h=>by cases h⟩) (fun h=>⟨false,h.1,(fun h=>by cases h),fun _=>h.2⟩);refine BA U (Ab (Aa (Ap _ U ?_ ?_)))
   ·intro h2;replace h2:=BE h2;refine A4 (AA (Ao (AA (FA U U ?_))));exact .inr (hu0 (by simpa using h2))
   ·intro h2;replace h2:=BF h2;refine Au (A5 (Aa ?_));obtain ⟨hJ2,hb52⟩:=hu1 (by simpa using h2);have hh:=hW.h;rw [hva,← hu2e] at hh;exact ⟨(i+1,u2),rfl,trivial,⟨by dsimp only; omega,hJ2,hb52,hu2,by dsimp only; rw [hu2e]; exact hW.du,by dsimp only; omega,hdrop2⟩,by dsimp only; omega⟩
  ·intro h1;replace h1:=AK h1
   have hh0:s.h u=0:=by
    rcases Nat.eq_zero_or_pos (s.h u) with h | h
    ·exact h
    ·obtain ⟨a,ha,-,-⟩:=hB.2 u hdu (by omega);exfalso;unfold byO at ha
     rcases hby u with h7 | ⟨a',h7,-⟩
     ·rw [if_pos h7] at ha; cases ha
     ·omega
   refine Bq (Am (Am (AG (CF U U ?_))));obtain rfl:i=k:=by omega
   exact .inl ⟨M,by rw [hlen]; exact hJ⟩
end Go.Proofs.YtdagmpmdcgedcaaGreat
namespace Go.Proofs.YtdagmpmdcgedcaaGreat
open Go.GV
attribute [local irreducible] AB W Wq Wt
def I5:Nat→List Nat
 | 1=>[0] | 2=>[1,0] | 4=>[3] | 5=>[4,3] | 7=>[6] | 8=>[7,6] | 10=>[9] | 11=>[10,9]
 | 12=>[2,1,0,5,4,3,8,7,6,11,10,9] | 13=>[12,2,1,0,5,4,3,8,7,6,11,10,9] | 15=>[14,13,12,2,1,0,5,4,3,8,7,6,11,10,9] | _=>[]
def Np (i:Nat):Nat:=if i=14 then 11 else 23+i
def Xu (b4 n:Nat) (i:Nat) (B:Nat→Nat):Value :=
 if i=1∨i=4∨i=7∨i=10 then .int .i64 (n:Int) else if i=2∨i=5∨i=8∨i=11 then .slice (some ⟨B i,0,none⟩) n n
 else if i=12 then .agg (FB (B 2) (B 5) (B 8) (B 11) n).toArray else if i=13∨i=14 then ptr (B i) else .pointer (some ⟨b4,0+0,none⟩)
def E3 (n:Nat) (i:Nat):Option ((Nat→Nat)→Obj) :=
 if i=2 then some fun _=>Bl 300 ((List.range n).map fun _ => .slice none 0 0) else if i=5 then some fun _=>Bl 2 (BS (fun _=>0) n) else if i=8∨i=11 then some fun _=>Bl 3 (BS (fun _=>0) n)
 else if i=13 then some fun B=>Bl 294 (FB (B 2) (B 5) (B 8) (B 11) n) else if i=14 then some fun _=>Bl 291 [.pointer none] else none
theorem Xv:∀ i j,i<15→j<15→Np i=Np j→i=j:=fun i j hi hj h=>by
 unfold Np at h
 split at h <;> split at h <;> omega
theorem wStab (b4 n:Nat) (i k b:Nat) (B:Nat→Nat) (hi:i<15) (hki:k≠i) (hka:k∉I5 i):Xu b4 n i (JN B k b)=Xu b4 n i B∧∀ ob,E3 n i=some ob→ob (JN B k b)=ob B:=by
 have h0:JN B k b i=B i:=Gv (Ne.symm hki)
 have h1:i=12∨i=13→JN B k b 2=B 2∧JN B k b 5=B 5∧JN B k b 8=B 8∧JN B k b 11=B 11:=fun h=>by
  have:k≠2∧k≠5∧k≠8∧k≠11:=by
   rcases h with rfl | rfl <;> (simp [I5] at hka; omega)
  exact ⟨Gv (Ne.symm this.1),Gv (Ne.symm this.2.1),Gv (Ne.symm this.2.2.1),Gv (Ne.symm this.2.2.2)⟩
 constructor
 ·unfold Xu
  by_cases e:i=12
  ·have:=h1 (.inl e);subst e;simp [this]
  ·rw [h0]; simp [e]
 ·intro ob hob;unfold E3 at hob
  by_cases e:i=13
  ·have:=h1 (.inr e);subst e;simp at hob;subst hob;simp [this]
  ·split at hob
   ·cases hob; rfl
   ·split at hob
    ·cases hob; rfl
    ·split at hob
     ·cases hob; rfl
     ·split at hob
      ·cases hob; rfl
      ·cases hob
theorem Kg {N:Int} {es:List Ed} (hr:Cw N es=true):(grE N es).Ok:=by
 have h:∀ i,i<es.length→(es.getD i e0).f.toNat<N.toNat∧(es.getD i e0).t.toNat<N.toNat:=fun i hi=>by
  obtain ⟨e,he⟩:=A8 (l:=es) (i:=i) (h:=hi);have:=EC ((CD hr).2.2.2.1 e (List.mem_of_getElem? he));rw [Bo he];omega
 exact ⟨fun i hi=>(h i hi).1,fun i hi=>(h i hi).2⟩
theorem Wd {cap x:Nat→Int} {k a:Nat} (h:a∈E0 cap x k):a<2*k:=List.mem_range.1 (List.mem_filter.1 h).1
def Pg (i:Nat) (v:Nat):Int:=if v<i then -1 else 0
theorem We (i:Nat):Pg (i+1) i = -1:=if_pos (by omega)
theorem Wf {i q:Nat} (h:q≠i):Pg (i+1) q=Pg i q:=by unfold Pg; split <;> split <;> omega
theorem Ad5 {P:Program} {e:Env} {w:World} {fn:Func} {R:Value→World→Prop} {t1 t2 t3:Tmp} {v1 v2 v3:Value} (hr:fn.results=#[.tmp t1,.tmp t2,.tmp t3]) (h1:e.g t1=v1) (h2:e.g t2=v2) (h3:e.g t3=v3) (h:Marks e.ds w (R (.tuple #[v1,v2,v3]))):SV P fn R .ret e w :=
 Marks.mono (fun w h tmps ht=>by
  have q1:=(ht t1).trans h1;have q2:=(ht t2).trans h2;have q3:=(ht t3).trans h3;rw [Array.getD_eq_getD_getElem?] at q1 q2 q3
  exact ⟨_,by simp [results,hr,q1,q2,q3],h⟩) h
theorem Vc {L L':List (Nat × Obj)} (h:(L++L').Pairwise (fun x y=>x.1≠y.1)) {x:Nat × Obj} (hx:x∈L):x.1∉L'.map (·.1):=fun hm=>by
 obtain ⟨y,hy,he⟩:=List.mem_map.1 hm;exact (List.pairwise_append.1 h).2.2 x hx y hy he.symm
theorem Rd.lt {α:Type} {w:World} {a:Option Addr} {s:Nat} {enc:α→List Value} {xs:List α} (R:Rd w a s enc xs) (h:xs≠[]) (hs:∀ x∈xs,∃ v,(enc x)[0]? = some v) (h0:0<s):(adr a).block<w.heap.size:=by
 obtain ⟨x,hx⟩:=A8 (l:=xs) (i:=0) (h:=List.length_pos_iff.2 h);obtain ⟨v,hv⟩:=hs x (List.mem_of_getElem? hx);exact World.block_lt_of_cell? w ⟨(adr a).block,(adr a).off+0*s+0,none⟩ (R.cell 0 x hx 0 v hv h0)
theorem Ad6:(lb0 []).d=fun _ => -1:=by
 funext v
 show (if v∈([]:List Nat) then (0:Int) else -1) = -1;exact if_neg List.not_mem_nil
structure WSt where
 s:Lb
 a:Option Addr
 hn:Nat
 c:Nat
 full:List Value
 L:List Tg
 D:Int
set_option maxRecDepth 20000 in
set_option maxHeartbeats 8000000 in
theorem Ad7 (N:Int) (a b p fr:Option Addr) (n c m d q r fc:Nat) (es:List Ed) (fl pot:List Int) (src:List Nat) (w:World) (R:Rd w a 4 CI es) (hn:es.length=n) (hN:I64 N) (Rf:Rd w b 1 I1 fl) (hm:fl.length=m) (Rp:Rd w p 1 I1 pot) (hq:pot.length=q) (Rs:Rd w fr 1 I1 (src.map fun v:Nat=>(v:Int)))
  (hfit:Ij N es fl pot=true) (hsrc:∀ v∈src,v<N.toNat) (hnd:src.Nodup) (hs0:0<src.length)  (hm2:m≤9223372036854775000:=by omega) (hq2:q≤9223372036854775000:=by omega):
  Ret Tryz.prog 245 #[Ec N a n c,.slice b m d,.slice p q r,.slice fr src.length fc] w fun v w'=>∃ (od ob:Nat) (s:Lb) (by':Nat→Int),v = .tuple #[.slice (some ⟨od,0,none⟩) N.toNat N.toNat,.slice (some ⟨ob,0,none⟩) N.toNat N.toNat,.int .i64 0]∧Done (N0 (grE N es) (Cr es) (flE fl) (ES pot)) src N.toNat 2199023256552 s∧Bys (grE N es) (Cr es) (flE fl) (ES pot) s (fun v=>if by' v = -1 then none else some (by' v).toNat)∧(∀ v,by' v = -1∨∃ a:Nat,by' v=(a:Int)∧a<2*es.length)∧Ctx w [] w' [(od,Bl 2 (BS s.d N.toNat)),(ob,Bl 3 (BS by' N.toNat))]:=by
 subst hn hm hq;obtain ⟨w0,rfl⟩:∃ w0,w0=w:=⟨_,rfl⟩;have H:=Ctx.start w0 [];refine He (fn:=Tryz.f245) Tryz.func245 U [Ec N a es.length c,.slice b fl.length d,.slice p pot.length r,.slice fr src.length fc] U (by kernel_rfl) ?_;refine Af (Bv [.int .i64 N,.slice a es.length c] (.agg _) U U H ?_);rintro b4 w - H;refine A1 U (A1 U (Ad U (Ab (Aa (Aq (Af (Cl Df CL U H at0 U (A3 U (A3 U (Al Air (Ady N a b p es.length c fl.length d pot.length r es fl pot _ (R.ext0 H.ext) U hN (Rf.ext0 H.ext) U hm2 (Rp.ext0 H.ext) U hq2) U ?_))))))))));rintro v w ⟨rfl,hx21⟩;replace H:=H.call hx21;refine BA U (Ab (Aa (Ap _ U ?_ ?_)))
 ·intro h1;replace h1:=BE h1;rw [hfit] at h1;cases h1
 ·intro h1;replace h1:=BF h1;have hw:Cm N es fl=true:=by unfold Ij at hfit; rw [Bool.and_eq_true] at hfit; exact hfit.1
  obtain ⟨hN1,hN40,hn200,-⟩:=CD (Cv hw).2.1;obtain ⟨nn,rfl⟩:∃ nn:Nat,N=(nn:Int):=⟨N.toNat,by omega⟩;refine Au (Aa (DC 137430566912 (α:=Nat × Nat × Nat × Nat × Nat × Nat) (fun z=>[(11,ptr z.1)]) (fun z w'=>Ctx w0 [] w' [(z.1,Bl 291 [ptr z.2.1]),(z.2.1,Bl 294 (FB z.2.2.1 z.2.2.2.1 z.2.2.2.2.1 z.2.2.2.2.2 nn)),(z.2.2.1,Bl 300 ((List.range nn).map fun _ => .slice none 0 0)),(z.2.2.2.1,Bl 2 (BS (fun _=>0) nn)),(z.2.2.2.2.1,Bl 3 (BS (fun _=>0) nn)),(z.2.2.2.2.2,Bl 3 (BS (fun _=>0) nn)),(b4,Bl 51 [.int .i64 (nn:Int),.slice a es.length c])]) U ?_ ?_))
  ·skip
   have hb4:=H.get at0;refine Y6 (n:=15) (anc:=I5) Np (Xu b4 nn) (E3 nn) (show Tryz.prog.follows .mixedOrders=true by kernel_rfl) U (by kernel_rfl) ?_ Xv (wStab b4 nn) ?_ ?_
   ·intro k hk;have:k=0∨k=1∨k=2∨k=3∨k=4∨k=5∨k=6∨k=7∨k=8∨k=9∨k=10∨k=11∨k=12∨k=13∨k=14:=by omega
    simp [I5];omega
   ·intro i o e' w' B hi ho hold hsl hx hbl
    have h4:e'.g 4=ptr b4:=(hold 4 fun j hj h=>by
     have h:(4:Nat)=Np j:=h;unfold Np at h
     split at h <;> omega).trans rfl
    have hc4:w'.heap[b4]? = some (Bl 51 [.int .i64 (nn:Int),.slice a es.length c]):=hx.to (by exact hb4) (by simp);have hcs:i=0∨i=1∨i=2∨i=3∨i=4∨i=5∨i=6∨i=7∨i=8∨i=9∨i=10∨i=11∨i=12∨i=13∨i=14:=by omega
    have hpure:∀ {v:Value},E3 nn i=none→Xu b4 nn i (JN B i 0)=v→AQ Np (Xu b4 nn) (E3 nn) i e' w' B (put e' (some (Np i)) v) w':=fun h1 h2=>⟨0,fun ob h=>(by rw [h1] at h; cases h),.refl _ _,by rw [h2]⟩
    rcases hcs with rfl | rfl | rfl | rfl | rfl | rfl | rfl | rfl | rfl | rfl | rfl | rfl | rfl | rfl | rfl
    ·cases Option.some.inj ho;exact Ag (by kernel_rfl) h4 (Ab (hpure U U))
    ·cases Option.some.inj ho;exact AZ Ca (hsl 0 (by simp [I5])) (by rw [Aj hc4]; rfl) (Ab (hpure U U))
    ·cases Option.some.inj ho;refine GS MC ME Agp Aji (hsl 1 (by simp [I5])) (hsl 1 (by simp [I5])) (Ctx.start w' []) fun b w2 hb H=>?_;have hbb:=H.get at0;rw [show ((nn:Int)).toNat=nn from rfl,EO] at hbb;exact Ab ⟨b,fun ob h=>(by obtain rfl:=Option.some.inj h; exact ⟨by omega,hbb⟩),H.ext,rfl⟩
    ·cases Option.some.inj ho;exact Ag (by kernel_rfl) h4 (Ab (hpure U U))
    ·cases Option.some.inj ho;exact AZ Ca (hsl 3 (by simp [I5])) (by rw [Aj hc4]; rfl) (Ab (hpure U U))
    ·cases Option.some.inj ho;refine GS Bg B6 Lg EK (hsl 4 (by simp [I5])) (hsl 4 (by simp [I5])) (Ctx.start w' []) fun b w2 hb H=>?_;have hbb:=H.get at0;rw [show ((nn:Int)).toNat=nn from rfl,EO] at hbb;exact Ab ⟨b,fun ob h=>(by obtain rfl:=Option.some.inj h; exact ⟨by omega,hbb⟩),H.ext,rfl⟩
    ·cases Option.some.inj ho;exact Ag (by kernel_rfl) h4 (Ab (hpure U U))
    ·cases Option.some.inj ho;exact AZ Ca (hsl 6 (by simp [I5])) (by rw [Aj hc4]; rfl) (Ab (hpure U U))
    ·cases Option.some.inj ho;refine GS Fu FY by_3 US (hsl 7 (by simp [I5])) (hsl 7 (by simp [I5])) (Ctx.start w' []) fun b w2 hb H=>?_;have hbb:=H.get at0;rw [show ((nn:Int)).toNat=nn from rfl,EO] at hbb;exact Ab ⟨b,fun ob h=>(by obtain rfl:=Option.some.inj h; exact ⟨by omega,hbb⟩),H.ext,rfl⟩
    ·cases Option.some.inj ho;exact Ag (by kernel_rfl) h4 (Ab (hpure U U))
    ·cases Option.some.inj ho;exact AZ Ca (hsl 9 (by simp [I5])) (by rw [Aj hc4]; rfl) (Ab (hpure U U))
    ·cases Option.some.inj ho;refine GS Fu FY by_3 US (hsl 10 (by simp [I5])) (hsl 10 (by simp [I5])) (Ctx.start w' []) fun b w2 hb H=>?_;have hbb:=H.get at0;rw [show ((nn:Int)).toNat=nn from rfl,EO] at hbb;exact Ab ⟨b,fun ob h=>(by obtain rfl:=Option.some.inj h; exact ⟨by omega,hbb⟩),H.ext,rfl⟩
    ·cases Option.some.inj ho;refine B1 (FB (B 2) (B 5) (B 8) (B 11) nn) Ai8 Ajh ?_ (Ab (hpure U U));show Instr.fill _ _ [(0,e'.g 25),(1,e'.g 28),(2,e'.g 31),(3,e'.g 34)]=_;rw [show e'.g 25 = .slice (some ⟨B 2,0,none⟩) nn nn from hsl 2 (by simp [I5]),show e'.g 28 = .slice (some ⟨B 5,0,none⟩) nn nn from hsl 5 (by simp [I5]),show e'.g 31 = .slice (some ⟨B 8,0,none⟩) nn nn from hsl 8 (by simp [I5]),show e'.g 34 = .slice (some ⟨B 11,0,none⟩) nn nn from hsl 11 (by simp [I5])];rfl
    ·cases Option.some.inj ho;refine Bv (FB (B 2) (B 5) (B 8) (B 11) nn) (.agg _) (hsl 12 (by simp [I5])) U (Ctx.start w' []) fun b w2 hb H=>?_;exact Ab ⟨b,fun ob h=>(by obtain rfl:=Option.some.inj h; exact ⟨by omega,H.get at0⟩),H.ext,rfl⟩
    ·cases Option.some.inj ho;refine AX Ajg (Ctx.start w' []) fun b w2 hb H=>?_;exact Ab ⟨b,fun ob h=>(by obtain rfl:=Option.some.inj h; exact ⟨by omega,H.get at0⟩),H.ext,rfl⟩
   ·intro o e' w' B ho A;have hl4:=Ba hb4;have hs0:=H.size;have h9:w.drew.heap.size=w.heap.size:=rfl;have n14_13:B 14≠B 13:=A.ne 14 13 (by omega) (by omega) (by omega) trivial trivial (by simp [E3]) (by simp [E3]);have n14_2:B 14≠B 2:=A.ne 14 2 (by omega) (by omega) (by omega) trivial trivial (by simp [E3]) (by simp [E3]);have n14_5:B 14≠B 5:=A.ne 14 5 (by omega) (by omega) (by omega) trivial trivial (by simp [E3]) (by simp [E3]);have n14_8:B 14≠B 8:=A.ne 14 8 (by omega) (by omega) (by omega) trivial trivial (by simp [E3]) (by simp [E3]);have n14_11:B 14≠B 11:=A.ne 14 11 (by omega) (by omega) (by omega) trivial trivial (by simp [E3]) (by simp [E3]);have n13_2:B 13≠B 2:=A.ne 13 2 (by omega) (by omega) (by omega) trivial trivial (by simp [E3]) (by simp [E3]);have n13_5:B 13≠B 5:=A.ne 13 5 (by omega) (by omega) (by omega) trivial trivial (by simp [E3]) (by simp [E3])
    have n13_8:B 13≠B 8:=A.ne 13 8 (by omega) (by omega) (by omega) trivial trivial (by simp [E3]) (by simp [E3]);have n13_11:B 13≠B 11:=A.ne 13 11 (by omega) (by omega) (by omega) trivial trivial (by simp [E3]) (by simp [E3]);have n2_5:B 2≠B 5:=A.ne 2 5 (by omega) (by omega) (by omega) trivial trivial (by simp [E3]) (by simp [E3]);have n2_8:B 2≠B 8:=A.ne 2 8 (by omega) (by omega) (by omega) trivial trivial (by simp [E3]) (by simp [E3]);have n2_11:B 2≠B 11:=A.ne 2 11 (by omega) (by omega) (by omega) trivial trivial (by simp [E3]) (by simp [E3]);have n5_8:B 5≠B 8:=A.ne 5 8 (by omega) (by omega) (by omega) trivial trivial (by simp [E3]) (by simp [E3]);have n5_11:B 5≠B 11:=A.ne 5 11 (by omega) (by omega) (by omega) trivial trivial (by simp [E3]) (by simp [E3]);have n8_11:B 8≠B 11:=A.ne 8 11 (by omega) (by omega) (by omega) trivial trivial (by simp [E3]) (by simp [E3])
    have k14:=A.blk 14 _ (by omega) trivial (show E3 nn 14=some _ from rfl);have m14:B 14≠b4:=by have:=k14.2; have h9:w.drew.heap.size=w.heap.size:=rfl; omega
    have k13:=A.blk 13 _ (by omega) trivial (show E3 nn 13=some _ from rfl);have m13:B 13≠b4:=by have:=k13.2; have h9:w.drew.heap.size=w.heap.size:=rfl; omega
    have k2:=A.blk 2 _ (by omega) trivial (show E3 nn 2=some _ from rfl);have m2:B 2≠b4:=by have:=k2.2; have h9:w.drew.heap.size=w.heap.size:=rfl; omega
    have k5:=A.blk 5 _ (by omega) trivial (show E3 nn 5=some _ from rfl);have m5:B 5≠b4:=by have:=k5.2; have h9:w.drew.heap.size=w.heap.size:=rfl; omega
    have k8:=A.blk 8 _ (by omega) trivial (show E3 nn 8=some _ from rfl);have m8:B 8≠b4:=by have:=k8.2; have h9:w.drew.heap.size=w.heap.size:=rfl; omega
    have k11:=A.blk 11 _ (by omega) trivial (show E3 nn 11=some _ from rfl);have m11:B 11≠b4:=by have:=k11.2; have h9:w.drew.heap.size=w.heap.size:=rfl; omega
    have Hc:Ctx w0 [] w' [(B 14,Bl 291 [.pointer none]),(B 13,Bl 294 (FB (B 2) (B 5) (B 8) (B 11) nn)),(B 2,Bl 300 ((List.range nn).map fun _ => .slice none 0 0)),(B 5,Bl 2 (BS (fun _=>0) nn)),(B 8,Bl 3 (BS (fun _=>0) nn)),(B 11,Bl 3 (BS (fun _=>0) nn)),(b4,Bl 51 [.int .i64 (nn:Int),.slice a es.length c])]:=by
     refine ⟨(H.ext.trans (Ext.drew [] _)).trans A.ext,fun x hx=>?_,?_,fun x hx => .inr ?_⟩
     ·simp only [List.mem_cons,List.not_mem_nil,or_false] at hx
      rcases hx with rfl | rfl | rfl | rfl | rfl | rfl | rfl
      ·exact k14.1
      ·exact k13.1
      ·exact k2.1
      ·exact k5.1
      ·exact k8.1
      ·exact k11.1
      ·exact A.ext.to hb4 (by simp)
     ·simp only [List.pairwise_cons,List.mem_cons,List.not_mem_nil,or_false,forall_eq_or_imp,forall_eq,List.Pairwise.nil,false_imp_iff,implies_true,and_true];exact ⟨⟨n14_13,n14_2,n14_5,n14_8,n14_11,m14⟩,⟨n13_2,n13_5,n13_8,n13_11,m13⟩,⟨n2_5,n2_8,n2_11,m2⟩,⟨n5_8,n5_11,m5⟩,⟨n8_11,m8⟩,m11⟩
     ·simp only [List.mem_cons,List.not_mem_nil,or_false] at hx;have hb40:=(H.own _ (List.mem_cons_self ..)).elim (fun h=>by cases h) id
      rcases hx with rfl | rfl | rfl | rfl | rfl | rfl | rfl
      ·have:=k14.2; dsimp only; omega
      ·have:=k13.2; dsimp only; omega
      ·have:=k2.2; dsimp only; omega
      ·have:=k5.2; dsimp only; omega
      ·have:=k8.2; dsimp only; omega
      ·have:=k11.2; dsimp only; omega
      ·exact hb40
    cases Option.some.inj ho;exact Cp (ptr (B 13)) Ajc (A.slot 14 (by omega) trivial) (A.slot 13 (by omega) trivial) U Hc at0 (by decide) fun w2 H2=>Ab ⟨(B 14,B 13,B 2,B 5,B 8,B 11),A.ds,⟨A.slot 14 (by omega) trivial,trivial⟩,H2⟩
  ·rintro ⟨b11,b36,oo,od,oh,ob⟩ j w H; dsimp only at H; dsimp only;refine Aq (Af (Ag Fl U (AM Ca U H at6 U (Ae U (Ab (Aa (A0 (Bt 36028247263154176 (α:=Nat) (fun i=>[(39,.int .i64 (i:Int))]) (fun i w'=>i≤nn∧Ctx w0 [] w' [(b11,Bl 291 [ptr b36]),(b36,Bl 294 (FB oo od oh ob nn)),(oo,Bl 300 ((List.range nn).map fun _ => .slice none 0 0)),(od,Bl 2 (BS (Pg i) nn)),(oh,Bl 3 (BS (fun _=>0) nn)),(ob,Bl 3 (BS (Pg i) nn)),(b4,Bl 51 [.int .i64 (nn:Int),.slice a es.length c])]) (fun i=>nn - i) 0 U ?_ ?_ ?_))))))))
   ·exact ⟨rfl,trivial⟩
   ·exact ⟨Nat.zero_le _,H⟩
   ·rintro i j2 w ⟨hi,H⟩;refine Af (Bj U U (Ab (Aa (Aq (Ap _ U ?_ ?_)))))
    ·intro h2;replace h2:=AJ h2;refine Au (Aa (Aq (A0 (Af (Ae U (Ad U (Ab (Aa (ER [([0,1,2,3,4,5,6,7,8,9,10],11),([12],13)] (fun z=>z.heap[b11]? = some (Bl 291 [ptr b36])∧z.heap[b36]? = some (Bl 294 (FB oo od oh ob nn))) [13] Bs (by kernel_rfl) (⟨H.drew.get at0,H.drew.get at1⟩) ?_)))))))));refine AF U U ?_;refine B0 Iw U (fun _ hx=>(by rw [Aj hx.1]; rfl)) ?_;refine Bd U (An U El U (B0 Cg U (fun _ hx=>(by rw [Aj hx.2]; rfl)) ?_));refine Be U (B0 Iw U (fun _ hx=>(by rw [Aj hx.1]; rfl)) ?_);refine Bd U (An U JV U (B0 Ie U (fun _ hx=>(by rw [Aj hx.2]; rfl)) ?_));refine Be U (AH Bg B6 U U ?_);refine AP ?_;replace H:=H.drew;refine Cc i (fun q => .int .i64 (Pg (i+1) q)) (.int _ _) B6 U U U H at3 (by simp) (by rw [We]) (fun q _ hq=>by rw [Wf hq]) ?_;rintro w H;refine Ab (BR (⟨H.get at0,H.get at1⟩) (AF U U ?_))
     refine AH Fu FY U U ?_;refine AP (Cc i (fun q => .int .i64 (Pg (i+1) q)) (.int _ _) FY U U U H at5 (by simp) (by rw [We]) (fun q _ hq=>by rw [Wf hq]) ?_);rintro w H;refine Ab (Bz U (BH (A5 (Aa (Az (Ax U U ?_))))));refine Ae U (Ab (Aa ?_));exact ⟨i+1,rfl,⟨rfl,trivial⟩,⟨by omega,H⟩,by omega⟩
    ·intro h2;replace h2:=AK h2;obtain rfl:nn=i:=by omega
     have htab:BS (Pg nn) nn=BS (fun _ => -1) nn:=List.map_congr_left fun v hv=>by
      show Value.int _ (Pg nn v)=Value.int _ (-1);unfold Pg; rw [if_pos (List.mem_range.1 hv)]
     rw [htab] at H;have hr:=(Cv hw).2.1;have hp:Ge (nn:Int) pot=true:=by unfold Ij at hfit; rw [Bool.and_eq_true,Bool.and_eq_true] at hfit; exact hfit.2.1
     obtain ⟨g,hg⟩:∃ g,g=grE (nn:Int) es:=⟨_,rfl⟩;obtain ⟨pf,hpf⟩:∃ pf,pf=ES pot:=⟨_,rfl⟩;obtain ⟨l,hl⟩:∃ l,l=E0 (Cr es) (flE fl) es.length:=⟨_,rfl⟩;have hgo:g.Ok:=by rw [hg]; exact Kg hr
     have hlen400:l.length≤400:=by
      rw [hl]; unfold E0;have:=List.length_filter_le (fun a=>decide (0<CC (Cr es) (flE fl) a)) (List.range (2*es.length));rw [List.length_range] at this;omega
     refine Bq (Am (Am (AG (Aa (Aq (Af (Cl Df CL U H at6 U (A3 U (A3 U ?_)))))))));have hb7:=H;refine Al Za (Wb (nn:Int) a b p es.length c fl.length d pot.length r _) U ?_;rintro v w ⟨x1,x2,x3,rfl,hb1,hb2,hb3,hs1,hs2,hs3,hx58⟩;replace H:=H.call hx58;refine Ab (Aa (A0 ?_));obtain ⟨ws,rfl⟩:∃ z,z=w:=⟨_,rfl⟩;have hk1:=Ba hb1;have hk2:=Ba hb2;have hk3:=Ba hb3;have hs07:=H.size;have hoo:=H.get at2;have HL:=(H.perm (List.perm_middle (l₁:=[_,_]) (l₂:=[_,_,_,_]))).tail;have hoolt:=Ba hoo;have hoo7:=Ba (hb7.get at2);have hooge:w0.heap.size≤oo:=(H.own (oo,_) (List.mem_of_getElem? (i:=2) rfl)).elim (fun h=>by cases h) id;obtain ⟨OL,hOL⟩:∃ OL:List (Nat × Obj),OL=[(b11,Bl 291 [ptr b36]),(b36,Bl 294 (FB oo od oh ob nn)),(od,Bl 2 (BS (fun _ => -1) nn)),(oh,Bl 3 (BS (fun _=>0) nn)),(ob,Bl 3 (BS (fun _ => -1) nn)),(b4,Bl 51 [.int .i64 (nn:Int),.slice a es.length c])]:=⟨_,rfl⟩
     have HL':Ctx w0 [] ws OL:=by rw [hOL]; exact HL
     have hOLlt:∀ y∈OL,y.1<ws.heap.size:=fun y hy=>Ba (HL'.blk y hy)
     have hOLoo:∀ y∈OL,y.1≠oo:=fun y hy=>by
      have h9:=H.perm (List.perm_middle (l₁:=[_,_]) (l₂:=[_,_,_,_]));rw [hOL] at hy;exact fun h=>(List.pairwise_cons.1 h9.nd).1 y hy h.symm
     obtain ⟨hD,hhD⟩:∃ hD,hD=ws.heap.size:=⟨_,rfl⟩
     have hM:∀ {w':World} {st:Nat→Slo} {sel:Nat→List Nat},OutR w0 w' oo nn g pf st sel (fun x=>x<ws.heap.size+2)→∀ x,Pc oo nn st x→x<w'.heap.size∧x≠ws.heap.size∧x≠ws.heap.size+1:=fun {w' st sel} RO x hx=>by
      rcases hx with rfl | ⟨u,hu,y,hy,rfl⟩
      ·exact ⟨Ba RO.tbl,by omega,by omega⟩
      ·have h1:=RO.blk u hu y hy;have h2:=Ba h1.1;have h3:¬ y.1<ws.heap.size+2:=h1.2.2.1;exact ⟨h2,by omega,by omega⟩
     refine NC (gf:=278) U Zd (Tw (b1:=x1) (b2:=x2) (b3:=x3) (a:=a) (b:=b) (p:=p) (c:=c) (d:=d) (r:=r) hw hp) (by kernel_rfl) (by kernel_rfl) (fun v hv=>by obtain ⟨p,-,rfl⟩:=List.mem_map.1 hv; rfl)
      (fun i M w'=>∃ st,M=Pc oo nn st∧OutR w0 w' oo nn g pf st (fun u=>IQ g (l.take i) u) (fun x=>x<ws.heap.size+2)∧(∀ u,u<nn→(st u).n≤i)∧Ctx w0 [] w' OL∧w'.heap[x1]? = some (Bl 51 [.int .i64 (nn:Int),.slice a es.length c])∧w'.heap[x2]? = some (Bl 35 [.slice p pot.length r])∧w'.heap[x3]? = some (Bl 35 [.slice b fl.length d]))
      (fun _=>False) (by simp)
      (fun w2 hx2 _=>⟨_,fun _=>⟨none,0,0,[]⟩,rfl,⟨hx2.to hoo (by simp),fun u _=>OS.nil,(fun u _ y hy=>by cases hy),(fun u v _ _ _ y hy=>by cases hy)⟩,fun u _=>Nat.le_refl _,HL'.call hx2,hx2.to hb1 (by simp),hx2.to hb2 (by simp),hx2.to hb3 (by simp)⟩)
      (fun i M w' w'' hJ hx=>?_) (fun _ _ h _=>h) (fun i M w' hJ=>?_) ?_ ?_ (fun _ h _=>h.elim)
     ·obtain ⟨st,h1,RO,hni,HJ,g1,g2,g3⟩:=hJ;refine ⟨st,h1,RO.keep hx fun x hx hm=>?_,hni,HJ.step hx (fun y hy=>?_) fun z hz => .inr ?_,hx.to g1 ?_,hx.to g2 ?_,hx.to g3 ?_⟩
      ·have:=hM RO x hm;simp only [List.mem_cons,List.not_mem_nil,or_false] at hx;omega
      ·have:=hOLlt y hy;simp only [List.mem_cons,List.not_mem_nil,or_false];omega
      ·simp only [List.mem_cons,List.not_mem_nil,or_false] at hz;omega
      ·simp only [List.mem_cons,List.not_mem_nil,or_false]; omega
      ·simp only [List.mem_cons,List.not_mem_nil,or_false]; omega
      ·simp only [List.mem_cons,List.not_mem_nil,or_false]; omega
     ·obtain ⟨st,rfl,RO,hni,HJ,g1,g2,g3⟩:=hJ;exact ⟨hM RO,g1,g2,g3,R.ext0 HJ.ext,Rf.ext0 HJ.ext,Rp.ext0 HJ.ext⟩
     ·rintro i v _ w hxv ⟨st,rfl,RO,hni,HJ,g1,g2,g3⟩ hsz;unfold KQ at hxv;rw [List.getElem?_map,← hl,← hg,← hpf] at hxv;obtain ⟨y,hy,rfl⟩:=Option.map_eq_some_iff.1 hxv;have hil:=Ck hy;have hyl:=List.mem_of_getElem? hy
      have hyu:g.u y<nn:=by
       have h1:=hgo.u (a:=y) (by rw [hl] at hyl; have:=Wd hyl; rw [hg]; exact this);rw [hg] at h1 ⊢;exact h1
      obtain ⟨w1,rfl⟩:∃ z,z=w:=⟨_,rfl⟩;have H:=Ctx.start w1 [];refine Az (AX JX H ?_);rintro b13 w - H;refine Bm Hr U U U (by exact Pa _ _ _) H at0 U ?_;rintro w H;refine Ab ?_;refine ⟨H.ext,fun wB hxB=>?_⟩;have hb13:=(H.own _ (List.mem_cons_self ..)).elim (fun h=>by cases h) id;have k13:=hxB.to (H.get at0) (by rw [List.mem_singleton]; omega);have ROB:=(RO.keep H.ext (fun x hx=>by cases hx)).keep hxB fun x hx hm=>(hM RO x hm).2.2 (List.mem_singleton.1 hx);have HB:=(HJ.call H.ext).step hxB (fun y hy=>by have:=hOLlt y hy; rw [List.mem_singleton]; omega) (fun z hz => .inr (by rw [List.mem_singleton.1 hz]; omega));have e1:=hxB.to (H.ext.to g1 (by simp)) (by rw [List.mem_singleton]; omega);have e2:=hxB.to (H.ext.to g2 (by simp)) (by rw [List.mem_singleton]; omega);have e3:=hxB.to (H.ext.to g3 (by simp)) (by rw [List.mem_singleton]; omega);have hsB:=hxB.size;have hsH:=H.ext.size
      have HB':=HB;rw [hOL] at HB';have k11:=HB'.get at0;have k36:=HB'.get at1;obtain ⟨u,hu⟩:∃ u,u=g.u y:=⟨_,rfl⟩;rw [← hu] at hyu
      have hnot:∀ x,x≠oo→(x<ws.heap.size+2∨w1.heap.size≤x)→x∉oo::(Ln (st u)).map (·.1):=fun x h1 h2 h=>by
       rcases List.mem_cons.1 h with h | h
       ·exact h1 h
       ·obtain ⟨z,hz,he⟩:=List.mem_map.1 h;have q1:=RO.blk u hyu z hz;have q2:=Ba q1.1;have q3:¬ z.1<ws.heap.size+2:=q1.2.2.1;omega
      have hO11:=hOLoo (b11,_) (by rw [hOL]; exact List.mem_of_getElem? (i:=0) rfl);have hO36:=hOLoo (b36,_) (by rw [hOL]; exact List.mem_of_getElem? (i:=1) rfl);have hl11:=hOLlt (b11,_) (by rw [hOL]; exact List.mem_of_getElem? (i:=0) rfl);have hl36:=hOLlt (b36,_) (by rw [hOL]; exact List.mem_of_getElem? (i:=1) rfl);have hoo1:=Ba RO.tbl;dsimp only at hO11 hO36 hl11 hl36;have n11:=hnot b11 hO11 (.inl (by omega));have n36:=hnot b36 hO36 (.inl (by omega));have n13:=hnot b13 (by omega) (.inr hb13);have hgu:(Xp nn st)[u]? = some (.slice (st u).a (st u).n (st u).c):=DO hyu;have hnu:=hni u hyu;obtain ⟨w2,rfl⟩:∃ z,z=wB:=⟨_,rfl⟩;replace H:=ROB.ctx hyu;have hrow:GD g pf y=[.int .i64 (y:Int),.int .i64 (u:Int),.int .i64 (g.v y:Int),.int .i64 (g.len pf y)]:=by unfold GD; rw [← hu]
      refine A0 (ER [([0,1,2,3,4,5,6,7,8,9,10,11,12,13,14],15),([],16),([17],18)] (fun z=>z.heap[b11]? = some (Bl 291 [ptr b36])∧z.heap[b36]? = some (Bl 294 (FB oo od oh ob nn))∧z.heap[b13]? = some (Bl 299 (GD g pf y))∧z.heap[oo]? = some (Bl 300 (Xp nn st))) [18] Bs (by kernel_rfl) (⟨H.drew.ext.to k11 n11,H.drew.ext.to k36 n36,H.drew.ext.to k13 n13,H.drew.get at0⟩) ?_);refine AF U U ?_;refine B0 Iw U (fun _ hx=>(by rw [Aj hx.1]; rfl)) ?_;refine Bd U (An U LG U (B0 Rr U (fun _ hx=>(by rw [Aj hx.2.1]; rfl)) ?_));refine An U Tm U (B0 Ca U (fun _ hx=>(by rw [Aj hx.2.2.1,hrow]; rfl)) ?_);refine B0 Iw U (fun _ hx=>(by rw [Aj hx.1]; rfl)) ?_;refine Bd U (An U LG U (B0 Rr U (fun _ hx=>(by rw [Aj hx.2.1]; rfl)) ?_));refine An U Tm U (B0 Ca U (fun _ hx=>(by rw [Aj hx.2.2.1,hrow]; rfl)) ?_);refine AH MC ME U U ?_
      refine B0 UD U (fun _ hx=>(by rw [Aj hx.2.2.2]; simpa using hgu)) ?_;refine G5 _ UC Hr U U (fun _ hx=>(IL hx.2.2.1)) ?_;refine AP ?_;replace H:=H.drew;refine Ct (GD g pf y) (.agg _) Lh Hr JX U (by decide) (by decide) U U U H ?_;rintro b75 w - H;refine Ab (BR (⟨H.ext.to k11 n11,H.ext.to k36 n36,H.ext.to k13 n13,H.get at1⟩) (AF U U ?_));refine AP (CA (L:=[(oo,_)]) Lh Lh Hr Ago JX U (by decide) U U H (ROB.os u hyu) U (Pa g pf y) ?_);rintro a76 c76 f76 w H O76;refine Ab (BR (⟨H.ext.to k11 n11,H.ext.to k36 n36,H.ext.to k13 n13,H.get at0⟩) (AF U U ?_));refine AH MC ME U U ?_;refine AP (Cc u (fun q=>sloV (stS st u ⟨a76,(st u).n+1,c76,f76⟩ q)) (.slice _ _ _) ME U U U H at0 (by simp) (hk:=hyu) (by rw [Hz]; rfl) (fun q _ hq=>by rw [Kf hq]) ?_);rintro w H;refine Ab (Bz U (BH (A5 ?_)));have hss:=Xq (g:=g) hy;rw [← hu] at hss
      have hO':OS a76 ((st u).n+1) c76 4 f76 ((IQ g (l.take (i+1)) u).flatMap (GD g pf)):=by rw [hss.1,List.flatMap_append]; simpa using O76
      have h02:w0.heap.size≤w2.heap.size:=by omega
      obtain ⟨RO',hnewM⟩:=ROB.step hyu (s:=⟨a76,(st u).n+1,c76,f76⟩) (sel':=fun q=>IQ g (l.take (i+1)) q) (fun x hx=>by have hx:x<ws.heap.size+2:=hx; omega) h02 H hO' (fun q hq=>hss.2 q hq)
      have hidM:∀ x∈oo::(Ln (st u)).map (·.1),Pc oo nn st x:=fun x hx=>by
       rcases List.mem_cons.1 hx with h | h
       ·exact .inl h
       ·obtain ⟨z,hz,he⟩:=List.mem_map.1 h;exact .inr ⟨u,hyu,z,hz,he⟩
      refine ⟨_,⟨stS st u ⟨a76,(st u).n+1,c76,f76⟩,rfl,RO',fun q hq=>?_,HB.step H.ext (fun z hz=>hnot z.1 (hOLoo z hz) (.inl (by have:=hOLlt z hz; omega))) (fun z hz => .inr ?_),H.ext.to e1 (hnot x1 (by omega) (.inl (by omega))),H.ext.to e2 (hnot x2 (by omega) (.inl (by omega))),H.ext.to e3 (hnot x3 (by omega) (.inl (by omega)))⟩,fun x hx=>?_,_,H.ext,fun x hx => .inl (hidM x hx)⟩
      ·by_cases e:q=u
       ·subst e; rw [Hz]; dsimp only; omega
       ·rw [Kf e]; have:=hni q hq; omega
      ·rcases List.mem_cons.1 hz with h | h
       ·rw [h]; exact hooge
       ·obtain ⟨t,ht,he⟩:=List.mem_map.1 h;have:=(RO.blk u hyu t ht).2.1;omega
      ·exact (hnewM x hx).imp id fun h=>by omega
     ·rintro M w ⟨st,rfl,RO,hni,HJ,-,-,-⟩ hD;have htk:l.take (KQ (grE (nn:Int) es) (ES pot) (E0 (Cr es) (flE fl) es.length)).length=l:=List.take_of_length_le (by unfold KQ; rw [List.length_map,← hl]; exact Nat.le_refl _);simp only [htk] at RO;clear hni htk;obtain ⟨w5,rfl⟩:∃ z,z=w:=⟨_,rfl⟩;have h59:∀ x,Pc oo nn st x→x<w5.heap.size:=fun x hx=>(hM RO x hx).1;have h5D:=Ba hD;obtain ⟨ids,hids⟩:∃ ids,ids=OL.map (·.1):=⟨_,rfl⟩
      have hidM:∀ x∈ids,¬ Pc oo nn st x:=fun x hx hm=>by
       rw [hids] at hx;obtain ⟨y,hy,rfl⟩:=List.mem_map.1 hx;have a1:=hOLlt y hy;have a2:=hOLoo y hy
       rcases hm with h | ⟨u,hu,z,hz,he⟩
       ·exact a2 h
       ·have h3:=(RO.blk u hu z hz).2.2.1;apply h3;show z.1<_;omega
      have hidD:ws.heap.size∉ids:=fun hx=>by
       rw [hids] at hx;obtain ⟨y,hy,he⟩:=List.mem_map.1 hx;have a1:=hOLlt y hy;omega
      have hB:∀ {w':World} {L':List (Nat × Obj)},Ctx w5 ids w' L'→Ctx w0 [] w' L':=fun h=>(Ctx.back (L1:=OL) (L2:=[]) HJ.app_nil (by rw [← hids]; exact h)).nil_app
      have hnotL:∀ x,Pc oo nn st x→∀ {w':World} {L':List (Nat × Obj)},Ctx w5 ids w' L'→x∉L'.map (·.1):=fun x hx {w' L'} h hm=>by
       obtain ⟨y,hy,he⟩:=List.mem_map.1 hm
       rcases h.own y hy with h1 | h1
       ·rw [he] at h1; exact hidM x h1 hx
       ·have:=h59 x hx; omega
      have H:Ctx w5 ids w5 OL:=by rw [hids]; exact HJ.app_nil.lend
      rw [hOL] at H;clear hids;obtain ⟨A,hA⟩:∃ A,A=N0 g (Cr es) (flE fl) pf:=⟨_,rfl⟩;have hF:=Sa hfit;rw [← hg,← hpf] at hF
      have hlb:∀ a,g.len pf a≤2199023256552 ∧ -2199023256552≤g.len pf a:=fun a=>by
       rw [hg,hpf]; exact Ad1 hr (Ad2 hp) a
      have hgN:g.N=nn:=by rw [hg]; rfl
      have hgE:g.E=es.length:=by rw [hg]; rfl
      have hArcs:RQ A nn 2199023256552:=by rw [hA,← hgN]; exact hF.arcs hgo fun a _=>(hlb a).1
      have hlE:l=E0 (Cr es) (flE fl) g.E:=by rw [hgE]; exact hl
      have hAf:∀ u,A.filter (fun a=>decide (a.1=u))=(IQ g l u).map (Js g pf):=fun u=>by rw [hA,hlE]; exact Ty g _ _ pf u
      have hsl:∀ u,(IQ g l u).length≤400:=fun u=>Nat.le_trans (List.length_filter_le _ _) hlen400;have hdeg:∀ u,IP A u≤400:=fun u=>by unfold IP; rw [hAf,List.length_map]; have:=hsl u; omega
      have hsn:src.length≤nn:=LO nn src hnd hsrc;have hfr:src≠[]→(adr fr).block<w0.heap.size:=fun h=>Rd.lt Rs (by simpa using h) (fun x _=>⟨_,rfl⟩) (by decide)
      have hselx:∀ u,u<nn→∀ x∈IQ g l u,g.u x=u∧g.v x<nn∧x<2*es.length:=fun u _ x hx=>by
       obtain ⟨h1,h2⟩:=List.mem_filter.1 hx;have h3:x<2*es.length:=by rw [hl] at h1; exact Wd h1
       have h4:=hgo.v (a:=x) (by rw [hgE]; exact h3);exact ⟨of_decide_eq_true h2,by rw [← hgN]; exact h4,h3⟩
      have hstn:∀ u,u<nn→(st u).n=(IQ g l u).length:=fun u hu=>(RO.os u hu).numN (fun _ _=>rfl) (by decide)
      have hget:∀ u,u<nn→(Xp nn st)[u]? = some (.slice (st u).a (IQ g l u).length (st u).c):=fun u hu=>by
       have:=DO (f:=fun u=>sloV (st u)) hu;rw [← hstn u hu]; exact this
      have hrow:∀ {w':World} {S:List Nat},Ext S w5 w'→(∀ x∈S,x∈ids)→∀ u,u<nn→Rd w' (st u).a 4 (GD g pf) (IQ g l u):=fun {w' S} hx hS u hu=>by
       have RO':=RO.keep hx fun x hx'=>hidM x (hS x hx');exact (RO'.os u hu).rd (t:=299) (fun y hy=>(RO'.blk u hu y hy).1) (fun _ _=>rfl) (by decide)
      have hrowM:∀ u,u<nn→IQ g l u≠[]→Pc oo nn st (adr (st u).a).block:=fun u hu hne=>by
       obtain ⟨b,hb⟩:=(RO.os u hu).form (by rw [hstn u hu]; exact List.length_pos_iff.2 hne);exact Or.inr ⟨u,hu,(b,Bl 299 (st u).full),by show _∈ent (st u).a _ _; rw [Ac2 hb]; exact List.mem_cons_self ..,by rw [hb]; rfl⟩
      have hooM:Pc oo nn st oo := .inl rfl;refine A5 (Aa (Af (Al Ais (Adv _) U ?_)));rintro v w ⟨bh,rfl,hbh,hbhv,hx78⟩;replace H:=H.callAdd hx78 hbhv hbh;have Hp0:=H.perm (List.perm_middle (l₁:=[_,_,_]) (l₂:=[_,_,_]));have hlb0:=Ad6;have Hp:Ctx w5 ids w (NBl od nn (lb0 []) bh none 0 0 []++[(b11,Bl 291 [ptr b36]),(b36,Bl 294 (FB oo od oh ob nn)),(oh,Bl 3 (BS (fun _=>0) nn)),(ob,Bl 3 (BS (fun _ => -1) nn)),(b4,Bl 51 [.int .i64 (nn:Int),.slice a es.length c])]):=by show Ctx w5 ids w ((od,Bl 2 (BS (lb0 []).d nn))::_); rw [hlb0]; exact Hp0
      refine B3 U (Ab (Aa (Aq (Af (AM Iw U H at1 U (Ay U (A3 U (Al Ait (ZM (Ctx.lend Hp) OS.nil (Hp.get at3) (Vc (Hp.comm).nd (x:=(b36,_)) (List.mem_of_getElem? (i:=1) U)) ((Rs.ext0 (hB Hp).ext)) (fun hne hm=>by have h1:=hfr hne; have h2:=(hB Hp.left).own; obtain ⟨y,hy,he⟩:=List.mem_map.1 hm; rcases h2 y hy with h | h; cases h; omega) hsrc hnd) U ?_))))))));rintro v w ⟨rfl,a0,c0,f0,L0,hp0,hH0,O0,H2⟩;replace H:=Ctx.comm (L:=NBl od nn (lb0 src) bh a0 src.length c0 f0) (Ctx.back Hp H2);refine BA U (Ab (Aa (Ap _ U ?_ ?_)))
      ·intro h4;replace h4:=BE h4;have:=of_decide_eq_false h4;omega
      ·intro h4;replace h4:=BF h4;refine Au (Aa (Aq (A0 ?_)));have hn0:src.length=L0.length:=O0.numN (fun _ _=>rfl) (by decide);have hps:=Xr (n:=nn) (A:=A) (src:=src) (d:=400) fun v _=>hdeg v;have hps2:(nn:Int)*(400*((nn:Int)+1))≤40*(400*41):=Int.mul_le_mul (by omega) (by omega) (by omega) (by omega);refine Bt 81129619071793567861722210074624 (α:=WSt) (fun _=>[]) (fun t w'=>MI A src nn 2199023256552 t.D t.s t.L∧HeapL t.L∧OS t.a t.hn t.c 2 t.full (t.L.flatMap EM)∧psi nn A t.D t.s t.L≤1000000∧Ctx w5 ids w' ([(b11,Bl 291 [ptr b36]),(b36,Bl 294 (FB oo od oh ob nn)),(ob,Bl 3 (BS (fun _ => -1) nn)),(b4,Bl 51 [.int .i64 (nn:Int),.slice a es.length c])]++GB od oh nn t.s bh t.a t.hn t.c t.full)) (fun t=>(psi nn A t.D t.s t.L).toNat) ⟨lb0 src,a0,src.length,c0,f0,L0,-1⟩ U ?_ ?_ ?_
       ·exact trivial
       ·refine ⟨(MI.start hsrc hnd).perm hp0.symm,hH0,O0,?_,?_⟩
        ·dsimp only;rw [Pb hp0];omega
        ·exact H.perm (List.Perm.cons _ (List.Perm.cons _ (List.perm_middle (l₁:=[_,_,_])).symm))
       ·rintro ⟨s,a',hn,c',full,L,D⟩ j w ⟨MM,hH,O,hpsi,H⟩; dsimp only at MM hH O hpsi H; dsimp only;have hnl:hn=L.length:=O.numN (fun _ _=>rfl) (by decide);have hpl:=RZ (n:=nn) (A:=A) (D:=D) (s:=s) (hp:=L);refine Aq (Af (Ay U (Al Aiu (Adw (H.get (k:=6) U)) U ?_)));rintro v w ⟨rfl,rfl⟩;refine Cs U U (Ab (Aa (Ap _ U ?_ ?_)))
        ·intro h5;replace h5:=AJ h5
         obtain ⟨⟨d,v⟩,L1,rfl⟩:∃ t L1,L=t::L1:=by
          cases L with
          | nil=>simp at hnl; omega
          | cons t L1=>exact ⟨t,L1,rfl⟩
         obtain ⟨q,rfl⟩:=O.form (by omega)
         have hmin:∀ x∈L1,d≤x.1:=fun x hx=>by
          obtain ⟨i,hi⟩:=List.getElem?_of_mem hx;have h:=hH.root (r:=(d,v)) rfl (i+1) x (by simpa using hi)
          rcases h with h | h
          ·exact Int.le_of_lt h
          ·exact Int.le_of_eq h.1
         have hvn:=MM.top hArcs;dsimp only at hvn;obtain ⟨dv,hdv⟩:∃ dv,dv=s.d v:=⟨_,rfl⟩;have hgd:(tab s.d nn)[v]? = some dv:=by rw [BT hvn,hdv]
         refine Au (Aa (A0 (Af (Ay U ?_))));have Hc:=Ctx.comm (L:=[_,_,_,_,_,_]) (L':=HB bh (some ⟨q,0,none⟩) hn c' full) H;refine Al Aiv (Ajn (Ctx.lend (L1:=HB bh (some ⟨q,0,none⟩) hn c' full) (L2:=[_,_,_,_,_,_]) Hc) O hH) U ?_;rintro rv w ⟨rfl,f2,L2,hp2,hH2,O2,H2⟩;replace H:=Ctx.comm (L:=HB bh (some ⟨q,0,none⟩) L1.length c' f2) (L':=[_,_,_,_,_,_]) (Ctx.back (L1:=HB bh (some ⟨q,0,none⟩) hn c' full) (L2:=[_,_,_,_,_,_]) Hc H2);refine BM U (A6 U U (A6 U U (A6 U U (Ad U (Ad U (Ad U (Ab (Aa ?_))))))));have MM2:MI A src nn 2199023256552 D s ((d,v)::L2):=MM.perm ((hp2.cons _).symm);have hmin2:∀ x∈L2,d≤x.1:=fun x hx=>hmin x (hp2.mem_iff.1 hx);have hps3:psi nn A D s ((d,v)::L2)=psi nn A D s ((d,v)::L1):=Pb (hp2.cons _);refine Af (Ae U (AM Iw U H at0 U (A9 U (Ag El U (AM Cg U H at1 U (Ae U (Bn Bg B6 U U ?_)))))))
         refine AZ Bw U (((Cx (H.get at4)).fld hgd U (j:=0) U)) ?_;refine Cf U U (Ab (Aa (Ap _ U ?_ ?_)))
         ·intro h6;replace h6:=AJ h6;have he:(d,v).1=s.d (d,v).2:=by dsimp only; rw [← hdv]; exact h6
          obtain ⟨La,hLa⟩:∃ La,La=IQ g l v:=⟨_,rfl⟩;have hll:La.length≤400:=by rw [hLa]; exact hsl v
          have hfold:∀ k,(goP g pf s L2 (La.take k))=(((La.take k).map (Js g pf)).foldl Jt (s,L2)):=fun k=>rfl
          have hgoes:∀ k,DJ A src nn 2199023256552 (goP g pf s L2 (La.take k)).1:=fun k=>by
           rw [hfold];exact (MM2.go hArcs (by omega) (by omega) hmin2 he (l:=(La.take k).map (Js g pf)) (l1:=(La.drop k).map (Js g pf)) (by rw [← List.map_append,List.take_append_drop,hLa]; exact hAf v)).1
          obtain ⟨M3,hps4⟩:=(MM2.go hArcs (by omega) (by omega) hmin2 he (l:=La.map (Js g pf)) (l1:=[]) (by rw [List.append_nil,hLa]; exact hAf v)).2 rfl;have RO1:=RO.keep H.ext hidM;have RX:=hrow H.ext (fun _ h=>h) v hvn;have hgv:=hget v hvn;rw [← hLa] at RX hgv;refine Az (AM Iw U H at0 U (Ay U (Ae U ?_)));have Hc:=Ctx.comm (L:=[_,_,_,_]) (L':=GB od oh nn s bh (some ⟨q,0,none⟩) L1.length c' f2) H
          refine Al Aiw (Ad0 (Ctx.lend (L1:=GB od oh nn s bh (some ⟨q,0,none⟩) L1.length c' f2) (L2:=[_,_,_,_]) Hc) O2 hH2 (H.get at1) (Vc (L:=[_,_,_,_]) H.nd (x:=(b36,_)) (List.mem_of_getElem? (i:=1) U)) RO1.tbl (hnotL oo hooM (Ctx.left (L':=[_,_,_,_]) Hc)) hgv hvn RX (fun hne=>hnotL _ (hrowM v hvn (hLa ▸ hne)) (Ctx.left (L':=[_,_,_,_]) Hc)) (fun x hx=>by rw [hLa] at hx; have h7:=hselx v hvn x hx; have h8:=hlb x; exact ⟨h7.1,h7.2.1,by omega,by omega⟩) (by simp only [List.length_cons] at hnl hpl; omega) (fun k x _=>by have h7:=(hgoes k).dist (by omega) (by omega) x; exact ⟨h7.1,by omega,by omega⟩)) U ?_;rintro rv w ⟨rfl,a3,hn3,c3,f3,L3,hp3,hH3,O3,H3⟩;replace H:=Ctx.comm (L:=GB od oh nn (goP g pf s L2 La).1 bh a3 hn3 c3 f3) (L':=[_,_,_,_]) (Ctx.back (L1:=GB od oh nn s bh (some ⟨q,0,none⟩) L1.length c' f2) (L2:=[_,_,_,_]) Hc H3);refine Ab (A5 (Aa ?_))
          have hps7:psi nn A d (goP g pf s L2 La).1 (goP g pf s L2 La).2+1≤psi nn A D s ((d,v)::L2):=hps4
          have hps5:psi nn A d (goP g pf s L2 La).1 L3+1≤psi nn A D s ((d,v)::L1):=by
           rw [Pb hp3,← hps3]; exact hps7
          have hps6:=RZ (n:=nn) (A:=A) (D:=d) (s:=(goP g pf s L2 La).1) (hp:=L3);exact ⟨⟨(goP g pf s L2 La).1,a3,hn3,c3,f3,L3,d⟩,rfl,trivial,⟨MI.perm M3 hp3.symm,hH3,O3,by dsimp only; omega,H⟩,by dsimp only; omega⟩
         ·intro h6;replace h6:=AK h6;have hne:(d,v).1≠s.d (d,v).2:=by dsimp only; rw [← hdv]; exact h6
          obtain ⟨M3,hps4⟩:=MM2.drop hArcs hmin2 hne;have hps6:=RZ (n:=nn) (A:=A) (D:=d) (s:=s) (hp:=L2);refine Au (A5 (Aa ?_));exact ⟨⟨s,some ⟨q,0,none⟩,L1.length,c',f2,L2,d⟩,rfl,trivial,⟨M3,hH2,O2,by dsimp only at hps4 ⊢; omega,H⟩,by dsimp only at hps4 ⊢; omega⟩
        ·intro h5;replace h5:=AK h5;obtain rfl:L=[]:=List.eq_nil_of_length_eq_zero (by omega);have DN:=MM.ends;have hsd:=fun v=>MM.dj.dist (by omega) (by omega) v;have hge:∀ u,u<nn→g.u u=g.u u:=fun _ _=>rfl;have RO1:=RO.keep H.ext hidM;have hooG:=hnotL oo hooM H;have Hp4:=H.perm (List.perm_middle (l₁:=[_,_]) (l₂:=[_,_,_]++_));have hobM:∀ u,u<nn→IQ g l u≠[]→(adr (st u).a).block≠ob:=fun u hu hne e=>hnotL _ (hrowM u hu hne) H (by rw [e]; exact List.mem_map.2 ⟨(ob,_),List.mem_of_getElem? (i:=2) rfl,rfl⟩)
         refine Bq (Am (Am (AG (Aa (Af (AM Iw U H at0 U (Al Aix (ZN (outL:=fun u=>IQ g l u) (g:=g) (p:=pf) (s:=s) (H.get at2) (H.get at1) (H.get at4) (H.get at5) RO1.tbl (H.ne at1 at2 (by decide)) (H.ne at4 at2 (by decide)) (H.ne at5 at2 (by decide)) (fun e=>hooG (by rw [e]; exact List.mem_map.2 ⟨(ob,_),List.mem_of_getElem? (i:=2) rfl,rfl⟩)) (fun v=>by have h7:=hsd v; omega) (fun u hu=>⟨_,_,hget u hu,hrow H.ext (fun _ h=>h) u hu,hobM u hu,by have:=hsl u; omega,fun x hx=>by have h7:=hselx u hu x hx; have h8:=hlb x; exact ⟨h7.1,h7.2.1,by omega,by omega,by omega⟩⟩)) U ?_)))))));rintro rv w ⟨rfl,by',BB,H3⟩;replace H:=Ctx.back (L1:=[_]) (L2:=[_,_,_,_,_]++_) Hp4 H3;refine Ab (Aa (Er (fun x=>x=_) Bs (by kernel_rfl) U ?_));refine Cn Iw U (by rintro _ rfl; exact H.drew) at1 U ?_;refine Bb U (A7 El U (Cn Cg U (by rintro _ rfl; exact H.drew) at2 U ?_))
         refine Cn Iw U (by rintro _ rfl; exact H.drew) at1 U ?_;refine Bb U (A7 JV U (Cn Ie U (by rintro _ rfl; exact H.drew) at2 U ?_));refine Qh U U (Qh U U (Db U (BW ?_)));rintro _ rfl;replace H:=H.drew;refine A4 (Ad5 U U U U ?_);have hodlt:=hOLlt (od,_) (by rw [hOL]; exact List.mem_of_getElem? (i:=2) rfl);have hoblt:=hOLlt (ob,_) (by rw [hOL]; exact List.mem_of_getElem? (i:=4) rfl);dsimp only at hodlt hoblt
         have hall:∀ a,a∈IQ g l (g.u a)→a<2*g.E∧0<CC (Cr es) (flE fl) a:=fun x hx=>by
          have h1:=(List.mem_filter.1 hx).1;rw [hlE] at h1;obtain ⟨h2,h3⟩:=List.mem_filter.1 h1;exact ⟨List.mem_range.1 h2,of_decide_eq_true h3⟩
         have BY:=Ajo (cap:=Cr es) (x:=flE fl) (by rw [← hA]; exact DN) (by rw [← hA]; exact hArcs) BB hall (fun x h1 h2=>⟨by rw [← hgN]; exact hgo.u h1,List.mem_filter.2 ⟨by rw [hlE]; exact List.mem_filter.2 ⟨List.mem_range.2 h1,decide_eq_true h2⟩,decide_eq_true rfl⟩⟩);refine Hf (H.ext.to hD hidD) U fun wF hxF=>⟨od,ob,s,by',rfl,?_,?_,fun v=>?_,?_⟩
         ·rw [hA,hg,hpf] at DN; exact DN
         ·rw [hg,hpf] at BY; exact BY
         ·rcases BB.val v with h | ⟨x,h1,h2,-⟩
          ·exact .inl h
          ·exact .inr ⟨x,h1,by rw [← hgE]; exact (hall x h2).1⟩
         ·refine ((hB H).sub (L':=[(od,Bl 2 (BS s.d nn)),(ob,Bl 3 (BS by' nn))]) (fun x hx=>?_) ?_).step hxF (fun x hx=>?_) fun x hx => .inr ?_
          ·simp only [List.mem_cons,List.not_mem_nil,or_false] at hx
           rcases hx with rfl | rfl
           ·exact List.mem_of_getElem? (i:=4) U
           ·exact List.mem_of_getElem? (i:=0) U
          ·simp only [List.pairwise_cons,List.mem_singleton,forall_eq,List.not_mem_nil,false_imp_iff,implies_true,List.Pairwise.nil,and_true];exact H.ne at4 at0 (by decide)
          ·simp only [List.mem_cons,List.not_mem_nil,or_false] at hx;rw [List.mem_singleton]
           rcases hx with rfl | rfl
           ·dsimp only; omega
           ·dsimp only; omega
          ·rw [List.mem_singleton.1 hx]; exact hs07
end Go.Proofs.YtdagmpmdcgedcaaGreat
namespace Go.Proofs.YtdagmpmdcgedcaaGreat
open Go.GV
theorem OS.setf {α:Type} {a:Option Addr} {n c s:Nat} {full:List Value} {enc:α→List Value} {L:List α} (O:OS a n c s full (L.flatMap enc)) (hs:∀ x,(enc x).length=s) {i j:Nat} {x y:α} {v:Value} (hx:L[i]? = some x) (hj:j<s) (hy:enc y=(enc x).set j v):OS a n c s (full.set (i*s+j) v) ((L.set i y).flatMap enc):=by
 refine ⟨O.zero,O.none',by rw [List.length_set]; exact O.len,O.le,?_⟩;rw [O.split,Adt (fun z _=>hs z) hx hj hy];have h1:=O.llen;rw [EL fun z _=>hs z] at h1;exact List.take_left' (by rw [EL fun z _=>hs z,List.length_set,h1])
def edC (es:List Ed) (c:Nat→Int) (i:Nat):Ed:={ es.getD i e0 with cap:=c i }
def esC (es:List Ed) (c:Nat→Int):List Ed:=(List.range es.length).map (edC es c)
theorem Jv (es:List Ed) (c:Nat→Int):(esC es c).length=es.length:=by unfold esC; simp
theorem Jw {es:List Ed} {c:Nat→Int} {i:Nat} (h:i<es.length):(esC es c)[i]? = some (edC es c i):=DO h
theorem K8 {es:List Ed} {c d:Nat→Int} (h:∀ i,i<es.length→c i=d i):esC es c=esC es d:=List.map_congr_left fun i hi=>by unfold edC; rw [h i (List.mem_range.1 hi)]
theorem Wg {es:List Ed} {c d:Nat→Int} {i:Nat} {e:Ed} (he:edC es d i=e) (h:∀ j,j<es.length→j≠i→d j=c j):(esC es c).set i e=esC es d:=IC he fun j hj hn=>by unfold edC; rw [h j hj hn]
theorem Ph (es:List Ed):esC es (Cr es)=es:=by
 refine List.ext_getElem? fun i=>?_
 rcases Nat.lt_or_ge i es.length with h | h
 ·obtain ⟨e,he⟩:=A8 (h:=h);rw [Jw h,he];unfold edC Cr;rw [Bo he]
 ·rw [List.getElem?_eq_none (by rw [Jv]; exact h),List.getElem?_eq_none h]
theorem Ajp {es:List Ed} {c:Nat→Int} {i:Nat} (h:i<es.length):Cr (esC es c) i=c i:=by
 unfold Cr; rw [Bo (Jw h)]; rfl
theorem grE_C (N:Int) (es:List Ed) (c:Nat→Int):grE N (esC es c)=grE N es:=by
 have h:∀ i,((esC es c).getD i e0).f=(es.getD i e0).f∧((esC es c).getD i e0).t=(es.getD i e0).t∧((esC es c).getD i e0).cost=(es.getD i e0).cost:=fun i=>by
  rcases Nat.lt_or_ge i es.length with h | h
  ·rw [Bo (Jw h)]; exact ⟨rfl,rfl,rfl⟩
  ·rw [List.getD_eq_getElem?_getD,List.getElem?_eq_none (by rw [Jv]; exact h),List.getD_eq_getElem?_getD,List.getElem?_eq_none h];exact ⟨rfl,rfl,rfl⟩
 unfold grE;rw [Jv]
 congr 1
 ·funext i; rw [(h i).1]
 ·funext i; rw [(h i).2.1]
 ·funext i; rw [(h i).2.2]
theorem Qy {α:Type} {f g:α→Nat}:∀ {l:List α},(∀ x∈l,f x≤g x)→(l.map f).sum≤(l.map g).sum
 | [],_=>Nat.le_refl _
 | x::l,h=>by
  have h1:=h x (List.mem_cons_self ..);have h2:=Qy (l:=l) fun y hy=>h y (List.mem_cons_of_mem _ hy);simp only [List.map_cons,List.sum_cons];omega
theorem Wh {N:Int} {es:List Ed} {c:Nat→Int} (h:Cw N es=true) (hc:∀ i,i<es.length→0≤c i∧c i≤Cr es i):Cw N (esC es c)=true:=by
 obtain ⟨h1,h2,h3,h4,h5⟩:=CD h
 have h6:FM (esC es c)≤FM es:=by
  have e1:FM es=((List.range es.length).map fun i=>GO (es.getD i e0)).sum:=by
   conv=>lhs; rw [← Ph es]
   unfold FM esC;rw [List.map_map]
   congr 1
  have e2:FM (esC es c)=((List.range es.length).map fun i=>GO (edC es c i)).sum:=by
   unfold FM esC;rw [List.map_map]
   congr 1
  rw [e1,e2];refine Qy fun i hi=>?_;have h7:=hc i (List.mem_range.1 hi);unfold GO edC;dsimp only;exact Nat.mul_le_mul_right _ (by unfold Cr at h7; omega)
 have h7:(esC es c).all (FK N)=true:=List.all_eq_true.2 fun e he=>by
  obtain ⟨i,hi,rfl⟩:=List.mem_map.1 he;have hil:=List.mem_range.1 hi;obtain ⟨e,he⟩:=A8 (h:=hil);have h8:=EC (h4 e (List.mem_of_getElem? he));have h9:=hc i hil;unfold Cr at h9;rw [Bo he] at h9;unfold edC FK LR;rw [Bo he];dsimp only;simp only [Bool.and_eq_true,decide_eq_true_eq];omega
 unfold Cw;rw [h7,Jv];simp only [Bool.and_eq_true,decide_eq_true_eq];exact ⟨⟨h1,h2⟩,h3,trivial,by omega⟩
theorem ZU {N:Int} {es:List Ed} {c x:Nat→Int} (h:Cw N es=true) (hc:∀ i,i<es.length→0≤c i∧c i≤Cr es i) (hx:∀ i,i<es.length→0≤x i∧x i≤c i):Cm N (esC es c) (tab x es.length)=true:=by
 unfold Cm;rw [Wh h hc,CV,Jv,decide_eq_true rfl];refine List.all_eq_true.2 fun b hb=>?_;obtain ⟨i,hi⟩:=List.getElem?_of_mem hb
 have hil:i<es.length:=by
  have:=Ck hi;rw [List.length_zipWith,Jv,CV] at this;omega
 rw [OX (Jw hil) (BT hil)] at hi;obtain rfl:=Option.some.inj hi;have:=hx i hil;unfold inB edC;simp only [Bool.and_eq_true,decide_eq_true_eq,id_eq];omega
def Gf (es:List Ed) (k i:Nat):Int:=(((Cr es i).toNat / 2 ^ k:Nat):Int)
theorem NH {N:Int} {es:List Ed} (h:Cw N es=true) (k:Nat):∀ i,i<es.length→0≤Gf es k i∧Gf es k i≤Cr es i:=fun i hi=>by
 obtain ⟨e,he⟩:=A8 (h:=hi);have h8:=EC ((CD h).2.2.2.1 e (List.mem_of_getElem? he));have h9:(Cr es i).toNat / 2 ^ k≤(Cr es i).toNat:=Nat.div_le_self _ _;have h7:0≤Cr es i:=by unfold Cr; rw [Bo he]; omega
 unfold Gf;obtain ⟨z,hz⟩:∃ z,z=(Cr es i).toNat / 2 ^ k:=⟨_,rfl⟩;rw [← hz] at h9 ⊢;omega
theorem Qz (es:List Ed) (k i:Nat):2*Gf es (k+1) i≤Gf es k i∧Gf es k i≤2*Gf es (k+1) i+1:=by
 have h:(Cr es i).toNat / 2 ^ (k+1)=((Cr es i).toNat / 2 ^ k) / 2:=by rw [Nat.pow_succ,Nat.div_div_eq_div_mul]
 unfold Gf;rw [h];obtain ⟨z,hz⟩:∃ z,z=(Cr es i).toNat / 2 ^ k:=⟨_,rfl⟩;rw [← hz];omega
theorem Xw {N:Int} {es:List Ed} (h:Cw N es=true):∀ i,i<es.length→Gf es 0 i=Cr es i:=fun i hi=>by
 have h7:=NH h 0 i hi;unfold Gf at h7 ⊢;rw [Nat.pow_zero,Nat.div_one] at h7 ⊢;omega
theorem NI {N:Int} {es:List Ed} (h:Cw N es=true):∀ i,i<es.length→0≤Cr es i∧Cr es i≤4503599627370496:=fun i hi=>by
 obtain ⟨e,he⟩:=A8 (h:=hi);have h8:=EC ((CD h).2.2.2.1 e (List.mem_of_getElem? he));unfold Cr; rw [Bo he]; omega
theorem MH {g:Gr} {cap cap' x p:Nat→Int} (h:Fine g cap x p) (hc:∀ i,i<g.E→cap' i=cap i):Fine g cap' x p:=by
 refine ⟨fun i hi=>by rw [hc i hi]; exact h.in' i hi,fun a ha hr=>h.fit a ha ?_⟩;unfold CC at hr ⊢;rw [hc _ (by omega)] at hr;exact hr
theorem Wi {g:Gr} {x:Nat→Int} (hx:∀ i,i<g.E→0≤x i∧x i≤4503599627370496) (v:Nat)  (hE:g.E≤200:=by omega): -900719925474099200≤BC g x v∧BC g x v≤900719925474099200:=by
 have h:=Kc (g:=g) (x:=x) (c:=4503599627370496) v (k:=g.E) hx;have h2:(g.E:Int)*4503599627370496≤200*4503599627370496:=by omega
 unfold BC;omega
end Go.Proofs.YtdagmpmdcgedcaaGreat
namespace Go.Proofs.YtdagmpmdcgedcaaGreat
open Go.GV
attribute [local irreducible] AB W Wq Wt
def Jx (c c':Nat→Int) (i j:Nat):Int:=if j<i then c' j else c j
def flW (g:Gr) (c' x p:Nat→Int) (i j:Nat):Int:=if j<i then Kb g c' x p j else x j
theorem Wj {c c':Nat→Int} {i j:Nat} (h:j≠i):Jx c c' (i+1) j=Jx c c' i j:=by unfold Jx; split <;> split <;> first | rfl | omega
theorem ZV {g:Gr} {c' x p:Nat→Int} {i j:Nat} (h:j≠i):flW g c' x p (i+1) j=flW g c' x p i j:=by unfold flW; split <;> split <;> first | rfl | omega
abbrev FL (bf bo n N:Nat) (x ov:Nat→Int) (ae:Option Addr) (full:List Value):List (Nat × Obj):=(bf,Bl 2 (BS x n))::(bo,Bl 2 (BS ov N))::ent ae 59 full
set_option maxRecDepth 20000 in
set_option maxHeartbeats 8000000 in
theorem ZW {w:World} {bs:Nat} {N:Nat} {ae aw:Option Addr} {ce cw bf bp bo k:Nat} {kk:Int} {es:List Ed} {c x p ov:Nat→Int} {full:List Value} (H0:Ctx w ((FL bf bo es.length N x ov ae full).map (·.1)) w (FL bf bo es.length N x ov ae full)) (O:OS ae es.length ce 4 full ((esC es c).flatMap CI))
  (hs:w.heap[bs]? = some (Bl 254 (SC N ae es.length ce bf bp bo kk))) (hbs:bs∉(FL bf bo es.length N x ov ae full).map (·.1)) (hp:w.heap[bp]? = some (Bl 2 (BS p N))) (hbp:bp∉(FL bf bo es.length N x ov ae full).map (·.1)) (Rw:Rd w aw 4 CI es) (hRw:es≠[]→(adr aw).block∉(FL bf bo es.length N x ov ae full).map (·.1))
  (hr:Cw (N:Int) es=true) (hc:∀ i,i<es.length→2*c i≤Gf es k i∧Gf es k i≤2*c i+1) (hF:Fine (grE (N:Int) es) c x p) (hx0:∀ v,v<N→BC (grE (N:Int) es) x v=0) (hov:∀ v,v<N→ov v=0) (hpb:∀ v,v<N → -1073741824≤p v∧p v≤1073741824)  (hk:k≤64:=by omega):
  Ret Tryz.prog 211 #[ptr bs,Ec (N:Int) aw es.length cw,.int .i64 (k:Int)] w fun v w'=>v = .tuple #[]∧∃ full',OS ae es.length ce 4 full' ((esC es (Gf es k)).flatMap CI) ∧
   Ctx w ((FL bf bo es.length N x ov ae full).map (·.1)) w' (FL bf bo es.length N (Kb (grE (N:Int) es) (Gf es k) x p) (BC (grE (N:Int) es) (Kb (grE (N:Int) es) (Gf es k) x p)) ae full'):=by
 obtain ⟨w0,rfl⟩:∃ w0,w0=w:=⟨_,rfl⟩;obtain ⟨ids,hids⟩:∃ ids,ids=(FL bf bo es.length N x ov ae full).map (·.1):=⟨_,rfl⟩;rw [← hids] at H0 hbs hbp hRw ⊢;have H:=H0;obtain ⟨hN1,hN40,hn200,hall,-⟩:=CD hr;obtain ⟨g,hg⟩:∃ g,g=grE (N:Int) es:=⟨_,rfl⟩;obtain ⟨c',hc'⟩:∃ c',c'=Gf es k:=⟨_,rfl⟩;have hgE:g.E=es.length:=by rw [hg]; rfl
 have hgo:g.Ok:=by rw [hg]; exact Kg hr
 have hin:=NH hr k;have hcb:=NI hr;rw [← hg] at hF hx0 ⊢;rw [← hc'] at hc hin ⊢;have hF2:=OW hF (cap':=c') (fun i hi=>hc i (by rw [← hgE]; exact hi))
 have hxb:∀ i,i<es.length→0≤x i∧2*x i≤c' i∧c' i≤4503599627370496:=fun i hi=>by
  have h1:=hF.in' i (by rw [hgE]; exact hi);have h2:=hc i hi;have h3:=hin i hi;have h4:=hcb i hi;omega
 have hmix:∀ i v,-900719925474099200≤BC g (Iz g c' x p i) v∧BC g (Iz g c' x p i) v≤900719925474099200:=fun i v=>Wi (fun j hj=>by
  have h1:=hxb j (by rw [← hgE]; exact hj);have h2:=hF2.in' j hj;unfold Iz
  split <;> omega) v
 refine Aw (fn:=Tryz.f211) Tryz.func211 U [.pointer (some ⟨bs,0,none⟩),Ec (N:Int) aw es.length cw,.int .i64 (k:Int)] U (by kernel_rfl) ?_;refine Af (Bv [.int .i64 (N:Int),.slice aw es.length cw] (.agg _) U U H ?_);rintro b4 w - H;refine Ab (Aa (Af (Ay U (A9 U (Ag EI U (AZ Cg U ((by rw [Aj (H.ext.to hs hbs)]; rfl)) ?_))))));refine Bi Bg U (Ae U (Ab (Aa (A0 (Bt 21778071482940061661655974875633165517248 (α:=Nat × List Value) (fun t=>[(14,.int .i64 (t.1:Int))]) (fun t w'=>t.1≤es.length∧OS ae es.length ce 4 t.2 ((esC es (Jx c c' t.1)).flatMap CI)∧Ctx w0 ids w' ((b4,Bl 51 [.int .i64 (N:Int),.slice aw es.length cw])::FL bf bo es.length N (flW g c' x p t.1) (BC g (Iz g c' x p t.1)) ae t.2)) (fun t=>es.length - t.1) (0,full) U ?_ ?_ ?_)))))
 ·exact ⟨rfl,trivial⟩
 ·refine ⟨Nat.zero_le _,?_,?_⟩
  ·rw [K8 (d:=c) fun i _=>by unfold Jx; rw [if_neg (Nat.not_lt_zero _)]];exact O
  ·have e1:BS (flW g c' x p 0) es.length=BS x es.length:=List.map_congr_left fun i _=>by unfold flW; rw [if_neg (Nat.not_lt_zero _)]
   have e2:BS (BC g (Iz g c' x p 0)) N=BS ov N:=List.map_congr_left fun v hv=>by
    have hv:=List.mem_range.1 hv;rw [Z7 (hx0 v hv),hov v hv]
   dsimp only [FL];rw [e1,e2];exact H
 ·rintro ⟨i,full1⟩ j w ⟨hi,O,H⟩; dsimp only at hi O H; dsimp only;refine Af (Bj U U (Ab (Aa (Aq (Ap _ U ?_ ?_)))))
  ·intro h1;replace h1:=AJ h1;have hil:i<es.length:=by omega
   obtain ⟨e,he⟩:=A8 (h:=hil);have hee:=EC (hall e (List.mem_of_getElem? he));obtain ⟨un,hun⟩:∃ un:Nat,e.f=un:=⟨e.f.toNat,by omega⟩;obtain ⟨vn,hvn⟩:∃ vn:Nat,e.t=vn:=⟨e.t.toNat,by omega⟩;obtain ⟨cc,hcc⟩:∃ cc:Nat,e.cap=cc:=⟨e.cap.toNat,by omega⟩;have hgf:g.f i=un:=by rw [hg]; show (es.getD i e0).f.toNat=un; rw [Bo he,hun]; rfl
   have hgt:g.t i=vn:=by rw [hg]; show (es.getD i e0).t.toNat=vn; rw [Bo he,hvn]; rfl
   have hgc:g.co i=e.cost:=by rw [hg]; show (es.getD i e0).cost=_; rw [Bo he]
   have hck:c' i=((cc / 2 ^ k:Nat):Int):=by
    rw [hc']; unfold Gf Cr; rw [Bo he,hcc]; rfl
   have hunN:un<N:=by omega
   have hvnN:vn<N:=by omega
   obtain ⟨q,rfl⟩:=O.form (by omega);have hxi:=hxb i hil;obtain ⟨xi,hxie⟩:∃ xi,xi=x i:=⟨_,rfl⟩;obtain ⟨ck,hcke⟩:∃ ck,ck=c' i:=⟨_,rfl⟩;rw [← hxie,← hcke] at hxi;rw [← hcke] at hck;have hgx:(tab (flW g c' x p i) es.length)[i]? = some xi:=by rw [BT hil,hxie]; unfold flW; rw [if_neg (Nat.lt_irrefl _)]
   have hcap2:(CI e)[2]? = some (.int .i64 (cc:Int)):=by unfold CI; rw [hcc]; rfl
   have hes:es≠[]:=fun h=>by rw [h] at he; cases he
   have hqn:=O.le;have hOl:=O.len;refine Au (Aa (Aq (A0 (Af (Ae U (Ad U (Ab (Aa (Af (Ay U (A9 U ?_)))))))))));refine Ag G7 U (Ag Dv U (AZ Fs U ((by rw [Aj (H.ext.to hs hbs)]; rfl)) ?_));refine Ae U (Bn Ds Dp U U ?_);refine B3 U (Ab (Aa (Af (Ay U (A9 U (Ag EI U (AZ Cg U ((by rw [Aj (H.ext.to hs hbs)]; rfl)) ?_)))))));refine Ae U (Bn Bg B6 U U ?_);refine AZ Bw U (((Cx (H.get at1)).fld hgx U (j:=0) U)) ?_;refine DE U U ?_;refine Bn Bg B6 U U ?_;refine Cc i (fun z => .int .i64 (if z=i then xi*2 else flW g c' x p i z)) (.int _ _) B6 U U U H at1 (by simp) (hk:=hil) (by rw [if_pos rfl]) (fun z _ hz=>by rw [if_neg hz]) ?_;rintro w H;refine Ab (Aa (Af (Ay U (Ag Dv U (AM Fs U H at0 U (Ae U (AS Rw Ds Dp U U (by rfl) ?_)))))))
   refine Ag EU U (AZ Bw U (((Rw.ext H.ext (hRw hes)).fld he U (j:=2) hcap2)) ?_);refine Ae U (Jl (a:=cc) (n:=k) U U U ?_);rw [← hck];refine A9 U (Ag EU U (Cp (.int _ _) B6 U U U H at3 (by omega) ?_));rintro w H;refine Ab (Aa ?_);rw [show 0+((i:Int)).toNat*4+2=i*4+2 by omega] at H;have O1:=OS.setf O (y:=edC es (Jx c c' (i+1)) i) (j:=2) (v := .int .i64 ck) (fun _=>rfl) (Jw (c:=Jx c c' i) hil) (by decide) (by unfold edC CI Jx; dsimp only; rw [if_pos (by omega),← hcke]; rfl);rw [Wg rfl (fun j _ hj=>Wj hj)] at O1;obtain ⟨full2,hf2⟩:∃ full2,full2=full1.set (i*4+2) (.int .i64 ck):=⟨_,rfl⟩;rw [← hf2] at O1;replace H:Ctx w0 ids w ((b4,Bl 51 [.int .i64 (N:Int),.slice aw es.length cw])::(bf,Bl 2 (BS (fun z=>if z=i then xi*2 else flW g c' x p i z) es.length))::(bo,Bl 2 (BS (BC g (Iz g c' x p i)) N))::[(q,Bl 59 full2)]):=by rw [hf2]; exact H
   have hrow:=Jw (c:=Jx c c' (i+1)) hil
   have henc:CI (edC es (Jx c c' (i+1)) i)=[.int .i64 (un:Int),.int .i64 (vn:Int),.int .i64 ck,.int .i64 e.cost]:=by
    unfold edC CI Jx; rw [Bo he]; dsimp only; rw [if_pos (by omega),hun,hvn,← hcke]
   have hfin:Kb g c' x p i=if 2*xi<ck∧e.cost+p un - p vn<0 then ck else 2*xi:=by
    unfold Kb; rw [hgc,hgf,hgt,← hxie,← hcke]
   have hms:=fun v=>Z9 (g:=g) (cap':=c') (x:=x) (p:=p) (k:=i) v;rw [hgf,hgt,← hxie] at hms;obtain ⟨pu,hpu⟩:∃ pu,pu=p un:=⟨_,rfl⟩;obtain ⟨pv,hpv⟩:∃ pv,pv=p vn:=⟨_,rfl⟩;have hpbu:=hpb un hunN;have hpbv:=hpb vn hvnN;rw [← hpu] at hpbu hfin;rw [← hpv] at hpbv hfin;have hgpu:(tab p N)[un]? = some pu:=by rw [BT hunN,hpu]
   have hgpv:(tab p N)[vn]? = some pv:=by rw [BT hvnN,hpv]
   have hgx2:(tab (fun z=>if z=i then xi*2 else flW g c' x p i z) es.length)[i]? = some (xi*2):=by rw [BT hil,if_pos rfl]
   have RP:=Cx hp;have hRE:∀ {z:World},z.heap[q]? = some (Bl 59 full2)→Rd z (some ⟨q,0,none⟩) 4 CI (esC es (Jx c c' (i+1))):=fun h=>O1.rd (t:=59) (fun y hy=>by have hy:=List.mem_singleton.1 hy; rw [hy]; exact h) (fun _ _=>rfl) (by decide);have RE:=hRE (H.drew.get at3);refine DC 38685626227650541404553216 (α:=Unit) (fun _=>[(84,.bool (decide (xi*2<ck∧e.cost+pu - pv<0)))]) (fun _ w'=>Ctx w0 ids w' ((b4,Bl 51 [.int .i64 (N:Int),.slice aw es.length cw])::(bf,Bl 2 (BS (fun z=>if z=i then xi*2 else flW g c' x p i z) es.length))::(bo,Bl 2 (BS (BC g (Iz g c' x p i)) N))::[(q,Bl 59 full2)])) U ?_ ?_
   ·skip
    refine V9 (fun x=>x=_) Bs (by kernel_rfl) U ?_;refine B4 U (Bb U (A7 EI U (BX Cg U (by rintro _ rfl; exact ((by rw [Aj (H.drew.ext.to hs hbs)]; rfl))) ?_)));refine Bh U (Bf Bg B6 U U ?_);refine BX Bw U (by rintro _ rfl; exact (((Cx (H.drew.get at1)).fld hgx2 rfl (j:=0) rfl))) ?_;refine B4 U (Bb U (A7 EU U (BX Bw U (by rintro _ rfl; exact ((RE.fld hrow rfl (j:=2) (by rw [henc]; rfl)))) ?_)));refine KI U U (CU U (Dw 56 U ?_ ?_))
    ·intro h1;replace h1:=AJ h1;refine B4 U (Bb U (A7 GX U (BX Bw U (by rintro _ rfl; exact ((RE.fld hrow rfl (j:=3) (by rw [henc]; rfl)))) ?_)));refine B4 U (Bb U (A7 EJ U (BX Cg U (by rintro _ rfl; exact ((by rw [Aj (H.drew.ext.to hs hbs)]; rfl))) ?_)));refine B4 U (Bb U (A7 FW U (BX Ca U (by rintro _ rfl; exact ((RE.fld hrow rfl (j:=0) (by rw [henc]; rfl)))) ?_)));refine Bf Bg B6 U U ?_;refine BX Bw U (by rintro _ rfl; exact (((RP.ext H.drew.ext hbp).fld hgpu rfl (j:=0) rfl))) ?_;refine De U U ?_;refine B4 U (Bb U (A7 EJ U (BX Cg U (by rintro _ rfl; exact ((by rw [Aj (H.drew.ext.to hs hbs)]; rfl))) ?_)));refine B4 U (Bb U (A7 FX U (BX Ca U (by rintro _ rfl; exact ((RE.fld hrow rfl (j:=1) (by rw [henc]; rfl)))) ?_)));refine Bf Bg B6 U U ?_
     refine BX Bw U (by rintro _ rfl; exact (((RP.ext H.drew.ext hbp).fld hgpv rfl (j:=0) rfl))) ?_;refine D8 U U ?_;refine KI U U (Ia U (.bool _) U (BW ?_));rintro _ rfl;replace H:=H.drew;refine Aa ?_;exact ⟨(),rfl,⟨congrArg Value.bool (by clear hgx hgx2 hgpu hgpv hcke hxie hpu hpv hms hmix hxb hfin henc hrow hgf hgt hgc; rw [Bool.eq_iff_iff]; simp_all; try omega),trivial⟩,H⟩
    ·intro h2;replace h2:=AK h2;refine A2 U (A2 U (A2 U (A2 U (A2 U (A2 U (A2 U (A2 U (A2 U (A2 U ?_)))))))));refine A2 U (A2 U (A2 U (A2 U (A2 U (A2 U (A2 U (A2 U (A2 U (A2 U ?_)))))))));refine A2 U (A2 U (A2 U (A2 U (A2 U (A2 U (A2 U (GU U (.bool _) U (BW ?_))))))));rintro _ rfl;replace H:=H.drew;refine Aa ?_;exact ⟨(),rfl,⟨congrArg Value.bool (by clear hgx hgx2 hgpu hgpv hcke hxie hpu hpv hms hmix hxb hfin henc hrow hgf hgt hgc; rw [Bool.eq_iff_iff]; simp_all; try omega),trivial⟩,H⟩
   ·rintro - j6 w H;refine Ap _ U ?_ ?_
    ·intro h2;have h2:=of_decide_eq_true h2;rw [if_pos ⟨by omega,h2.2⟩] at hfin;have ob1:=hmix i un;have ob2:=hmix i vn;have ob3:=hmix (i+1) un;have ob4:=hmix (i+1) vn;obtain ⟨ov1,hov1⟩:∃ ov1,ov1=BC g (Iz g c' x p i):=⟨_,rfl⟩;have hgo2:(tab ov1 N)[vn]? = some (ov1 vn):=BT hvnN;have hgo1:(tab (upd ov1 vn (ov1 vn+(ck - xi*2))) N)[un]? = some (upd ov1 vn (ov1 vn+(ck - xi*2)) un):=BT hunN;rw [← hov1] at ob1 ob2 H;rw [hms,hfin,← hov1] at ob3 ob4
     have ob5:upd ov1 vn (ov1 vn+(ck - xi*2)) un=ov1 un+(ck - xi*2)*one (vn=un):=by
      by_cases e:un=vn
      ·rw [e,Di,Fv rfl]; omega
      ·rw [Et e,EW (Ne.symm e)]; omega
     have ob6:∀ u,one (vn=u)=0∨one (vn=u)=1:=fun u=>by unfold one; split <;> omega
     have ob7:=ob6 un
     have ob8 : -1801439850948198400≤upd ov1 vn (ov1 vn+(ck - xi*2)) un∧upd ov1 vn (ov1 vn+(ck - xi*2)) un≤1801439850948198400:=by
      rw [ob5]
      rcases ob7 with h | h <;> rw [h] <;> omega
     refine Er (fun x=>x=_) Bs (by kernel_rfl) U ?_;refine B4 U (Bb U (A7 EU U (BX Bw U (by rintro _ rfl; exact (((hRE (H.drew.get at3)).fld hrow rfl (j:=2) (by rw [henc]; rfl)))) ?_)));refine B4 U (Bb U (A7 EI U (BX Cg U (by rintro _ rfl; exact ((by rw [Aj (H.drew.ext.to hs hbs)]; rfl))) ?_)));refine Bh U (Bf Bg B6 U U ?_);refine BX Bw U (by rintro _ rfl; exact (((Cx (H.drew.get at1)).fld hgx2 rfl (j:=0) rfl))) ?_;refine D8 U U ?_;refine Db U (BW ?_);rintro _ rfl;replace H:=H.drew;refine Af (Ay U (A9 U (Ag EI U (AZ Cg U ((by rw [Aj (H.ext.to hs hbs)]; rfl)) ?_))));refine Ae U (Bn Bg B6 U U ?_);refine AZ Bw U (((Cx (H.get at1)).fld hgx2 U (j:=0) U)) ?_;refine Ae U (Ax U U ?_);refine Bn Bg B6 U U ?_
     refine Cc i (fun z => .int .i64 (if z=i then ck else flW g c' x p i z)) (.int _ _) B6 U U U H at1 (by simp) (hk:=hil) (by rw [if_pos rfl]; congr 1; omega) (fun z _ hz=>by dsimp only; rw [if_neg hz,if_neg hz]) ?_;rintro w H;refine Ab (Aa (Eb 13 Bs (by kernel_rfl) U U ?_));refine B4 U (Bb U (A7 G8 U (BX Cg U (by rintro _ rfl; exact ((by rw [Aj (H.drew.ext.to hs hbs)]; rfl))) ?_)));refine B4 U (Bb U (A7 FX U (BX Ca U (by rintro _ rfl; exact (((hRE (H.drew.get at3)).fld hrow rfl (j:=1) (by rw [henc]; rfl)))) ?_)));refine Bf Bg B6 U U ?_;refine BX Bw U (by rintro _ rfl; exact (((Cx (H.drew.get at2)).fld hgo2 rfl (j:=0) rfl))) ?_;refine Bh U (De U U ?_);refine Bf Bg B6 U U ?_;refine BW ?_;replace H:=H.drew
     refine Cc vn (fun z => .int .i64 (upd ov1 vn (ov1 vn+(ck - xi*2)) z)) (.int _ _) B6 U U U H at2 (by simp) (hk:=hvnN) (by rw [Di]) (fun z _ hz=>by rw [Et hz]) ?_;rintro w H;refine Ab (Aa (FC 13 Bs (by kernel_rfl) U U ?_));refine B4 U (Bb U (A7 G8 U (BX Cg U (by rintro _ rfl; exact ((by rw [Aj (H.drew.ext.to hs hbs)]; rfl))) ?_)));refine B4 U (Bb U (A7 FW U (BX Ca U (by rintro _ rfl; exact (((hRE (H.drew.get at3)).fld hrow rfl (j:=0) (by rw [henc]; rfl)))) ?_)));refine Bf Bg B6 U U ?_;refine BX Bw U (by rintro _ rfl; exact (((Cx (H.drew.get at2)).fld hgo1 rfl (j:=0) rfl))) ?_;refine Bh U (D8 U U ?_);refine Bf Bg B6 U U ?_;refine BW ?_;replace H:=H.drew
     refine Cc un (fun z => .int .i64 (upd (upd ov1 vn (ov1 vn+(ck - xi*2))) un (upd ov1 vn (ov1 vn+(ck - xi*2)) un - (ck - xi*2)) z)) (.int _ _) B6 U U U H at2 (by simp) (hk:=hunN) (by rw [Di]) (fun z _ hz=>by rw [Et hz]) ?_;rintro w H;refine Ab (A5 (Aa (Az (Ax U U ?_))));refine Ae U (Ab (Aa ?_))
     have e1:BS (fun z=>if z=i then ck else flW g c' x p i z) es.length=BS (flW g c' x p (i+1)) es.length:=List.map_congr_left fun z _=>by
      dsimp only
      by_cases e:z=i
      ·subst e;rw [if_pos rfl]; unfold flW; rw [if_pos (by omega),hfin]
      ·rw [if_neg e,ZV e]
     have e2:BS (upd (upd ov1 vn (ov1 vn+(ck - xi*2))) un (upd ov1 vn (ov1 vn+(ck - xi*2)) un - (ck - xi*2))) N=BS (BC g (Iz g c' x p (i+1))) N:=List.map_congr_left fun z _=>by
      congr 1
      rw [hms,hfin,← hov1]
      by_cases e:z=un
      ·subst e;rw [Di,ob5,Fv rfl]
       rcases ob7 with h | h <;> rw [h] <;> omega
      ·rw [Et e,EW (p:=un=z) (Ne.symm e)]
       by_cases e3:z=vn
       ·subst e3;rw [Di,Fv rfl]; omega
       ·rw [Et e3,EW (Ne.symm e3)]; omega
     refine ⟨(i+1,full2),rfl,⟨rfl,trivial⟩,⟨by dsimp only; omega,O1,?_⟩,by dsimp only; omega⟩;dsimp only [FL];rw [← e1,← e2];exact H
    ·intro h2;have h2:=of_decide_eq_false h2;rw [if_neg (fun h=>h2 ⟨by omega,h.2⟩)] at hfin;refine Au (A5 (Aa (Az (Ax U U ?_))));refine Ae U (Ab (Aa ?_))
     have e1:BS (fun z=>if z=i then xi*2 else flW g c' x p i z) es.length=BS (flW g c' x p (i+1)) es.length:=List.map_congr_left fun z _=>by
      dsimp only
      by_cases e:z=i
      ·subst e;rw [if_pos rfl]; unfold flW; rw [if_pos (by omega),hfin]; congr 1; omega
      ·rw [if_neg e,ZV e]
     have e2:BS (BC g (Iz g c' x p i)) N=BS (BC g (Iz g c' x p (i+1))) N:=List.map_congr_left fun z _=>by
      congr 1
      rw [hms,hfin,Int.sub_self,Int.zero_mul,Int.add_zero]
     refine ⟨(i+1,full2),rfl,⟨rfl,trivial⟩,⟨by dsimp only; omega,O1,?_⟩,by dsimp only; omega⟩;dsimp only [FL];rw [← e1,← e2];exact H
  ·intro h1;replace h1:=AK h1;refine Bq (Am (Am (AG (CF U U ?_))));obtain rfl:i=es.length:=by omega
   rw [K8 (d:=c') fun i hi=>by unfold Jx; rw [if_pos hi]] at O
   have e1:BS (flW g c' x p es.length) es.length=BS (Kb g c' x p) es.length:=List.map_congr_left fun z hz=>by
    unfold flW; rw [if_pos (List.mem_range.1 hz)]
   have e2:BS (BC g (Iz g c' x p es.length)) N=BS (BC g (Kb g c' x p)) N:=List.map_congr_left fun z _=>by
    congr 1
    refine Lj (fun i hi=>?_) z;rw [← hgE]; exact Adg hi
   refine ⟨rfl,full1,O,?_⟩;have H:=H.tail;dsimp only [FL] at H ⊢;rw [e1,e2] at H;exact H
end Go.Proofs.YtdagmpmdcgedcaaGreat
namespace Go.Proofs.YtdagmpmdcgedcaaGreat
open Go.GV
attribute [local irreducible] AB W Wq Wt
section
variable {P:Program} {r:Option Nat} {ops rest:List Oper} {Q:Exit→Env→World→Prop} {e:Env} {w:World} {dst:Option Tmp} {ty:TypeId} {pos:String} {af:Array Edge} {gd:Option (Nat × Bool)} {t t2:TypeId} {x y:Operand} {a b:Int}
theorem Nq (hg:AV ⟨dst,.binOp .add t x y t2,ty,pos,af,gd⟩ ops e=true) (hx:ev e x = .int .i64 a) (hy:ev e y = .int .i64 b)
  (h:∀ z,AB P r ops Q rest (put e dst (.int .i64 z)) w):AB P r ops Q (⟨dst,.binOp .add t x y t2,ty,pos,af,gd⟩::rest) e w:=B9 (v := .int .i64 (IntKind.i64.wrap (a+b))) hg rfl (Cb hx hy (by simp [binOp,Op.intArith])) (h _)
theorem Xx {D1 D2:Nat} {ds:List Deferred} {K:World→Prop} (h2:w.heap[D2]? = some (.deferred (some []))) (h1:w.heap[D1]? = some (.deferred (some []))) (hne:D1≠D2) (hds:ds=[{ target := .collected D2,args:=#[] },{ target := .collected D1,args:=#[] }]) (hK:∀ wF,Ext [D2,D1] w wF→K wF):Marks ds w K:=by
 subst hds;have x2:=Ext.setB w D2 (.deferred none);have x1:=Ext.setB (w.putObj D2 (.deferred none)) D1 (.deferred none);refine ⟨D2,rfl,h2,D1,rfl,x2.to h1 (by rw [List.mem_singleton]; exact hne),hK _ ((x2.mono (by simp)).trans (x1.mono (by simp)))⟩
end
theorem Rd.map {α β:Type} {w:World} {a:Option Addr} {s:Nat} {enc:α→List Value} {f:β→α} {xs:List β} (R:Rd w a s (fun x=>enc (f x)) xs):Rd w a s enc (xs.map f):=by
 refine ⟨fun h=>R.some' fun h'=>h (by rw [h']; rfl),fun i x hx j v hv hj=>?_⟩;rw [List.getElem?_map] at hx;obtain ⟨y,hy,rfl⟩:=Option.map_eq_some_iff.1 hx;exact R.cell i y hy j v hv hj
def T6 (g:Gr) (v:Nat) (l:List Nat):Nat:=l.foldl (fun _ a=>g.u a) v
theorem Xy {g:Gr} {v i a:Nat} {l:List Nat} (h:l[i]? = some a):T6 g v (l.take (i+1))=g.u a:=by
 unfold T6;rw [Fj h,List.foldl_append]; rfl
theorem Q0 {g:Gr} {cap x p:Nat→Int} {s:Lb} {by':Nat→Option Nat} (hB:Bys g cap x p s by'):∀ {k v:Nat},s.d v ≠ -1→s.h v=k→T6 g v (Ea by' g k v)=Nk by' g k v
 | 0,_,_,_=>rfl
 | k+1,v,hd,hk=>by
  obtain ⟨a,h1,h2,h3⟩:=hB.2 v hd (by omega);have hh:=h2.h;rw [h3,hk] at hh;obtain ⟨e1,e2⟩:=Hh (g:=g) (k:=k) h1;rw [e1,e2,← Q0 hB h2.du (by omega)];rfl
theorem Xz {m:Int} {x:Nat→Int} {l:List Nat} {i a:Nat} (h:l[i]? = some a):F6 m x (l.take (i+1))=IK m (F6 m x (l.take i)) a:=by
 unfold F6;rw [Fj h,List.foldl_append]; rfl
theorem Nr {N:Int} {es:List Ed} {x p:Nat→Int} (hr:Cw N es=true) (h:Fine (grE N es) (Cr es) x p):Cm N es (tab x es.length)=true:=by
 have h1:=ZU (c:=Cr es) (x:=x) hr (fun i hi=>by have:=NI hr i hi; omega) (fun i hi=>h.in' i hi);rw [Ph] at h1;exact h1
theorem Ad8 {N:Nat} {p:Nat→Int} (hp:∀ v,v<N → -1073741824≤p v∧p v≤1073741824):Ge (N:Int) (tab p N)=true:=by
 unfold Ge;rw [CV,decide_eq_true rfl,Bool.and_true];refine List.all_eq_true.2 fun x hx=>?_;obtain ⟨i,hi⟩:=List.getElem?_of_mem hx;obtain ⟨h1,rfl⟩:=OY hi;have:=hp i h1;unfold N3;simp only [Bool.and_eq_true,decide_eq_true_eq];omega
theorem Ctx.ltI {w0 w:World} {S:List Nat} {L:List (Nat × Obj)} (H:Ctx w0 S w L):∀ b∈L.map (·.1),b<w.heap.size:=fun b hb=>by
 obtain ⟨y,hy,rfl⟩:=List.mem_map.1 hb;exact Ba (H.blk y hy)
theorem G0 {L L':List (Nat × Obj)} (h:(L++L').Pairwise (fun x y=>x.1≠y.1)) {x:Nat × Obj} (hx:x∈L'):x.1∉L.map (·.1):=fun hm=>by
 obtain ⟨y,hy,he⟩:=List.mem_map.1 hm;exact (List.pairwise_append.1 h).2.2 y hy x hx he
theorem X0 {α:Type} {R:α→α→Prop} {l:List α} (h:l.Pairwise R) {i:Nat} {a:α} (ha:l[i]? = some a):∀ b∈l.take i,R b a:=fun b hb=>by
 rw [← List.take_append_drop i l] at h;exact (List.pairwise_append.1 h).2.2 b hb a (List.mem_of_getElem? (i:=0) (by rw [List.getElem?_drop]; exact ha))
theorem Ad9 {N:Nat} {p:Nat→Int} (hpn:ES (tab p N)=p) (hpb:∀ v,v<N → -1073741824≤p v∧p v≤1073741824) (v:Nat) : -1152921504606846976≤p v∧p v≤1152921504606846976:=by
 rcases Nat.lt_or_ge v N with h | h
 ·have:=hpb v h; omega
 ·rw [← hpn];unfold ES;rw [List.getD_eq_getElem?_getD,List.getElem?_eq_none (by rw [CV]; exact h)];exact ⟨by decide,by decide⟩
abbrev SL (bs bf bp bo:Nat) (N:Nat) (ae:Option Addr) (n ce:Nat) (k:Int) (x p ov:Nat→Int) (full:List Value):List (Nat × Obj) :=
 (bs,Bl 254 (SC N ae n ce bf bp bo k))::(bf,Bl 2 (BS x n))::(bp,Bl 2 (BS p N))::(bo,Bl 2 (BS ov N))::ent ae 59 full
theorem Ajq {ov:Nat→Int} {N:Nat}:(∀ v∈HW ov N,v<N)∧(HW ov N).Nodup∧∀ v,v∈HW ov N↔v<N∧0<ov v:=by
 have h:∀ v,v∈HW ov N↔v<N∧0<ov v:=fun v=>by unfold HW; rw [List.mem_filter,List.mem_range,decide_eq_true_eq]
 exact ⟨fun v hv=>((h v).1 hv).1,List.nodup_range.filter _,h⟩
end Go.Proofs.YtdagmpmdcgedcaaGreat
