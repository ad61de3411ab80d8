/- Part 4 of the proof. -/
import Derived.Test.YtibemkominehdaaGreatPart2
import Derived.Test.YtibemkominehdaaGreatPart3
namespace Go.Proofs.YtibemkominehdaaGreat
open Go.GV
theorem ltge (a b:Int):a<b∨b≤a:=by omega
def Bf (f:Nat→Int):Nat→Int
 | 0=>0
 | k+1=>Bf f k+f k
theorem BH {f g:Nat→Int}:∀ {k:Nat},(∀ i,i<k→f i=g i)→Bf f k=Bf g k
 | 0,_=>rfl
 | k+1,h=>by
  show Bf f k+f k=Bf g k+g k;rw [BH fun i hi=>h i (by omega),h k (by omega)]
theorem LJ (f g:Nat→Int):∀ k,Bf (fun i=>f i+g i) k=Bf f k+Bf g k
 | 0=>rfl
 | k+1=>by
  show Bf _ k+(f k+g k)=(Bf f k+f k)+(Bf g k+g k);rw [LJ f g k]; omega
theorem LK (f:Nat→Int):∀ k,Bf (fun i => -f i) k = -Bf f k
 | 0=>rfl
 | k+1=>by
  show Bf _ k + -f k = -(Bf f k+f k);rw [LK f k]; omega
theorem Hd (f g:Nat→Int) (k:Nat):Bf (fun i=>f i - g i) k=Bf f k - Bf g k:=by
 have h:=LJ f (fun i => -g i) k;rw [LK] at h;exact h
theorem P5 (c:Int) (f:Nat→Int):∀ k,Bf (fun i=>c*f i) k=c*Bf f k
 | 0=>by show (0:Int)=c*0; omega
 | k+1=>by
  show Bf _ k+c*f k=c*(Bf f k+f k);rw [P5 c f k,Int.mul_add]
theorem ET:∀ k,Bf (fun _=>0) k=0
 | 0=>rfl
 | k+1=>by show Bf _ k+0=0; rw [ET k]; rfl
theorem J6 {f:Nat→Int}:∀ {k:Nat},(∀ i,i<k→0≤f i)→0≤Bf f k
 | 0,_=>Int.le_refl _
 | k+1,h=>by
  have:=J6 (k:=k) fun i hi=>h i (by omega);have:=h k (by omega);show 0≤Bf f k+f k;omega
theorem J7 {f g:Nat→Int} {k:Nat} (h:∀ i,i<k→f i≤g i):Bf f k≤Bf g k:=by
 have h1:=J6 (f:=fun i=>g i - f i) (k:=k) fun i hi=>by have:=h i hi; omega
 rw [Hd] at h1;omega
theorem J8 (f:Nat→Nat→Int) (m:Nat):∀ k,Bf (fun i=>Bf (f i) m) k=Bf (fun j=>Bf (fun i=>f i j) k) m
 | 0=>(ET m).symm
 | k+1=>by
  show Bf _ k+Bf (f k) m=Bf (fun j=>Bf (fun i=>f i j) k+f k j) m;rw [LJ,J8 f m k]
def one (b:Prop) [Decidable b]:Int:=if b then 1 else 0
theorem Fq (g:Nat→Int) {u:Nat}:∀ {k:Nat},u<k→Bf (fun v=>one (u=v)*g v) k=g u
 | k+1,h=>by
  show Bf _ k+one (u=k)*g k=g u
  by_cases e:u=k
  ·subst e
   have h1:Bf (fun v=>one (u=v)*g v) u=Bf (fun _=>0) u:=BH fun i hi=>by
    unfold one; rw [if_neg (by omega)]; omega
   rw [h1,ET,one,if_pos rfl]; omega
  ·rw [Fq g (by omega:u<k),one,if_neg e]; omega
structure Gr where
 N:Nat
 E:Nat
 f:Nat→Nat
 t:Nat→Nat
 co:Nat→Int
structure Gr.Ok (g:Gr):Prop where
 f:∀ i,i<g.E→g.f i<g.N
 t:∀ i,i<g.E→g.t i<g.N
def DW (g:Gr) (x:Nat→Int) (k v:Nat):Int:=Bf (fun i=>(one (g.t i=v) - one (g.f i=v))*x i) k
def CA (g:Gr) (x:Nat→Int) (v:Nat):Int:=DW g x g.E v
def Es (g:Gr) (x:Nat→Int):Int:=Bf (fun i=>x i*g.co i) g.E
theorem SK (g:Gr) (hg:g.Ok) (x r:Nat→Int):Bf (fun v=>CA g x v*r v) g.N=Bf (fun i=>(r (g.t i) - r (g.f i))*x i) g.E:=by
 have h1:Bf (fun v=>CA g x v*r v) g.N=Bf (fun v=>Bf (fun i=>(one (g.t i=v) - one (g.f i=v))*x i*r v) g.E) g.N:=BH fun v _=>by
  unfold CA DW;rw [Int.mul_comm,← P5];exact BH fun i _=>by rw [Int.mul_comm]
 rw [h1,← J8];refine BH fun i hi=>?_
 have h2:Bf (fun v=>(one (g.t i=v) - one (g.f i=v))*x i*r v) g.N=Bf (fun v=>one (g.t i=v)*(x i*r v) - one (g.f i=v)*(x i*r v)) g.N:=BH fun v _=>by
  rw [Int.mul_assoc,Int.sub_mul]
 rw [h2,Hd,Fq (fun v=>x i*r v) (hg.t i hi),Fq (fun v=>x i*r v) (hg.f i hi),Int.sub_mul,Int.mul_comm (r _),Int.mul_comm (r _)]
theorem GM (g:Gr) (hg:g.Ok) (x:Nat→Int):Bf (CA g x) g.N=0:=by
 have h:=SK g hg x fun _=>1;have h1:Bf (fun v=>CA g x v*1) g.N=Bf (CA g x) g.N:=BH fun v _=>by omega
 rw [← h1,h];have h2:Bf (fun i=>((1:Int) - 1)*x i) g.E=Bf (fun _=>0) g.E:=BH fun i _=>by omega
 rw [h2,ET]
def Gr.u (g:Gr) (a:Nat):Nat:=if a % 2=0 then g.f (a / 2) else g.t (a / 2)
def Gr.v (g:Gr) (a:Nat):Nat:=if a % 2=0 then g.t (a / 2) else g.f (a / 2)
def Gr.c (g:Gr) (a:Nat):Int:=if a % 2=0 then g.co (a / 2) else -g.co (a / 2)
def EU (cap x:Nat→Int) (a:Nat):Int:=if a % 2=0 then cap (a / 2) - x (a / 2) else x (a / 2)
def Gr.len (g:Gr) (p:Nat→Int) (a:Nat):Int:=g.c a+p (g.u a) - p (g.v a)
structure Fine (g:Gr) (cap x p:Nat→Int):Prop where
 in':∀ i,i<g.E→0≤x i∧x i≤cap i
 fit:∀ a,a<2*g.E→0<EU cap x a→0≤g.len p a
theorem Gr.Ok.u {g:Gr} (h:g.Ok) {a:Nat} (ha:a<2*g.E):g.u a<g.N:=by
 unfold Gr.u; split
 ·exact h.f _ (by omega)
 ·exact h.t _ (by omega)
theorem Gr.Ok.v {g:Gr} (h:g.Ok) {a:Nat} (ha:a<2*g.E):g.v a<g.N:=by
 unfold Gr.v; split
 ·exact h.t _ (by omega)
 ·exact h.f _ (by omega)
theorem MU (g:Gr) (i:Nat):g.u (2*i)=g.f i∧g.v (2*i)=g.t i∧g.c (2*i)=g.co i:=by
 unfold Gr.u Gr.v Gr.c;rw [if_pos (by omega),if_pos (by omega),if_pos (by omega),show 2*i / 2=i by omega];exact ⟨rfl,rfl,rfl⟩
theorem P6 (g:Gr) (i:Nat):g.u (2*i+1)=g.t i∧g.v (2*i+1)=g.f i∧g.c (2*i+1) = -g.co i:=by
 unfold Gr.u Gr.v Gr.c;rw [if_neg (by omega),if_neg (by omega),if_neg (by omega),show (2*i+1) / 2=i by omega];exact ⟨rfl,rfl,rfl⟩
theorem Fine.fwd {g:Gr} {cap x p:Nat→Int} (h:Fine g cap x p) {i:Nat} (hi:i<g.E) (hr:x i<cap i):0≤g.co i+p (g.f i) - p (g.t i):=by
 have h1:=h.fit (2*i) (by omega) (by unfold EU; rw [if_pos (by omega),show 2*i / 2=i by omega]; omega);obtain ⟨a,b,c⟩:=MU g i;unfold Gr.len at h1
 rwa [a,b,c] at h1
theorem Fine.bwd {g:Gr} {cap x p:Nat→Int} (h:Fine g cap x p) {i:Nat} (hi:i<g.E) (hr:0<x i):g.co i+p (g.f i) - p (g.t i)≤0:=by
 have h1:=h.fit (2*i+1) (by omega) (by unfold EU; rw [if_neg (by omega),show (2*i+1) / 2=i by omega]; exact hr);obtain ⟨a,b,c⟩:=P6 g i;unfold Gr.len at h1;rw [a,b,c] at h1;omega
theorem Fine.of {g:Gr} {cap x p:Nat→Int} (h0:∀ i,i<g.E→0≤x i∧x i≤cap i) (h1:∀ i,i<g.E→x i<cap i→0≤g.co i+p (g.f i) - p (g.t i)) (h2:∀ i,i<g.E→0<x i→g.co i+p (g.f i) - p (g.t i)≤0):Fine g cap x p:=by
 refine ⟨h0,fun a ha hr=>?_⟩;have hm:a % 2=0∨a % 2=1:=by omega
 unfold Gr.len
 rcases hm with hm | hm
 ·obtain ⟨b,c,d⟩:=MU g (a / 2);rw [show 2*(a / 2)=a by omega] at b c d;rw [b,c,d];unfold EU at hr;rw [if_pos hm] at hr;exact h1 _ (by omega) (by omega)
 ·obtain ⟨b,c,d⟩:=P6 g (a / 2);rw [show 2*(a / 2)+1=a by omega] at b c d;rw [b,c,d];unfold EU at hr;rw [if_neg (by omega)] at hr;have:=h2 _ (by omega) hr;omega
theorem Fine.best {g:Gr} (hg:g.Ok) {cap x p:Nat→Int} (h:Fine g cap x p) (hx:∀ v,v<g.N→CA g x v=0) {y:Nat→Int} (hy:∀ i,i<g.E→0≤y i∧y i≤cap i) (hyo:∀ v,v<g.N→CA g y v=0):Es g x≤Es g y:=by
 have hz:∀ z:Nat→Int,(∀ v,v<g.N→CA g z v=0)→Es g z=Bf (fun i=>(g.co i+p (g.f i) - p (g.t i))*z i) g.E:=fun z hz=>by
  have h1:=SK g hg z p;have h2:Bf (fun v=>CA g z v*p v) g.N=Bf (fun _=>0) g.N:=BH fun v hv=>by rw [hz v hv]; omega
  rw [h2,ET] at h1
  have h3:Bf (fun i=>(g.co i+p (g.f i) - p (g.t i))*z i) g.E=Bf (fun i=>z i*g.co i - (p (g.t i) - p (g.f i))*z i) g.E:=BH fun i _=>by
   rw [Int.mul_comm (z i),← Int.sub_mul]; congr 1; omega
  rw [h3,Hd,← h1];unfold Es;omega
 rw [hz x hx,hz y hyo];refine J7 fun i hi=>?_;obtain ⟨a,b⟩:=h.in' i hi;obtain ⟨c,d⟩:=hy i hi
 rcases ltge (g.co i+p (g.f i) - p (g.t i)) 0 with h5 | h5
 ·have h6:x i=cap i:=by
   rcases ltge (x i) (cap i) with h7 | h7
   ·have:=h.fwd hi h7; omega
   ·omega
  exact Int.mul_le_mul_of_nonpos_left (by omega) (by omega)
 ·rcases ltge 0 (g.co i+p (g.f i) - p (g.t i)) with h6 | h6
  ·have h7:x i=0:=by
    rcases ltge 0 (x i) with h7 | h7
    ·have:=h.bwd hi h7; omega
    ·omega
   exact Int.mul_le_mul_of_nonneg_left (by omega) (by omega)
  ·rw [show g.co i+p (g.f i) - p (g.t i)=0 by omega]; omega
end Go.Proofs.YtibemkominehdaaGreat
namespace Go.Proofs.YtibemkominehdaaGreat
open Go.GV
structure Lb where
 d:Nat→Int
 h:Nat→Nat
def le2 (d1:Int) (h1:Nat) (d2:Int) (h2:Nat):Prop:=d1<d2∨(d1=d2∧h1≤h2)
theorem le2.trans {a b c:Int} {x y z:Nat} (h1:le2 a x b y) (h2:le2 b y c z):le2 a x c z:=by unfold le2 at *; omega
theorem le2.refl (a:Int) (x:Nat):le2 a x a x := .inr ⟨rfl,Nat.le_refl _⟩
def Db (s:Lb) (v:Nat) (d:Int) (h:Nat):Prop:=s.d v = -1∨d<s.d v∨(d=s.d v∧h<s.h v)
instance (s:Lb) (v:Nat) (d:Int) (h:Nat):Decidable (Db s v d h):=by unfold Db; infer_instance
def EV (s:Lb) (v:Nat) (d:Int) (h:Nat):Lb:=⟨fun u=>if u=v then d else s.d u,fun u=>if u=v then h else s.h u⟩
def EW (s:Lb) (a:Ar):Lb:=if Db s a.2.1 (s.d a.1+a.2.2) (s.h a.1+1) then EV s a.2.1 (s.d a.1+a.2.2) (s.h a.1+1) else s
def GD (s:Lb) (a:Ar) (hp:List (Int × Nat)):List (Int × Nat):=if Db s a.2.1 (s.d a.1+a.2.2) (s.h a.1+1) then (s.d a.1+a.2.2,a.2.1)::hp else hp
def NZ (A:List Ar) (n:Nat) (m:Int):Prop:=∀ a∈A,a.1<n∧a.2.1<n∧0≤a.2.2∧a.2.2≤m
structure DJ (A:List Ar) (src:List Nat) (n:Nat) (m:Int) (s:Lb):Prop where
 low:∀ v,s.d v = -1∨0≤s.d v
 src':∀ v∈src,v<n∧s.d v=0∧s.h v=0
 zero:∀ v,s.d v ≠ -1→s.h v=0→v∈src
 none':∀ v,s.d v = -1→s.h v=0
 pre:∀ v,s.d v ≠ -1→s.h v≠0→∃ a∈A,a.2.1=v∧s.d a.1 ≠ -1∧le2 (s.d a.1+a.2.2) (s.h a.1+1) (s.d v) (s.h v)
 walk:∀ v,s.d v ≠ -1→∃ W:List Nat,W.Nodup∧W.length=s.h v+1∧∀ x∈W,x<n∧s.d x ≠ -1∧le2 (s.d x) (s.h x) (s.d v) (s.h v)
 bnd:∀ v,s.d v ≠ -1→s.d v≤s.h v*m
def Rlx (s:Lb) (a:Ar):Prop:=s.d a.2.1 ≠ -1∧le2 (s.d a.2.1) (s.h a.2.1) (s.d a.1+a.2.2) (s.h a.1+1)
def Clo (A:List Ar) (s:Lb) (hp:List (Int × Nat)) (u:Nat) (done:List Ar):Prop :=
 ∀ v,s.d v ≠ -1→(s.d v,v)∈hp∨∀ a∈A,a.1=v→(v=u→a∈done)→Rlx s a
def SM (n:Nat) (m:Int) (s:Lb) (v:Nat):Int:=if s.d v = -1 then n*m*64+64 else s.d v*64+s.h v
def meas (n:Nat) (m:Int) (s:Lb) (hp:List (Int × Nat)):Int:=2*Bf (SM n m s) n+hp.length
theorem DJ.hops {A:List Ar} {src:List Nat} {n:Nat} {m:Int} {s:Lb} (J:DJ A src n m s) {v:Nat} (hv:s.d v ≠ -1):s.h v+1≤n:=by
 obtain ⟨W,h1,h2,h3⟩:=J.walk v hv;rw [← h2];exact LI n W h1 fun x hx=>(h3 x hx).1
section
variable {A:List Ar} {src:List Nat} {n:Nat} {m:Int} {s:Lb} {hp:List (Int × Nat)} {u:Nat} {dn:List Ar} {a:Ar}
theorem DJ.relax (hA:NZ A n m) (hm:0≤m) (hn:n≤60) (J:DJ A src n m s) (K:Clo A s hp u dn) (ha:a∈A) (hu:a.1=u) (hd:s.d u ≠ -1) :
  DJ A src n m (EW s a)∧Clo A (EW s a) (GD s a hp) u (dn++[a])∧(EW s a).d u=s.d u∧(EW s a).h u=s.h u∧meas n m (EW s a) (GD s a hp)≤meas n m s hp:=by
 subst hu;obtain ⟨hu1,hv1,hl0,hlm⟩:=hA a ha;have hdu:=(J.low a.1).resolve_left hd
 by_cases hb:Db s a.2.1 (s.d a.1+a.2.2) (s.h a.1+1)
 ·obtain ⟨d',hd'⟩:∃ d',d'=s.d a.1+a.2.2:=⟨_,rfl⟩;obtain ⟨h',hh'⟩:∃ h',h'=s.h a.1+1:=⟨_,rfl⟩;obtain ⟨v,hv⟩:∃ v,v=a.2.1:=⟨_,rfl⟩;have hS:EW s a=EV s v d' h':=by unfold EW; rw [if_pos hb,hd',hh',hv]
  have hH:GD s a hp=(d',v)::hp:=by unfold GD; rw [if_pos hb,hd',hv]
  rw [← hd',← hh',← hv] at hb;rw [← hv] at hv1
  have hvu:v≠a.1:=fun e=>by
   unfold Db at hb; rw [e] at hb;omega
  rw [hS,hH];have p1:(EV s v d' h').d v=d':=if_pos rfl;have p2:(EV s v d' h').h v=h':=if_pos rfl;have p3:∀ x,x≠v→(EV s v d' h').d x=s.d x:=fun x hx=>if_neg hx;have p4:∀ x,x≠v→(EV s v d' h').h x=s.h x:=fun x hx=>if_neg hx
  have hsrc:v∉src:=fun hs=>by
   obtain ⟨_,q1,q2⟩:=J.src' v hs;unfold Db at hb; rw [q1,q2] at hb; omega
  -- labels become no greater
  have hless:∀ x,s.d x ≠ -1→(EV s v d' h').d x ≠ -1∧le2 ((EV s v d' h').d x) ((EV s v d' h').h x) (s.d x) (s.h x):=fun x hx=>by
   by_cases e:x=v
   ·subst e;rw [p1,p2];unfold Db at hb;exact ⟨by omega,by unfold le2; omega⟩
   ·rw [p3 x e,p4 x e]; exact ⟨hx,le2.refl _ _⟩
  have hadd:∀ {x:Nat} (l:Int),s.d x ≠ -1→le2 ((EV s v d' h').d x+l) ((EV s v d' h').h x+1) (s.d x+l) (s.h x+1):=fun {x} l hx=>by
   have:=(hless x hx).2; unfold le2 at *; omega
  -- the way to v
  obtain ⟨W,w1,w2,w3⟩:=J.walk a.1 hd
  have hvW:v∉W:=fun hx=>by
   have q:=(w3 v hx).2;unfold Db at hb; unfold le2 at q;omega
  have hWn:(W++[v]).Nodup:=by
   rw [List.nodup_append];exact ⟨w1,by simp,fun x hx y hy e=>by rw [List.mem_singleton.1 hy] at e; exact hvW (e ▸ hx)⟩
  have hWl:(W++[v]).length=h'+1:=by rw [List.length_append,w2,hh']; rfl
  have hh'n:h'+1≤n:=by
   rw [← hWl];exact LI n _ hWn fun x hx=>(List.mem_append.1 hx).elim (fun h=>(w3 x h).1) fun h=>by rw [List.mem_singleton.1 h]; exact hv1
  have hbd:d'≤h'*m:=by
   have q:=J.bnd a.1 hd;rw [hd',hh',Int.natCast_add,Int.add_mul]; simp; omega
  have J':DJ A src n m (EV s v d' h'):=by
   refine ⟨fun x=>?_,fun x hx=>?_,fun x hx h0=>?_,fun x hx=>?_,fun x hx h0=>?_,fun x hx=>?_,fun x hx=>?_⟩
   ·by_cases e:x=v
    ·subst e; rw [p1]; omega
    ·rw [p3 x e]; exact J.low x
   ·have e:x≠v:=fun e=>hsrc (e ▸ hx);rw [p3 x e,p4 x e]; exact J.src' x hx
   ·by_cases e:x=v
    ·subst e; rw [p2] at h0; omega
    ·rw [p3 x e] at hx; rw [p4 x e] at h0; exact J.zero x hx h0
   ·by_cases e:x=v
    ·subst e; rw [p1] at hx; omega
    ·rw [p3 x e] at hx; rw [p4 x e]; exact J.none' x hx
   ·by_cases e:x=v
    ·subst e;refine ⟨a,ha,hv.symm,?_,?_⟩
     ·rw [p3 _ (Ne.symm hvu)]; exact hd
     ·rw [p1,p2,p3 _ (Ne.symm hvu),p4 _ (Ne.symm hvu),← hd',← hh']; exact le2.refl _ _
    ·rw [p3 x e] at hx ⊢; rw [p4 x e] at h0 ⊢;obtain ⟨b,hb1,hb2,hb3,hb4⟩:=J.pre x hx h0;exact ⟨b,hb1,hb2,(hless _ hb3).1,(hadd _ hb3).trans hb4⟩
   ·by_cases e:x=v
    ·subst e;refine ⟨W++[x],hWn,by rw [hWl,p2],fun y hy=>?_⟩;rw [p1,p2]
     rcases List.mem_append.1 hy with hy | hy
     ·obtain ⟨q1,q2,q3⟩:=w3 y hy;refine ⟨q1,(hless y q2).1,(hless y q2).2.trans (q3.trans ?_)⟩;unfold le2; omega
     ·rw [List.mem_singleton.1 hy,p1,p2];exact ⟨hv1,by omega,le2.refl _ _⟩
    ·rw [p3 x e] at hx ⊢; rw [p4 x e];obtain ⟨W2,q1,q2,q3⟩:=J.walk x hx;exact ⟨W2,q1,q2,fun y hy=>⟨(q3 y hy).1,(hless y (q3 y hy).2.1).1,(hless y (q3 y hy).2.1).2.trans (q3 y hy).2.2⟩⟩
   ·by_cases e:x=v
    ·subst e; rw [p1,p2]; exact hbd
    ·rw [p3 x e] at hx ⊢; rw [p4 x e]; exact J.bnd x hx
  have hval:∀ x,SM n m (EV s v d' h') x≤SM n m s x - one (v=x):=fun x=>by
   by_cases e:x=v
   ·subst e;unfold one; rw [if_pos rfl];unfold SM;rw [p1,p2,if_neg (show ¬ d' = -1 by omega)]
    split
    ·have q:(h':Int)*m≤(n:Int)*m:=Int.mul_le_mul_of_nonneg_right (by omega) hm;omega
    ·have q1:=(J.low x).resolve_left ‹_›;unfold Db at hb;omega
   ·have e1:one (v=x)=0:=if_neg fun h=>e h.symm;unfold SM;rw [p3 x e,p4 x e,e1,Int.sub_zero];exact Int.le_refl _
  refine ⟨J',fun x hx=>?_,p3 _ (Ne.symm hvu),p4 _ (Ne.symm hvu),?_⟩
  ·by_cases e:x=v
   ·subst e; left; rw [p1]; exact List.mem_cons_self ..
   ·rw [p3 x e] at hx ⊢
    rcases K x hx with q | q
    ·exact .inl (List.mem_cons_of_mem _ q)
    ·refine .inr fun b hb1 hb2 hb3=>?_
     by_cases eb:b=a
     ·subst eb;refine ⟨by rw [← hv,p1]; omega,?_⟩;rw [← hv,p1,p2,p3 _ (Ne.symm hvu),p4 _ (Ne.symm hvu),← hd',← hh']; exact le2.refl _ _
     ·obtain ⟨r1,r2⟩:=q b hb1 hb2 fun h=>(List.mem_append.1 (hb3 h)).resolve_right fun h=>eb (List.mem_singleton.1 h);refine ⟨(hless _ r1).1,(hless _ r1).2.trans ?_⟩;have eb1:b.1≠v:=by rw [hb2]; exact e
      rw [p3 _ eb1,p4 _ eb1]; exact r2
  ·unfold meas;have q1:=J7 (k:=n) fun i _=>hval i;rw [Hd] at q1;have q2:=Fq (fun _=>(1:Int)) hv1;have q3:Bf (fun x=>one (v=x)) n=Bf (fun x=>one (v=x)*1) n:=BH fun i _=>by omega
   rw [← q3] at q2;rw [List.length_cons];omega
 ·have hS:EW s a=s:=by unfold EW; rw [if_neg hb]
  have hH:GD s a hp=hp:=by unfold GD; rw [if_neg hb]
  rw [hS,hH];refine ⟨J,fun x hx=>?_,rfl,rfl,Int.le_refl _⟩
  rcases K x hx with q | q
  ·exact .inl q
  ·refine .inr fun b hb1 hb2 hb3=>?_
   by_cases eb:b=a
   ·subst eb;unfold Db at hb;unfold Rlx le2;omega
   ·exact q b hb1 hb2 fun h=>(List.mem_append.1 (hb3 h)).resolve_right fun h=>eb (List.mem_singleton.1 h)
def lb0 (src:List Nat):Lb:=⟨fun v=>if v∈src then 0 else -1,fun _=>0⟩
theorem DJ.start (hs:∀ v∈src,v<n):DJ A src n m (lb0 src):=by
 have h1:∀ v,(lb0 src).d v ≠ -1→v∈src:=fun v hv=>Classical.byContradiction fun h=>hv (if_neg h);refine ⟨fun v=>?_,fun v hv=>⟨hs v hv,if_pos hv,rfl⟩,fun v hv _=>h1 v hv,fun v _=>rfl,fun v _ h=>absurd rfl h,fun v hv=>⟨[v],by simp,rfl,fun x hx=>?_⟩,fun v hv=>?_⟩
 ·unfold lb0; dsimp only; split
  ·exact .inr (Int.le_refl _)
  ·exact .inl U
 ·rw [List.mem_singleton.1 hx]; exact ⟨hs v (h1 v hv),hv,le2.refl _ _⟩
 ·have:(lb0 src).d v=0:=if_pos (h1 v hv);rw [this]; show (0:Int)≤((0:Nat):Int)*m; omega
structure Done (A:List Ar) (src:List Nat) (n:Nat) (m:Int) (s:Lb):Prop where
 J:DJ A src n m s
 arc:∀ a∈A,s.d a.1 ≠ -1→s.d a.2.1 ≠ -1∧s.d a.2.1≤s.d a.1+a.2.2
 pre:∀ v,s.d v ≠ -1→s.h v≠0→∃ a∈A,a.2.1=v∧s.d a.1 ≠ -1∧s.d a.1+a.2.2=s.d v∧s.h a.1+1=s.h v
end
end Go.Proofs.YtibemkominehdaaGreat
namespace Go.Proofs.YtibemkominehdaaGreat
open Go.GV
def arcL (g:Gr) (cap x p:Nat→Int):List Ar:=((List.range (2*g.E)).filter fun a=>decide (0<EU cap x a)).map fun a=>(g.u a,g.v a,g.len p a)
theorem SN {g:Gr} {cap x p:Nat→Int} {b:Ar}:b∈arcL g cap x p↔∃ a,a<2*g.E∧0<EU cap x a∧b=(g.u a,g.v a,g.len p a):=by
 unfold arcL;rw [List.mem_map];constructor
 ·rintro ⟨a,ha,rfl⟩;rw [List.mem_filter,List.mem_range,decide_eq_true_eq] at ha;exact ⟨a,ha.1,ha.2,rfl⟩
 ·rintro ⟨a,h1,h2,rfl⟩;exact ⟨a,List.mem_filter.2 ⟨List.mem_range.2 h1,decide_eq_true h2⟩,rfl⟩
theorem Fine.arcs {g:Gr} (hg:g.Ok) {cap x p:Nat→Int} (h:Fine g cap x p) {m:Int} (hm:∀ a,a<2*g.E→g.len p a≤m):NZ (arcL g cap x p) g.N m:=fun b hb=>by
 obtain ⟨a,h1,h2,rfl⟩:=SN.1 hb;exact ⟨hg.u h1,hg.v h1,h.fit a h1 h2,hm a h1⟩
structure Way1 (g:Gr) (cap x p:Nat→Int) (s:Lb) (a:Nat):Prop where
 lt:a<2*g.E
 room:0<EU cap x a
 du:s.d (g.u a) ≠ -1
 dv:s.d (g.v a) ≠ -1
 d:s.d (g.u a)+g.len p a=s.d (g.v a)
 h:s.h (g.u a)+1=s.h (g.v a)
def Bys (g:Gr) (cap x p:Nat→Int) (s:Lb) (by':Nat→Option Nat):Prop :=
 (∀ v,s.d v = -1∨s.h v=0→by' v=none)∧∀ v,s.d v ≠ -1→s.h v≠0→∃ a,by' v=some a∧Way1 g cap x p s a∧g.v a=v
def pathL (by':Nat→Option Nat) (g:Gr):Nat→Nat→List Nat
 | 0,_=>[]
 | k+1,v=>match by' v with
  | none=>[]
  | some a=>a::pathL by' g k (g.u a)
def pathS (by':Nat→Option Nat) (g:Gr):Nat→Nat→Nat
 | 0,v=>v
 | k+1,v=>match by' v with
  | none=>v
  | some a=>pathS by' g k (g.u a)
section
variable {g:Gr} {cap x p:Nat→Int} {s:Lb} {by':Nat→Option Nat}
end
def pushF (m:Int) (x:Nat→Int) (a:Nat):Nat→Int:=fun i=>if i=a / 2 then (if a % 2=0 then x i+m else x i - m) else x i
def pushL (m:Int) (x:Nat→Int) (l:List Nat):Nat→Int:=l.foldl (pushF m) x
def rais (s:Lb) (D:Int) (v:Nat):Int:=if s.d v<0∨D<s.d v then D else s.d v
def posI (x:Int):Int:=if 0<x then x else 0
def excess (g:Gr) (x:Nat→Int):Int:=Bf (fun v=>posI (CA g x v)) g.N
end Go.Proofs.YtibemkominehdaaGreat
namespace Go.Proofs.YtibemkominehdaaGreat
open Go.GV
def finX (g:Gr) (cap' x p:Nat→Int) (i:Nat):Int:=if 2*x i<cap' i∧g.co i+p (g.f i) - p (g.t i)<0 then cap' i else 2*x i
def mixX (g:Gr) (cap' x p:Nat→Int) (k i:Nat):Int:=if i<k then finX g cap' x p i else 2*x i
end Go.Proofs.YtibemkominehdaaGreat
namespace Go.Proofs.YtibemkominehdaaGreat
open Go.GV
attribute [local irreducible] Al W Wq Wt
structure Ed where
 f:Int
 t:Int
 cap:Int
 cost:Int
def DI (e:Ed):List Value:=[.int .i64 e.f,.int .i64 e.t,.int .i64 e.cap,.int .i64 e.cost]
def I64 (x:Int):Prop := -9223372036854775808≤x∧x≤9223372036854775807
structure Ed.In (e:Ed):Prop where
 f:I64 e.f
 t:I64 e.t
 cap:I64 e.cap
 cost:I64 e.cost
def MV (N i:Int):Bool:=decide (0≤i) && decide (i<N)
def J9 (N:Int) (e:Ed):Bool:=MV N e.f && (MV N e.t && (decide (0≤e.cap) && (decide (e.cap≤4503599627370496) && (decide (-1000≤e.cost) && decide (e.cost≤1000)))))
def JA (e:Ed):Nat:=e.cap.toNat*e.cost.natAbs
def P7 (es:List Ed):Nat:=(es.map JA).sum
def D0 (N:Int) (es:List Ed):Bool:=(decide (1≤N) && decide (N≤40)) && (decide (es.length≤200) && (es.all (J9 N) && decide (P7 es≤4611686018427387904)))
def Qs (N:Int) (a:Option Addr) (n c:Nat):Value := .agg #[.int .i64 N,.slice a n c]
theorem LM {N:Int} {e:Ed} (h:J9 N e=true):0≤e.f∧e.f<N∧0≤e.t∧e.t<N∧0≤e.cap∧e.cap≤4503599627370496 ∧ -1000≤e.cost∧e.cost≤1000:=by
 unfold J9 MV at h;simp only [Bool.and_eq_true,decide_eq_true_eq] at h;omega
theorem Qt {α:Type} {p:α→Bool} {l:List α} {i:Nat} {x:α} (h:l[i]? = some x) (hp:p x=false):l.all p=false:=by
 rw [List.all_eq_false];exact ⟨x,List.mem_of_getElem? h,by rw [hp]; simp⟩
theorem SO {α:Type} {p:α→Bool} {l:List α} (h:∀ k x,k<l.length→l[k]? = some x→p x=true):l.all p=true:=by
 rw [List.all_eq_true];intro x hx;obtain ⟨k,hk⟩:=List.getElem?_of_mem hx;exact h k x (List.getElem?_eq_some_iff.1 hk).1 hk
end Go.Proofs.YtibemkominehdaaGreat
namespace Go.Proofs.YtibemkominehdaaGreat
open Go.GV
attribute [local irreducible] Al W Wq Wt
def Eb (x:Int):Value := .int .i64 x
abbrev I1 (x:Int):List Value:=[.int .i64 x]
def inB (e:Ed) (x:Int):Bool:=decide (0≤x) && decide (x≤e.cap)
def Ec (N:Int) (es:List Ed) (fl:List Int):Bool:=(decide (fl.length=es.length) && D0 N es) && (List.zipWith inB es fl).all id
theorem WK {es:List Ed} {fl:List Int} {i:Nat} {e:Ed} {x:Int} (he:es[i]? = some e) (hx:fl[i]? = some x):(List.zipWith inB es fl)[i]? = some (inB e x):=by
 rw [List.getElem?_zipWith,he,hx]
theorem D9 {N:Int} {es:List Ed} {fl:List Int} (h:Ec N es fl=true):fl.length=es.length∧D0 N es=true∧∀ (i:Nat) (e:Ed) (x:Int),es[i]? = some e→fl[i]? = some x→0≤x∧x≤e.cap:=by
 unfold Ec at h;simp only [Bool.and_eq_true,decide_eq_true_eq,List.all_eq_true] at h;refine ⟨h.1.1,h.1.2,fun i e x he hx=>?_⟩;have:=h.2 _ (List.mem_of_getElem? (WK he hx));unfold inB at this
 simpa using this
theorem He {N:Int} {es:List Ed} (h:D0 N es=true):1≤N∧N≤40∧es.length≤200∧(∀ e∈es,J9 N e=true)∧P7 es≤4611686018427387904:=by
 unfold D0 at h;simp only [Bool.and_eq_true,decide_eq_true_eq,List.all_eq_true] at h;exact ⟨h.1.1,h.1.2,h.2.1,h.2.2.1,h.2.2.2⟩
def hasB (es:List Ed) (a:Int):Bool:=decide (0≤a) && decide (a<2*es.length)
def Kk (e:Ed) (k:Nat):Int × Int × Int:=if k % 2=1 then (e.t,e.f,-e.cost) else (e.f,e.t,e.cost)
def MW (N:Int) (es:List Ed) (k:Int):Int × Int × Int:=if (hasB es k && D0 N es)=true then Kk (es.getD (k.toNat / 2) ⟨0,0,0,0⟩) k.toNat else (0,0,0)
def SP (e:Ed) (x:Int) (k:Nat):Int:=if k % 2=1 then x else e.cap - x
def P8 (N:Int) (es:List Ed) (fl:List Int) (k:Int):Int:=if (hasB es k && Ec N es fl)=true then SP (es.getD (k.toNat / 2) ⟨0,0,0,0⟩) (fl.getD (k.toNat / 2) 0) k.toNat else 0
end Go.Proofs.YtibemkominehdaaGreat
namespace Go.Proofs.YtibemkominehdaaGreat
open Go.GV
attribute [local irreducible] Al W Wq Wt
abbrev ptr (b:Nat):Value := .pointer (some ⟨b,0,none⟩)
def tab (f:Nat→Int) (n:Nat):List Int:=(List.range n).map f
theorem IY (f:Nat→Int) (n:Nat):(tab f n).length=n:=by unfold tab; simp
theorem Gs {f:Nat→Int} {n i:Nat} (h:i<n):(tab f n)[i]? = some (f i):=Ds h
theorem WL (l:List Int):tab (fun i=>l.getD i 0) l.length=l:=by
 apply List.ext_getElem?;intro j
 by_cases hj:j<l.length
 ·rw [Gs hj,List.getD_eq_getElem?_getD,List.getElem?_eq_getElem hj]; rfl
 ·rw [List.getElem?_eq_none (by rw [IY]; omega),List.getElem?_eq_none (by omega)]
abbrev HQ (f:Nat→Int) (n:Nat):List Value:=(List.range n).map fun i => .int .i64 (f i)
def e0:Ed:=⟨0,0,0,0⟩
def grE (N:Int) (es:List Ed):Gr:=⟨N.toNat,es.length,fun i=>(es.getD i e0).f.toNat,fun i=>(es.getD i e0).t.toNat,fun i=>(es.getD i e0).cost⟩
def JB (es:List Ed) (i:Nat):Int:=(es.getD i e0).cap
def flE (fl:List Int) (i:Nat):Int:=fl.getD i 0
theorem BM {α:Type} {l:List α} {i:Nat} {x d:α} (h:l[i]? = some x):l.getD i d=x:=by rw [List.getD_eq_getElem?_getD,h]; rfl
def V8 (N:Int) (es:List Ed) (fl:List Int):List Int:=tab (CA (grE N es) (flE fl)) N.toNat
def HS (N:Int) (es:List Ed) (fl:List Int):Bool:=Ec N es fl && (V8 N es fl).all fun x=>decide (x=0)
def flowV (p:Ed × Int):List Value:=[.agg (DI p.1).toArray,.int .i64 p.2]
structure EdgeK (b2 b3:Nat) (N:Int) (a b:Option Addr) (n c m d:Nat) (es:List Ed) (fl:List Int) (w:World):Prop where
 h2:w.heap[b2]? = some (Bl 75 [.int .i64 N,.slice a n c])
 h3:w.heap[b3]? = some (Bl 76 [.slice b m d])
 R:Rd w a 4 DI es
 Rf:Rd w b 1 I1 fl
theorem SQ {p:Prop} [Decidable p] (h:p):one p=1:=if_pos h
theorem P9 {p:Prop} [Decidable p] (h:¬ p):one p=0:=if_neg h
theorem MX (p:Nat→Int) (v:Nat) (x:Int):upd p v x v=x:=if_pos rfl
theorem SR {p:Nat→Int} {v:Nat} {x:Int} {u:Nat} (h:u≠v):upd p v x u=p u:=if_neg h
theorem EX (g:Gr) (x:Nat→Int) (k v:Nat):DW g x (k+1) v=DW g x k v+(one (g.t k=v) - one (g.f k=v))*x k:=rfl
theorem EY {N:Int} {es:List Ed} {fl:List Int} (h:HS N es fl=true):Ec N es fl=true∧∀ v,v<N.toNat→CA (grE N es) (flE fl) v=0:=by
 unfold HS V8 at h;rw [Bool.and_eq_true] at h;refine ⟨h.1,fun v hv=>?_⟩;have h2:=List.all_eq_true.1 h.2 _ (List.mem_of_getElem? (Gs hv))
 simpa using h2
end Go.Proofs.YtibemkominehdaaGreat
namespace Go.Proofs.YtibemkominehdaaGreat
open Go.GV
attribute [local irreducible] Al W Wq Wt
def farB (x:Int):Bool:=decide (-1099511627776≤x) && decide (x≤1099511627776)
def Qu (N:Int) (pot:List Int):Bool:=pot.all farB && decide ((pot.length:Int)=N)
def lenI (N:Int) (es:List Ed) (pot:List Int) (k:Int):Int:=(MW N es k).2.2+pot.getD (MW N es k).1.toNat 0 - pot.getD (MW N es k).2.1.toNat 0
def Oa (N:Int) (es:List Ed) (fl pot:List Int) (k:Nat):Bool := !(decide (lenI N es pot (k:Int)<0) && decide (0<P8 N es fl (k:Int)))
def SU (N:Int) (es:List Ed) (fl pot:List Int):Bool:=(List.range (2*es.length)).all (Oa N es fl pot)
def HT (N:Int) (es:List Ed) (fl pot:List Int):Bool:=D0 N es && (HS N es fl && (Qu N pot && SU N es fl pot))
theorem UG {N:Int} {es:List Ed} (hr:D0 N es=true) {k:Nat} (hk:k<2*es.length):∃ e,es[k / 2]? = some e∧MW N es (k:Int)=Kk e k∧0≤(Kk e k).1∧(Kk e k).1<N∧0≤(Kk e k).2.1∧(Kk e k).2.1<N ∧ -1000≤(Kk e k).2.2∧(Kk e k).2.2≤1000:=by
 obtain ⟨e,he⟩:=AV (l:=es) (i:=k / 2);have hco:=LM ((He hr).2.2.2.1 e (List.mem_of_getElem? he));refine ⟨e,he,?_,?_⟩
 ·unfold MW;rw [if_pos (by rw [hr,Bool.and_true]; unfold hasB; simp; omega),Int.toNat_natCast,BM he]
 ·unfold Kk
  split <;> (dsimp only; omega)
theorem WM {N:Int} {pot:List Int} (hp:Qu N pot=true):(pot.length:Int)=N∧∀ (i:Nat) (x:Int),pot[i]? = some x → -1099511627776≤x∧x≤1099511627776:=by
 unfold Qu farB at hp;simp only [Bool.and_eq_true,decide_eq_true_eq,List.all_eq_true] at hp;exact ⟨hp.2,fun i x hx=>hp.1 x (List.mem_of_getElem? hx)⟩
theorem UH {N:Int} {es:List Ed} {fl:List Int} (hw:Ec N es fl=true) {k:Nat} (hk:k<2*es.length):∃ e x,es[k / 2]? = some e∧fl[k / 2]? = some x∧P8 N es fl (k:Int)=SP e x k∧0≤x∧x≤e.cap∧e.cap≤4503599627370496:=by
 obtain ⟨hl,hri,hin⟩:=D9 hw;obtain ⟨e,he⟩:=AV (l:=es) (i:=k / 2);obtain ⟨x,hx⟩:=AV (l:=fl) (i:=k / 2);have hco:=LM ((He hri).2.2.2.1 e (List.mem_of_getElem? he));have:=hin _ e x he hx;refine ⟨e,x,he,hx,?_,this.1,this.2,by omega⟩;unfold P8;rw [if_pos (by rw [hw,Bool.and_true]; unfold hasB; simp; omega),Int.toNat_natCast,BM he,BM hx]
abbrev certV (b p:Option Addr) (m d q r:Nat):Value := .agg #[.slice b m d,.slice p q r]
end Go.Proofs.YtibemkominehdaaGreat
namespace Go.Proofs.YtibemkominehdaaGreat
open Go.GV
attribute [local irreducible] Al W Wq Wt
structure ChkK (b2 b3:Nat) (N:Int) (a b p:Option Addr) (c d r:Nat) (es:List Ed) (fl pot:List Int) (w:World):Prop where
 h2:w.heap[b2]? = some (Bl 75 [.int .i64 N,.slice a es.length c])
 h3:w.heap[b3]? = some (Bl 78 [.slice b fl.length d,.slice p pot.length r])
 R:Rd w a 4 DI es
 Rf:Rd w b 1 I1 fl
 Rp:Rd w p 1 I1 pot
theorem ChkK.ext {b2 b3:Nat} {N:Int} {a b p:Option Addr} {c d r:Nat} {es:List Ed} {fl pot:List Int} {w w':World} (K:ChkK b2 b3 N a b p c d r es fl pot w) (h:Ext [] w w'):ChkK b2 b3 N a b p c d r es fl pot w' :=
 ⟨h.to K.h2 (by simp),h.to K.h3 (by simp),K.R.ext0 h,K.Rf.ext0 h,K.Rp.ext0 h⟩
section
variable {b2 b3:Nat} {N:Int} {a b p:Option Addr} {c d r:Nat} {es:List Ed} {fl pot:List Int} {w:World}
end
def askN (N:Int) (es:List Ed) (fl pot:List Int):Nat→Bool
 | 0=>D0 N es
 | 1=>HS N es fl
 | 2=>Qu N pot
 | _=>SU N es fl pot
end Go.Proofs.YtibemkominehdaaGreat
namespace Go.Proofs.YtibemkominehdaaGreat
open Go.GV
abbrev Tg:=Int × Nat
def lt7 (x y:Tg):Prop:=x.1<y.1∨(x.1=y.1∧x.2<y.2)
instance (x y:Tg):Decidable (lt7 x y):=by unfold lt7; infer_instance
def le7 (x y:Tg):Prop:=x.1<y.1∨(x.1=y.1∧x.2≤y.2)
theorem le7.trans {x y z:Tg} (h:le7 x y) (k:le7 y z):le7 x z:=by unfold le7 at *; omega
theorem lt7.le {x y:Tg} (h:lt7 x y):le7 x y:=by unfold lt7 at h; unfold le7; omega
theorem WN {x y:Tg} (h:¬ lt7 y x):le7 x y:=by unfold lt7 at h; unfold le7; omega
def HeapL (L:List Tg):Prop:=∀ i x y,0<i→L[i]? = some x→L[(i - 1) / 2]? = some y→le7 y x
def UpI (L:List Tg) (k:Nat):Prop :=
 (∀ i x y,0<i→i≠k→L[i]? = some x→L[(i - 1) / 2]? = some y→le7 y x)∧∀ c x y,0<k→0<c→(c - 1) / 2=k→L[c]? = some x→L[(k - 1) / 2]? = some y→le7 y x
def DownI (L:List Tg) (k:Nat):Prop :=
 (∀ i x y,0<i→(i - 1) / 2≠k→L[i]? = some x→L[(i - 1) / 2]? = some y→le7 y x)∧∀ c x y,0<k→0<c→(c - 1) / 2=k→L[c]? = some x→L[(k - 1) / 2]? = some y→le7 y x
theorem DK {L:List Tg} {k o:Nat} {x y:Tg} (hx:L[k]? = some x) (hy:L[o]? = some y) (i:Nat):((L.set k y).set o x)[i]? = if i=o then some x else if i=k then some y else L[i]? := by
 have h1:k<L.length:=(List.getElem?_eq_some_iff.1 hx).1;have h2:o<L.length:=(List.getElem?_eq_some_iff.1 hy).1
 by_cases e:i=o
 ·subst e; rw [if_pos rfl,List.getElem?_set_self (by rw [List.length_set]; exact h2)]
 ·rw [if_neg e,List.getElem?_set_ne (Ne.symm e)]
  by_cases e2:i=k
  ·subst e2; rw [if_pos rfl,List.getElem?_set_self h1]
  ·rw [if_neg e2,List.getElem?_set_ne (Ne.symm e2)]
theorem UpI.done {L:List Tg} {k:Nat} (h:UpI L k) (h0:∀ x y,0<k→L[k]? = some x→L[(k - 1) / 2]? = some y→le7 y x):HeapL L:=fun i x y hi hx hy=>by
 by_cases e:i=k
 ·subst e; exact h0 x y hi hx hy
 ·exact h.1 i x y hi e hx hy
theorem UpI.step {L:List Tg} {k:Nat} (h:UpI L k) {x y:Tg} (hk:0<k) (hx:L[k]? = some x) (hy:L[(k - 1) / 2]? = some y) (hlt:lt7 x y):UpI ((L.set k y).set ((k - 1) / 2) x) ((k - 1) / 2):=by
 obtain ⟨o,ho⟩:∃ o,o=(k - 1) / 2:=⟨_,rfl⟩;rw [← ho] at hy ⊢;have hko:k≠o:=by omega
 refine ⟨fun i a b hi hio ha hb=>?_,fun c a b h0 hc hco ha hb=>?_⟩
 ·rw [DK hx hy,if_neg hio] at ha;rw [DK hx hy] at hb
  by_cases e:i=k
  ·subst e;rw [if_pos rfl] at ha;rw [if_pos ho.symm] at hb;cases ha; cases hb;exact hlt.le
  ·rw [if_neg e] at ha
   by_cases p1:(i - 1) / 2=o
   ·rw [if_pos p1] at hb;cases hb;exact hlt.le.trans (h.1 i a y hi e ha (by rw [p1]; exact hy))
   ·rw [if_neg p1] at hb
    by_cases p2:(i - 1) / 2=k
    ·rw [if_pos p2] at hb;cases hb;exact h.2 i a _ hk hi p2 ha (by rw [← ho]; exact hy)
    ·rw [if_neg p2] at hb;exact h.1 i a b hi e ha hb
 ·rw [DK hx hy,if_neg (by omega:c≠o)] at ha;rw [DK hx hy,if_neg (by omega:(o - 1) / 2≠o),if_neg (by omega:(o - 1) / 2≠k)] at hb;have hz:=h.1 o y b h0 (Ne.symm hko) hy hb
  by_cases e:c=k
  ·rw [if_pos e] at ha;cases ha;exact hz
  ·rw [if_neg e] at ha;exact hz.trans (h.1 c a y hc e ha (by rw [hco]; exact hy))
theorem DownI.none {L:List Tg} {k:Nat} (h:DownI L k) (hn:L.length≤2*k+1):HeapL L:=fun i x y hi hx hy=>by
 have hil:i<L.length:=(List.getElem?_eq_some_iff.1 hx).1;exact h.1 i x y hi (by omega) hx hy
def SV (L:List Tg) (k o:Nat) (y:Tg):Prop:=(o=2*k+1∨o=2*k+2)∧L[o]? = some y∧∀ i z,(i - 1) / 2=k→0<i→L[i]? = some z→le7 y z
theorem DownI.done {L:List Tg} {k o:Nat} {x y:Tg} (h:DownI L k) (hx:L[k]? = some x) (hl:SV L k o y) (hn:¬ lt7 y x):HeapL L:=fun i a b hi ha hb=>by
 by_cases e:(i - 1) / 2=k
 ·rw [e,hx] at hb;cases hb;exact (WN hn).trans (hl.2.2 i a e hi ha)
 ·exact h.1 i a b hi e ha hb
theorem DownI.step {L:List Tg} {k o:Nat} {x y:Tg} (h:DownI L k) (hx:L[k]? = some x) (hl:SV L k o y) (hlt:lt7 y x):DownI ((L.set k y).set o x) o:=by
 obtain ⟨ho,hy,hmin⟩:=hl;have hko:k≠o:=by omega
 have hpo:(o - 1) / 2=k:=by omega
 refine ⟨fun i a b hi hio ha hb=>?_,fun c a b h0 hc hco ha hb=>?_⟩
 ·rw [DK hx hy,if_neg hio] at hb;rw [DK hx hy] at ha
  by_cases p:(i - 1) / 2=k
  ·rw [if_pos p] at hb;cases hb
   by_cases e:i=o
   ·rw [if_pos e] at ha;cases ha;exact hlt.le
   ·rw [if_neg e,if_neg (by omega:i≠k)] at ha;exact hmin i a p hi ha
  ·rw [if_neg p] at hb;rw [if_neg (by omega:i≠o)] at ha
   by_cases e:i=k
   ·rw [if_pos e] at ha;cases ha;subst e;exact h.2 o _ b hi (by omega) hpo hy hb
   ·rw [if_neg e] at ha;exact h.1 i a b hi p ha hb
 ·rw [DK hx hy,if_neg (by omega:c≠o),if_neg (by omega:c≠k)] at ha;rw [DK hx hy,hpo,if_neg hko,if_pos rfl] at hb;cases hb;exact h.1 c a _ hc (by omega) ha (by rw [hco]; exact hy)
theorem HeapL.root {L:List Tg} (h:HeapL L) {r:Tg} (hr:L[0]? = some r):∀ (i:Nat) (x:Tg),L[i]? = some x→le7 r x:=fun i=>by
 induction i using Nat.strongRecOn with
 | _ i ih =>
  intro x hx
  by_cases e:i=0
  ·subst e;rw [hr] at hx;cases hx;exact .inr ⟨rfl,Nat.le_refl _⟩
  ·have hil:i<L.length:=(List.getElem?_eq_some_iff.1 hx).1;obtain ⟨y,hy⟩:∃ y,L[(i - 1) / 2]? = some y:=⟨_,List.getElem?_eq_getElem (by omega)⟩;exact (ih _ (by omega) y hy).trans (h i x y (by omega) hx hy)
theorem HeapL.cut {x z:Tg} {L:List Tg} (h:HeapL (x::L)):DownI (((x::L).set 0 z).take L.length) 0:=by
 have hg:∀ (i:Nat) (a:Tg),0<i→(((x::L).set 0 z).take L.length)[i]? = some a→(x::L)[i]? = some a:=fun i a hi ha=>by
  rw [List.getElem?_take] at ha
  split at ha
  ·rwa [List.getElem?_set_ne (by omega)] at ha
  ·cases ha
 exact ⟨fun i a b hi hn ha hb=>h i a b hi (hg i a hi ha) (hg _ b (by omega) hb),fun c a b h0=>absurd h0 (Nat.lt_irrefl 0)⟩
end Go.Proofs.YtibemkominehdaaGreat
namespace Go.Proofs.YtibemkominehdaaGreat
open Go.GV
attribute [local irreducible] Al W Wq Wt
theorem Et {α:Type} {enc:α→List Value} {s:Nat}:∀ {L:List α},(∀ x∈L,(enc x).length=s)→(L.flatMap enc).length=L.length*s
 | [],_=>by simp
 | x::L,h=>by
  rw [List.flatMap_cons,List.length_append,h x (List.mem_cons_self ..),Et fun y hy=>h y (List.mem_cons_of_mem _ hy),List.length_cons,Nat.add_mul,Nat.one_mul,Nat.add_comm]
theorem KM {α:Type} {L:List α} {i:Nat} {x:α} (hx:L[i]? = some x) (y:α):L=L.take i++x::L.drop (i+1)∧L.set i y=L.take i++y::L.drop (i+1):=by
 have hi:=Dn hx;have hg:L[i]=x:=by rw [List.getElem?_eq_getElem hi] at hx; exact Option.some.inj hx
 refine ⟨?_,?_⟩
 ·rw [← hg,← List.drop_eq_getElem_cons hi,List.take_append_drop]
 ·rw [List.set_eq_take_append_cons_drop,if_pos hi]
theorem SW {α:Type} {enc:α→List Value} {s:Nat} {L:List α} (hs:∀ x∈L,(enc x).length=s) {i:Nat} {x y:α} (hx:L[i]? = some x) (hy:(enc y).length=s) (r:List Value):over (L.flatMap enc++r) (i*s) (enc y)=(L.set i y).flatMap enc++r:=by
 obtain ⟨h1,h2⟩:=KM hx y;have hi:=Dn hx;have hl:((L.take i).flatMap enc).length=i*s:=by rw [Et fun z hz=>hs z (List.mem_of_mem_take hz),List.length_take,Nat.min_eq_left (by omega)]
 rw [h2]
 conv=>lhs; rw [h1]
 rw [List.flatMap_append,List.flatMap_append,List.flatMap_cons,List.flatMap_cons,List.append_assoc,List.append_assoc,← hl,RC _ _ _ _ (by rw [hs x (List.mem_of_getElem? hx),hy])];simp only [List.append_assoc]
theorem UI {α:Type} {enc:α→List Value} {s:Nat} {L:List α} (hs:∀ x∈L,(enc x).length=s) {i j:Nat} {x y:α} {v:Value} (hx:L[i]? = some x) (hj:j<s) (hy:enc y=(enc x).set j v) (r:List Value):(L.flatMap enc++r).set (i*s+j) v=(L.set i y).flatMap enc++r:=by
 obtain ⟨h1,h2⟩:=KM hx y;have hi:=Dn hx;have hl:((L.take i).flatMap enc).length=i*s:=by rw [Et fun z hz=>hs z (List.mem_of_mem_take hz),List.length_take,Nat.min_eq_left (by omega)]
 have hxl:=hs x (List.mem_of_getElem? hx);rw [h2]
 conv=>lhs; rw [h1]
 rw [List.flatMap_append,List.flatMap_append,List.flatMap_cons,List.flatMap_cons,List.append_assoc,List.append_assoc,← hl,List.set_append_right _ _ (by omega),Nat.add_sub_cancel_left,List.append_assoc,List.append_assoc,List.set_append_left _ _ (by omega),hy]
theorem OS.over {α:Type} {a:Option Addr} {n c s:Nat} {full:List Value} {enc:α→List Value} {L:List α} (O:OS a n c s full (L.flatMap enc)) (hs:∀ x,(enc x).length=s) {i:Nat} {x:α} (hx:L[i]? = some x) (y:α):OS a n c s (over full (i*s) (enc y)) ((L.set i y).flatMap enc):=by
 refine ⟨O.zero,O.none',by rw [DG]; exact O.len,O.le,?_⟩;rw [O.split,SW (fun z _=>hs z) hx (hs y)];have h1:=O.llen;rw [Et fun z _=>hs z] at h1;exact List.take_left' (by rw [Et fun z _=>hs z,List.length_set,h1])
theorem Qv {α:Type} {L:List α} {i j:Nat} {x y:α} (hx:L[i]? = some x) (hy:L[j]? = some y):((L.set i y).set j x).Perm L:=by
 obtain ⟨hi,rfl⟩:=List.getElem?_eq_some_iff.1 hx;obtain ⟨hj,rfl⟩:=List.getElem?_eq_some_iff.1 hy;exact List.set_set_perm hi hj
def encT (x:Int × Nat):List Value:=[.int .i64 x.1,.int .i64 (x.2:Int)]
abbrev HB (bh:Nat) (a:Option Addr) (n c:Nat) (full:List Value):List (Nat × Obj):=(bh,Bl 337 [.slice a n c])::ent a 340 full
end Go.Proofs.YtibemkominehdaaGreat
namespace Go.Proofs.YtibemkominehdaaGreat
open Go.GV
attribute [local irreducible] Al W Wq Wt
end Go.Proofs.YtibemkominehdaaGreat
namespace Go.Proofs.YtibemkominehdaaGreat
open Go.GV
attribute [local irreducible] Al W Wq Wt
def Ob (g:Gr) (p:Nat→Int) (k:Nat):List Value:=[.int .i64 (k:Int),.int .i64 (g.u k:Int),.int .i64 (g.v k:Int),.int .i64 (g.len p k)]
def roomL (cap x:Nat→Int) (k:Nat):List Nat:=(List.range (2*k)).filter fun a=>decide (0<EU cap x a)
def arcsV (g:Gr) (p:Nat→Int) (l:List Nat):List (List Value):=l.map fun a=>[.agg (Ob g p a).toArray]
def MY (pot:List Int) (i:Nat):Int:=pot.getD i 0
structure EAt (N:Int) (es:List Ed) (fl pot:List Int) (i:Nat) (e:Ed) (xx pu pv:Int) (un vn:Nat):Prop where
 he:es[i]? = some e
 hx:fl[i]? = some xx
 hpu:pot[un]? = some pu
 hpv:pot[vn]? = some pv
 f:e.f=(un:Int)
 t:e.t=(vn:Int)
 un':un<N.toNat
 vn':vn<N.toNat
 gf:(grE N es).f i=un
 gt:(grE N es).t i=vn
 co:(grE N es).co i=e.cost
 cap:JB es i=e.cap
 fx:flE fl i=xx
 xb:0≤xx∧xx≤e.cap∧e.cap≤4503599627370496
 cb : -1000≤e.cost∧e.cost≤1000
 ub : -1099511627776≤pu∧pu≤1099511627776
 vb : -1099511627776≤pv∧pv≤1099511627776
 pu':MY pot un=pu
 pv':MY pot vn=pv
section
variable {N:Int} {es:List Ed} {fl pot:List Int} {i:Nat} {e:Ed} {xx pu pv:Int} {un vn:Nat}
theorem EAt.enc (h:EAt N es fl pot i e xx pu pv un vn):DI e=[.int .i64 (un:Int),.int .i64 (vn:Int),.int .i64 e.cap,.int .i64 e.cost]:=by
 unfold DI; rw [h.f,h.t]
theorem EAt.fwd (h:EAt N es fl pot i e xx pu pv un vn):Ob (grE N es) (MY pot) (2*i)=[.int .i64 ((2*i:Nat):Int),.int .i64 (un:Int),.int .i64 (vn:Int),.int .i64 (e.cost+pu - pv)]:=by
 unfold Ob Gr.len Gr.u Gr.v Gr.c;rw [show 2*i % 2=0 by omega,show 2*i / 2=i by omega];simp only [if_true];rw [h.gf,h.gt,h.co,h.pu',h.pv']
theorem EAt.bwd (h:EAt N es fl pot i e xx pu pv un vn):Ob (grE N es) (MY pot) (2*i+1)=[.int .i64 ((2*i+1:Nat):Int),.int .i64 (vn:Int),.int .i64 (un:Int),.int .i64 (-(e.cost+pu - pv))]:=by
 unfold Ob Gr.len Gr.u Gr.v Gr.c;rw [show (2*i+1) % 2=1 by omega,show (2*i+1) / 2=i by omega];simp only [if_false,Nat.one_ne_zero];rw [h.gf,h.gt,h.co,h.pu',h.pv',show -e.cost+pv - pu = -(e.cost+pu - pv) by omega]
end
structure ArcK (b1 b2 b3:Nat) (N:Int) (a b p:Option Addr) (c d r:Nat) (es:List Ed) (fl pot:List Int) (M:Mt) (w:World):Prop where
 h1:w.heap[b1]? = some (Bl 75 [.int .i64 N,.slice a es.length c])
 h2:w.heap[b2]? = some (Bl 76 [.slice p pot.length r])
 h3:w.heap[b3]? = some (Bl 76 [.slice b fl.length d])
 R:Rd w a 4 DI es
 Rf:Rd w b 1 I1 fl
 Rp:Rd w p 1 I1 pot
end Go.Proofs.YtibemkominehdaaGreat
namespace Go.Proofs.YtibemkominehdaaGreat
open Go.GV
attribute [local irreducible] Al W Wq Wt
def arcB (g:Gr) (p:Nat→Int) (a:Nat):Bool:=decide (0≤g.len p a)
def fitsN (N:Int) (es:List Ed) (fl pot:List Int):Bool:=Ec N es fl && (Qu N pot && (roomL (JB es) (flE fl) es.length).all (arcB (grE N es) (MY pot)))
end Go.Proofs.YtibemkominehdaaGreat
namespace Go.Proofs.YtibemkominehdaaGreat
open Go.GV
def Hf (A:List Ar) (v:Nat):Int:=((A.filter fun a=>decide (a.1=v)).length:Nat)
def gv (n:Nat) (D:Int) (s:Lb) (hp:List Tg) (v:Nat):Int:=if s.d v ≠ -1∧s.d v≤D then (hp.count (s.d v,v):Nat)+(s.h v:Nat) else (n:Nat)+1
def psi (n:Nat) (A:List Ar) (D:Int) (s:Lb) (hp:List Tg):Int:=(hp.length:Nat)+Bf (fun v=>Hf A v*gv n D s hp v) n
structure PI (n:Nat) (D:Int) (s:Lb) (hp:List Tg):Prop where
 keys:∀ t∈hp,D≤t.1
 item:∀ t∈hp,s.d t.2 ≠ -1∧s.d t.2≤t.1
 lab:∀ v,s.d v ≠ -1→hp.count (s.d v,v)+s.h v≤n
theorem deg0 (A:List Ar) (v:Nat):0≤Hf A v:=by unfold Hf; omega
theorem PI.perm {n:Nat} {D:Int} {s:Lb} {hp hq:List Tg} (P:PI n D s hp) (h:hp.Perm hq):PI n D s hq :=
 ⟨fun t ht=>P.keys t (h.mem_iff.2 ht),fun t ht=>P.item t (h.mem_iff.2 ht),fun v hv=>by rw [← h.count_eq]; exact P.lab v hv⟩
theorem PI.pop {n:Nat} {A:List Ar} {D:Int} {s:Lb} {t:Tg} {hp:List Tg} (P:PI n D s (t::hp)) (hmin:∀ x∈hp,t.1≤x.1) (ht:t.2<n) :
  PI n t.1 s hp∧psi n A t.1 s hp+1≤psi n A D s (t::hp)∧(t.1=s.d t.2→psi n A t.1 s hp+1+Hf A t.2≤psi n A D s (t::hp)):=by
 have hD:=P.keys t (List.mem_cons_self ..)
 have hc:∀ v,((t::hp).count (s.d v,v):Int)=(hp.count (s.d v,v):Int)+one (t=(s.d v,v)):=fun v=>by
  rw [List.count_cons]
  by_cases e:t=(s.d v,v)
  ·rw [if_pos (by rw [e]; exact beq_self_eq_true _),one,if_pos e]; omega
  ·rw [if_neg (by simpa using e),one,if_neg e]; omega
 have hone:∀ v,0≤one (t=(s.d v,v)):=fun v=>by unfold one; split <;> omega
 have hg:∀ v,gv n t.1 s hp v≤gv n D s (t::hp) v∧(t=(s.d v,v)→gv n t.1 s hp v+1≤gv n D s (t::hp) v):=fun v=>by
  have h1:=hc v;have h2:=hone v;have h4:t=(s.d v,v)→one (t=(s.d v,v))=1:=fun e=>if_pos e
  have h5:t=(s.d v,v)→t.1=s.d v∧s.d v ≠ -1:=fun e=>⟨by rw [e],by
   have:=(P.item t (List.mem_cons_self ..)).1;rw [show t.2=v by rw [e]] at this
   exact this⟩
  unfold gv
  by_cases a1:s.d v ≠ -1∧s.d v≤t.1
  ·have h3:=P.lab v a1.1;rw [if_pos a1]
   by_cases a2:s.d v ≠ -1∧s.d v≤D
   ·rw [if_pos a2];refine ⟨by omega,fun e=>?_⟩;have:=h4 e;omega
   ·rw [if_neg a2];refine ⟨by omega,fun e=>?_⟩;have:=h4 e;omega
  ·rw [if_neg a1,if_neg (fun h=>a1 ⟨h.1,by omega⟩)];refine ⟨Int.le_refl _,fun e=>?_⟩;have:=h5 e;exact absurd ⟨this.2,by omega⟩ a1
 refine ⟨⟨hmin,fun x hx=>P.item x (List.mem_cons_of_mem _ hx),fun v hv=>?_⟩,?_,fun e=>?_⟩
 ·have h1:=hc v;have h2:=hone v;have h3:=P.lab v hv;omega
 ·have h1:=J7 (f:=fun v=>Hf A v*gv n t.1 s hp v) (g:=fun v=>Hf A v*gv n D s (t::hp) v) (k:=n) fun i _=>Int.mul_le_mul_of_nonneg_left (hg i).1 (deg0 A i);unfold psi;rw [List.length_cons];omega
 ·have h1:=J7 (f:=fun v=>Hf A v*gv n t.1 s hp v) (g:=fun v=>Hf A v*gv n D s (t::hp) v - one (t.2=v)*Hf A v) (k:=n) fun i _=>by
   by_cases e1:t.2=i
   ·subst e1;have h2:=Int.mul_le_mul_of_nonneg_left ((hg t.2).2 (Prod.ext e rfl)) (deg0 A t.2);rw [Int.mul_add] at h2;rw [one,if_pos rfl];omega
   ·have h2:=Int.mul_le_mul_of_nonneg_left (hg i).1 (deg0 A i);rw [one,if_neg e1];omega
  rw [Hd,Fq (fun v=>Hf A v) ht] at h1;unfold psi;rw [List.length_cons];omega
theorem PI.relax {n:Nat} {A:List Ar} {D:Int} {s:Lb} {hp:List Tg} {a:Ar} (P:PI n D s hp) (hs:s.d a.1=D) (hD0:0≤D) (hl:0≤a.2.2) (hlow:∀ v,s.d v = -1∨0≤s.d v) (hhop:(EW s a).d a.2.1 ≠ -1→(EW s a).h a.2.1+1≤n) :
  PI n D (EW s a) (GD s a hp)∧psi n A D (EW s a) (GD s a hp)≤psi n A D s hp+1:=by
 by_cases hb:Db s a.2.1 (s.d a.1+a.2.2) (s.h a.1+1)
 ·have hS:EW s a=EV s a.2.1 (s.d a.1+a.2.2) (s.h a.1+1):=by unfold EW; rw [if_pos hb]
  have hH:GD s a hp=(s.d a.1+a.2.2,a.2.1)::hp:=by unfold GD; rw [if_pos hb]
  rw [hS] at hhop;rw [hS,hH];obtain ⟨d',hd'⟩:∃ d',d'=s.d a.1+a.2.2:=⟨_,rfl⟩;obtain ⟨h',hh'⟩:∃ h',h'=s.h a.1+1:=⟨_,rfl⟩;obtain ⟨v,hv⟩:∃ v,v=a.2.1:=⟨_,rfl⟩;rw [← hd',← hh',← hv] at hb hhop ⊢;have hdD:D≤d':=by omega
  have p1:(EV s v d' h').d v=d':=if_pos rfl;have p2:(EV s v d' h').h v=h':=if_pos rfl;have p3:∀ x,x≠v→(EV s v d' h').d x=s.d x:=fun x hx=>if_neg hx;have p4:∀ x,x≠v→(EV s v d' h').h x=s.h x:=fun x hx=>if_neg hx;have hsD:=hlow a.1;unfold Db at hb
  have hc1:∀ x,x≠v→((d',v)::hp).count (s.d x,x)=hp.count (s.d x,x):=fun x hx=>by
   rw [List.count_cons,if_neg (by simp; intro _ h; exact hx h.symm)]; rfl
  have hc2:((d',v)::hp).count (d',v)=hp.count (d',v)+1:=by rw [List.count_cons_self]
  have hc3:s.d v = -1∨d'<s.d v→hp.count (d',v)=0:=fun h=>List.count_eq_zero.2 fun hm=>by
   have:=P.item _ hm;dsimp only at this;omega
  have h0:d' ≠ -1:=by omega
  have hh1:=hhop (by rw [p1]; exact h0);rw [p2] at hh1
  have hlabv:((d',v)::hp).count (d',v)+h'≤n:=by
   rw [hc2]
   rcases hb with h | h | ⟨h,hlt⟩
   ·rw [hc3 (.inl h)]; omega
   ·rw [hc3 (.inr h)]; omega
   ·have:=P.lab v (by rw [← h]; exact h0);rw [← h] at this;omega
  have hgx:∀ x,gv n D (EV s v d' h') ((d',v)::hp) x≤gv n D s hp x:=fun x=>by
   unfold gv
   by_cases e:x=v
   ·subst e;rw [p1,p2]
    by_cases a1:d' ≠ -1∧d'≤D
    ·rw [if_pos a1]
     by_cases a2:s.d x ≠ -1∧s.d x≤D
     ·rw [if_pos a2];have e3:d'=s.d x∧h'<s.h x:=by omega
      rw [hc2,← e3.1];omega
     ·rw [if_neg a2]; omega
    ·rw [if_neg a1];rw [if_neg (fun h=>a1 ⟨h0,by omega⟩)];exact Int.le_refl _
   ·rw [p3 x e,p4 x e,hc1 x e];exact Int.le_refl _
  refine ⟨⟨fun t ht=>?_,fun t ht=>?_,fun x hx=>?_⟩,?_⟩
  ·rcases List.mem_cons.1 ht with rfl | ht
   ·exact hdD
   ·exact P.keys t ht
  ·rcases List.mem_cons.1 ht with rfl | ht
   ·rw [p1]; exact ⟨h0,Int.le_refl _⟩
   ·obtain ⟨i1,i2⟩:=P.item t ht
    by_cases e:t.2=v
    ·rw [e,p1];rw [e] at i1 i2;exact ⟨h0,by omega⟩
    ·rw [p3 _ e]; exact ⟨i1,i2⟩
  ·by_cases e:x=v
   ·subst e; rw [p1,p2]; exact hlabv
   ·rw [p3 x e,p4 x e,hc1 x e];rw [p3 x e] at hx;exact P.lab x hx
  ·have h1:=J7 (f:=fun x=>Hf A x*gv n D (EV s v d' h') ((d',v)::hp) x) (g:=fun x=>Hf A x*gv n D s hp x) (k:=n) fun i _=>Int.mul_le_mul_of_nonneg_left (hgx i) (deg0 A i);unfold psi;rw [List.length_cons];omega
 ·have hS:EW s a=s:=by unfold EW; rw [if_neg hb]
  have hH:GD s a hp=hp:=by unfold GD; rw [if_neg hb]
  rw [hS,hH];exact ⟨P,by omega⟩
end Go.Proofs.YtibemkominehdaaGreat
namespace Go.Proofs.YtibemkominehdaaGreat
open Go.GV
attribute [local irreducible] Al W Wq Wt
abbrev FB (oo od oh ob n:Nat):List Value:=[.slice (some ⟨oo,0,none⟩) n n,.slice (some ⟨od,0,none⟩) n n,.slice (some ⟨oh,0,none⟩) n n,.slice (some ⟨ob,0,none⟩) n n]
def hopI (s:Lb) (v:Nat):Int:=(s.h v:Nat)
def arOf (g:Gr) (p:Nat→Int) (a:Nat):Ar:=(g.u a,g.v a,g.len p a)
def FS (x:Lb × List Tg) (a:Ar):Lb × List Tg:=(EW x.1 a,GD x.1 a x.2)
def goP (g:Gr) (p:Nat→Int) (s:Lb) (hp:List Tg) (l:List Nat):Lb × List Tg:=(l.map (arOf g p)).foldl FS (s,hp)
abbrev GB (od oh n:Nat) (s:Lb) (bh:Nat) (a:Option Addr) (hn c:Nat) (full:List Value):List (Nat × Obj):=(od,Bl 2 (HQ s.d n))::(oh,Bl 3 (HQ (hopI s) n))::HB bh a hn c full
structure GSt where
 i:Nat
 a:Option Addr
 hn:Nat
 c:Nat
 full:List Value
 L:List Tg
end Go.Proofs.YtibemkominehdaaGreat
namespace Go.Proofs.YtibemkominehdaaGreat
open Go.GV
attribute [local irreducible] Al W Wq Wt
abbrev NBl (od n:Nat) (s:Lb) (bh:Nat) (a:Option Addr) (hn c:Nat) (full:List Value):List (Nat × Obj):=(od,Bl 2 (HQ s.d n))::HB bh a hn c full
def SX (src:List Nat):List Tg:=src.map fun v=>(0,v)
def PA (g:Gr) (p:Nat→Int) (s:Lb) (a:Nat):Prop:=s.d (g.u a) ≠ -1∧s.h (g.v a)≠0∧s.d (g.u a)+g.len p a=s.d (g.v a)∧s.h (g.u a)+1=s.h (g.v a)
structure BI (g:Gr) (p:Nat→Int) (s:Lb) (all done:Nat→Prop) (by':Nat→Int):Prop where
 val:∀ v,by' v = -1∨∃ a:Nat,by' v=(a:Int)∧all a∧PA g p s a∧g.v a=v
 in':∀ a,done a→PA g p s a→by' (g.v a) ≠ -1
theorem BI.skip {g:Gr} {p:Nat→Int} {s:Lb} {all done:Nat→Prop} {by':Nat→Int} (B:BI g p s all done by') {a:Nat} (h:¬ PA g p s a∨by' (g.v a) ≠ -1):BI g p s all (fun x=>x=a∨done x) by' :=
 ⟨B.val,fun x hx hg=>by
  rcases hx with rfl | hx
  ·exact h.resolve_left fun h=>h hg
  ·exact B.in' x hx hg⟩
theorem BI.put {g:Gr} {p:Nat→Int} {s:Lb} {all done:Nat→Prop} {by':Nat→Int} (B:BI g p s all done by') {a:Nat} (ha:all a) (hg:PA g p s a):BI g p s all (fun x=>x=a∨done x) (upd by' (g.v a) (a:Int)):=by
 refine ⟨fun v=>?_,fun x hx hgx=>?_⟩
 ·by_cases e:v=g.v a
  ·subst e; exact .inr ⟨a,MX _ _ _,ha,hg,rfl⟩
  ·rw [SR e]; exact B.val v
 ·by_cases e:g.v x=g.v a
  ·rw [e,MX]; omega
  ·rw [SR e]
   rcases hx with rfl | hx
   ·exact absurd U e
   ·exact B.in' x hx hgx
theorem BI.congr {g:Gr} {p:Nat→Int} {s:Lb} {all done done':Nat→Prop} {by':Nat→Int} (B:BI g p s all done by') (h:∀ x,done' x→done x):BI g p s all done' by':=⟨B.val,fun a ha=>B.in' a (h a ha)⟩
end Go.Proofs.YtibemkominehdaaGreat
namespace Go.Proofs.YtibemkominehdaaGreat
open Go.GV
attribute [local irreducible] Al W Wq Wt
structure Slo where
 a:Option Addr
 n:Nat
 c:Nat
 full:List Value
def sloV (s:Slo):Value := .slice s.a s.n s.c
abbrev JC (s:Slo):List (Nat × Obj):=ent s.a 316 s.full
abbrev outT (nn:Nat) (st:Nat→Slo):List Value:=(List.range nn).map fun u=>sloV (st u)
structure OutR (w0 w:World) (oo nn:Nat) (g:Gr) (p:Nat→Int) (st:Nat→Slo) (sel:Nat→List Nat) (oth:Nat→Prop):Prop where
 tbl:w.heap[oo]? = some (Bl 317 (outT nn st))
 os:∀ u,u<nn→OS (st u).a (st u).n (st u).c 4 (st u).full ((sel u).flatMap (Ob g p))
 blk:∀ u,u<nn→∀ y∈JC (st u),w.heap[y.1]? = some y.2∧w0.heap.size≤y.1∧¬ oth y.1∧y.1≠oo
 ne:∀ u v,u<nn→v<nn→u≠v→∀ y∈JC (st u),∀ z∈JC (st v),y.1≠z.1
def outM (oo nn:Nat) (st:Nat→Slo):Mt:=fun x=>x=oo∨∃ u,u<nn∧∃ y∈JC (st u),y.1=x
def stS (st:Nat→Slo) (u:Nat) (s:Slo):Nat→Slo:=fun q=>if q=u then s else st q
theorem FT (st:Nat→Slo) (u:Nat) (s:Slo):stS st u s u=s:=if_pos rfl
theorem HU {st:Nat→Slo} {u:Nat} {s:Slo} {q:Nat} (h:q≠u):stS st u s q=st q:=if_neg h
theorem OutR.step {w0 w w':World} {oo nn:Nat} {g:Gr} {p:Nat→Int} {st:Nat→Slo} {sel sel':Nat→List Nat} {oth:Nat→Prop} (R:OutR w0 w oo nn g p st sel oth) {u:Nat} (hu:u<nn) {s:Slo} (hoth:∀ x,oth x→x<w.heap.size) (h0:w0.heap.size≤w.heap.size)
  (H:Ctx w ((oo::(JC (st u)).map (·.1))) w' ((oo,Bl 317 (outT nn (stS st u s)))::JC s)) (O:OS s.a s.n s.c 4 s.full ((sel' u).flatMap (Ob g p))) (hsel:∀ q,q≠u→sel' q=sel q) :
  OutR w0 w' oo nn g p (stS st u s) sel' oth∧∀ x,outM oo nn (stS st u s) x→outM oo nn st x∨w.heap.size≤x:=by
 have hlt:∀ q,q<nn→∀ y∈JC (st q),y.1<w.heap.size:=fun q hq y hy=>Bq (R.blk q hq y hy).1;have hoo:=Bq R.tbl;have hnd:=(List.pairwise_cons.1 H.nd).1
 have hnew:∀ y∈JC s,(∃ z∈JC (st u),z.1=y.1)∨w.heap.size≤y.1:=fun y hy=>by
  rcases H.own y (List.mem_cons_of_mem _ hy) with h | h
  ·rcases List.mem_cons.1 h with h | h
   ·exact absurd h.symm (hnd y hy)
   ·obtain ⟨z,hz,he⟩:=List.mem_map.1 h;exact .inl ⟨z,hz,he⟩
  ·exact .inr h
 have hout:∀ q,q<nn→q≠u→∀ y∈JC (st q),y.1∉oo::(JC (st u)).map (·.1):=fun q hq hqu y hy hm=>by
  rcases List.mem_cons.1 hm with h | h
  ·exact (R.blk q hq y hy).2.2.2 h
  ·obtain ⟨z,hz,he⟩:=List.mem_map.1 h;exact R.ne q u hq hu hqu y hy z hz he.symm
 refine ⟨⟨H.get at0,fun q hq=>?_,fun q hq y hy=>?_,fun q v hq hv hqv y hy z hz=>?_⟩,fun x hx=>?_⟩
 ·by_cases e:q=u
  ·subst e; rw [FT]; exact O
  ·rw [HU e,hsel q e]; exact R.os q hq
 ·by_cases e:q=u
  ·subst e;rw [FT] at hy;refine ⟨H.blk y (List.mem_cons_of_mem _ hy),?_,?_,fun h=>hnd y hy h.symm⟩
   ·rcases hnew y hy with ⟨z,hz,he⟩ | h
    ·rw [← he]; exact (R.blk q hq z hz).2.1
    ·omega
   ·rcases hnew y hy with ⟨z,hz,he⟩ | h
    ·rw [← he]; exact (R.blk q hq z hz).2.2.1
    ·exact fun ho=>by have:=hoth _ ho; omega
  ·rw [HU e] at hy;obtain ⟨h1,h2,h3,h4⟩:=R.blk q hq y hy;exact ⟨H.ext.to h1 (hout q hq e y hy),h2,h3,h4⟩
 ·by_cases e:q=u
  ·subst e;rw [FT] at hy;rw [HU (Ne.symm hqv)] at hz
   rcases hnew y hy with ⟨t,ht,he⟩ | h
   ·rw [← he]; exact R.ne q v hq hv hqv t ht z hz
   ·have:=hlt v hv z hz; omega
  ·rw [HU e] at hy
   by_cases e2:v=u
   ·subst e2;rw [FT] at hz
    rcases hnew z hz with ⟨t,ht,he⟩ | h
    ·rw [← he]; exact R.ne q v hq hv hqv y hy t ht
    ·have:=hlt q hq y hy; omega
   ·rw [HU e2] at hz;exact R.ne q v hq hv hqv y hy z hz
 ·rcases hx with h | ⟨q,hq,y,hy,rfl⟩
  ·exact .inl (.inl h)
  ·by_cases e:q=u
   ·subst e;rw [FT] at hy
    rcases hnew y hy with ⟨t,ht,he⟩ | h
    ·exact .inl (.inr ⟨q,hq,t,ht,he⟩)
    ·exact .inr h
   ·rw [HU e] at hy;exact .inl (.inr ⟨q,hq,y,hy,rfl⟩)
def selL (g:Gr) (l:List Nat) (u:Nat):List Nat:=l.filter fun a=>decide (g.u a=u)
end Go.Proofs.YtibemkominehdaaGreat
namespace Go.Proofs.YtibemkominehdaaGreat
open Go.GV
theorem PB {A:List Ar} {src:List Nat} {n:Nat} {m D:Int} {u:Nat} (hA:NZ A n m) (hm:0≤m) (hn:n≤60) (hD:0≤D):∀ (l dn:List Ar) (s:Lb) (hp:List Tg),DJ A src n m s→Clo A s hp u dn→(∀ a∈l,a∈A∧a.1=u)→s.d u=D→PI n D s hp →
  DJ A src n m (l.foldl FS (s,hp)).1∧Clo A (l.foldl FS (s,hp)).1 (l.foldl FS (s,hp)).2 u (dn++l)∧(l.foldl FS (s,hp)).1.d u=D∧PI n D (l.foldl FS (s,hp)).1 (l.foldl FS (s,hp)).2∧psi n A D (l.foldl FS (s,hp)).1 (l.foldl FS (s,hp)).2≤psi n A D s hp+l.length
 | [],dn,s,hp,J,K,_,hu,P=>⟨J,by simpa using K,hu,P,by simp⟩
 | a::l,dn,s,hp,J,K,hl,hu,P=>by
  obtain ⟨ha,hau⟩:=hl a (List.mem_cons_self ..);obtain ⟨J1,K1,h1,h2,-⟩:=DJ.relax hA hm hn J K ha hau (by rw [hu]; omega);obtain ⟨P1,h3⟩:=P.relax (A:=A) (a:=a) (by rw [hau]; exact hu) hD (hA a ha).2.2.1 J.low fun h=>J1.hops h;obtain ⟨r1,r2,r3,r4,r5⟩:=PB hA hm hn hD l (dn++[a]) (EW s a) (GD s a hp) J1 K1 (fun b hb=>hl b (List.mem_cons_of_mem _ hb)) (by rw [h1]; exact hu) P1;rw [List.append_assoc] at r2;refine ⟨r1,r2,r3,r4,?_⟩;rw [List.length_cons,List.foldl_cons];have h4:FS (s,hp) a=(EW s a,GD s a hp):=rfl;rw [h4];omega
end Go.Proofs.YtibemkominehdaaGreat
namespace Go.Proofs.YtibemkominehdaaGreat
open Go.GV
structure MI (A:List Ar) (src:List Nat) (n:Nat) (m D:Int) (s:Lb) (hp:List Tg):Prop where
 dj:DJ A src n m s
 clo:Clo A s hp 0 A
 pi:PI n D s hp
theorem Clo.any {A:List Ar} {s:Lb} {hp:List Tg} {u:Nat} (K:Clo A s hp u A) (v:Nat):Clo A s hp v A:=fun x hx=>(K x hx).imp id fun h a ha hax _=>h a ha hax fun _=>ha
theorem Clo.perm {A:List Ar} {s:Lb} {hp hq:List Tg} {u:Nat} {dn:List Ar} (K:Clo A s hp u dn) (h:hp.Perm hq):Clo A s hq u dn:=fun x hx=>(K x hx).imp (fun h'=>h.mem_iff.1 h') id
theorem MI.perm {A:List Ar} {src:List Nat} {n:Nat} {m D:Int} {s:Lb} {hp hq:List Tg} (M:MI A src n m D s hp) (h:hp.Perm hq):MI A src n m D s hq:=⟨M.dj,M.clo.perm h,M.pi.perm h⟩
theorem MI.start {A:List Ar} {src:List Nat} {n:Nat} {m:Int} (hs:∀ v∈src,v<n) (hnd:src.Nodup):MI A src n m (-1) (lb0 src) (SX src):=by
 refine ⟨DJ.start hs,fun v hv=>?_,fun t ht=>?_,fun t ht=>?_,fun v hv=>?_⟩
 ·have hm:v∈src:=by
   rcases Decidable.em (v∈src) with h | h
   ·exact h
   ·exact absurd (if_neg h) hv
  have:(lb0 src).d v=0:=if_pos hm;rw [this];exact .inl (List.mem_map.2 ⟨v,hm,rfl⟩)
 ·obtain ⟨v,_,rfl⟩:=List.mem_map.1 ht;show (-1:Int)≤0;omega
 ·obtain ⟨v,hv,rfl⟩:=List.mem_map.1 ht;have:(lb0 src).d v=0:=if_pos hv;dsimp only;rw [this];omega
 ·have hm:v∈src:=by
   rcases Decidable.em (v∈src) with h | h
   ·exact h
   ·exact absurd (if_neg h) hv
  have h1:(SX src).Nodup:=List.Pairwise.map _ (fun a b h e=>h (Prod.mk.inj e).2) hnd;have h2:=List.nodup_iff_count.1 h1 ((lb0 src).d v,v);have h3:=hs v hm;show _+0≤n;omega
section
variable {A:List Ar} {src:List Nat} {n:Nat} {m D:Int} {s:Lb} {hp:List Tg} {t:Tg}
theorem MI.lt (hA:NZ A n m) (M:MI A src n m D s hp) {v:Nat} (hv:s.d v ≠ -1):v<n:=by
 by_cases h:s.h v=0
 ·exact (M.dj.src' v (M.dj.zero v hv h)).1
 ·obtain ⟨a,ha,h1,_⟩:=M.dj.pre v hv h;rw [← h1];exact (hA a ha).2.1
theorem MI.top (hA:NZ A n m) (M:MI A src n m D s (t::hp)):t.2<n:=M.lt hA (M.pi.item t (List.mem_cons_self ..)).1
theorem MI.drop (hA:NZ A n m) (M:MI A src n m D s (t::hp)) (hmin:∀ x∈hp,t.1≤x.1) (hne:t.1≠s.d t.2):MI A src n m t.1 s hp∧psi n A t.1 s hp+1≤psi n A D s (t::hp):=by
 obtain ⟨P1,h1,-⟩:=M.pi.pop (A:=A) hmin (M.top hA);refine ⟨⟨M.dj,fun v hv=>(M.clo v hv).imp (fun h=>?_) id,P1⟩,h1⟩
 rcases List.mem_cons.1 h with h | h
 ·exact absurd (by rw [← h]) hne
 ·exact h
theorem MI.key0 (M:MI A src n m D s (t::hp)) (he:t.1=s.d t.2):0≤t.1:=by
 have h1:=(M.pi.item t (List.mem_cons_self ..)).1;have:=M.dj.low t.2;omega
theorem MI.go (hA:NZ A n m) (hm:0≤m) (hn:n≤60) (M:MI A src n m D s (t::hp)) (hmin:∀ x∈hp,t.1≤x.1) (he:t.1=s.d t.2) {l l1:List Ar} (hl:A.filter (fun a=>decide (a.1=t.2))=l++l1) :
  DJ A src n m (l.foldl FS (s,hp)).1∧(l1=[]→MI A src n m t.1 (l.foldl FS (s,hp)).1 (l.foldl FS (s,hp)).2∧psi n A t.1 (l.foldl FS (s,hp)).1 (l.foldl FS (s,hp)).2+1≤psi n A D s (t::hp)):=by
 obtain ⟨P1,-,h1⟩:=M.pi.pop (A:=A) hmin (M.top hA)
 have hla:∀ a∈l,a∈A∧a.1=t.2:=fun a ha=>by
  have h2:a∈A.filter (fun a=>decide (a.1=t.2)):=by rw [hl]; exact List.mem_append_left _ ha
  obtain ⟨h3,h4⟩:=List.mem_filter.1 h2;exact ⟨h3,of_decide_eq_true h4⟩
 have K0:Clo A s hp t.2 []:=fun v hv=>by
  by_cases e:v=t.2
  ·exact .inr fun a _ hav hd=>by cases hd e
  ·refine (M.clo v hv).imp (fun h=>?_) fun h a ha hav _=>h a ha hav fun _=>ha
   rcases List.mem_cons.1 h with h | h
   ·exact absurd (by rw [← h]) e
   ·exact h
 obtain ⟨r1,r2,r3,r4,r5⟩:=PB hA hm hn (M.key0 he) l [] s hp M.dj K0 hla he.symm P1;refine ⟨r1,fun hl1=>?_⟩;rw [hl1,List.append_nil] at hl
 have KK:Clo A (l.foldl FS (s,hp)).1 (l.foldl FS (s,hp)).2 t.2 A:=fun v hv=>(r2 v hv).imp id fun h a ha hav hd=>h a ha hav fun e=>by
  rw [List.nil_append,← hl];exact List.mem_filter.2 ⟨ha,decide_eq_true (hav.trans e)⟩
 refine ⟨⟨r1,KK.any 0,r4⟩,?_⟩;have h2:=h1 he;have h3:Hf A t.2=(l.length:Nat):=by unfold Hf; rw [hl]
 omega
end
end Go.Proofs.YtibemkominehdaaGreat
namespace Go.Proofs.YtibemkominehdaaGreat
open Go.GV
attribute [local irreducible] Al W Wq Wt
abbrev SC (N:Nat) (ae:Option Addr) (n ce bf bp bo:Nat) (k:Int):List Value:=[.int .i64 (N:Int),.slice ae n ce,.slice (some ⟨bf,0,none⟩) n n,.slice (some ⟨bp,0,none⟩) N N,.slice (some ⟨bo,0,none⟩) N N,.int .i64 k]
def posL (ov:Nat→Int) (N:Nat):List Nat:=(List.range N).filter fun v=>decide (0<ov v)
abbrev iN (v:Nat):Value := .int .i64 (v:Int)
structure LSt where
 i:Nat
 a:Option Addr
 c:Nat
 full:List Value
section
variable {w:World} {bs:Nat} {N:Nat} {ae:Option Addr} {n ce bf bp bo:Nat} {k:Int} {ov:Nat→Int}
def raisF (d:Nat→Int) (D:Int) (v:Nat):Int:=if d v<0∨D<d v then D else d v
def raisP (p d:Nat→Int) (D:Int) (i v:Nat):Int:=if v<i then p v+raisF d D v else p v
end
end Go.Proofs.YtibemkominehdaaGreat
namespace Go.Proofs.YtibemkominehdaaGreat
open Go.GV
attribute [local irreducible] Al W Wq Wt
def arcC (g:Gr) (cap x:Nat→Int) (k:Nat):List Ar:=((List.range k).filter fun a=>decide (0<EU cap x a)).map fun a=>(g.u a,g.v a,g.c a)
section
variable {w:World} {bs:Nat} {N:Nat} {ae:Option Addr} {ce bf bp bo:Nat} {k:Int} {es:List Ed} {x p:Nat→Int}
end
end Go.Proofs.YtibemkominehdaaGreat
namespace Go.Proofs.YtibemkominehdaaGreat
open Go.GV
attribute [local irreducible] Al W Wq Wt
section
variable {w:World} {bs:Nat} {N:Nat} {ae:Option Addr} {ce bf bp bo:Nat} {k:Int} {es:List Ed} {x p:Nat→Int}
end
end Go.Proofs.YtibemkominehdaaGreat
namespace Go.Proofs.YtibemkominehdaaGreat
open Go.GV
attribute [local irreducible] Al W Wq Wt
def byO (by':Nat→Int) (v:Nat):Option Nat:=if by' v = -1 then none else some (by' v).toNat
def wayV (g:Gr) (a:Nat):List Value:=[.int .i64 (a:Int),.int .i64 (g.u a:Int)]
structure BackK (b3 b4 b5 bs ob:Nat) (N:Nat) (ae:Option Addr) (ce bf bp bo:Nat) (k:Int) (es:List Ed) (by':Nat→Int) (M:Mt) (w:World):Prop where
 h4:w.heap[b4]? = some (Bl 282 [.slice (some ⟨ob,0,none⟩) N N])
 h3:w.heap[b3]? = some (Bl 262 [ptr bs])
 hs:w.heap[bs]? = some (Bl 264 (SC N ae es.length ce bf bp bo k))
 ho:w.heap[ob]? = some (Bl 3 (HQ by' N))
 Re:Rd w ae 4 DI es
 nm:¬ M b5
end Go.Proofs.YtibemkominehdaaGreat
namespace Go.Proofs.YtibemkominehdaaGreat
open Go.GV
attribute [local irreducible] Al W Wq Wt
def wAnc:Nat→List Nat
 | 1=>[0] | 2=>[1,0] | 4=>[3] | 5=>[4,3] | 7=>[6] | 8=>[7,6] | 10=>[9] | 11=>[10,9]
 | 12=>[2,1,0,5,4,3,8,7,6,11,10,9] | 13=>[12,2,1,0,5,4,3,8,7,6,11,10,9] | 15=>[14,13,12,2,1,0,5,4,3,8,7,6,11,10,9] | _=>[]
def wSlot (i:Nat):Nat:=if i=14 then 11 else 23+i
def wVal (b4 n:Nat) (i:Nat) (B:Nat→Nat):Value :=
 if i=1∨i=4∨i=7∨i=10 then .int .i64 (n:Int) else if i=2∨i=5∨i=8∨i=11 then .slice (some ⟨B i,0,none⟩) n n
 else if i=12 then .agg (FB (B 2) (B 5) (B 8) (B 11) n).toArray else if i=13∨i=14 then ptr (B i) else .pointer (some ⟨b4,0+0,none⟩)
def wObj (n:Nat) (i:Nat):Option ((Nat→Nat)→Obj) :=
 if i=2 then some fun _=>Bl 317 ((List.range n).map fun _ => .slice none 0 0) else if i=5 then some fun _=>Bl 2 (HQ (fun _=>0) n) else if i=8∨i=11 then some fun _=>Bl 3 (HQ (fun _=>0) n)
 else if i=13 then some fun B=>Bl 311 (FB (B 2) (B 5) (B 8) (B 11) n) else if i=14 then some fun _=>Bl 308 [.pointer none] else none
theorem SY {N:Int} {es:List Ed} (hr:D0 N es=true):(grE N es).Ok:=by
 have h:∀ i,i<es.length→(es.getD i e0).f.toNat<N.toNat∧(es.getD i e0).t.toNat<N.toNat:=fun i hi=>by
  obtain ⟨e,he⟩:=AV (l:=es) (i:=i) (h:=hi);have:=LM ((He hr).2.2.2.1 e (List.mem_of_getElem? he));rw [BM he];omega
 exact ⟨fun i hi=>(h i hi).1,fun i hi=>(h i hi).2⟩
def negF (i:Nat) (v:Nat):Int:=if v<i then -1 else 0
theorem Rd.lt {α:Type} {w:World} {a:Option Addr} {s:Nat} {enc:α→List Value} {xs:List α} (R:Rd w a s enc xs) (h:xs≠[]) (hs:∀ x∈xs,∃ v,(enc x)[0]? = some v) (h0:0<s):(adr a).block<w.heap.size:=by
 obtain ⟨x,hx⟩:=AV (l:=xs) (i:=0) (h:=List.length_pos_iff.2 h);obtain ⟨v,hv⟩:=hs x (List.mem_of_getElem? hx);exact World.block_lt_of_cell? w ⟨(adr a).block,(adr a).off+0*s+0,none⟩ (R.cell 0 x hx 0 v hv h0)
structure WSt where
 s:Lb
 a:Option Addr
 hn:Nat
 c:Nat
 full:List Value
 L:List Tg
 D:Int
end Go.Proofs.YtibemkominehdaaGreat
namespace Go.Proofs.YtibemkominehdaaGreat
open Go.GV
theorem OS.setf {α:Type} {a:Option Addr} {n c s:Nat} {full:List Value} {enc:α→List Value} {L:List α} (O:OS a n c s full (L.flatMap enc)) (hs:∀ x,(enc x).length=s) {i j:Nat} {x y:α} {v:Value} (hx:L[i]? = some x) (hj:j<s) (hy:enc y=(enc x).set j v):OS a n c s (full.set (i*s+j) v) ((L.set i y).flatMap enc):=by
 refine ⟨O.zero,O.none',by rw [List.length_set]; exact O.len,O.le,?_⟩;rw [O.split,UI (fun z _=>hs z) hx hj hy];have h1:=O.llen;rw [Et fun z _=>hs z] at h1;exact List.take_left' (by rw [Et fun z _=>hs z,List.length_set,h1])
def edC (es:List Ed) (c:Nat→Int) (i:Nat):Ed:={ es.getD i e0 with cap:=c i }
def esC (es:List Ed) (c:Nat→Int):List Ed:=(List.range es.length).map (edC es c)
def capK (es:List Ed) (k i:Nat):Int:=(((JB es i).toNat / 2 ^ k:Nat):Int)
end Go.Proofs.YtibemkominehdaaGreat
namespace Go.Proofs.YtibemkominehdaaGreat
open Go.GV
attribute [local irreducible] Al W Wq Wt
def capW (c c':Nat→Int) (i j:Nat):Int:=if j<i then c' j else c j
def flW (g:Gr) (c' x p:Nat→Int) (i j:Nat):Int:=if j<i then finX g c' x p j else x j
abbrev FL (bf bo n N:Nat) (x ov:Nat→Int) (ae:Option Addr) (full:List Value):List (Nat × Obj):=(bf,Bl 2 (HQ x n))::(bo,Bl 2 (HQ ov N))::ent ae 205 full
end Go.Proofs.YtibemkominehdaaGreat
namespace Go.Proofs.YtibemkominehdaaGreat
open Go.GV
attribute [local irreducible] Al W Wq Wt
section
variable {P:Program} {r:Option Nat} {ops rest:List Oper} {Q:Exit→Env→World→Prop} {e:Env} {w:World} {dst:Option Tmp} {ty:TypeId} {pos:String} {af:Array Edge} {gd:Option (Nat × Bool)} {t t2:TypeId} {x y:Operand} {a b:Int}
theorem MZ (hg:A1 ⟨dst,.binOp .add t x y t2,ty,pos,af,gd⟩ ops e=true) (hx:ev e x = .int .i64 a) (hy:ev e y = .int .i64 b)
  (h:∀ z,Al P r ops Q rest (put e dst (.int .i64 z)) w):Al P r ops Q (⟨dst,.binOp .add t x y t2,ty,pos,af,gd⟩::rest) e w:=Be (v := .int .i64 (IntKind.i64.wrap (a+b))) hg rfl (Bw hx hy (by simp [binOp,Op.intArith])) (h _)
end
theorem Rd.map {α β:Type} {w:World} {a:Option Addr} {s:Nat} {enc:α→List Value} {f:β→α} {xs:List β} (R:Rd w a s (fun x=>enc (f x)) xs):Rd w a s enc (xs.map f):=by
 refine ⟨fun h=>R.some' fun h'=>h (by rw [h']; rfl),fun i x hx j v hv hj=>?_⟩;rw [List.getElem?_map] at hx;obtain ⟨y,hy,rfl⟩:=Option.map_eq_some_iff.1 hx;exact R.cell i y hy j v hv hj
def walkN (g:Gr) (v:Nat) (l:List Nat):Nat:=l.foldl (fun _ a=>g.u a) v
abbrev SL (bs bf bp bo:Nat) (N:Nat) (ae:Option Addr) (n ce:Nat) (k:Int) (x p ov:Nat→Int) (full:List Value):List (Nat × Obj) :=
 (bs,Bl 264 (SC N ae n ce bf bp bo k))::(bf,Bl 2 (HQ x n))::(bp,Bl 2 (HQ p N))::(bo,Bl 2 (HQ ov N))::ent ae 205 full
end Go.Proofs.YtibemkominehdaaGreat
namespace Go.Proofs.YtibemkominehdaaGreat
open Go.GV
attribute [local irreducible] Al W Wq Wt
end Go.Proofs.YtibemkominehdaaGreat
namespace Go.Proofs.YtibemkominehdaaGreat
open Go.GV
attribute [local irreducible] Al W Wq Wt
def LN:List UInt8:=[0]++List.replicate 1 1++List.replicate 2 2++List.replicate 4 3++List.replicate 8 4++List.replicate 16 5++List.replicate 32 6++List.replicate 64 7++List.replicate 128 8
theorem Qw:∀ i,i<256→∃ b:UInt8,LN[i]? = some b∧i<2 ^ b.toNat∧b.toNat≤8∧(0<i→2 ^ b.toNat≤2*i):=fun i hi=>by
 have h:(List.range 256).all (fun i=>match LN[i]? with | some b=>decide (i<2 ^ b.toNat) && (decide (b.toNat≤8) && (decide (i=0) || decide (2 ^ b.toNat≤2*i))) | none=>false)=true:=by kernel_rfl
 have h1:=List.all_eq_true.1 h i (List.mem_range.2 hi)
 cases hb:LN[i]? with
 | none=>rw [hb] at h1; cases h1
 | some b =>
  rw [hb] at h1;simp only [Bool.and_eq_true,Bool.or_eq_true,decide_eq_true_eq] at h1;exact ⟨b,rfl,h1.1,h1.2.1,fun h=>h1.2.2.resolve_left (by omega)⟩
theorem Oc {x k n:Nat} (h:x / 2 ^ k<2 ^ n):x<2 ^ (n+k):=by
 rw [Nat.pow_add];exact (Nat.div_lt_iff_lt_mul (Nat.two_pow_pos k)).1 h
theorem Od {x k n:Nat} (h:2 ^ n≤2*(x / 2 ^ k)):2 ^ (n+k)≤2*x:=by
 rw [Nat.pow_add];have h1:2 ^ n*2 ^ k≤2*(x / 2 ^ k)*2 ^ k:=Nat.mul_le_mul_right _ h;have h2:x / 2 ^ k*2 ^ k≤x:=Nat.div_mul_le_self x _;rw [Nat.mul_assoc] at h1;omega
set_option maxRecDepth 20000 in
theorem SZ (x:Nat) (hx:x≤4503599627370496) (w:World):Ret Tryz.prog 192 #[.int .u64 (x:Int)] w fun v w'=>∃ r:Nat,v = .int .i64 (r:Int)∧x<2 ^ r∧r≤64∧(0<x→2 ^ r≤2*x)∧w=w':=by
 obtain ⟨w0,rfl⟩:∃ w0,w0=w:=⟨_,rfl⟩;have H:=Ctx.start w0 [];refine Au (fn:=Tryz.f192) Tryz.func192 U [.int .u64 (x:Int)] U ?_;refine Ag (Ae U (Ab (Aa (Ax (Ag (Ad U (Ci U U (Ab (Aa (Dl 101 (α:=Nat × Nat) (fun z=>[(0,.int .u64 (z.1:Int)),(2,.int .i64 (z.2:Int))]) (fun z w'=>w0=w'∧(∀ k,z.1<2 ^ k→x<2 ^ (k+z.2))∧(∀ k,2 ^ k≤2*z.1→2 ^ (k+z.2)≤2*x)∧(0<x→0<z.1)∧z.1<4294967296∧z.2≤32) U ?_ ?_))))))))))
 ·skip
  refine Ay _ U ?_ ?_
  ·intro h;replace h:=AX h;refine Ag (Ad U (Eo (n:=32) U U U ?_));refine Ae U (Ab (Aa (A5 (Ae U (Ab (Aa ?_))))));exact ⟨(x / 2 ^ 32,32),rfl,⟨rfl,rfl,trivial⟩,rfl,fun k hk=>Oc hk,fun k hk=>Od hk,fun _=>by dsimp only; omega,by dsimp only; omega,by dsimp only; omega⟩
  ·intro h;replace h:=AY h;refine A2 (Aa ?_);exact ⟨(x,0),rfl,⟨rfl,rfl,trivial⟩,rfl,fun k hk=>hk,fun k hk=>hk,fun h=>h,by dsimp only; omega,by dsimp only; omega⟩
 ·rintro ⟨y,n⟩ j w ⟨rfl,hk,hg,h0,hy,hn⟩; dsimp only at hk hg h0 hy hn; dsimp only;refine Ax (Ag (Ad U (Ci U U (Ab (Aa (Dl 7685 (α:=Nat × Nat) (fun z=>[(0,.int .u64 (z.1:Int)),(2,.int .i64 (z.2:Int))]) (fun z w'=>w0=w'∧(∀ k,z.1<2 ^ k→x<2 ^ (k+z.2))∧(∀ k,2 ^ k≤2*z.1→2 ^ (k+z.2)≤2*x)∧(0<x→0<z.1)∧z.1<65536∧z.2≤48) U ?_ ?_))))))
  ·skip
   refine Ay _ U ?_ ?_
   ·intro h;replace h:=AX h;refine Ag (Ad U (Eo (n:=16) U U U ?_));refine Ae U (Ab (Aa (A5 (Ad U (A3 U U ?_)))));refine Ae U (Ab (Aa ?_));exact ⟨(y / 2 ^ 16,n+16),rfl,⟨rfl,rfl,trivial⟩,rfl,fun k h7=>by have:=hk _ (Oc h7); rw [show k+(n+16)=k+16+n by omega]; exact this,(fun k h7=>by have:=hg _ (Od h7); rw [show k+(n+16)=k+16+n by omega]; exact this),fun _=>by dsimp only; omega,by dsimp only; omega,by dsimp only; omega⟩
   ·intro h;replace h:=AY h;refine A2 (Aa ?_);exact ⟨(y,n),rfl,⟨rfl,rfl,trivial⟩,rfl,hk,hg,h0,by dsimp only; omega,by dsimp only; omega⟩
  ·rintro ⟨y,n⟩ j2 w ⟨rfl,hk,hg,h0,hy,hn⟩; dsimp only at hk hg h0 hy hn; dsimp only;refine Ax (Ag (Ad U (Ci U U (Ab (Aa (Dl 491525 (α:=Nat × Nat) (fun z=>[(0,.int .u64 (z.1:Int)),(2,.int .i64 (z.2:Int))]) (fun z w'=>w0=w'∧(∀ k,z.1<2 ^ k→x<2 ^ (k+z.2))∧(∀ k,2 ^ k≤2*z.1→2 ^ (k+z.2)≤2*x)∧(0<x→0<z.1)∧z.1<256∧z.2≤56) U ?_ ?_))))))
   ·skip
    refine Ay _ U ?_ ?_
    ·intro h;replace h:=AX h;refine Ag (Ad U (Eo (n:=8) U U U ?_));refine Ae U (Ab (Aa (A5 (Ad U (A3 U U ?_)))));refine Ae U (Ab (Aa ?_));exact ⟨(y / 2 ^ 8,n+8),rfl,⟨rfl,rfl,trivial⟩,rfl,fun k h7=>by have:=hk _ (Oc h7); rw [show k+(n+8)=k+8+n by omega]; exact this,(fun k h7=>by have:=hg _ (Od h7); rw [show k+(n+8)=k+8+n by omega]; exact this),fun _=>by dsimp only; omega,by dsimp only; omega,by dsimp only; omega⟩
    ·intro h;replace h:=AY h;refine A2 (Aa ?_);exact ⟨(y,n),rfl,⟨rfl,rfl,trivial⟩,rfl,hk,hg,h0,by dsimp only; omega,by dsimp only; omega⟩
   ·rintro ⟨y,n⟩ j3 w ⟨rfl,hk,hg,h0,hy,hn⟩; dsimp only at hk hg h0 hy hn; dsimp only;obtain ⟨b,hb,hb1,hb2,hb3⟩:=Qw y hy;have hb0:(bv b) = .int .u8 ((b.toNat:Nat):Int):=rfl;refine Ag (Ad U (Ad U (GA U U CH Er ?_)));refine Qg (l:=LN) b U LG U hb ?_;rw [hb0];refine BP U Er E0 ?_;refine A3 U U ?_;refine Ae U (Ab (Aa (A9 (AD (v:=(.int _ _)) U U U ?_))));refine ⟨n+b.toNat,congrArg (Value.int .i64) (by omega),?_,by omega,fun hx0=>?_,rfl⟩
    ·have:=hk _ hb1;rw [Nat.add_comm]; exact this
    ·have:=hg _ (hb3 (h0 hx0));rw [Nat.add_comm]; exact this
structure Bk where
 b:Nat
 c:Nat
 f:List Value
instance:Inhabited Bk:=⟨⟨0,0,[]⟩⟩
def sAnc:Nat→List Nat
 | 1=>[0] | 4=>[3] | 5=>[2,4,3] | 6=>[1,0,5,2,4,3] | 8=>[7] | 9=>[8,7] | 10=>[9,8,7] | 12=>[11] | 13=>[12,11] | 15=>[14] | 16=>[15,14]
 | 17=>[6,1,0,5,2,4,3,10,9,8,7,13,12,11,16,15,14] | 18=>[17,6,1,0,5,2,4,3,10,9,8,7,13,12,11,16,15,14] | 19=>[18,17,6,1,0,5,2,4,3,10,9,8,7,13,12,11,16,15,14] | _=>[]
def sQ (n:Nat) (B:Nat→Bk):Bk:=if n=0 then ⟨(B 2).b,0,[]⟩ else B 5
def sSC (N n:Nat) (B:Nat→Bk):List Value:=SC N (some ⟨(sQ n B).b,0,none⟩) n (sQ n B).c (B 10).b (B 13).b (B 16).b 0
def sVal (b1:Nat) (N n:Nat) (a:Option Addr) (c:Nat) (i:Nat) (B:Nat→Bk):Value :=
 if i=0∨i=11∨i=14 then .pointer (some ⟨b1,0+0,none⟩) else if i=1∨i=12∨i=15 then .int .i64 (N:Int)
 else if i=2 then .slice (some ⟨(B 2).b,0,none⟩) 0 0 else if i=3∨i=7 then .pointer (some ⟨b1,0+1,none⟩) else if i=4∨i=8 then .slice a n c
 else if i=5 then .slice (some ⟨(sQ n B).b,0,none⟩) n (sQ n B).c else if i=6 then .agg #[.int .i64 (N:Int),.slice (some ⟨(sQ n B).b,0,none⟩) n (sQ n B).c]
 else if i=9 then .int .i64 (n:Int) else if i=10 then .slice (some ⟨(B 10).b,0,none⟩) n n else if i=13 then .slice (some ⟨(B 13).b,0,none⟩) N N
 else if i=16 then .slice (some ⟨(B 16).b,0,none⟩) N N else if i=17 then .agg (sSC N n B).toArray else ptr (B 18).b
def sObj (N n:Nat) (i:Nat):Option ((Nat→Bk)→Obj) :=
 if i=2 then some fun _=>Bl 205 [] else if i=5 then (if n=0 then none else some fun B=>Bl 205 (B 5).f) else if i=10 then some fun _=>Bl 2 (HQ (fun _=>0) n) else if i=13∨i=16 then some fun _=>Bl 2 (HQ (fun _=>0) N)
 else if i=18 then some fun B=>Bl 264 (sSC N n B) else none
def sGood (n:Nat) (es:List Ed) (i:Nat) (b:Bk):Prop:=i=5→n=0∨OS (some ⟨b.b,0,none⟩) n b.c 4 b.f (es.flatMap DI)
end Go.Proofs.YtibemkominehdaaGreat
namespace Go.Proofs.YtibemkominehdaaGreat
open Go.GV
attribute [local irreducible] Al W Wq Wt
abbrev B4 (f:Nat→Int) (m:Nat):List Value:=(List.range m).map fun i => .int .u64 (f i)
theorem Bv {w:World} {q m i:Nat} {f:Nat→Int} (h:w.heap[q]? = some (Bl 32 (B4 f m))) (hi:i<m:=by omega):w.cell? ⟨q,0+i*1,none⟩=some (.int .u64 (f i)):=by
 rw [A6 h,Nat.zero_add,Nat.mul_one,Ds hi]
def sw (f:Nat→Int) (i j k:Nat):Int:=if k=j then f i else if k=i then f j else f k
theorem Cl (f:Nat→Int) (i j:Nat):sw f i j j=f i:=if_pos rfl
theorem Cj {f:Nat→Int} {i j k:Nat} (h:k≠j):sw f i j k=if k=i then f j else f k:=if_neg h
theorem Eu (f:Nat→Int) (i j:Nat):sw f i j i=f j:=by
 unfold sw
 by_cases e:i=j
 ·subst e; rw [if_pos rfl]
 ·rw [if_neg e,if_pos rfl]
theorem CD {f:Nat→Int} {i j k:Nat} (h1:k≠i:=by omega) (h2:k≠j:=by omega):sw f i j k=f k:=by unfold sw; rw [if_neg h2,if_neg h1]
inductive Sw (a b:Nat):(Nat→Int)→(Nat→Int)→Prop
 | refl (f:Nat→Int):Sw a b f f
 | step {f g:Nat→Int} (h:Sw a b f g) (i j:Nat) (hi:a≤i∧i<b) (hj:a≤j∧j<b):Sw a b f (sw g i j)
theorem Sw.trans {a b:Nat} {f g h:Nat→Int} (h1:Sw a b f g) (h2:Sw a b g h):Sw a b f h:=by
 induction h2 with
 | refl=>exact h1
 | step _ i j hi hj ih=>exact ih.step i j hi hj
theorem Sw.mono {a b a' b':Nat} {f g:Nat→Int} (h:Sw a b f g) (ha:a'≤a) (hb:b≤b'):Sw a' b' f g:=by
 induction h with
 | refl=>exact .refl _
 | step _ i j hi hj ih=>exact ih.step i j ⟨by omega,by omega⟩ ⟨by omega,by omega⟩
theorem Sw.out {a b:Nat} {f g:Nat→Int} (h:Sw a b f g):∀ k,(k<a∨b≤k)→g k=f k:=by
 induction h with
 | refl=>exact fun _ _=>rfl
 | step _ i j hi hj ih=>exact fun k hk=>by rw [CD]; exact ih k hk
theorem Sw.mem {a b:Nat} {f g:Nat→Int} (h:Sw a b f g):∀ k,a≤k→k<b→∃ k',a≤k'∧k'<b∧g k=f k':=by
 induction h with
 | refl=>exact fun k h1 h2=>⟨k,h1,h2,rfl⟩
 | @step g h i j hi hj ih =>
  intro k h1 h2
  by_cases e2:k=j
  ·rw [e2,Cl]; exact ih i hi.1 hi.2
  ·by_cases e1:k=i
   ·rw [e1,Eu]; exact ih j hj.1 hj.2
   ·rw [CD (h1:=e1) (h2:=e2)]; exact ih k h1 h2
theorem WO {f:Nat→Int} {n i j:Nat} (hi:i<n:=by omega) (hj:j<n:=by omega):(tab (sw f i j) n).Perm (tab f n):=by
 have h:=Qv (L:=tab f n) (i:=i) (j:=j) (x:=f i) (y:=f j) (Gs hi) (Gs hj)
 have e:((tab f n).set i (f j)).set j (f i)=tab (sw f i j) n:=by
  unfold tab;rw [H4 (g:=fun k=>if k=i then f j else f k) (if_pos rfl) (fun k _ hk=>if_neg hk),H4 (g:=sw f i j) (Cl f i j) (fun k _ hk=>Cj hk)]
 rw [e] at h;exact h
theorem Sw.perm {a b n:Nat} {f g:Nat→Int} (h:Sw a b f g) (hb:b≤n):(tab g n).Perm (tab f n):=by
 induction h with
 | refl=>exact .refl _
 | step _ i j hi hj ih=>exact (WO).trans ih
def FD (f:Nat→Int) (a b:Nat):Prop:=∀ x y,a≤x→x<y→y<b→f x≤f y
def InsU (f:Nat→Int) (a j i:Nat):Prop:=∀ x y,a≤x→x<y→y≤i→y≠j→f x≤f y
theorem InsU.step {f:Nat→Int} {a j i:Nat} (h:InsU f a j i) (ha:a<j) (hi:j≤i) (hlt:f j<f (j - 1)):InsU (sw f j (j - 1)) a (j - 1) i:=fun x y hx hxy hy hne=>by
 by_cases e1:y=j
 ·subst e1;rw [Eu]
  by_cases e2:x=y - 1
  ·rw [e2,Cl]; omega
  ·rw [CD (h2:=e2)];exact h x (y - 1) hx (by omega) (by omega) (by omega)
 ·rw [CD (h1:=e1) (h2:=hne)]
  by_cases e2:x=j - 1
  ·rw [e2,Cl]; exact h j y (by omega) (by omega) hy e1
  ·by_cases e3:x=j
   ·rw [e3,Eu]; exact h (j - 1) y (by omega) (by omega) hy e1
   ·rw [CD (h1:=e3) (h2:=e2)]; exact h x y hx hxy hy e1
theorem InsU.done {f:Nat→Int} {a j i:Nat} (h:InsU f a j i) (hj:a≤j) (hj0:a<j→f (j - 1)≤f j):FD f a (i+1):=fun x y hx hxy hy=>by
 by_cases e:y=j
 ·subst e;have h1:=hj0 (by omega)
  by_cases e2:x=y - 1
  ·rw [e2]; exact h1
  ·exact Int.le_trans (h x (y - 1) hx (by omega) (by omega) (by omega)) h1
 ·exact h x y hx hxy (by omega) e
theorem CN (x y:Int) (w:World):Ret Tryz.prog 240 #[.int .u64 x,.int .u64 y] w fun v w'=>v = .bool (decide (x<y))∧w=w':=by
 have nan:∀ (x:Int) (w:World),Ret Tryz.prog 271 #[.int .u64 x] w fun v w'=>v = .bool false∧w=w':=fun x w=>by
  refine Au (fn:=Tryz.f271) Tryz.func271 U [.int .u64 x] U ?_;refine Ag (Am U (Ab (Aa (Ag (Ad U (Ad U (CQ U U (Am U (Ab (Aa (A9 (AD (v:=(.bool _)) U U U ?_))))))))))));exact ⟨congrArg Value.bool (by simp),rfl⟩
 refine Au (fn:=Tryz.f240) Tryz.func240 U [.int .u64 x,.int .u64 y] U ?_;refine Ag (Am U (Ab (Aa (Ag (Ad U (Ai Sr (nan x w) U ?_))))));rintro v w ⟨rfl,rfl⟩;refine Ap U (AZ 7 U ?_ ?_)
 ·intro h1;refine Ad U (Ai Sr (nan y _) U ?_);rintro v w ⟨rfl,rfl⟩;refine C7 U (Av U (.bool _) U (Ap U (AZ 12 U ?_ ?_)))
  ·intro h2;replace h2:=Df h2;refine Af U (Af U (Af U (Av U (.bool _) U (Am U (Ab (Aa (A9 (AD (v:=(.bool _)) U U U ?_))))))));exact ⟨congrArg Value.bool (by simp_all),rfl⟩
  ·intro h3;replace h3:=Dg h3;refine Ad U (Ad U (Bu U U (AE U (.bool _) U (Am U (Ab (Aa (A9 (AD (v:=(.bool _)) U U U ?_))))))));exact ⟨congrArg Value.bool (by simp_all),rfl⟩
 ·intro h4;refine Af U (Af U (Af U (AE U (.bool _) U (Ap U (Ad U (Ad U (Bu U U (AE U (.bool _) U (Am U ?_)))))))));refine Ab (Aa (A9 (AD (v:=(.bool _)) U U U ?_)));exact ⟨congrArg Value.bool (by simp_all),rfl⟩
section
variable {w:World} {q n c m a b:Nat} {f:Nat→Int}
set_option maxRecDepth 20000 in
set_option maxHeartbeats 2000000 in
theorem LO (hd:w.heap[q]? = some (Bl 32 (B4 f m))) (hab:a≤b) (hn:n≤m) (hm:n≤1000000000)  (hb:b≤n:=by omega):
  Ret Tryz.prog 234 #[.slice (some ⟨q,0,none⟩) n c,.int .i64 (a:Int),.int .i64 (b:Int)] w fun v w'=>v = .tuple #[]∧∃ g,Sw a b f g∧FD g a b∧Ctx w [q] w' [(q,Bl 32 (B4 g m))]:=by
 obtain ⟨w0,rfl⟩:∃ w0,w0=w:=⟨_,rfl⟩;have H:=Ctx.start1 hd;refine Au (fn:=Tryz.f234) Tryz.func234 U [.slice (some ⟨q,0,none⟩) n c,.int .i64 (a:Int),.int .i64 (b:Int)] U ?_;refine Ag (Ad U (A3 U U ?_));refine Ae U (Ab (Aa (A4 (Bt 562949953420480 (α:=Nat × (Nat→Int)) (fun t=>[(6,.int .i64 (t.1:Int))]) (fun t w'=>a+1≤t.1∧t.1≤max b (a+1)∧Sw a b f t.2∧FD t.2 a t.1∧Ctx w0 [q] w' [(q,Bl 32 (B4 t.2 m))]) (fun t=>b - t.1) (a+1,f) U ?_ ?_ ?_))))
 ·exact ⟨congrArg (Value.int .i64) (by dsimp only; omega),trivial⟩
 ·exact ⟨Nat.le_refl _,by dsimp only; omega,.refl _,fun x y h1 h2 h3=>by dsimp only at h3; omega,H⟩
 ·rintro ⟨i,g⟩ j0 w ⟨hi1,hi2,hS,hO,H⟩; dsimp only at hi1 hi2 hS hO H; dsimp only;refine Ax (Ag (Ad U (Ad U (Bu U U (Ab (Aa (Ay _ U ?_ ?_)))))))
  ·intro h1;replace h1:=AX h1;refine A2 (Aa (Ax (A4 (Ag (Ad U (Ae U (Ab (Aa (A4 (Bt 562949953355904 (α:=Nat × (Nat→Int)) (fun t=>[(7,.int .i64 (t.1:Int))]) (fun t w'=>a≤t.1∧t.1≤i∧Sw a b f t.2∧InsU t.2 a t.1 i∧Ctx w0 [q] w' [(q,Bl 32 (B4 t.2 m))]) (fun t=>t.1) (i,g) U ?_ ?_ ?_))))))))))
   ·exact ⟨rfl,trivial⟩
   ·exact ⟨by dsimp only; omega,Nat.le_refl _,hS,fun x y hx hxy hy hne=>hO x y hx hxy (by dsimp only at hne; omega),H⟩
   ·rintro ⟨j,g⟩ j1 w ⟨hj1,hj2,hS,hI,H⟩; dsimp only at hj1 hj2 hS hI H; dsimp only;have e1:(j:Int).toNat=j:=rfl;have e2:((j:Int) - 1).toNat=j - 1:=by omega
    refine Ax (El 13 Bz U U ?_);refine AJ U (AJ U (Vl U U U (DC U (Dh 19 U ?_ ?_))))
    ·intro h2;replace h2:=AX h2;refine Bx U (AJ U (Bc AP AB U U ?_));refine CR Bm U (by rintro _ rfl; exact ((Bv (H.drew.get at0)))) ?_;refine Bx U (AJ U (EP U U U ?_));refine Bc AP AB U U ?_;refine CR Bm U (by rintro _ rfl; exact ((Bv (H.drew.get at0)))) ?_;refine BZ ?_;replace H:=H.drew;refine Ai Dz (CN _ _ _) U ?_;rintro v w ⟨rfl,rfl⟩;refine Av U (.bool _) U (Ab (Aa (Ay _ U ?_ ?_)))
     ·intro h3;rw [e1,e2] at h3;have h3:=of_decide_eq_true h3;refine A2 (Aa (Ax (A4 (G6 [([0,1,2,3,4,5,6,7,8,9,10,11,12,13,14],15),([16],17)] (fun z=>z.heap[q]? = some (Bl 32 (B4 g m))) [15,17] Bz (H.drew.get at0) ?_))));refine A0 U U ?_;refine AM U (AG U (AM U (AG U (Dt U U ?_))));refine AM U (AG U (Dt U U ?_));refine Aw AP AB U U ?_;refine BE Bm U (fun _ hx=>(Bv hx)) ?_;refine AM U (AG U (Aw AP AB U U ?_));refine BE Bm U (fun _ hx=>(Bv hx)) ?_;refine Aw AP AB U U ?_;refine Ba ?_;replace H:=H.drew
      refine BR j (fun k => .int .u64 (if k=j then g (j - 1) else g k)) (.int _ _) AB U U U H at0 (by rw [if_pos rfl]; exact congrArg (fun z=>Value.int .u64 (g z)) (by omega)) (fun k _ hk=>by rw [if_neg hk]) ?_;rintro w H;refine Ab (Bo U (A0 U U ?_));refine Aw AP AB U U ?_;refine Ba (BR (j - 1) (fun k => .int .u64 (sw g j (j - 1) k)) (.int _ _) AB U U U H at0 (by rw [Cl]; rfl) (fun k _ hk=>by rw [Cj hk]) ?_);rintro w H;refine Ab (Bo U (B6 (AU (Aa (A5 (Ad U (AN U U ?_)))))));refine Ae U (Ab (Aa ?_));exact ⟨(j - 1,sw g j (j - 1)),rfl,⟨congrArg (Value.int .i64) (by dsimp only; omega),trivial⟩,⟨by dsimp only; omega,by dsimp only; omega,hS.step j (j - 1) ⟨by omega,by omega⟩ ⟨by omega,by omega⟩,hI.step (by omega) hj2 h3,H⟩,by dsimp only; omega⟩
     ·intro h3;rw [e1,e2] at h3;have h3:=of_decide_eq_false h3;refine Bs (Ao (Ao (AK (AU (Aa (A5 (Ad U (A3 U U ?_))))))));refine Ae U (Ab (Aa ?_));exact ⟨(i+1,g),rfl,⟨rfl,trivial⟩,⟨by dsimp only; omega,by dsimp only; omega,hS,hI.done hj1 fun _=>by omega,H⟩,by dsimp only; omega⟩
    ·intro h2;replace h2:=AY h2;refine AF U (AF U (AF U (AF U (AF U (AF U (AF U (AF U (AF U (BZ ?_)))))))));replace H:=H.drew;refine Af U (AE U (.bool _) U (Ab (Aa (E5 U (Bs (Ao (Ao (AK (AU (Aa (A5 (Ad U (A3 U U ?_)))))))))))));refine Ae U (Ab (Aa ?_));exact ⟨(i+1,g),rfl,⟨rfl,trivial⟩,⟨by dsimp only; omega,by dsimp only; omega,hS,hI.done hj1 fun h=>by omega,H⟩,by dsimp only; omega⟩
  ·intro h1;replace h1:=AY h1;refine Bs (Ao (Ao (AK (CW U U ?_))));exact ⟨rfl,g,hS,fun x y hx hxy hy=>hO x y hx hxy (by omega),H⟩
end
end Go.Proofs.YtibemkominehdaaGreat
namespace Go.Proofs.YtibemkominehdaaGreat
open Go.GV
attribute [local irreducible] Al W Wq Wt
def HeapU (g:Nat→Int) (o lo hi:Nat):Prop:=∀ i c,lo≤i→(c=2*i+1∨c=2*i+2)→c<hi→g (o+c)≤g (o+i)
structure SiftU (g:Nat→Int) (o lo r hi:Nat):Prop where
 oth:∀ i c,lo≤i→i≠r→(c=2*i+1∨c=2*i+2)→c<hi→g (o+c)≤g (o+i)
 up:∀ p c,lo≤p→(r=2*p+1∨r=2*p+2)→(c=2*r+1∨c=2*r+2)→c<hi→g (o+c)≤g (o+p)
theorem SiftU.start {g:Nat→Int} {o lo hi:Nat} (h:HeapU g o (lo+1) hi):SiftU g o lo lo hi:=⟨fun i c hi hne hc hh=>h i c (by omega) hc hh,fun p c hp hr _ _=>by omega⟩
theorem SiftU.done {g:Nat→Int} {o lo r hi:Nat} (h:SiftU g o lo r hi) (hr:∀ c,(c=2*r+1∨c=2*r+2)→c<hi→g (o+c)≤g (o+r)):HeapU g o lo hi:=fun i c hl hc hh=>by
 by_cases e:i=r
 ·subst e; exact hr c hc hh
 ·exact h.oth i c hl e hc hh
theorem SiftU.step {g:Nat→Int} {o lo r hi c:Nat} (h:SiftU g o lo r hi) (_:lo≤r) (hc:c=2*r+1∨c=2*r+2) (hch:c<hi) (hmax:∀ d,(d=2*r+1∨d=2*r+2)→d<hi→g (o+d)≤g (o+c)) (hlt:g (o+r)<g (o+c)):SiftU (sw g (o+r) (o+c)) o lo c hi:=by
 refine ⟨fun i d hi' hne hd hh=>?_,fun p e hp hcp he hh=>?_⟩
 ·by_cases e1:i=r
  ·rw [e1,Eu]
   by_cases e2:d=c
   ·rw [e2,Cl]; omega
   ·rw [CD]; exact hmax d (by omega) hh
  ·rw [CD (k:=o+i)]
   by_cases e2:d=r
   ·rw [e2,Eu]; exact h.up i c hi' (by omega) hc hch
   ·rw [CD]; exact h.oth i d hi' e1 hd hh
 ·have e1:p=r:=by omega
  rw [e1,Eu,CD];exact h.oth c e (by omega) (by omega) he hh
theorem HeapU.root {g:Nat→Int} {o hi:Nat} (h:HeapU g o 0 hi):∀ i,i<hi→g (o+i)≤g (o+0):=fun i=>by
 induction i using Nat.strongRecOn with
 | _ i ih =>
  intro hi'
  rcases Nat.eq_zero_or_pos i with h0 | h0
  ·rw [h0]; exact Int.le_refl _
  ·exact Int.le_trans (h ((i - 1) / 2) i (Nat.zero_le _) (by omega) hi') (ih ((i - 1) / 2) (by omega) (by omega))
section
variable {w:World} {q n c m:Nat} {f:Nat→Int}
set_option maxRecDepth 20000 in
set_option maxHeartbeats 2000000 in
theorem PC {lo hi o:Nat} (hd:w.heap[q]? = some (Bl 32 (B4 f m))) (hn:n≤m) (hm:n≤1000000000) (hH:HeapU f o (lo+1) hi)  (hb:o+hi≤n:=by omega) (hl:lo≤1000000000:=by omega):
  Ret Tryz.prog 266 #[.slice (some ⟨q,0,none⟩) n c,.int .i64 (lo:Int),.int .i64 (hi:Int),.int .i64 (o:Int)] w fun v w'=>v = .tuple #[]∧∃ g,Sw o (o+hi) f g∧HeapU g o lo hi∧Ctx w [q] w' [(q,Bl 32 (B4 g m))]:=by
 obtain ⟨w0,rfl⟩:∃ w0,w0=w:=⟨_,rfl⟩;have H:=Ctx.start1 hd;refine Au (fn:=Tryz.f266) Tryz.func266 U [.slice (some ⟨q,0,none⟩) n c,.int .i64 (lo:Int),.int .i64 (hi:Int),.int .i64 (o:Int)] U ?_;refine Ag (Ad U (Ae U (Ab (Aa (A4 (Bt 75557863725914323417856 (α:=Nat × (Nat→Int)) (fun t=>[(8,.int .i64 (t.1:Int))]) (fun t w'=>lo≤t.1∧t.1≤1000000000∧Sw o (o+hi) f t.2∧SiftU t.2 o lo t.1 hi∧Ctx w0 [q] w' [(q,Bl 32 (B4 t.2 m))]) (fun t=>1000000000 - t.1) (lo,f) U ?_ ?_ ?_))))))
 ·exact ⟨rfl,trivial⟩
 ·exact ⟨Nat.le_refl _,hl,.refl _,.start hH,H⟩
 ·rintro ⟨r,g⟩ j0 w ⟨hr1,hr2,hS,hD,H⟩; dsimp only at hr1 hr2 hS hD H; dsimp only;refine A4 (Ag (Ad U (C1 U U ?_)));refine A3 U U ?_;rw [show 2*(r:Int)+1=((2*r+1:Nat):Int) by omega];refine Ae U (Ab (Aa (Ax (Ag (Ad U (Ad U (Ci U U (Ab (Aa (Ay _ U ?_ ?_))))))))))
  ·intro h1;replace h1:=AX h1;refine Bs (Ao (EL U (Ao (AK (CW U U ?_)))));exact ⟨rfl,g,hS,hD.done fun c hc hh=>by omega,H⟩
  ·intro h1;replace h1:=AY h1;have e1:((o:Int)+((2*r+1:Nat):Int)).toNat=o+(2*r+1):=by omega
   have e2:((o:Int)+((2*r+1:Nat):Int)+1).toNat=o+(2*r+2):=by omega
   refine A2 (Aa (Ax (DN 137438822400 (α:=Unit) (fun _=>[(36,.bool (decide (2*r+2<hi∧g (o+(2*r+1))<g (o+(2*r+2)))))]) (fun _ w'=>Ctx w0 [q] w' [(q,Bl 32 (B4 g m))]) U ?_ ?_)))
   ·skip
    refine Fg 18 Bz U U ?_;refine AJ U (Ej U U U ?_);refine AJ U (Vk U U U (DC U (Dh 21 U ?_ ?_)))
    ·intro h1;replace h1:=AX h1;refine Bx U (AJ U (AJ U (Ej U U U ?_)));refine Bc AP AB U U ?_;refine CR Bm U (by rintro _ rfl; exact ((Bv (H.drew.get at0)))) ?_;refine Bx U (AJ U (AJ U (Ej U U U ?_)));refine Ej U U U ?_;refine Bc AP AB U U ?_;refine CR Bm U (by rintro _ rfl; exact ((Bv (H.drew.get at0)))) ?_;refine BZ ?_;replace H:=H.drew;refine Ai Dz (CN _ _ _) U ?_;rintro v w ⟨rfl,rfl⟩;rw [e1,e2];refine Av U (.bool _) U (Ab (Aa ?_));exact ⟨(),rfl,⟨congrArg Value.bool (by rw [Bool.eq_iff_iff]; simp_all; try omega),trivial⟩,H⟩
    ·intro h2;replace h2:=AY h2;refine AF U (AF U (AF U (AF U (AF U (AF U (AF U (AF U (AF U (AF U ?_)))))))));refine AF U (AF U (AF U (BZ ?_)));replace H:=H.drew;refine Af U (AE U (.bool _) U (Ab (Aa ?_)));exact ⟨(),rfl,⟨congrArg Value.bool (by rw [Bool.eq_iff_iff]; simp_all; try omega),trivial⟩,H⟩
   ·rintro - j1 w H;refine Dl 412316860928 (α:=Nat) (fun d=>[(9,.int .i64 (d:Int))]) (fun d w'=>(d=2*r+1∨d=2*r+2)∧d<hi∧(∀ e,(e=2*r+1∨e=2*r+2)→e<hi→g (o+e)≤g (o+d))∧Ctx w0 [q] w' [(q,Bl 32 (B4 g m))]) U ?_ ?_
    ·skip
     refine Ay _ U ?_ ?_
     ·intro h2;have h2:=of_decide_eq_true h2;refine A5 (Ad U (A3 U U ?_));refine Ae U (Ab (Aa ?_));refine ⟨2*r+2,rfl,⟨congrArg (Value.int .i64) (by omega),trivial⟩,.inr rfl,h2.1,fun e he _=>?_,H⟩
      rcases he with rfl | rfl
      ·omega
      ·omega
     ·intro h2;have h2:=of_decide_eq_false h2;refine A2 (Aa ?_);refine ⟨2*r+1,rfl,⟨rfl,trivial⟩,.inl rfl,by omega,fun e he hh=>?_,H⟩
      rcases he with rfl | rfl
      ·omega
      ·rcases Int.lt_or_le (g (o+(2*r+1))) (g (o+(2*r+2))) with h7 | h7
       ·exact absurd ⟨hh,h7⟩ h2
       ·exact h7
    ·rintro d j2 w ⟨hd1,hd2,hmax,H⟩;have e3:((o:Int)+(r:Int)).toNat=o+r:=by omega
     have e4:((o:Int)+(d:Int)).toNat=o+d:=by omega
     refine Ax (El 12 Bz U U ?_);refine Bx U (AJ U (AJ U (Ej U U U ?_)));refine Bc AP AB U U ?_;refine CR Bm U (by rintro _ rfl; exact ((Bv (H.drew.get at0)))) ?_;refine Bx U (AJ U (AJ U (Ej U U U ?_)));refine Bc AP AB U U ?_;refine CR Bm U (by rintro _ rfl; exact ((Bv (H.drew.get at0)))) ?_;refine BZ ?_;replace H:=H.drew;refine Ai Dz (CN _ _ _) U ?_;rintro v w ⟨rfl,rfl⟩;rw [e3,e4];refine C7 U (Ab (Aa (Ay _ U ?_ ?_)))
     ·intro h3;replace h3:=Df h3;refine A9 (A7 (Bd (A7 (Bd (Hu U U ?_)))));have h3:¬ g (o+r)<g (o+d):=by simpa using h3
      exact ⟨rfl,g,hS,hD.done fun c hc hh=>Int.le_trans (hmax c hc hh) (by omega),H⟩
     ·intro h3;replace h3:=Dg h3;have h3:g (o+r)<g (o+d):=by simpa using h3
      refine A2 (Aa (BT [([0,1,2,3,4,5,6,7,8,9,10,11,12,13,14,15,16,17,18,19,20],21),([22],23)] (fun z=>z.heap[q]? = some (Bl 32 (B4 g m))) [21,23] Bz (H.drew.get at0) ?_));refine A0 U U ?_;refine AM U (AG U (AG U (CZ U U ?_)));refine AM U (AG U (AG U (CZ U U ?_)));refine AM U (AG U (AG U (CZ U U ?_)));refine Aw AP AB U U ?_;refine BE Bm U (fun _ hx=>(Bv hx)) ?_;refine AM U (AG U (AG U (CZ U U ?_)));refine Aw AP AB U U ?_;refine BE Bm U (fun _ hx=>(Bv hx)) ?_;refine Aw AP AB U U ?_;refine Ba ?_;replace H:=H.drew
      refine BR (o+r) (fun k => .int .u64 (if k=o+r then g (o+d) else g k)) (.int _ _) AB U U U H at0 (by rw [if_pos rfl]; exact congrArg (fun z=>Value.int .u64 (g z)) (by omega)) (fun k _ hk=>by rw [if_neg hk]) ?_;rintro w H;refine Ab (Bo U (A0 U U ?_));refine Aw AP AB U U ?_;refine Ba (BR (o+d) (fun k => .int .u64 (sw g (o+r) (o+d) k)) (.int _ _) AB U U U H at0 (by rw [Cl]; exact congrArg (fun z=>Value.int .u64 (g z)) (by omega)) (fun k _ hk=>by rw [Cj hk]) ?_);rintro w H;refine Ab (Bo U (B6 (A5 (Ad U (Ae U (Ab (AU (Aa ?_))))))));exact ⟨(d,sw g (o+r) (o+d)),rfl,⟨rfl,trivial⟩,⟨by dsimp only; omega,by dsimp only; omega,hS.step _ _ ⟨by omega,by omega⟩ ⟨by omega,by omega⟩,hD.step hr1 hd1 hd2 hmax h3,H⟩,by dsimp only; omega⟩
structure HsU (g:Nat→Int) (a i b:Nat):Prop where
 srt:FD g (a+i) b
 le:∀ x y,x<i→a+i≤y→y<b→g (a+x)≤g y
set_option maxRecDepth 20000 in
set_option maxHeartbeats 2000000 in
theorem Na {a b:Nat} (hd:w.heap[q]? = some (Bl 32 (B4 f m))) (hn:n≤m) (hm:n≤1000000000)  (hab:a<b:=by omega) (hb:b≤n:=by omega):
  Ret Tryz.prog 235 #[.slice (some ⟨q,0,none⟩) n c,.int .i64 (a:Int),.int .i64 (b:Int)] w fun v w'=>v = .tuple #[]∧∃ g,Sw a b f g∧FD g a b∧Ctx w [q] w' [(q,Bl 32 (B4 g m))]:=by
 obtain ⟨w0,rfl⟩:∃ w0,w0=w:=⟨_,rfl⟩;have H:=Ctx.start1 hd;obtain ⟨l,rfl⟩:∃ l,b=a+l:=⟨b - a,by omega⟩;have hl:((a+l:Nat):Int) - (a:Int)=(l:Int):=by omega
 have hl1:(l:Int) - 1=((l - 1:Nat):Int):=by omega
 refine Au (fn:=Tryz.f235) Tryz.func235 U [.slice (some ⟨q,0,none⟩) n c,.int .i64 (a:Int),.int .i64 ((a+l:Nat):Int)] U ?_;refine Ag (Ad U (Ae U (Ab (Aa (Ag (Ae U (Ab (Aa (Ag (Ad U (Ad U ?_)))))))))));refine AN U U ?_;rw [hl];refine Ae U (Ab (Aa (Ax (Ag (Ad U (AN U U ?_))))));refine G8 U U (show _≤(9223372036854775807:Int) by omega) ?_;refine Ae U (Ab (Aa (A4 (Bt 133956096 (α:=Nat × (Nat→Int)) (fun t=>[(9,.int .i64 ((t.1:Int) - 1))]) (fun t w'=>t.1≤l+1∧Sw a (a+l) f t.2∧HeapU t.2 a t.1 l∧Ctx w0 [q] w' [(q,Bl 32 (B4 t.2 m))]) (fun t=>t.1) ((l - 1) / 2+1,f) U ?_ ?_ ?_))))
 ·exact ⟨congrArg (Value.int .i64) (by dsimp only; omega),trivial⟩
 ·exact ⟨by dsimp only; omega,.refl _,fun i c h1 h2 h3=>by dsimp only at h1; omega,H⟩
 ·rintro ⟨k,g⟩ j0 w ⟨hk,hS,hP,H⟩; dsimp only at hk hS hP H; dsimp only
  rcases k with _ | k
  ·skip
   refine Ax (Ag (Ad U (Ci U U (Ab (Aa (Ay _ U ?_ ?_))))))
   ·intro h1;replace h1:=AX h1;omega
   ·intro h1;replace h1:=AY h1;refine Bs (Ao (Ao (AK (Aa (Ag (Ad U (AN U U ?_)))))));refine Ae U (Ab (Aa (A4 (Bt 72057593501058048 (α:=Nat × (Nat→Int)) (fun t=>[(10,.int .i64 ((t.1:Int) - 1))]) (fun t w'=>t.1≤l∧Sw a (a+l) f t.2∧HeapU t.2 a 0 t.1∧HsU t.2 a t.1 (a+l)∧Ctx w0 [q] w' [(q,Bl 32 (B4 t.2 m))]) (fun t=>t.1) (l,g) U ?_ ?_ ?_))))
    ·exact ⟨rfl,trivial⟩
    ·exact ⟨Nat.le_refl _,hS,hP,⟨fun x y h1 h2 h3=>by dsimp only at h1; omega,fun x y h1 h2 h3=>by dsimp only at h2; omega⟩,H⟩
    ·rintro ⟨k,g⟩ j1 w ⟨hk,hS,hP,hQ,H⟩; dsimp only at hk hS hP hQ H; dsimp only
     rcases k with _ | k
     ·skip
      refine Ax (Ag (Ad U (Ci U U (Ab (Aa (Ay _ U ?_ ?_))))))
      ·intro h2;replace h2:=AX h2;omega
      ·intro h2;replace h2:=AY h2;refine Bs (Ao (Ao (AK (CW U U ?_))));exact ⟨rfl,g,hS,hQ.srt,H⟩
     ·rw [show ((k+1:Nat):Int) - 1=(k:Int) by omega];refine Ax (Ag (Ad U (Ci U U (Ab (Aa (Ay _ U ?_ ?_))))))
      ·intro h2;replace h2:=AX h2;refine A2 (Aa (Ax (A4 (BT [([0,1,2,3,4,5,6,7,8,9,10,11,12,13,14,15,16],17),([18],19)] (fun z=>z.heap[q]? = some (Bl 32 (B4 g m))) [17,19] Bz (H.drew.get at0) ?_))));refine A0 U U ?_;refine AM U (AG U (AM U (AG U (AG U (CZ U U ?_)))));refine AM U (AG U (AG U (CZ U U ?_)));refine Aw AP AB U U ?_;refine BE Bm U (fun _ hx=>(Bv hx)) ?_;refine AM U (AG U (Aw AP AB U U ?_));refine BE Bm U (fun _ hx=>(Bv hx)) ?_;refine Aw AP AB U U ?_;refine Ba ?_;replace H:=H.drew
       refine BR (a+0) (fun z => .int .u64 (if z=a+0 then g (a+k) else g z)) (.int _ _) AB U U U H at0 (by rw [if_pos rfl]; exact congrArg (fun z=>Value.int .u64 (g z)) (by omega)) (fun z _ hz=>by rw [if_neg hz]) ?_;rintro w H;refine Ab (Bo U (A0 U U ?_));refine Aw AP AB U U ?_;refine Ba (BR (a+k) (fun z => .int .u64 (sw g (a+0) (a+k) z)) (.int _ _) AB U U U H at0 (by rw [Cl]; exact congrArg (fun z=>Value.int .u64 (g z)) (by omega)) (fun z _ hz=>by rw [Cj hz]) ?_);rintro w H;refine Ab (Bo U (B6 (A5 (An U U (Ad U (Ad U (Ad U (Ai Sp (PC (lo:=0) (hi:=k) (o:=a) (f:=sw g (a+0) (a+k)) (H.get at0) hn hm (fun i c h1 h2 h3=>by rw [CD,CD]; exact hP i c (by omega) h2 (by omega))) U ?_))))))));rintro rv w ⟨rfl,g2,hS2,hP2,H2⟩
       replace H:=Ctx.back (L1:=[_]) (L2:=[]) H H2;refine Ab (AU (Aa (A5 (Ad U (AN U U ?_)))));refine Ae U (Ab (Aa ?_));have hout:=fun z hz=>hS2.out z hz;have hk2:g2 (a+k)=g (a+0):=by rw [hout _ (.inr (Nat.le_refl _)),Cl]
       have hot:∀ z,a+k<z→g2 z=g z:=fun z hz=>by rw [hout _ (.inr (by omega)),CD]
       refine ⟨(k,g2),rfl,⟨rfl,trivial⟩,⟨by dsimp only; omega,(hS.step (a+0) (a+k) ⟨by omega,by omega⟩ ⟨by omega,by omega⟩).trans (hS2.mono (Nat.le_refl _) (by omega)),hP2,⟨fun x y h1 h2 h3=>?_,fun x y h1 h2 h3=>?_⟩,H⟩,by dsimp only; omega⟩
       ·dsimp only at h1 ⊢;rw [hot y (by omega)]
        by_cases e:x=a+k
        ·rw [e,hk2]; exact hQ.le 0 y (by omega) (by omega) h3
        ·rw [hot x (by omega)]; exact hQ.srt x y (by omega) h2 h3
       ·dsimp only at h1 h2 ⊢;obtain ⟨z,hz1,hz2,hz3⟩:=hS2.mem (a+x) (by omega) (by omega)
        obtain ⟨u,hu1,hu2⟩:∃ u,u<k+1∧g2 (a+x)=g (a+u):=by
         by_cases e:z=a+0
         ·exact ⟨k,by omega,by rw [hz3,e,Eu]⟩
         ·exact ⟨z - a,by omega,by rw [hz3,CD (h1:=e)]; congr 1; omega⟩
        rw [hu2]
        by_cases e:y=a+k
        ·rw [e,hk2]; exact hP.root u hu1
        ·rw [hot y (by omega)]; exact hQ.le u y hu1 (by omega) h3
      ·intro h2;replace h2:=AY h2;omega
  ·rw [show ((k+1:Nat):Int) - 1=(k:Int) by omega];refine Ax (Ag (Ad U (Ci U U (Ab (Aa (Ay _ U ?_ ?_))))))
   ·intro h1;replace h1:=AX h1;refine A2 (Aa (Ax (A4 (A5 (An U U (Ad U (Ad U (Ad U (Ai Sp (PC (lo:=k) (hi:=l) (o:=a) (f:=g) (H.get at0) hn hm hP) U ?_)))))))));rintro rv w ⟨rfl,g2,hS2,hP2,H2⟩;replace H:=Ctx.back (L1:=[_]) (L2:=[]) H H2;refine Ab (AU (Aa (A5 (Ad U (AN U U ?_)))));refine Ae U (Ab (Aa ?_));exact ⟨(k,g2),rfl,⟨rfl,trivial⟩,⟨by dsimp only; omega,hS.trans hS2,hP2,H⟩,by dsimp only; omega⟩
   ·intro h1;replace h1:=AY h1;omega
end
end Go.Proofs.YtibemkominehdaaGreat
namespace Go.Proofs.YtibemkominehdaaGreat
open Go.GV
attribute [local irreducible] Al W Wq Wt
section
variable {w:World} {q n c m s:Nat} {k:Int} {f:Nat→Int}
set_option maxRecDepth 20000 in
theorem HV {i j:Nat} (hd:w.heap[q]? = some (Bl 32 (B4 f m))) (hs:w.heap[s]? = some (Bl 3 [.int .i64 k])) (hj:j<n) (hn:n≤m) (_:n≤1000000000)  (hi:i<n:=by omega):
  Ret Tryz.prog 281 #[.slice (some ⟨q,0,none⟩) n c,.int .i64 (i:Int),.int .i64 (j:Int),ptr s] w fun v w'=>∃ (x y:Nat) (k':Int),((x=i∧y=j)∨(x=j∧y=i))∧v = .tuple #[.int .i64 (x:Int),.int .i64 (y:Int)]∧Ctx w [s] w' [(s,Bl 3 [.int .i64 k'])]:=by
 obtain ⟨w0,rfl⟩:∃ w0,w0=w:=⟨_,rfl⟩;have H:=Ctx.start1 hs;refine Au (fn:=Tryz.f281) Tryz.func281 U [.slice (some ⟨q,0,none⟩) n c,.int .i64 (i:Int),.int .i64 (j:Int),.pointer (some ⟨s,0,none⟩)] U ?_;refine Ag (Ae U (Ae U (Ab (Aa (Ax (El 8 Bz U U ?_))))));refine Bx U (AJ U (Bc AP AB U U ?_));refine CR Bm U (by rintro _ rfl; exact ((Bv (w:=w0.drew) hd))) ?_;refine Bx U (AJ U (Bc AP AB U U ?_));refine CR Bm U (by rintro _ rfl; exact ((Bv (w:=w0.drew) hd))) ?_;refine BZ ?_;replace H:=H.drew;refine Ai Dz (CN _ _ _) U ?_;rintro v w ⟨rfl,rfl⟩;refine Ab (Aa (Ay _ U ?_ ?_))
 ·intro h1;refine Ag (AA U (Bb U (AH ER U H at0 U (MZ U U U ?_))));intro k2;refine Bb U (Ck (.int _ _) sz_3 U U U H at0 (by (simp; done)) ?_);rintro w H;refine Ab (Aa (Ag (Ad U (Ad U (Ae U (Ae U (Ab (Aa (A9 (A7 (C6 (v1:=(.int _ _)) (v2:=(.int _ _)) U U U U ?_)))))))))));exact ⟨j,i,k2,.inr ⟨rfl,rfl⟩,rfl,H⟩
 ·intro h1;refine A2 (Aa (Ag (Ad U (Ad U (Ae U (Ae U (Ab (Aa (A9 (C6 (v1:=(.int _ _)) (v2:=(.int _ _)) U U U U ?_))))))))));exact ⟨i,j,k,.inl ⟨rfl,rfl⟩,rfl,H⟩
set_option maxRecDepth 20000 in
theorem KN {i j l:Nat} (hd:w.heap[q]? = some (Bl 32 (B4 f m))) (hs:w.heap[s]? = some (Bl 3 [.int .i64 k])) (hne:q≠s) (hn:n≤m) (hm:n≤1000000000)  (hi:i<n:=by omega) (hj:j<n:=by omega) (hl:l<n:=by omega):
  Ret Tryz.prog 270 #[.slice (some ⟨q,0,none⟩) n c,.int .i64 (i:Int),.int .i64 (j:Int),.int .i64 (l:Int),ptr s] w fun v w'=>∃ (x:Nat) (k':Int),(x=i∨x=j∨x=l)∧v = .int .i64 (x:Int)∧Ctx w [s] w' [(s,Bl 3 [.int .i64 k'])]:=by
 obtain ⟨w0,rfl⟩:∃ w0,w0=w:=⟨_,rfl⟩;have H:=Ctx.start1 hs;have hq:q∉[s]:=by rw [List.mem_singleton]; exact hne
 refine Au (fn:=Tryz.f270) Tryz.func270 U [.slice (some ⟨q,0,none⟩) n c,.int .i64 (i:Int),.int .i64 (j:Int),.int .i64 (l:Int),.pointer (some ⟨s,0,none⟩)] U ?_;refine Ag (Ae U (Ab (Aa (Ag (An U U (Ad U (Ad U (AA U (Ai NX (HV (i:=i) (j:=j) (H.ext.to hd hq) (H.get at0) (hi:=hi) hj hn hm) U ?_)))))))));rintro v w ⟨x1,y1,k1,h1,rfl,H2⟩;replace H:=Ctx.back (L1:=[_]) (L2:=[]) H H2;refine C9 U (AO U U (AO U U (Ae U (Ae U (Ab (Aa (Ag (An U U (Ad U (Ad U ?_))))))))));refine AA U (Ai NX (HV (i:=y1) (j:=l) (H.ext.to hd hq) (H.get at0) hl hn hm) U ?_);rintro v w ⟨x2,y2,k2,h2,rfl,H2⟩;replace H:=Ctx.back (L1:=[_]) (L2:=[]) H H2;refine C9 U (AO U U (AO U U (Ae U (Ae U (Ab (Aa (Ag (An U U (Ad U (Ad U ?_))))))))));refine AA U (Ai NX (HV (i:=x1) (j:=x2) (H.ext.to hd hq) (H.get at0) (by omega) hn hm) U ?_)
 rintro v w ⟨x3,y3,k3,h3,rfl,H2⟩;replace H:=Ctx.back (L1:=[_]) (L2:=[]) H H2;refine C9 U (AO U U (AO U U (Ae U (Ae U (Ab (Aa (Ag (Ad U (Ae U (Ab (Aa ?_)))))))))));refine A9 (AD (v:=(.int _ _)) U U U ?_);exact ⟨y3,k3,by omega,rfl,H⟩
set_option maxRecDepth 20000 in
theorem Fs {i:Nat} (hd:w.heap[q]? = some (Bl 32 (B4 f m))) (hs:w.heap[s]? = some (Bl 3 [.int .i64 k])) (hne:q≠s) (hn:n≤m) (hm:n≤1000000000)  (hi0:0<i:=by omega) (hi:i+1<n:=by omega):
  Ret Tryz.prog 269 #[.slice (some ⟨q,0,none⟩) n c,.int .i64 (i:Int),ptr s] w fun v w'=>∃ (x:Nat) (k':Int),(x+1=i∨x=i∨x=i+1)∧v = .int .i64 (x:Int)∧Ctx w [s] w' [(s,Bl 3 [.int .i64 k'])]:=by
 obtain ⟨w0,rfl⟩:∃ w0,w0=w:=⟨_,rfl⟩;refine Au (fn:=Tryz.f269) Tryz.func269 U [.slice (some ⟨q,0,none⟩) n c,.int .i64 (i:Int),.pointer (some ⟨s,0,none⟩)] U ?_;refine Ag (Ae U (Ab (Aa (Ag (An U U (Ad U (AN U U ?_)))))));rw [show (i:Int) - 1=((i - 1:Nat):Int) by omega];refine Ad U (Ad U (A3 U U ?_));rw [show (i:Int)+1=((i+1:Nat):Int) by omega];refine AA U (Ai Sq (KN (i:=i - 1) (j:=i) (l:=i+1) hd hs hne hn hm) U ?_);rintro v w ⟨x1,k1,h1,rfl,H⟩;refine Ae U (Ab (Aa (A9 (AD (v:=(.int _ _)) U U U ?_))));exact ⟨x1,k1,by omega,rfl,H⟩
set_option maxRecDepth 20000 in
set_option maxHeartbeats 2000000 in
theorem Ta {a b:Nat} (hd:w.heap[q]? = some (Bl 32 (B4 f m))) (hn:n≤m) (hm:n≤1000000000)  (hab:a<b:=by omega) (hb:b≤n:=by omega):
  Ret Tryz.prog 237 #[.slice (some ⟨q,0,none⟩) n c,.int .i64 (a:Int),.int .i64 (b:Int)] w fun v w'=>∃ (x:Nat) (h:Int),a≤x∧x<b∧v = .tuple #[.int .i64 (x:Int),.int .i64 h]∧Ext [] w w':=by
 obtain ⟨w0,rfl⟩:∃ w0,w0=w:=⟨_,rfl⟩;have H:=Ctx.start w0 [];obtain ⟨l,rfl⟩:∃ l,b=a+l:=⟨b - a,by omega⟩;have hl:((a+l:Nat):Int) - (a:Int)=(l:Int):=by omega
 have hql:=Bq hd;refine Au (fn:=Tryz.f237) Tryz.func237 U [.slice (some ⟨q,0,none⟩) n c,.int .i64 (a:Int),.int .i64 ((a+l:Nat):Int)] U ?_;refine Ag (Ae U (Ae U (Ab (Aa (Ag (Ad U (Ad U (AN U U ?_))))))));rw [hl];refine Ae U (Ab (Aa (Ag (B5 zc_3 H ?_))));rintro b9 w - H;refine Ab (Aa (Ag (Ad U (Ad U (G8 U U (show _≤(9223372036854775807:Int) by omega) ?_)))));refine C1 U U ?_;refine A3 U U ?_;rw [show (a:Int)+(l:Int) / 4*1=((a+l / 4:Nat):Int) by omega];refine Ae U (Ab (Aa (Ag (Ad U (Ad U (G8 U U (show _≤(9223372036854775807:Int) by omega) ?_))))));refine C1 U U ?_;refine A3 U U ?_;rw [show (a:Int)+(l:Int) / 4*2=((a+l / 4*2:Nat):Int) by omega]
 refine Ae U (Ab (Aa (Ag (Ad U (Ad U (G8 U U (show _≤(9223372036854775807:Int) by omega) ?_))))));refine C1 U U ?_;refine A3 U U ?_;rw [show (a:Int)+(l:Int) / 4*3=((a+l / 4*3:Nat):Int) by omega];refine Ae U (Ab (Aa (Ax (Ag (Ad U (Ci U U (Ab (Aa ?_))))))));have hqs:=H.own _ (List.mem_cons_self ..)
 have hne:q≠b9:=fun e=>by subst e; rcases hqs with h | h; cases h; dsimp only at h; omega
 refine Dl 562941363493888 (α:=Nat × Int) (fun z=>[(11,.int .i64 (z.1:Int))]) (fun z w'=>a≤z.1∧z.1<a+l∧Ctx w0 [] w' [(b9,Bl 3 [.int .i64 z.2])]) U ?_ ?_
 ·skip
  refine Ay _ U ?_ ?_
  ·intro h1;replace h1:=AX h1;refine Ax (Ag (Ad U (Ci U U (Ab (Aa (Dl 17557826313216 (α:=Nat × Nat × Nat × Int) (fun z=>[(10,.int .i64 (z.1:Int)),(11,.int .i64 (z.2.1:Int)),(12,.int .i64 (z.2.2.1:Int))]) (fun z w'=>(a≤z.1∧z.1<a+l)∧(a≤z.2.1∧z.2.1<a+l)∧(a≤z.2.2.1∧z.2.2.1<a+l)∧Ctx w0 [] w' [(b9,Bl 3 [.int .i64 z.2.2.2])]) U ?_ ?_))))))
   ·skip
    refine Ay _ U ?_ ?_
    ·intro h2;replace h2:=AX h2;refine Ag (An U U (Ad U (Ai NW (Fs (i:=a+l / 4) (H.ext.to hd (by simp)) (H.get at0) hne hn hm) U ?_)));rintro v w ⟨x1,k1,h3,rfl,H2⟩;replace H:=Ctx.back (L1:=[_]) (L2:=[]) H H2;refine Ae U (Ab (Aa (Ag (An U U (Ad U (Ai NW (Fs (i:=a+l / 4*2) (H.ext.to hd (by simp)) (H.get at0) hne hn hm) U ?_))))));rintro v w ⟨x2,k2,h4,rfl,H2⟩;replace H:=Ctx.back (L1:=[_]) (L2:=[]) H H2;refine Ae U (Ab (Aa (A5 (An U U (Ad U (Ai NW (Fs (i:=a+l / 4*3) (H.ext.to hd (by simp)) (H.get at0) hne hn hm) U ?_))))));rintro v w ⟨x3,k3,h5,rfl,H2⟩;replace H:=Ctx.back (L1:=[_]) (L2:=[]) H H2;refine Ae U (Ab (Aa ?_));exact ⟨(x1,x2,x3,k3),rfl,⟨rfl,rfl,rfl,trivial⟩,by dsimp only; omega,by dsimp only; omega,by dsimp only; omega,H⟩
    ·intro h2;replace h2:=AY h2;refine A2 (Aa ?_);exact ⟨(a+l / 4,a+l / 4*2,a+l / 4*3,_),rfl,⟨rfl,rfl,rfl,trivial⟩,by dsimp only; omega,by dsimp only; omega,by dsimp only; omega,H⟩
   ·rintro ⟨x1,x2,x3,k1⟩ j1 w ⟨g1,g2,g3,H⟩; dsimp only at g1 g2 g3 H; dsimp only;refine A5 (An U U (Ad U (Ad U (Ad U (Ai Sq (KN (i:=x1) (j:=x2) (l:=x3) (H.ext.to hd (by simp)) (H.get at0) hne hn hm) U ?_)))));rintro v w ⟨x4,k4,h3,rfl,H2⟩;replace H:=Ctx.back (L1:=[_]) (L2:=[]) H H2;refine Ae U (Ab (Aa ?_));exact ⟨(x4,k4),rfl,⟨rfl,trivial⟩,by dsimp only; omega,by dsimp only; omega,H⟩
  ·intro h1;replace h1:=AY h1;refine A2 (Aa ?_);exact ⟨(a+l / 4*2,_),rfl,⟨rfl,trivial⟩,by dsimp only; omega,by dsimp only; omega,H⟩
 ·rintro ⟨x,k⟩ j w ⟨g1,g2,H⟩; dsimp only at g1 g2 H; dsimp only;refine Ag (AH ER U H at0 U (Ab (Aa (A4 (Ag (Cp U U (Am U (Ab (Aa (Ay _ U ?_ ?_))))))))))
  ·intro h1;replace h1:=AX h1;refine Ag (Ad U (Ae U (Ae U (Ab (Aa (A9 (Bd (C6 (v1:=(.int _ _)) (v2:=(.int _ _)) U U U U ?_))))))));exact ⟨x,_,g1,g2,rfl,H.ext⟩
  ·intro h2;replace h2:=AY h2;refine Ag (Cp U U (Am U (Ab (Aa (Ay _ U ?_ ?_)))))
   ·intro h3;replace h3:=AX h3;refine Ag (Ad U (Ae U (Ae U (Ab (Aa (A9 (Bd (C6 (v1:=(.int _ _)) (v2:=(.int _ _)) U U U U ?_))))))));exact ⟨x,_,g1,g2,rfl,H.ext⟩
   ·intro h4;replace h4:=AY h4;refine Ag (Ad U (Ae U (Ae U (Ab (Aa (A9 (Bd (C6 (v1:=(.int _ _)) (v2:=(.int _ _)) U U U U ?_))))))));exact ⟨x,_,g1,g2,rfl,H.ext⟩
set_option maxRecDepth 20000 in
set_option maxHeartbeats 2000000 in
theorem Oe {a b:Nat} (hd:w.heap[q]? = some (Bl 32 (B4 f m))) (hn:n≤m) (hm:n≤1000000000)  (hab:a<b:=by omega) (hb:b≤n:=by omega):
  Ret Tryz.prog 238 #[.slice (some ⟨q,0,none⟩) n c,.int .i64 (a:Int),.int .i64 (b:Int)] w fun v w'=>v = .tuple #[]∧∃ g,Sw a b f g∧Ctx w [q] w' [(q,Bl 32 (B4 g m))]:=by
 obtain ⟨w0,rfl⟩:∃ w0,w0=w:=⟨_,rfl⟩;have H:=Ctx.start1 hd;refine Au (fn:=Tryz.f238) Tryz.func238 U [.slice (some ⟨q,0,none⟩) n c,.int .i64 (a:Int),.int .i64 (b:Int)] U ?_;refine Ag (Ad U (Ae U (Ab (Aa (Ag (Ad U (AN U U ?_)))))));rw [show (b:Int) - 1=((b - 1:Nat):Int) by omega];refine Ae U (Ab (Aa (A4 (Bt 4294965440 (α:=Nat × Nat × (Nat→Int)) (fun t=>[(6,.int .i64 (t.1:Int)),(7,.int .i64 (t.2.1:Int))]) (fun t w'=>a≤t.1∧t.2.1<b∧t.1≤b∧Sw a b f t.2.2∧Ctx w0 [q] w' [(q,Bl 32 (B4 t.2.2 m))]) (fun t=>b - t.1) (a,b - 1,f) U ?_ ?_ ?_))))
 ·exact ⟨rfl,rfl,trivial⟩
 ·exact ⟨Nat.le_refl _,by dsimp only; omega,by dsimp only; omega,.refl _,H⟩
 ·rintro ⟨i,j,g⟩ j0 w ⟨g1,g2,g3,hS,H⟩; dsimp only at g1 g2 g3 hS H; dsimp only;refine Ax (Ag (Ad U (Ad U (Bu U U (Ab (Aa (Ay _ U ?_ ?_)))))))
  ·intro h1;replace h1:=AX h1;refine A2 (Aa (A4 (BT [([0,1,2,3,4,5,6,7,8,9,10,11,12],13),([14],15)] (fun z=>z.heap[q]? = some (Bl 32 (B4 g m))) [13,15] Bz (H.drew.get at0) ?_)));refine A0 U U ?_;refine AM U (AG U (AM U (AG U (AM U (AG U (Aw AP AB U U ?_))))));refine BE Bm U (fun _ hx=>(Bv hx)) ?_;refine AM U (AG U (Aw AP AB U U ?_));refine BE Bm U (fun _ hx=>(Bv hx)) ?_;refine Aw AP AB U U ?_;refine Ba ?_;replace H:=H.drew;refine BR i (fun z => .int .u64 (if z=i then g j else g z)) (.int _ _) AB U U U H at0 (by rw [if_pos rfl]; exact congrArg (fun z=>Value.int .u64 (g z)) (by omega)) (fun z _ hz=>by rw [if_neg hz]) ?_;rintro w H;refine Ab (Bo U (A0 U U ?_));refine Aw AP AB U U ?_
   refine Ba (BR j (fun z => .int .u64 (sw g i j z)) (.int _ _) AB U U U H at0 (by rw [Cl]; exact congrArg (fun z=>Value.int .u64 (g z)) (by omega)) (fun z _ hz=>by rw [Cj hz]) ?_);rintro w H;refine Ab (Bo U (B6 (Ag (Ad U (A3 U U ?_)))));refine Ae U (Ab (Aa (A5 (Ad U (AN U U ?_)))));refine Ae U (Ab (AU (Aa ?_)));exact ⟨(i+1,j - 1,sw g i j),rfl,⟨congrArg (Value.int .i64) (by dsimp only; omega),congrArg (Value.int .i64) (by dsimp only; omega),trivial⟩,⟨by dsimp only; omega,by dsimp only; omega,by dsimp only; omega,hS.step i j ⟨by omega,by omega⟩ ⟨by omega,by omega⟩,H⟩,by dsimp only; omega⟩
  ·intro h1;replace h1:=AY h1;refine Bs (Ao (Ao (AK (CW U U ?_))));exact ⟨rfl,g,hS,H⟩
end
end Go.Proofs.YtibemkominehdaaGreat
