/- Part 4 of the proof. -/
import Derived.Test.YtapphbmlkdhnmaaGreatPart2
import Derived.Test.YtapphbmlkdhnmaaGreatPart3
/- Plain law of flows: sums, what comes to a node, what stands over; cuts; the best is the least. -/
namespace Go.Proofs.YtapphbmlkdhnmaaGreat
open Go.GV

theorem Q1 (a b:Int):a<b∨b≤a:=by omega
def B7 (f:Nat→Int):Nat→Int
 | 0=>0
 | k+1=>B7 f k+f k
theorem C4 {f g:Nat→Int}:∀ {k:Nat},(∀ i,i<k→f i=g i)→B7 f k=B7 g k
 | 0,_=>rfl
 | k+1,h=>by
  show B7 f k+f k=B7 g k+g k
  rw [C4 fun i hi=>h i (by omega),h k (by omega)]
theorem LZ (f g:Nat→Int):∀ k,B7 (fun i=>f i+g i) k=B7 f k+B7 g k
 | 0=>rfl
 | k+1=>by
  show B7 _ k+(f k+g k)=(B7 f k+f k)+(B7 g k+g k)
  rw [LZ f g k]; omega
theorem Pt (f:Nat→Int):∀ k,B7 (fun i => -f i) k = -B7 f k
 | 0=>rfl
 | k+1=>by
  show B7 _ k + -f k = -(B7 f k+f k)
  rw [Pt f k]; omega
theorem J7 (f g:Nat→Int) (k:Nat):B7 (fun i=>f i - g i) k=B7 f k - B7 g k:=by
 have h:=LZ f (fun i => -g i) k
 rw [Pt] at h
 exact h
theorem Pu (c:Int) (f:Nat→Int):∀ k,B7 (fun i=>c*f i) k=c*B7 f k
 | 0=>by show (0:Int)=c*0; omega
 | k+1=>by
  show B7 _ k+c*f k=c*(B7 f k+f k)
  rw [Pu c f k,Int.mul_add]
theorem Gg:∀ k,B7 (fun _=>0) k=0
 | 0=>rfl
 | k+1=>by show B7 _ k+0=0; rw [Gg k]; rfl
theorem GP {f:Nat→Int}:∀ {k:Nat},(∀ i,i<k→0≤f i)→0≤B7 f k
 | 0,_=>Int.le_refl _
 | k+1,h=>by
  have:=GP (k:=k) fun i hi=>h i (by omega)
  have:=h k (by omega)
  show 0≤B7 f k+f k
  omega
theorem Jl {f g:Nat→Int} {k:Nat} (h:∀ i,i<k→f i≤g i):B7 f k≤B7 g k:=by
 have h1:=GP (f:=fun i=>g i - f i) (k:=k) fun i hi=>by have:=h i hi; omega
 rw [J7] at h1
 omega
theorem Pv {f:Nat→Int}:∀ {k:Nat} {j:Nat},(∀ i,i<k→0≤f i)→j<k→0<f j→0<B7 f k
 | k+1,j,h,hj,hp=>by
  show 0<B7 f k+f k
  have h1:=GP (k:=k) fun i hi=>h i (by omega)
  have h2:=h k (by omega)
  by_cases e:j=k
  ·subst e; omega
  ·have:=Pv (k:=k) (j:=j) (fun i hi=>h i (by omega)) (by omega) hp
   omega
theorem MQ (f:Nat→Nat→Int) (m:Nat):∀ k,B7 (fun i=>B7 (f i) m) k=B7 (fun j=>B7 (fun i=>f i j) k) m
 | 0=>(Gg m).symm
 | k+1=>by
  show B7 _ k+B7 (f k) m=B7 (fun j=>B7 (fun i=>f i j) k+f k j) m
  rw [LZ,MQ f m k]
/-- 1 if so. -/
def one (b:Prop) [Decidable b]:Int:=if b then 1 else 0
theorem G1 (g:Nat→Int) {u:Nat}:∀ {k:Nat},u<k→B7 (fun v=>one (u=v)*g v) k=g u
 | k+1,h=>by
  show B7 _ k+one (u=k)*g k=g u
  by_cases e:u=k
  ·subst e
   have h1:B7 (fun v=>one (u=v)*g v) u=B7 (fun _=>0) u:=C4 fun i hi=>by
    unfold one; rw [if_neg (by omega)]; omega
   rw [h1,Gg,one,if_pos rfl]; omega
  ·rw [G1 g (by omega:u<k),one,if_neg e]; omega

/-- Edges between nodes, at a cost. -/
structure Gr where
 N:Nat
 E:Nat
 f:Nat→Nat
 t:Nat→Nat
 co:Nat→Int
structure Gr.Ok (g:Gr):Prop where
 f:∀ i,i<g.E→g.f i<g.N
 t:∀ i,i<g.E→g.t i<g.N
/-- What comes to a node of the first edges, less what goes. -/
def Ee (g:Gr) (x:Nat→Int) (k v:Nat):Int:=B7 (fun i=>(one (g.t i=v) - one (g.f i=v))*x i) k
def BA (g:Gr) (x:Nat→Int) (v:Nat):Int:=Ee g x g.E v
def Gh (g:Gr) (x:Nat→Int):Int:=B7 (fun i=>x i*g.co i) g.E
theorem So (g:Gr) (hg:g.Ok) (x r:Nat→Int):B7 (fun v=>BA g x v*r v) g.N=B7 (fun i=>(r (g.t i) - r (g.f i))*x i) g.E:=by
 have h1:B7 (fun v=>BA g x v*r v) g.N=B7 (fun v=>B7 (fun i=>(one (g.t i=v) - one (g.f i=v))*x i*r v) g.E) g.N:=C4 fun v _=>by
  unfold BA Ee
  rw [Int.mul_comm,← Pu]
  exact C4 fun i _=>by rw [Int.mul_comm]
 rw [h1,← MQ]
 refine C4 fun i hi=>?_
 have h2:B7 (fun v=>(one (g.t i=v) - one (g.f i=v))*x i*r v) g.N=B7 (fun v=>one (g.t i=v)*(x i*r v) - one (g.f i=v)*(x i*r v)) g.N:=C4 fun v _=>by
  rw [Int.mul_assoc,Int.sub_mul]
 rw [h2,J7,G1 (fun v=>x i*r v) (hg.t i hi),G1 (fun v=>x i*r v) (hg.f i hi),Int.sub_mul,Int.mul_comm (r _),Int.mul_comm (r _)]
theorem over_all (g:Gr) (hg:g.Ok) (x:Nat→Int):B7 (BA g x) g.N=0:=by
 have h:=So g hg x fun _=>1
 have h1:B7 (fun v=>BA g x v*1) g.N=B7 (BA g x) g.N:=C4 fun v _=>by omega
 rw [← h1,h]
 have h2:B7 (fun i=>((1:Int) - 1)*x i) g.E=B7 (fun _=>0) g.E:=C4 fun i _=>by omega
 rw [h2,Gg]

/-! ### Arcs -/
def Gr.u (g:Gr) (a:Nat):Nat:=if a % 2=0 then g.f (a / 2) else g.t (a / 2)
def Gr.v (g:Gr) (a:Nat):Nat:=if a % 2=0 then g.t (a / 2) else g.f (a / 2)
def Gr.c (g:Gr) (a:Nat):Int:=if a % 2=0 then g.co (a / 2) else -g.co (a / 2)
def CI (cap x:Nat→Int) (a:Nat):Int:=if a % 2=0 then cap (a / 2) - x (a / 2) else x (a / 2)
def Gr.len (g:Gr) (p:Nat→Int) (a:Nat):Int:=g.c a+p (g.u a) - p (g.v a)
/-- A flow within its caps, and numbers that fit it. -/
structure Fine (g:Gr) (cap x p:Nat→Int):Prop where
 in':∀ i,i<g.E→0≤x i∧x i≤cap i
 fit:∀ a,a<2*g.E→0<CI cap x a→0≤g.len p a
theorem Gr.Ok.u {g:Gr} (h:g.Ok) {a:Nat} (ha:a<2*g.E):g.u a<g.N:=by
 unfold Gr.u; split
 ·exact h.f _ (by omega)
 ·exact h.t _ (by omega)
theorem Gr.Ok.v {g:Gr} (h:g.Ok) {a:Nat} (ha:a<2*g.E):g.v a<g.N:=by
 unfold Gr.v; split
 ·exact h.t _ (by omega)
 ·exact h.f _ (by omega)
theorem Jm (g:Gr) (i:Nat):g.u (2*i)=g.f i∧g.v (2*i)=g.t i∧g.c (2*i)=g.co i:=by
 unfold Gr.u Gr.v Gr.c
 rw [if_pos (by omega),if_pos (by omega),if_pos (by omega),show 2*i / 2=i by omega]
 exact ⟨rfl,rfl,rfl⟩
theorem KD (g:Gr) (i:Nat):g.u (2*i+1)=g.t i∧g.v (2*i+1)=g.f i∧g.c (2*i+1) = -g.co i:=by
 unfold Gr.u Gr.v Gr.c
 rw [if_neg (by omega),if_neg (by omega),if_neg (by omega),show (2*i+1) / 2=i by omega]
 exact ⟨rfl,rfl,rfl⟩
theorem Fine.fwd {g:Gr} {cap x p:Nat→Int} (h:Fine g cap x p) {i:Nat} (hi:i<g.E) (hr:x i<cap i):0≤g.co i+p (g.f i) - p (g.t i):=by
 have h1:=h.fit (2*i) (by omega) (by unfold CI; rw [if_pos (by omega),show 2*i / 2=i by omega]; omega)
 obtain ⟨a,b,c⟩:=Jm g i
 unfold Gr.len at h1
 rwa [a,b,c] at h1
theorem Fine.bwd {g:Gr} {cap x p:Nat→Int} (h:Fine g cap x p) {i:Nat} (hi:i<g.E) (hr:0<x i):g.co i+p (g.f i) - p (g.t i)≤0:=by
 have h1:=h.fit (2*i+1) (by omega) (by unfold CI; rw [if_neg (by omega),show (2*i+1) / 2=i by omega]; exact hr)
 obtain ⟨a,b,c⟩:=KD g i
 unfold Gr.len at h1
 rw [a,b,c] at h1
 omega
theorem Fine.of {g:Gr} {cap x p:Nat→Int} (h0:∀ i,i<g.E→0≤x i∧x i≤cap i) (h1:∀ i,i<g.E→x i<cap i→0≤g.co i+p (g.f i) - p (g.t i)) (h2:∀ i,i<g.E→0<x i→g.co i+p (g.f i) - p (g.t i)≤0):Fine g cap x p:=by
 refine ⟨h0,fun a ha hr=>?_⟩
 have hm:a % 2=0∨a % 2=1:=by omega
 unfold Gr.len
 rcases hm with hm | hm
 ·obtain ⟨b,c,d⟩:=Jm g (a / 2)
  rw [show 2*(a / 2)=a by omega] at b c d
  rw [b,c,d]
  unfold CI at hr
  rw [if_pos hm] at hr
  exact h1 _ (by omega) (by omega)
 ·obtain ⟨b,c,d⟩:=KD g (a / 2)
  rw [show 2*(a / 2)+1=a by omega] at b c d
  rw [b,c,d]
  unfold CI at hr
  rw [if_neg (by omega)] at hr
  have:=h2 _ (by omega) hr
  omega
/-- A flow with numbers that fit costs no more than any other one that goes round. -/
theorem Fine.best {g:Gr} (hg:g.Ok) {cap x p:Nat→Int} (h:Fine g cap x p) (hx:∀ v,v<g.N→BA g x v=0) {y:Nat→Int} (hy:∀ i,i<g.E→0≤y i∧y i≤cap i) (hyo:∀ v,v<g.N→BA g y v=0):Gh g x≤Gh g y:=by
 have hz:∀ z:Nat→Int,(∀ v,v<g.N→BA g z v=0)→Gh g z=B7 (fun i=>(g.co i+p (g.f i) - p (g.t i))*z i) g.E:=fun z hz=>by
  have h1:=So g hg z p
  have h2:B7 (fun v=>BA g z v*p v) g.N=B7 (fun _=>0) g.N:=C4 fun v hv=>by rw [hz v hv]; omega
  rw [h2,Gg] at h1
  have h3:B7 (fun i=>(g.co i+p (g.f i) - p (g.t i))*z i) g.E=B7 (fun i=>z i*g.co i - (p (g.t i) - p (g.f i))*z i) g.E:=C4 fun i _=>by
   rw [Int.mul_comm (z i),← Int.sub_mul]; congr 1; omega
  rw [h3,J7,← h1]
  unfold Gh
  omega
 rw [hz x hx,hz y hyo]
 refine Jl fun i hi=>?_
 obtain ⟨a,b⟩:=h.in' i hi
 obtain ⟨c,d⟩:=hy i hi
 rcases Q1 (g.co i+p (g.f i) - p (g.t i)) 0 with h5 | h5
 ·have h6:x i=cap i:=by
   rcases Q1 (x i) (cap i) with h7 | h7
   ·have:=h.fwd hi h7; omega
   ·omega
  exact Int.mul_le_mul_of_nonpos_left (by omega) (by omega)
 ·rcases Q1 0 (g.co i+p (g.f i) - p (g.t i)) with h6 | h6
  ·have h7:x i=0:=by
    rcases Q1 0 (x i) with h7 | h7
    ·have:=h.bwd hi h7; omega
    ·omega
   exact Int.mul_le_mul_of_nonneg_left (by omega) (by omega)
  ·rw [show g.co i+p (g.f i) - p (g.t i)=0 by omega]; omega

end Go.Proofs.YtapphbmlkdhnmaaGreat

/- Plain law of shortest ways: labels of nodes, set right arc by arc. -/
namespace Go.Proofs.YtapphbmlkdhnmaaGreat
open Go.GV

/-- Labels of nodes: how far (below 0: not reached), over how many arcs. -/
structure Lb where
 d:Nat→Int
 h:Nat→Nat
def le2 (d1:Int) (h1:Nat) (d2:Int) (h2:Nat):Prop:=d1<d2∨(d1=d2∧h1≤h2)
theorem le2.trans {a b c:Int} {x y z:Nat} (h1:le2 a x b y) (h2:le2 b y c z):le2 a x c z:=by unfold le2 at *; omega
theorem le2.refl (a:Int) (x:Nat):le2 a x a x := .inr ⟨rfl,Nat.le_refl _⟩
def DQ (s:Lb) (v:Nat) (d:Int) (h:Nat):Prop:=s.d v = -1∨d<s.d v∨(d=s.d v∧h<s.h v)
instance (s:Lb) (v:Nat) (d:Int) (h:Nat):Decidable (DQ s v d h):=by unfold DQ; infer_instance
def GQ (s:Lb) (v:Nat) (d:Int) (h:Nat):Lb:=⟨fun u=>if u=v then d else s.d u,fun u=>if u=v then h else s.h u⟩
def Gi (s:Lb) (a:Ar):Lb:=if DQ s a.2.1 (s.d a.1+a.2.2) (s.h a.1+1) then GQ s a.2.1 (s.d a.1+a.2.2) (s.h a.1+1) else s
def Hz (s:Lb) (a:Ar) (hp:List (Int × Nat)):List (Int × Nat):=if DQ s a.2.1 (s.d a.1+a.2.2) (s.h a.1+1) then (s.d a.1+a.2.2,a.2.1)::hp else hp
/-- Arcs that may be. -/
def Pw (A:List Ar) (n:Nat) (m:Int):Prop:=∀ a∈A,a.1<n∧a.2.1<n∧0≤a.2.2∧a.2.2≤m
structure DJ (A:List Ar) (src:List Nat) (n:Nat) (m:Int) (s:Lb):Prop where
 low:∀ v,s.d v = -1∨0≤s.d v
 src':∀ v∈src,v<n∧s.d v=0∧s.h v=0
 zero:∀ v,s.d v ≠ -1→s.h v=0→v∈src
 none':∀ v,s.d v = -1→s.h v=0
 pre:∀ v,s.d v ≠ -1→s.h v≠0→∃ a∈A,a.2.1=v∧s.d a.1 ≠ -1∧le2 (s.d a.1+a.2.2) (s.h a.1+1) (s.d v) (s.h v)
 walk:∀ v,s.d v ≠ -1→∃ W:List Nat,W.Nodup∧W.length=s.h v+1∧∀ x∈W,x<n∧s.d x ≠ -1∧le2 (s.d x) (s.h x) (s.d v) (s.h v)
 bnd:∀ v,s.d v ≠ -1→s.d v≤s.h v*m
def Rlx (s:Lb) (a:Ar):Prop:=s.d a.2.1 ≠ -1∧le2 (s.d a.2.1) (s.h a.2.1) (s.d a.1+a.2.2) (s.h a.1+1)
/-- Each node's arcs are done, or it waits; of u those of done are. -/
def Clo (A:List Ar) (s:Lb) (hp:List (Int × Nat)) (u:Nat) (done:List Ar):Prop :=
 ∀ v,s.d v ≠ -1→(s.d v,v)∈hp∨∀ a∈A,a.1=v→(v=u→a∈done)→Rlx s a
def Wh (n:Nat) (m:Int) (s:Lb) (v:Nat):Int:=if s.d v = -1 then n*m*64+64 else s.d v*64+s.h v
def meas (n:Nat) (m:Int) (s:Lb) (hp:List (Int × Nat)):Int:=2*B7 (Wh n m s) n+hp.length
theorem DJ.hops {A:List Ar} {src:List Nat} {n:Nat} {m:Int} {s:Lb} (J:DJ A src n m s) {v:Nat} (hv:s.d v ≠ -1):s.h v+1≤n:=by
 obtain ⟨W,h1,h2,h3⟩:=J.walk v hv
 rw [← h2]
 exact KA n W h1 fun x hx=>(h3 x hx).1
section
variable {A:List Ar} {src:List Nat} {n:Nat} {m:Int} {s:Lb} {hp:List (Int × Nat)} {u:Nat} {dn:List Ar} {a:Ar}
theorem DJ.relax (hA:Pw A n m) (hm:0≤m) (hn:n≤60) (J:DJ A src n m s) (K:Clo A s hp u dn) (ha:a∈A) (hu:a.1=u) (hd:s.d u ≠ -1) :
  DJ A src n m (Gi s a)∧Clo A (Gi s a) (Hz s a hp) u (dn++[a])∧(Gi s a).d u=s.d u∧(Gi s a).h u=s.h u∧meas n m (Gi s a) (Hz s a hp)≤meas n m s hp:=by
 subst hu
 obtain ⟨hu1,hv1,hl0,hlm⟩:=hA a ha
 have hdu:=(J.low a.1).resolve_left hd
 by_cases hb:DQ s a.2.1 (s.d a.1+a.2.2) (s.h a.1+1)
 ·obtain ⟨d',hd'⟩:∃ d',d'=s.d a.1+a.2.2:=⟨_,rfl⟩
  obtain ⟨h',hh'⟩:∃ h',h'=s.h a.1+1:=⟨_,rfl⟩
  obtain ⟨v,hv⟩:∃ v,v=a.2.1:=⟨_,rfl⟩
  have hS:Gi s a=GQ s v d' h':=by unfold Gi; rw [if_pos hb,hd',hh',hv]
  have hH:Hz s a hp=(d',v)::hp:=by unfold Hz; rw [if_pos hb,hd',hv]
  rw [← hd',← hh',← hv] at hb
  rw [← hv] at hv1
  have hvu:v≠a.1:=fun e=>by
   unfold DQ at hb; rw [e] at hb
   omega
  rw [hS,hH]
  have p1:(GQ s v d' h').d v=d':=if_pos rfl
  have p2:(GQ s v d' h').h v=h':=if_pos rfl
  have p3:∀ x,x≠v→(GQ s v d' h').d x=s.d x:=fun x hx=>if_neg hx
  have p4:∀ x,x≠v→(GQ s v d' h').h x=s.h x:=fun x hx=>if_neg hx
  have hsrc:v∉src:=fun hs=>by
   obtain ⟨_,q1,q2⟩:=J.src' v hs
   unfold DQ at hb; rw [q1,q2] at hb; omega
  -- labels become no greater
  have hless:∀ x,s.d x ≠ -1→(GQ s v d' h').d x ≠ -1∧le2 ((GQ s v d' h').d x) ((GQ s v d' h').h x) (s.d x) (s.h x):=fun x hx=>by
   by_cases e:x=v
   ·subst e
    rw [p1,p2]
    unfold DQ at hb
    exact ⟨by omega,by unfold le2; omega⟩
   ·rw [p3 x e,p4 x e]; exact ⟨hx,le2.refl _ _⟩
  have hadd:∀ {x:Nat} (l:Int),s.d x ≠ -1→le2 ((GQ s v d' h').d x+l) ((GQ s v d' h').h x+1) (s.d x+l) (s.h x+1):=fun {x} l hx=>by
   have:=(hless x hx).2; unfold le2 at *; omega
  -- the way to v
  obtain ⟨W,w1,w2,w3⟩:=J.walk a.1 hd
  have hvW:v∉W:=fun hx=>by
   have q:=(w3 v hx).2
   unfold DQ at hb; unfold le2 at q
   omega
  have hWn:(W++[v]).Nodup:=by
   rw [List.nodup_append]
   exact ⟨w1,by simp,fun x hx y hy e=>by rw [List.mem_singleton.1 hy] at e; exact hvW (e ▸ hx)⟩
  have hWl:(W++[v]).length=h'+1:=by rw [List.length_append,w2,hh']; rfl
  have hh'n:h'+1≤n:=by
   rw [← hWl]
   exact KA n _ hWn fun x hx=>(List.mem_append.1 hx).elim (fun h=>(w3 x h).1) fun h=>by rw [List.mem_singleton.1 h]; exact hv1
  have hbd:d'≤h'*m:=by
   have q:=J.bnd a.1 hd
   rw [hd',hh',Int.natCast_add,Int.add_mul]; simp; omega
  have J':DJ A src n m (GQ s v d' h'):=by
   refine ⟨fun x=>?_,fun x hx=>?_,fun x hx h0=>?_,fun x hx=>?_,fun x hx h0=>?_,fun x hx=>?_,fun x hx=>?_⟩
   ·by_cases e:x=v
    ·subst e; rw [p1]; omega
    ·rw [p3 x e]; exact J.low x
   ·have e:x≠v:=fun e=>hsrc (e ▸ hx)
    rw [p3 x e,p4 x e]; exact J.src' x hx
   ·by_cases e:x=v
    ·subst e; rw [p2] at h0; omega
    ·rw [p3 x e] at hx; rw [p4 x e] at h0; exact J.zero x hx h0
   ·by_cases e:x=v
    ·subst e; rw [p1] at hx; omega
    ·rw [p3 x e] at hx; rw [p4 x e]; exact J.none' x hx
   ·by_cases e:x=v
    ·subst e
     refine ⟨a,ha,hv.symm,?_,?_⟩
     ·rw [p3 _ (Ne.symm hvu)]; exact hd
     ·rw [p1,p2,p3 _ (Ne.symm hvu),p4 _ (Ne.symm hvu),← hd',← hh']; exact le2.refl _ _
    ·rw [p3 x e] at hx ⊢; rw [p4 x e] at h0 ⊢
     obtain ⟨b,hb1,hb2,hb3,hb4⟩:=J.pre x hx h0
     exact ⟨b,hb1,hb2,(hless _ hb3).1,(hadd _ hb3).trans hb4⟩
   ·by_cases e:x=v
    ·subst e
     refine ⟨W++[x],hWn,by rw [hWl,p2],fun y hy=>?_⟩
     rw [p1,p2]
     rcases List.mem_append.1 hy with hy | hy
     ·obtain ⟨q1,q2,q3⟩:=w3 y hy
      refine ⟨q1,(hless y q2).1,(hless y q2).2.trans (q3.trans ?_)⟩
      unfold le2; omega
     ·rw [List.mem_singleton.1 hy,p1,p2]
      exact ⟨hv1,by omega,le2.refl _ _⟩
    ·rw [p3 x e] at hx ⊢; rw [p4 x e]
     obtain ⟨W2,q1,q2,q3⟩:=J.walk x hx
     exact ⟨W2,q1,q2,fun y hy=>⟨(q3 y hy).1,(hless y (q3 y hy).2.1).1,(hless y (q3 y hy).2.1).2.trans (q3 y hy).2.2⟩⟩
   ·by_cases e:x=v
    ·subst e; rw [p1,p2]; exact hbd
    ·rw [p3 x e] at hx ⊢; rw [p4 x e]; exact J.bnd x hx
  have hval:∀ x,Wh n m (GQ s v d' h') x≤Wh n m s x - one (v=x):=fun x=>by
   by_cases e:x=v
   ·subst e
    unfold one; rw [if_pos rfl]
    unfold Wh
    rw [p1,p2,if_neg (show ¬ d' = -1 by omega)]
    split
    ·have q:(h':Int)*m≤(n:Int)*m:=Int.mul_le_mul_of_nonneg_right (by omega) hm
     omega
    ·have q1:=(J.low x).resolve_left ‹_›
     unfold DQ at hb
     omega
   ·have e1:one (v=x)=0:=if_neg fun h=>e h.symm
    unfold Wh
    rw [p3 x e,p4 x e,e1,Int.sub_zero]
    exact Int.le_refl _
  refine ⟨J',fun x hx=>?_,p3 _ (Ne.symm hvu),p4 _ (Ne.symm hvu),?_⟩
  ·by_cases e:x=v
   ·subst e; left; rw [p1]; exact List.mem_cons_self ..
   ·rw [p3 x e] at hx ⊢
    rcases K x hx with q | q
    ·exact .inl (List.mem_cons_of_mem _ q)
    ·refine .inr fun b hb1 hb2 hb3=>?_
     by_cases eb:b=a
     ·subst eb
      refine ⟨by rw [← hv,p1]; omega,?_⟩
      rw [← hv,p1,p2,p3 _ (Ne.symm hvu),p4 _ (Ne.symm hvu),← hd',← hh']; exact le2.refl _ _
     ·obtain ⟨r1,r2⟩:=q b hb1 hb2 fun h=>(List.mem_append.1 (hb3 h)).resolve_right fun h=>eb (List.mem_singleton.1 h)
      refine ⟨(hless _ r1).1,(hless _ r1).2.trans ?_⟩
      have eb1:b.1≠v:=by rw [hb2]; exact e
      rw [p3 _ eb1,p4 _ eb1]; exact r2
  ·unfold meas
   have q1:=Jl (k:=n) fun i _=>hval i
   rw [J7] at q1
   have q2:=G1 (fun _=>(1:Int)) hv1
   have q3:B7 (fun x=>one (v=x)) n=B7 (fun x=>one (v=x)*1) n:=C4 fun i _=>by omega
   rw [← q3] at q2
   rw [List.length_cons]
   omega
 ·have hS:Gi s a=s:=by unfold Gi; rw [if_neg hb]
  have hH:Hz s a hp=hp:=by unfold Hz; rw [if_neg hb]
  rw [hS,hH]
  refine ⟨J,fun x hx=>?_,rfl,rfl,Int.le_refl _⟩
  rcases K x hx with q | q
  ·exact .inl q
  ·refine .inr fun b hb1 hb2 hb3=>?_
   by_cases eb:b=a
   ·subst eb
    unfold DQ at hb
    unfold Rlx le2
    omega
   ·exact q b hb1 hb2 fun h=>(List.mem_append.1 (hb3 h)).resolve_right fun h=>eb (List.mem_singleton.1 h)
/-- The first labels: some nodes at no distance. -/
def lb0 (src:List Nat):Lb:=⟨fun v=>if v∈src then 0 else -1,fun _=>0⟩
theorem DJ.start (hs:∀ v∈src,v<n):DJ A src n m (lb0 src):=by
 have h1:∀ v,(lb0 src).d v ≠ -1→v∈src:=fun v hv=>Classical.byContradiction fun h=>hv (if_neg h)
 refine ⟨fun v=>?_,fun v hv=>⟨hs v hv,if_pos hv,rfl⟩,fun v hv _=>h1 v hv,fun v _=>rfl,fun v _ h=>absurd rfl h,fun v hv=>⟨[v],by simp,rfl,fun x hx=>?_⟩,fun v hv=>?_⟩
 ·unfold lb0; dsimp only; split
  ·exact .inr (Int.le_refl _)
  ·exact .inl rfl
 ·rw [List.mem_singleton.1 hx]; exact ⟨hs v (h1 v hv),hv,le2.refl _ _⟩
 ·have:(lb0 src).d v=0:=if_pos (h1 v hv)
  rw [this]; show (0:Int)≤((0:Nat):Int)*m; omega
/-- What the labels tell in the end. -/
structure Done (A:List Ar) (src:List Nat) (n:Nat) (m:Int) (s:Lb):Prop where
 J:DJ A src n m s
 arc:∀ a∈A,s.d a.1 ≠ -1→s.d a.2.1 ≠ -1∧s.d a.2.1≤s.d a.1+a.2.2
 pre:∀ v,s.d v ≠ -1→s.h v≠0→∃ a∈A,a.2.1=v∧s.d a.1 ≠ -1∧s.d a.1+a.2.2=s.d v∧s.h a.1+1=s.h v
theorem DJ.ends (J:DJ A src n m s) (K:Clo A s [] u A):Done A src n m s:=by
 have hr:∀ a∈A,s.d a.1 ≠ -1→Rlx s a:=fun a ha h=>(K a.1 h).elim (fun h=>by cases h) fun h=>h a ha rfl fun _=>ha
 refine ⟨J,fun a ha h=>?_,fun v hv h0=>?_⟩
 ·obtain ⟨h1,h2⟩:=hr a ha h
  exact ⟨h1,by unfold le2 at h2; omega⟩
 ·obtain ⟨a,ha,h1,h2,h3⟩:=J.pre v hv h0
  obtain ⟨h4,h5⟩:=hr a ha h2
  rw [h1] at h5
  refine ⟨a,ha,h1,h2,?_,?_⟩
  ·unfold le2 at h3 h5; omega
  ·unfold le2 at h3 h5; omega
end

end Go.Proofs.YtapphbmlkdhnmaaGreat

/- Plain law of flows: a way is filled. -/
namespace Go.Proofs.YtapphbmlkdhnmaaGreat
open Go.GV

/-- The arcs with room, with their lengths. -/
def LO (g:Gr) (cap x p:Nat→Int):List Ar:=((List.range (2*g.E)).filter fun a=>decide (0<CI cap x a)).map fun a=>(g.u a,g.v a,g.len p a)
theorem Jn {g:Gr} {cap x p:Nat→Int} {b:Ar}:b∈LO g cap x p↔∃ a,a<2*g.E∧0<CI cap x a∧b=(g.u a,g.v a,g.len p a):=by
 unfold LO
 rw [List.mem_map]
 constructor
 ·rintro ⟨a,ha,rfl⟩
  rw [List.mem_filter,List.mem_range,decide_eq_true_eq] at ha
  exact ⟨a,ha.1,ha.2,rfl⟩
 ·rintro ⟨a,h1,h2,rfl⟩
  exact ⟨a,List.mem_filter.2 ⟨List.mem_range.2 h1,decide_eq_true h2⟩,rfl⟩
theorem Fine.arcs {g:Gr} (hg:g.Ok) {cap x p:Nat→Int} (h:Fine g cap x p) {m:Int} (hm:∀ a,a<2*g.E→g.len p a≤m):Pw (LO g cap x p) g.N m:=fun b hb=>by
 obtain ⟨a,h1,h2,rfl⟩:=Jn.1 hb
 exact ⟨hg.u h1,hg.v h1,h.fit a h1 h2,hm a h1⟩
/-- Where there is over somewhere, it is short somewhere that is reached. -/
theorem reach {g:Gr} (hg:g.Ok) {cap x p:Nat→Int} (h:Fine g cap x p) {src:List Nat} {m:Int} {s:Lb} (D:Done (LO g cap x p) src g.N m s) {v:Nat} (hv:v<g.N) (hd:s.d v ≠ -1) (ho:0<BA g x v):∃ w,w<g.N∧s.d w ≠ -1∧BA g x w<0:=by
 refine Classical.byContradiction fun hn=>?_
 obtain ⟨r,hr⟩:∃ r:Nat→Int,r=fun v=>if s.d v ≠ -1 then 1 else 0:=⟨_,rfl⟩
 have hr1:∀ {v:Nat},s.d v ≠ -1→r v=1:=fun {v} h=>by rw [hr]; exact if_pos h
 have hr0:∀ {v:Nat},s.d v = -1→r v=0:=fun {v} h=>by rw [hr]; exact if_neg fun h2=>h2 h
 have h1:0<B7 (fun v=>BA g x v*r v) g.N:=by
  refine Pv (j:=v) (fun w hw=>?_) hv (by rw [hr1 hd]; omega)
  by_cases e:s.d w = -1
  ·rw [hr0 e]; omega
  ·rw [hr1 e]
   have:=Int.not_lt.1 fun h5=>hn ⟨w,hw,e,h5⟩
   omega
 rw [So g hg x r] at h1
 have h2:B7 (fun i=>(r (g.t i) - r (g.f i))*x i) g.E≤B7 (fun _=>0) g.E:=Jl fun i hi=>by
  obtain ⟨hx0,hx1⟩:=h.in' i hi
  by_cases e1:s.d (g.t i) = -1
  ·rw [hr0 e1]
   by_cases e2:s.d (g.f i) = -1
   ·rw [hr0 e2]; omega
   ·rw [hr1 e2]; omega
  ·rw [hr1 e1]
   by_cases e2:s.d (g.f i) = -1
   ·have e3:x i=0:=by
     rcases Q1 0 (x i) with h5 | h5
     ·exfalso
      obtain ⟨a1,a2,a3⟩:=KD g i
      have:=D.arc _ (Jn.2 ⟨2*i+1,by omega,by unfold CI; rw [if_neg (by omega),show (2*i+1) / 2=i by omega]; exact h5,rfl⟩) (by dsimp only; rw [a1]; exact e1)
      dsimp only at this
      rw [a2] at this
      exact this.1 e2
     ·omega
    rw [e3]; omega
   ·rw [hr1 e2]; omega
 rw [Gg] at h2
 omega
/-! ### A way back -/
structure Way1 (g:Gr) (cap x p:Nat→Int) (s:Lb) (a:Nat):Prop where
 lt:a<2*g.E
 room:0<CI cap x a
 du:s.d (g.u a) ≠ -1
 dv:s.d (g.v a) ≠ -1
 d:s.d (g.u a)+g.len p a=s.d (g.v a)
 h:s.h (g.u a)+1=s.h (g.v a)
/-- Each node's last arc. -/
def Bys (g:Gr) (cap x p:Nat→Int) (s:Lb) (by':Nat→Option Nat):Prop :=
 (∀ v,s.d v = -1∨s.h v=0→by' v=none)∧∀ v,s.d v ≠ -1→s.h v≠0→∃ a,by' v=some a∧Way1 g cap x p s a∧g.v a=v
def DT (by':Nat→Option Nat) (g:Gr):Nat→Nat→List Nat
 | 0,_=>[]
 | k+1,v=>match by' v with
  | none=>[]
  | some a=>a::DT by' g k (g.u a)
def LC (by':Nat→Option Nat) (g:Gr):Nat→Nat→Nat
 | 0,v=>v
 | k+1,v=>match by' v with
  | none=>v
  | some a=>LC by' g k (g.u a)
section
variable {g:Gr} {cap x p:Nat→Int} {s:Lb} {by':Nat→Option Nat}
theorem G7 {k v a:Nat} (h:by' v=some a):DT by' g (k+1) v=a::DT by' g k (g.u a)∧LC by' g (k+1) v=LC by' g k (g.u a):=by
 constructor
 ·show (match by' v with | none=>[] | some a=>a::DT by' g k (g.u a))=_
  rw [h]
 ·show (match by' v with | none=>v | some a=>LC by' g k (g.u a))=_
  rw [h]
theorem J8 (hB:Bys g cap x p s by'):∀ {k v:Nat},s.d v ≠ -1→s.h v=k→(∀ a∈DT by' g k v,Way1 g cap x p s a∧s.h (g.v a)≤k)∧(DT by' g k v).Pairwise (fun a b=>s.h (g.v b)<s.h (g.v a))∧s.d (LC by' g k v) ≠ -1∧s.h (LC by' g k v)=0
 | 0,v,hd,hk=>⟨(fun a h=>by cases h),List.Pairwise.nil,hd,hk⟩
 | k+1,v,hd,hk=>by
  obtain ⟨a,h1,h2,h3⟩:=hB.2 v hd (by omega)
  obtain ⟨e1,e2⟩:=G7 (g:=g) (k:=k) h1
  have hh:=h2.h
  rw [h3,hk] at hh
  obtain ⟨q1,q2,q3,q4⟩:=J8 hB (k:=k) h2.du (by omega)
  rw [e1,e2]
  refine ⟨fun b hb=>?_,List.Pairwise.cons (fun b hb=>?_) q2,q3,q4⟩
  ·rcases List.mem_cons.1 hb with rfl | hb
   ·exact ⟨h2,by rw [h3]; omega⟩
   ·exact ⟨(q1 b hb).1,by have:=(q1 b hb).2; omega⟩
  ·have:=(q1 b hb).2
   rw [h3]; omega
/-- No edge comes twice. -/
theorem MR (hB:Bys g cap x p s by') {k v:Nat} (hd:s.d v ≠ -1) (hk:s.h v=k):(DT by' g k v).Pairwise (fun a b=>a / 2≠b / 2):=by
 obtain ⟨q1,q2,-,-⟩:=J8 hB hd hk
 refine List.Pairwise.imp_of_mem (R:=fun a b=>s.h (g.v b)<s.h (g.v a)) (fun {a b} ha hb hab he=>?_) q2
 have wa:=(q1 a ha).1; have wb:=(q1 b hb).1
 have h1:=wa.h; have h2:=wb.h
 by_cases e:a=b
 ·rw [e] at hab; omega
 ·have hm:a % 2≠b % 2:=by omega
  have e1:g.u a=g.v b:=by
   unfold Gr.u Gr.v; rw [he]
   split
   ·rw [if_neg (by omega)]
   ·rw [if_pos (by omega)]
  have e2:g.v a=g.u b:=by
   unfold Gr.u Gr.v; rw [he]
   split
   ·rw [if_neg (by omega)]
   ·rw [if_pos (by omega)]
  rw [e1] at h1; rw [e2] at h1 hab
  omega
end
/-! ### Pushing -/
def HQ (m:Int) (x:Nat→Int) (a:Nat):Nat→Int:=fun i=>if i=a / 2 then (if a % 2=0 then x i+m else x i - m) else x i
def Fi (m:Int) (x:Nat→Int) (l:List Nat):Nat→Int:=l.foldl (HQ m) x
theorem Oc (g:Gr) (m:Int) (x:Nat→Int) {a:Nat} (ha:a<2*g.E) (w:Nat):BA g (HQ m x a) w=BA g x w+m*(one (g.v a=w) - one (g.u a=w)):=by
 have hi:a / 2<g.E:=by omega
 have h1:BA g (HQ m x a) w=B7 (fun i=>(one (g.t i=w) - one (g.f i=w))*x i+one (a / 2=i)*((one (g.t i=w) - one (g.f i=w))*(if a % 2=0 then m else -m))) g.E:=C4 fun i _=>by
  by_cases e:i=a / 2
  ·have h1:HQ m x a i=if a % 2=0 then x i+m else x i - m:=if_pos e
   have h2:one (a / 2=i)=1:=if_pos e.symm
   rw [h1,h2]
   by_cases hp:a % 2=0
   ·rw [if_pos hp,if_pos hp,Int.mul_add,Int.one_mul]
   ·rw [if_neg hp,if_neg hp,Int.mul_sub,Int.one_mul,Int.mul_neg]; omega
  ·have h1:HQ m x a i=x i:=if_neg e
   have h2:one (a / 2=i)=0:=if_neg (Ne.symm e)
   rw [h1,h2]; omega
 rw [h1,LZ,G1 (fun i=>(one (g.t i=w) - one (g.f i=w))*(if a % 2=0 then m else -m)) hi]
 unfold BA Ee Gr.u Gr.v
 split
 ·rw [Int.mul_comm m]
 ·congr 1
  rw [Int.mul_neg,← Int.neg_mul,Int.mul_comm m]; congr 1; omega
theorem LD (g:Gr) (m:Int) {cap p:Nat→Int} {x0:Nat→Int} {s:Lb} {by':Nat→Option Nat} (hB:Bys g cap x0 p s by') (w:Nat):∀ {k v:Nat} (x:Nat→Int),s.d v ≠ -1→s.h v=k→BA g (Fi m x (DT by' g k v)) w=BA g x w+m*(one (v=w) - one (LC by' g k v=w))
 | 0,v,x,_,_=>by
  show BA g x w=BA g x w+m*(one (v=w) - one (v=w))
  rw [Int.sub_self]; omega
 | k+1,v,x,hd,hk=>by
  obtain ⟨a,h1,h2,h3⟩:=hB.2 v hd (by omega)
  obtain ⟨e1,e2⟩:=G7 (g:=g) (k:=k) h1
  have hh:=h2.h
  rw [h3,hk] at hh
  rw [e1,e2]
  show BA g (Fi m (HQ m x a) (DT by' g k (g.u a))) w=_
  rw [LD g m hB w (k:=k) (HQ m x a) h2.du (by omega),Oc g m x h2.lt,h3,Int.add_assoc,← Int.mul_add]
  congr 2; omega
theorem I0 {m:Int} {x:Nat→Int}:∀ {l:List Nat} {i:Nat},(∀ a∈l,a / 2≠i)→Fi m x l i=x i
 | [],i,_=>rfl
 | a::l,i,h=>by
  show Fi m (HQ m x a) l i=_
  rw [I0 (l:=l) fun b hb=>h b (List.mem_cons_of_mem _ hb)]
  exact if_neg fun e=>h a (List.mem_cons_self ..) e.symm
theorem T3 {m:Int}:∀ {l:List Nat} {x:Nat→Int} {a:Nat},l.Pairwise (fun a b=>a / 2≠b / 2)→a∈l→Fi m x l (a / 2)=if a % 2=0 then x (a / 2)+m else x (a / 2) - m
 | b::l,x,a,hp,ha=>by
  obtain ⟨h1,h2⟩:=List.pairwise_cons.1 hp
  show Fi m (HQ m x b) l (a / 2)=_
  by_cases e:a=b
  ·subst e
   rw [I0 fun c hc=>Ne.symm (h1 c hc)]
   exact if_pos rfl
  ·have ha':=(List.mem_cons.1 ha).resolve_left e
   rw [T3 h2 ha']
   have:HQ m x b (a / 2)=x (a / 2):=if_neg (Ne.symm (h1 a ha'))
   rw [this]
/-- How much numbers are raised. -/
def Px (s:Lb) (D:Int) (v:Nat):Int:=if s.d v<0∨D<s.d v then D else s.d v
/-- Behind a way that is filled all fits. -/
theorem Ur {g:Gr} {cap x p:Nat→Int} (h:Fine g cap x p) {src:List Nat} {m0:Int} {s:Lb} (D:Done (LO g cap x p) src g.N m0 s) {by':Nat→Option Nat} (hB:Bys g cap x p s by') {v:Nat} (hd:s.d v ≠ -1) {m:Int} (hm:0≤m) (hr:∀ a∈DT by' g (s.h v) v,m≤CI cap x a) :
  Fine g cap (Fi m x (DT by' g (s.h v) v)) (fun w=>p w+Px s (s.d v) w):=by
 obtain ⟨q1,-,-,-⟩:=J8 hB hd rfl
 have hpe:=MR hB hd rfl
 have hlow:=D.J.low
 have hdv:=(hlow v).resolve_left hd
 have hlen:∀ a,a<2*g.E→0<CI cap x a→0≤g.len p a+Px s (s.d v) (g.u a) - Px s (s.d v) (g.v a):=fun a ha hra=>by
  have h1:=h.fit a ha hra
  have h2:=D.arc _ (Jn.2 ⟨a,ha,hra,rfl⟩)
  dsimp only at h2
  have h3:=hlow (g.u a); have h4:=hlow (g.v a)
  unfold Px
  by_cases e:s.d (g.u a) = -1
  ·rw [if_pos (.inl (by omega))]
   split <;> omega
  ·obtain ⟨h5,h6⟩:=h2 e
   split <;> split <;> omega
 have htight:∀ a∈DT by' g (s.h v) v,g.len p a+Px s (s.d v) (g.u a) - Px s (s.d v) (g.v a)=0:=fun a ha=>by
  -- all nodes of the way are no farther
  have hle:∀ {k w:Nat},s.d w ≠ -1→s.h w=k→∀ a∈DT by' g k w,s.d (g.v a)≤s.d w:=fun {k}=>by
   induction k with
   | zero=>intro w _ _ a ha; cases ha
   | succ k ih =>
    intro w hw hk a ha
    obtain ⟨b,h1,h2,h3⟩:=hB.2 w hw (by omega)
    obtain ⟨e1,-⟩:=G7 (g:=g) (k:=k) h1
    rw [e1] at ha
    have hh:=h2.h
    rw [h3,hk] at hh
    have hfit:=h.fit b h2.lt h2.room
    have hdd:=h2.d
    rw [h3] at hdd
    rcases List.mem_cons.1 ha with rfl | ha
    ·rw [h3]; exact Int.le_refl _
    ·have:=ih h2.du (by omega) a ha; omega
  have h1:=hle hd rfl a ha
  have w1:=(q1 a ha).1
  have h2:=(hlow (g.u a)).resolve_left w1.du
  have h3:=(hlow (g.v a)).resolve_left w1.dv
  have h4:=w1.d
  have h5:=h.fit a w1.lt w1.room
  unfold Px
  rw [if_neg (by omega),if_neg (by omega)]
  omega
 have hone:∀ i,i<g.E→(Fi m x (DT by' g (s.h v) v) i=x i∧∀ a∈DT by' g (s.h v) v,a / 2≠i)∨∃ a∈DT by' g (s.h v) v,a / 2=i:=fun i _=>by
  by_cases e:∃ a∈DT by' g (s.h v) v,a / 2=i
  ·exact .inr e
  ·have:∀ a∈DT by' g (s.h v) v,a / 2≠i:=fun a ha he=>e ⟨a,ha,he⟩
   exact .inl ⟨I0 this,this⟩
 have hz:∀ i,i<g.E→(∃ a∈DT by' g (s.h v) v,a / 2=i)→g.co i+(p (g.f i)+Px s (s.d v) (g.f i)) - (p (g.t i)+Px s (s.d v) (g.t i))=0:=fun i hi ⟨a,ha,he⟩=>by
  have h1:=htight a ha
  unfold Gr.len at h1
  rcases (by omega:a=2*i∨a=2*i+1) with rfl | rfl
  ·obtain ⟨b,c,d⟩:=Jm g i
   rw [b,c,d] at h1; omega
  ·obtain ⟨b,c,d⟩:=KD g i
   rw [b,c,d] at h1; omega
 refine Fine.of (fun i hi=>?_) (fun i hi hx=>?_) (fun i hi hx=>?_)
 ·obtain ⟨h1,h2⟩:=h.in' i hi
  rcases hone i hi with ⟨e,_⟩ | ⟨a,ha,he⟩
  ·rw [e]; exact ⟨h1,h2⟩
  ·have h3:=hr a ha
   have h4:=T3 (m:=m) (x:=x) hpe ha
   rw [he] at h4
   rw [h4]
   unfold CI at h3
   rw [he] at h3
   split
   ·rename_i e; rw [if_pos e] at h3; omega
   ·rename_i e; rw [if_neg e] at h3; omega
 ·rcases hone i hi with ⟨e,_⟩ | e
  ·rw [e] at hx
   have h1:=hlen (2*i) (by omega) (by unfold CI; rw [if_pos (by omega),show 2*i / 2=i by omega]; omega)
   obtain ⟨b,c,d⟩:=Jm g i
   unfold Gr.len at h1
   rw [b,c,d] at h1
   omega
  ·have:=hz i hi e; omega
 ·rcases hone i hi with ⟨e,_⟩ | e
  ·rw [e] at hx
   have h1:=hlen (2*i+1) (by omega) (by unfold CI; rw [if_neg (by omega),show (2*i+1) / 2=i by omega]; exact hx)
   obtain ⟨b,c,d⟩:=KD g i
   unfold Gr.len at h1
   rw [b,c,d] at h1
   omega
  ·have:=hz i hi e; omega
/-! ### How much stands over -/
def Wi (x:Int):Int:=if 0<x then x else 0
def GR (g:Gr) (x:Nat→Int):Int:=B7 (fun v=>Wi (BA g x v)) g.N
theorem Q2 {g:Gr} (hg:g.Ok) {x:Nat→Int} (h:∀ v,v<g.N→BA g x v≤0):∀ v,v<g.N→BA g x v=0:=fun v hv=>by
 have h1:=over_all g hg x
 rcases Q1 (BA g x v) 0 with h2 | h2
 ·have h3:=Pv (f:=fun v => -BA g x v) (k:=g.N) (j:=v) (fun i hi=>by have:=h i hi; omega) hv (by omega)
  rw [Pt,h1] at h3
  omega
 ·have:=h v hv; omega
theorem Us {g:Gr} {x x':Nat→Int} {u v:Nat} {m:Int} (hu:u<g.N) (hm:0<m) (hmu:m≤BA g x u) (hmv:m ≤ -BA g x v) (h:∀ w,BA g x' w=BA g x w+m*(one (v=w) - one (u=w))):GR g x'+m≤GR g x:=by
 have hne:u≠v:=fun e=>by subst e; omega
 have h1:∀ w,Wi (BA g x' w)≤Wi (BA g x w) - one (u=w)*m:=fun w=>by
  rw [h w]
  unfold one Wi
  by_cases e1:v=w
  ·subst e1
   rw [if_pos rfl,if_neg hne]
   split <;> split <;> omega
  ·rw [if_neg e1]
   by_cases e2:u=w
   ·subst e2
    rw [if_pos rfl]
    split <;> split <;> omega
   ·rw [if_neg e2]
    split <;> split <;> omega
 have h2:=Jl (k:=g.N) fun w _=>h1 w
 rw [J7,G1 (fun _=>m) hu] at h2
 unfold GR; omega
theorem Ut (g:Gr) (x:Nat→Int):0≤GR g x:=GP fun i _=>by unfold Wi; split <;> omega

end Go.Proofs.YtapphbmlkdhnmaaGreat

/- Plain law of flows: finer caps; bounds. -/
namespace Go.Proofs.YtapphbmlkdhnmaaGreat
open Go.GV

/-- What flows once caps are finer: twice as much, and edges that gain are filled. -/
def Jo (g:Gr) (cap' x p:Nat→Int) (i:Nat):Int:=if 2*x i<cap' i∧g.co i+p (g.f i) - p (g.t i)<0 then cap' i else 2*x i
theorem MS {g:Gr} {cap cap' x p:Nat→Int} (h:Fine g cap x p) (hc:∀ i,i<g.E→2*cap i≤cap' i∧cap' i≤2*cap i+1):Fine g cap' (Jo g cap' x p) p:=by
 refine Fine.of (fun i hi=>?_) (fun i hi hx=>?_) (fun i hi hx=>?_)
 ·obtain ⟨h1,h2⟩:=h.in' i hi; obtain ⟨h3,h4⟩:=hc i hi
  unfold Jo; split <;> omega
 ·unfold Jo at hx
  split at hx
  ·omega
  ·rename_i h5
   rcases Q1 (g.co i+p (g.f i) - p (g.t i)) 0 with h6 | h6
   ·exact absurd ⟨hx,h6⟩ h5
   ·exact h6
 ·unfold Jo at hx
  split at hx
  ·rename_i h5; omega
  ·exact h.bwd hi (by omega)
/-- Flows that are finer up to an edge. -/
def H6 (g:Gr) (cap' x p:Nat→Int) (k i:Nat):Int:=if i<k then Jo g cap' x p i else 2*x i
theorem Wj {g:Gr} {cap' x p:Nat→Int} {v:Nat} (h:BA g x v=0):BA g (H6 g cap' x p 0) v=0:=by
 have h1:BA g (H6 g cap' x p 0) v=B7 (fun i=>2*((one (g.t i=v) - one (g.f i=v))*x i)) g.E:=C4 fun i _=>by
  unfold H6; rw [if_neg (by omega),Int.mul_left_comm]
 rw [h1,Pu]
 show 2*BA g x v=0
 omega
theorem Wk {g:Gr} {cap' x p:Nat→Int} {k:Nat} (hk:k<g.E) (v:Nat):BA g (H6 g cap' x p (k+1)) v=BA g (H6 g cap' x p k) v+(Jo g cap' x p k - 2*x k)*(one (g.t k=v) - one (g.f k=v)):=by
 obtain ⟨b,c,-⟩:=Jm g k
 have h:=Oc g (Jo g cap' x p k - 2*x k) (H6 g cap' x p k) (a:=2*k) (by omega) v
 rw [b,c] at h
 rw [← h]
 congr 1
 funext i
 have m1:∀ {k:Nat},i<k→H6 g cap' x p k i=Jo g cap' x p i:=fun h=>if_pos h
 have m2:∀ {k:Nat},¬ i<k→H6 g cap' x p k i=2*x i:=fun h=>if_neg h
 unfold HQ
 rw [show 2*k / 2=k by omega,if_pos (show 2*k % 2=0 by omega)]
 by_cases e:i=k
 ·subst e
  rw [if_pos rfl,m1 (by omega),m2 (by omega)]; omega
 ·rw [if_neg e]
  by_cases e2:i<k
  ·rw [m1 (by omega),m1 e2]
  ·rw [m2 (by omega),m2 e2]
theorem XS {g:Gr} {cap' x p:Nat→Int} {i:Nat} (hi:i<g.E):H6 g cap' x p g.E i=Jo g cap' x p i:=if_pos hi
theorem Ke {g:Gr} {x y:Nat→Int} (h:∀ i,i<g.E→x i=y i) (v:Nat):BA g x v=BA g y v:=C4 fun i hi=>by rw [h i hi]
/-- How much may come together. -/
theorem GS {g:Gr} {x:Nat→Int} {c:Int} (v:Nat):∀ {k:Nat},(∀ i,i<k→0≤x i∧x i≤c) → -(k*c)≤Ee g x k v∧Ee g x k v≤k*c
 | 0,_=>by show -(((0:Nat):Int)*c)≤0∧(0:Int)≤((0:Nat):Int)*c; omega
 | k+1,h=>by
  obtain ⟨h1,h2⟩:=GS (g:=g) v (k:=k) fun i hi=>h i (by omega)
  obtain ⟨h3,h4⟩:=h k (by omega)
  have e:((k+1:Nat):Int)*c=k*c+c:=by rw [Int.natCast_add,Int.add_mul]; simp
  show _≤Ee g x k v+(one (g.t k=v) - one (g.f k=v))*x k∧Ee g x k v+(one (g.t k=v) - one (g.f k=v))*x k≤_
  rw [e]
  unfold one
  split <;> split <;> omega
theorem Q3 {g:Gr} {cap x p:Nat→Int} (h:Fine g cap x p):Fea (((List.range (2*g.E)).filter fun a=>decide (0<CI cap x a)).map fun a=>(g.u a,g.v a,g.c a)) p:=fun b hb=>by
 rw [List.mem_map] at hb
 obtain ⟨a,ha,rfl⟩:=hb
 rw [List.mem_filter,List.mem_range,decide_eq_true_eq] at ha
 have:=h.fit a ha.1 ha.2
 unfold Gr.len at this
 dsimp only; omega
theorem Wl {g:Gr} {cap x p q:Nat→Int} (h:Fine g cap x p) (hq:Fea (((List.range (2*g.E)).filter fun a=>decide (0<CI cap x a)).map fun a=>(g.u a,g.v a,g.c a)) q):Fine g cap x q:=by
 refine ⟨h.in',fun a ha hr=>?_⟩
 have:=hq (g.u a,g.v a,g.c a) (List.mem_map.2 ⟨a,List.mem_filter.2 ⟨List.mem_range.2 ha,decide_eq_true hr⟩,rfl⟩)
 unfold Gr.len
 dsimp only at this; omega

end Go.Proofs.YtapphbmlkdhnmaaGreat

/- Nets: nodes, edges, is one right: the walks. -/
namespace Go.Proofs.YtapphbmlkdhnmaaGreat
open Go.GV
attribute [local irreducible] AL W Wq Wt

structure Ed where
 f:Int
 t:Int
 cap:Int
 cost:Int
def Cw (e:Ed):List Value:=[.int .i64 e.f,.int .i64 e.t,.int .i64 e.cap,.int .i64 e.cost]
theorem ES (e:Ed):∀ v∈Cw e,Bm v=true:=fun v hv=>by
 simp only [Cw,List.mem_cons,List.not_mem_nil,or_false] at hv
 rcases hv with rfl | rfl | rfl | rfl <;> rfl
/-- Numbers of 64 bits. -/
def I64 (x:Int):Prop := -9223372036854775808≤x∧x≤9223372036854775807
structure Ed.In (e:Ed):Prop where
 f:I64 e.f
 t:I64 e.t
 cap:I64 e.cap
 cost:I64 e.cost
def GU (N i:Int):Bool:=decide (0≤i) && decide (i<N)
def DV (N:Int) (e:Ed):Bool:=GU N e.f && (GU N e.t && (decide (0≤e.cap) && (decide (e.cap≤4503599627370496) && (decide (-1000≤e.cost) && decide (e.cost≤1000)))))
def Fe (e:Ed):Nat:=e.cap.toNat*e.cost.natAbs
def Ef (es:List Ed):Nat:=(es.map Fe).sum
def Cb (N:Int) (es:List Ed):Bool:=(decide (1≤N) && decide (N≤40)) && (decide (es.length≤200) && (es.all (DV N) && decide (Ef es≤4611686018427387904)))
def CS (N:Int) (a:Option Addr) (n c:Nat):Value := .agg #[.int .i64 N,.slice a n c]

theorem T4 (N:Int) (a:Option Addr) (n c:Nat) (i:Int) (w:World):Ret Tryz.prog 187 #[CS N a n c,.int .i64 i] w fun v w'=>v = .bool (GU N i)∧Ext [] w w':=by
 obtain ⟨w0,rfl⟩:∃ w0,w0=w:=⟨_,rfl⟩
 have H:=Ctx.start w0 []
 refine A9 (fn:=Tryz.f187) Tryz.func187 rfl [CS N a n c,.int .i64 i] rfl (by kernel_rfl) ?_
 refine Af (BC rfl [.int .i64 N,.slice a n c] (.agg _) rfl rfl H ?_)
 rintro b2 w - H
 refine Ai rfl rfl (Ab (Aa (Af (Ad rfl rfl (Cx rfl rfl rfl (Aw rfl rfl (AE 7 rfl ?_ ?_)))))))
 ·intro h1
  replace h1:=AF h1
  refine Ad rfl rfl (Ah rfl D5 rfl (AN rfl BV rfl H at0 rfl (AZ rfl rfl rfl (AA rfl rfl (.bool _) rfl (Ai rfl rfl (Ab (Aa (A8 (AB (v:=(.bool _)) rfl rfl rfl ?_)))))))))
  exact ⟨congrArg Value.bool (by unfold GU; rw [Bool.eq_iff_iff]; simp_all; try omega),H.ext⟩
 ·intro h2
  replace h2:=AG h2
  refine Ag rfl (Ag rfl (Ag rfl (Ag rfl (A6 rfl rfl (.bool _) rfl (Ai rfl rfl (Ab (Aa (A8 (AB (v:=(.bool _)) rfl rfl rfl ?_)))))))))
  exact ⟨congrArg Value.bool (by unfold GU; rw [Bool.eq_iff_iff]; simp_all; try omega),H.ext⟩
theorem Abr (x:Int) (h1 : -9223372036854775808<x) (h2:x≤9223372036854775807) (w:World):Ret Tryz.prog 165 #[.int .i64 x] w fun v w'=>v = .int .u64 (x.natAbs:Int)∧w=w':=by
 obtain ⟨w0,rfl⟩:∃ w0,w0=w:=⟨_,rfl⟩
 refine A9 (fn:=Tryz.f165) Tryz.func165 rfl [.int .i64 x] rfl (by kernel_rfl) ?_
 refine Af (Ae rfl rfl (Ab (Aa (Af (Ad rfl rfl (Ad rfl rfl (GF rfl rfl (by omega) (by omega) ?_)))))))
 refine Jy rfl rfl rfl ?_
 rw [show max x (-x)=(x.natAbs:Int) by omega]
 refine DI rfl rfl VZ Gx (by omega) (by omega) ?_
 refine Ae rfl rfl (Ab (Aa (A8 (AB (v:=(.int _ _)) rfl rfl rfl ?_))))
 exact ⟨rfl,rfl⟩

set_option maxRecDepth 20000 in
theorem XT (N:Int) (a:Option Addr) (n c:Nat) (e:Ed) (w:World):Ret Tryz.prog 163 #[CS N a n c,.agg (Cw e).toArray] w fun v w'=>v = .bool (DV N e)∧Ext [] w w':=by
 obtain ⟨w0,rfl⟩:∃ w0,w0=w:=⟨_,rfl⟩
 have H:=Ctx.start w0 []
 refine A9 (fn:=Tryz.f163) Tryz.func163 rfl [CS N a n c,.agg (Cw e).toArray] rfl (by kernel_rfl) ?_
 refine Af (BC rfl [.int .i64 N,.slice a n c] (.agg _) rfl rfl H ?_)
 rintro b2 w - H
 refine BC rfl (Cw e) (.agg _) rfl rfl H ?_
 rintro b3 w - H
 refine Ai rfl rfl (Ab (Aa (An (Au (An (Af (B6 rfl Cm BQ rfl H at1 rfl (Ah rfl EY rfl (AN rfl BV rfl H at0 rfl (Am rfl VG (T4 N a n c e.f _) rfl ?_))))))))))
 rintro v w ⟨rfl,hx9⟩
 replace H:=H.call hx9
 refine B1 rfl rfl (Ai rfl rfl (Ab (Aa (D9 5 rfl ?_ ?_))))
 ·intro h1
  replace h1:=Bv h1
  refine Ao (Aa (Dj rfl (Af (Ai rfl rfl (Ab (Aa (A8 (A1 (Al (AB (v:=(.bool _)) rfl rfl rfl ?_))))))))))
  exact ⟨congrArg Value.bool (by unfold DV; simp_all; try omega),H.ext⟩
 ·intro h2
  replace h2:=Bw h2
  refine Af (B6 rfl Cm BQ rfl H at1 rfl (Ah rfl EZ rfl (AN rfl BV rfl H at0 rfl (Am rfl VG (T4 N a n c e.t _) rfl ?_))))
  rintro v w ⟨rfl,hx14⟩
  replace H:=H.call hx14
  refine B1 rfl rfl (Ai rfl rfl (Ab (Aa (D9 5 rfl ?_ ?_))))
  ·intro h3
   replace h3:=Bv h3
   refine Ao (Aa (Dj rfl (Af (Ai rfl rfl (Ab (Aa (A8 (A1 (Al (AB (v:=(.bool _)) rfl rfl rfl ?_))))))))))
   exact ⟨congrArg Value.bool (by unfold DV; simp_all; try omega),H.ext⟩
  ·intro h4
   replace h4:=Bw h4
   refine Af (Ah rfl DP rfl (AN rfl Bt rfl H at0 rfl (AZ rfl rfl rfl (Ai rfl rfl (Ab (Aa (D9 5 rfl ?_ ?_)))))))
   ·intro h5
    replace h5:=AF h5
    refine Ao (Aa (Dj rfl (Af (Ai rfl rfl (Ab (Aa (A8 (A1 (Al (AB (v:=(.bool _)) rfl rfl rfl ?_))))))))))
    exact ⟨congrArg Value.bool (by unfold DV; simp_all; try omega),H.ext⟩
   ·intro h6
    replace h6:=AG h6
    refine Af (Ah rfl DP rfl (AN rfl Bt rfl H at0 rfl (Ck rfl rfl rfl (Ai rfl rfl (Ab (Aa (D9 5 rfl ?_ ?_)))))))
    ·intro h7
     replace h7:=AF h7
     refine Ao (Aa (Dj rfl (Af (Ai rfl rfl (Ab (Aa (A8 (A1 (Al (AB (v:=(.bool _)) rfl rfl rfl ?_))))))))))
     exact ⟨congrArg Value.bool (by unfold DV; simp_all; try omega),H.ext⟩
    ·intro h8
     replace h8:=AG h8
     refine Af (Ah rfl EK rfl (AN rfl Bt rfl H at0 rfl (AZ rfl rfl rfl (Ai rfl rfl (Ab (Aa (D9 5 rfl ?_ ?_)))))))
     ·intro h9
      replace h9:=AF h9
      refine Ao (Aa (Dj rfl (Af (Ai rfl rfl (Ab (Aa (A8 (A1 (Al (AB (v:=(.bool _)) rfl rfl rfl ?_))))))))))
      exact ⟨congrArg Value.bool (by unfold DV; simp_all; try omega),H.ext⟩
     ·intro h10
      replace h10:=AG h10
      refine Av (Ah rfl EK rfl (AN rfl Bt rfl H at0 rfl (Ck rfl rfl rfl (Ai rfl rfl (Ab (Aa (D9 5 rfl ?_ ?_)))))))
      ·intro h11
       replace h11:=AF h11
       refine Af (Ai rfl rfl (Ab (Aa (A8 (A1 (Al (AB (v:=(.bool _)) rfl rfl rfl ?_)))))))
       exact ⟨congrArg Value.bool (by unfold DV; simp_all; try omega),H.ext⟩
      ·intro h12
       replace h12:=AG h12
       refine Ao (A5 (Aa (Af (Ai rfl rfl (Ab (Aa (A8 (AB (v:=(.bool _)) rfl rfl rfl ?_))))))))
       exact ⟨congrArg Value.bool (by unfold DV; simp_all; try omega),H.ext⟩

theorem Wm (x y:Nat) (hx:x≤4503599627370496) (hy:y≤1000) (w:World):Ret Tryz.prog 164 #[.int .u64 (x:Int),.int .u64 (y:Int)] w fun v w'=>v = .tuple #[.int .u64 0,.int .u64 ((x*y:Nat):Int)]∧w=w':=by
 obtain ⟨w0,rfl⟩:∃ w0,w0=w:=⟨_,rfl⟩
 have hm:∀ z:Nat,z &&& 4294967295=z % 4294967296:=fun z=>Nat.and_two_pow_sub_one_eq_mod z 32
 obtain ⟨x0,hx0⟩:∃ x0,x0=x % 4294967296:=⟨_,rfl⟩
 obtain ⟨x1,hx1⟩:∃ x1,x1=x / 4294967296:=⟨_,rfl⟩
 have hp0:x0*y≤4294967296*1000:=Nat.mul_le_mul (by omega) hy
 have hp1:x1*y≤1048576*1000:=Nat.mul_le_mul (by omega) hy
 have hxy:x*y≤4503599627370496*1000:=Nat.mul_le_mul hx hy
 refine A9 (fn:=Tryz.f164) Tryz.func164 rfl [.int .u64 (x:Int),.int .u64 (y:Int)] rfl (by kernel_rfl) ?_
 refine Af (Ae rfl rfl (Ae rfl rfl (Ab (Aa (Af (Ad rfl rfl (It (b:=4294967295) rfl rfl rfl (by omega) (by omega) ?_)))))))
 rw [hm,← hx0]
 refine Ae rfl rfl (Ab (Aa (Af (Ad rfl rfl (EP (n:=32) rfl rfl rfl (by omega) ?_)))))
 rw [show x / 2 ^ 32=x1 from hx1.symm]
 refine Ae rfl rfl (Ab (Aa (Af (Ad rfl rfl (It (b:=4294967295) rfl rfl rfl (by omega) (by omega) ?_)))))
 rw [hm,show y % 4294967296=y by omega]
 refine Ae rfl rfl (Ab (Aa (Af (Ad rfl rfl (EP (n:=32) rfl rfl rfl (by omega) ?_)))))
 rw [show y / 2 ^ 32=0 by omega]
 refine Ae rfl rfl (Ab (Aa (Af (Ad rfl rfl (Ad rfl rfl (GG rfl rfl rfl (Int.mul_nonneg (by omega) (by omega)) (by rw [← Int.natCast_mul]; omega) ?_))))))
 rw [← Int.natCast_mul]
 refine Ae rfl rfl (Ab (Aa (Af (Ad rfl rfl (Ad rfl rfl (GG rfl rfl rfl (Int.mul_nonneg (by omega) (by omega)) (by rw [← Int.natCast_mul]; omega) ?_))))))
 rw [← Int.natCast_mul]
 refine Ad rfl rfl (EP (n:=32) rfl rfl rfl (by omega) ?_)
 refine Ey rfl rfl rfl (by omega) (by omega) ?_
 rw [← Int.natCast_add]
 refine Ae rfl rfl (Ab (Aa (Af (Ad rfl rfl (It (b:=4294967295) rfl rfl rfl (by omega) (by omega) ?_)))))
 rw [hm]
 refine Ae rfl rfl (Ab (Aa (Af (Ad rfl rfl (EP (n:=32) rfl rfl rfl (by omega) ?_)))))
 rw [show (x1*y+x0*y / 2 ^ 32) / 2 ^ 32=0 by omega]
 refine Ae rfl rfl (Ab (Aa (Af (Ad rfl rfl (Ad rfl rfl (Ad rfl rfl (GG rfl rfl rfl (by show (0:Int)≤(x0:Int)*((0:Nat):Int); omega) (by show (x0:Int)*((0:Nat):Int)≤_; omega) ?_)))))))
 rw [show (x0:Int)*((0:Nat):Int)=0 by omega]
 refine Ey rfl rfl rfl (by omega) (by omega) ?_
 rw [show ((((x1*y+x0*y / 2 ^ 32) % 4294967296:Nat):Int)+0)=(((x1*y+x0*y / 2 ^ 32) % 4294967296:Nat):Int) by omega]
 refine Ae rfl rfl (Ab (Aa (Af (Ad rfl rfl (Ad rfl rfl (GG rfl rfl rfl (by show (0:Int)≤(x1:Int)*((0:Nat):Int); omega) (by show (x1:Int)*((0:Nat):Int)≤_; omega) ?_))))))
 rw [show (x1:Int)*((0:Nat):Int)=0 by omega]
 refine Ad rfl rfl (Ey rfl rfl rfl (by omega) (by omega) ?_)
 refine Ad rfl rfl (EP (n:=32) rfl rfl rfl (by omega) ?_)
 rw [show (x1*y+x0*y / 2 ^ 32) % 4294967296 / 2 ^ 32=0 by omega]
 refine Ey rfl rfl rfl (by omega) (by omega) ?_
 refine Ae rfl rfl (Ab (Aa (Af (Ad rfl rfl (Ad rfl rfl (GG rfl rfl rfl (Int.mul_nonneg (by omega) (by omega)) (by rw [← Int.natCast_mul]; omega) ?_))))))
 rw [← Int.natCast_mul]
 refine Ae rfl rfl (Ab (Aa (A8 (Cq (v1:=(.int _ _)) (v2:=(.int _ _)) rfl rfl rfl rfl ?_))))
 exact ⟨rfl,rfl⟩

theorem I2 {es:List Ed} {i:Nat} {e:Ed} (h:es[i]? = some e):Ef (es.take (i+1))=Ef (es.take i)+Fe e:=by
 unfold Ef
 rw [Eo h,List.map_append,List.sum_append]; simp
theorem I3 (es:List Ed) (i:Nat):Ef (es.take i)≤Ef es:=by
 unfold Ef
 have h:(es.map Fe).sum=((es.take i).map Fe).sum+((es.drop i).map Fe).sum:=by rw [← List.sum_append,← List.map_append,List.take_append_drop]
 omega
theorem D6 {N:Int} {e:Ed} (h:DV N e=true):0≤e.f∧e.f<N∧0≤e.t∧e.t<N∧0≤e.cap∧e.cap≤4503599627370496 ∧ -1000≤e.cost∧e.cost≤1000:=by
 unfold DV GU at h
 simp only [Bool.and_eq_true,decide_eq_true_eq] at h
 omega
theorem C9 {α:Type} {p:α→Bool} {l:List α} {i:Nat} {x:α} (h:l[i]? = some x) (hp:p x=false):l.all p=false:=by
 rw [List.all_eq_false]
 exact ⟨x,List.mem_of_getElem? h,by rw [hp]; simp⟩
theorem CV {α:Type} {p:α→Bool} {l:List α} (h:∀ k x,k<l.length→l[k]? = some x→p x=true):l.all p=true:=by
 rw [List.all_eq_true]
 intro x hx
 obtain ⟨k,hk⟩:=List.getElem?_of_mem hx
 exact h k x (List.getElem?_eq_some_iff.1 hk).1 hk

set_option maxRecDepth 20000 in
set_option maxHeartbeats 2000000 in
theorem KE (N:Int) (a:Option Addr) (n c:Nat) (es:List Ed) (w:World) (R:Rd w a 4 Cw es) (hn:es.length=n) (hN:I64 N):Ret Tryz.prog 117 #[CS N a n c] w fun v w'=>v = .bool (Cb N es)∧Ext [] w w':=by
 subst hn
 obtain ⟨w0,rfl⟩:∃ w0,w0=w:=⟨_,rfl⟩
 have H:=Ctx.start w0 []
 refine A9 (fn:=Tryz.f117) Tryz.func117 rfl [CS N a es.length c] rfl (by kernel_rfl) ?_
 refine Af (BC rfl [.int .i64 N,.slice a es.length c] (.agg _) rfl rfl H ?_)
 rintro b1 w - H
 refine Ai rfl rfl (Ab (Aa (An (Af (BD (α:=Unit) 4194048 (fun _=>[(21,.bool (!((decide (1≤N) && decide (N≤40)) && decide (es.length≤200))))]) (fun _ w'=>Ctx w0 [] w' [(b1,Bl 28 [.int .i64 N,.slice a es.length c])]) rfl ?_ ?_)))))
 ·refine Ah rfl D5 rfl (AN rfl BV rfl H at0 rfl (AZ rfl rfl rfl (Aw rfl rfl (AE 11 rfl ?_ ?_))))
  ·intro h1
   replace h1:=AF h1
   refine Ag rfl (Ag rfl (Ag rfl (AA rfl rfl (.bool _) rfl (Aw rfl rfl (Ag rfl (Ag rfl (Ag rfl (Ag rfl (AA rfl rfl (.bool _) rfl ?_)))))))))
   refine Ab ?_
   exact ⟨rfl,(),rfl,⟨congrArg Value.bool (by rw [Bool.eq_iff_iff]; simp_all; try omega),trivial⟩,H⟩
  ·intro h2
   replace h2:=AG h2
   refine Ah rfl D5 rfl (AN rfl BV rfl H at0 rfl (Ck rfl rfl rfl (A6 rfl rfl (.bool _) rfl (Aw rfl rfl (AE 16 rfl ?_ ?_)))))
   ·intro h3
    replace h3:=AF h3
    refine Ag rfl (Ag rfl (Ag rfl (Ag rfl (AA rfl rfl (.bool _) rfl (Ab ?_)))))
    exact ⟨rfl,(),rfl,⟨congrArg Value.bool (by rw [Bool.eq_iff_iff]; simp_all; try omega),trivial⟩,H⟩
   ·intro h4
    replace h4:=AG h4
    refine Ah rfl Cc rfl (AN rfl Dh rfl H at0 rfl (AV rfl C0 rfl (Ck rfl rfl rfl (A6 rfl rfl (.bool _) rfl (Ab ?_)))))
    exact ⟨rfl,(),rfl,⟨congrArg Value.bool (by rw [Bool.eq_iff_iff]; simp_all; try omega),trivial⟩,H⟩
 rintro - j21 w H
 refine Aq _ rfl ?_ ?_
 ·intro h1
  replace h1:=Bv h1
  refine Af (Ai rfl rfl (Ab (Aa (A8 (Al (AB (v:=(.bool _)) rfl rfl rfl ?_))))))
  exact ⟨congrArg Value.bool (by unfold Cb; rw [← Bool.and_assoc,show ((decide (1≤N) && decide (N≤40)) && decide (es.length≤200))=false by simpa using h1]; rfl),H.ext⟩
 ·intro h1
  replace h1:=Bw h1
  have h1':((decide (1≤N) && decide (N≤40)) && decide (es.length≤200))=true:=by simpa using h1
  have hrN:Cb N es=(es.all (DV N) && decide (Ef es≤4611686018427387904)):=by unfold Cb; rw [← Bool.and_assoc,h1']; rfl
  have hn2:es.length≤200:=by simp only [Bool.and_eq_true,decide_eq_true_eq] at h1'; omega
  refine Ao (Aa (Af (Ae rfl rfl (Ab (Aa (An (Af (Ah rfl Cc rfl (AN rfl Dh rfl H at0 rfl (AV rfl C0 rfl (Ad rfl rfl ?_)))))))))))
  refine Ab (Aa (Au (Bf 18014398475927788 (α:=Nat) (fun i=>[(25,.int .i64 (i:Int)),(3,.int .u64 ((4611686018427387904 - Ef (es.take i):Nat):Int))]) (fun i w'=>i≤es.length∧Ctx w0 [] w' [(b1,Bl 28 [.int .i64 N,.slice a es.length c])]∧Ef (es.take i)≤4611686018427387904∧∀ (k:Nat) (e:Ed),k<i→es[k]? = some e→DV N e=true) (fun i=>es.length - i) 0 rfl ?_ ?_ ?_)))
  ·exact ⟨rfl,rfl,trivial⟩
  ·exact ⟨Nat.zero_le _,H,Nat.zero_le _,fun k e h=>absurd h (Nat.not_lt_zero _)⟩
  ·rintro i j w ⟨hi,H,hpr,hb⟩
   refine Af (AZ rfl rfl rfl (Ab (Aa (An (Aq _ rfl ?_ ?_)))))
   ·intro h2
    replace h2:=AF h2
    obtain ⟨e,he⟩:=A0 (l:=es) (i:=i) (by omega)
    have hps:=I2 he
    have hpt:=I3 es (i+1)
    refine Ao (Aa (An (Au (Af (AK R rfl C0 CC rfl rfl (by omega) (by omega) (by rfl) ?_)))))
    refine Cv _ rfl Ho CC rfl rfl ((R.ext0 H.ext).row he rfl) ?_
    refine Bj rfl Fd H ?_
    rintro b5 w - H
    refine B5 rfl CC rfl rfl rfl (by exact ES _) H at0 rfl ?_
    rintro w H
    refine Ab (Aa (An (Af (B6 rfl Cm BQ rfl H at1 rfl (B6 rfl Ho CC rfl H at0 rfl (Am rfl ZZ (XT N a es.length c e _) rfl ?_))))))
    rintro v w ⟨rfl,hx31⟩
    replace H:=H.call hx31
    refine B1 rfl rfl (Ab (Aa (Aq _ rfl ?_ ?_)))
    ·intro h3
     replace h3:=Bv h3
     refine Af (Ai rfl rfl (Ab (Aa (A8 (Al (A1 (Al (Al (A1 (Al (AB (v:=(.bool _)) rfl rfl rfl ?_)))))))))))
     exact ⟨congrArg Value.bool (by rw [hrN,C9 he (by simpa using h3)]; rfl),H.ext⟩
    ·intro h3
     replace h3:=Bw h3
     have h3':DV N e=true:=by simpa using h3
     obtain ⟨-,-,-,-,q1,q2,q3,q4⟩:=D6 h3'
     obtain ⟨cp,hcp⟩:∃ cp:Nat,e.cap=(cp:Int):=⟨e.cap.toNat,by omega⟩
     have hpe:Fe e=cp*e.cost.natAbs:=by unfold Fe; rw [hcp,Int.toNat_natCast]
     have hpm:cp*e.cost.natAbs≤4503599627370496*1000:=Nat.mul_le_mul (by omega) (by omega)
     obtain ⟨w5,rfl⟩:∃ z,z=w:=⟨_,rfl⟩
     have hb5:=H.get at0
     have hk5:∀ {z:World},Ext [] w5 z→z.heap[b5]? = some (Bl 92 (Cw e)):=fun {z} h=>by rw [h.block b5 (Bp hb5) (by simp)]; exact hb5
     have hD:=Ext.drew [] w5
     refine Ao (Aa (CP [([0,1,2,3,4],5),([],6),([7,8,9,10],11)] (fun z=>Ext [] w5 z) [] B0 (by kernel_rfl) (hD) ?_))
     refine AU rfl rfl ?_
     refine AH rfl DP rfl (BP rfl Bt rfl (fun _ hx=>(by rw [Ay (hk5 hx)]; rfl)) ?_)
     rw [hcp]
     refine RM rfl rfl VZ Gx (by omega) (by omega) ?_
     refine AH rfl EK rfl (BP rfl Bt rfl (fun _ hx=>(by rw [Ay (hk5 hx)]; rfl)) ?_)
     refine Ba ?_
     replace H:=H.drew
     refine Am rfl Aab (Abr e.cost (by omega) (by omega) _) rfl ?_
     rintro v w ⟨rfl,rfl⟩
     refine Ab (BL (hD) (AU rfl rfl ?_))
     refine Ba (Am rfl Aaa (Wm cp e.cost.natAbs (by omega) (by omega) _) rfl ?_)
     rintro v w ⟨rfl,rfl⟩
     refine Ab (BL (hD) (AU rfl rfl ?_))
     refine Fo rfl rfl (BM rfl rfl rfl (BM rfl rfl rfl (NN rfl rfl (Ba (Ae rfl rfl (Ab (BL (hD) (BO (An (Af ?_))))))))))
     refine Ad rfl rfl (Cp rfl rfl rfl (Aw rfl rfl (Ad rfl rfl (Ad rfl rfl (Ck rfl rfl rfl (A6 rfl rfl (.bool _) rfl (Ab (Aa (Aq _ rfl ?_ ?_)))))))))
     ·intro h4
      replace h4:=AF h4
      refine Af (Ai rfl rfl (Ab (Aa (A8 (Al (A1 (Al (Al (A1 (Al (AB (v:=(.bool _)) rfl rfl rfl ?_)))))))))))
      exact ⟨congrArg Value.bool (by rw [hrN,decide_eq_false (show ¬ Ef es≤4611686018427387904 by omega),Bool.and_false]),H.ext⟩
     ·intro h4
      replace h4:=AG h4
      refine Ao (Aa (Av (Ad rfl rfl (Ad rfl rfl (Mx rfl rfl rfl (by omega) (by omega) ?_)))))
      refine Ae rfl rfl (Ab (A5 (Aa (Av (Ap rfl rfl rfl (by omega) (by omega) ?_)))))
      refine Ad rfl rfl (Ab (Aa ?_))
      refine ⟨i+1,rfl,⟨rfl,congrArg (Value.int .u64) (by rw [hps,hpe]; omega),trivial⟩,⟨by omega,H.tail,by rw [hps,hpe]; omega,fun k y hk hy=>?_⟩,by omega⟩
      rcases Nat.lt_or_ge k i with h7 | h7
      ·exact hb k y h7 hy
      ·obtain rfl:k=i:=by omega
       rw [he] at hy
       cases hy
       exact h3'
   ·intro h2
    replace h2:=AG h2
    refine Bc (Ak (Ak (AD (Aa (Af (Ai rfl rfl (Ab (Aa (A8 (AB (v:=(.bool _)) rfl rfl rfl ?_))))))))))
    rw [List.take_of_length_le (by omega)] at hpr
    exact ⟨congrArg Value.bool (by rw [hrN,CV fun k x hk hx=>hb k x (by omega) hx,decide_eq_true hpr]; rfl),H.ext⟩

end Go.Proofs.YtapphbmlkdhnmaaGreat

/- Flows within a net, arcs: the walks. -/
namespace Go.Proofs.YtapphbmlkdhnmaaGreat
open Go.GV
attribute [local irreducible] AL W Wq Wt

def FJ (x:Int):Value := .int .i64 x
abbrev I1 (x:Int):List Value:=[.int .i64 x]
def inB (e:Ed) (x:Int):Bool:=decide (0≤x) && decide (x≤e.cap)
/-- Is a flow within its net? -/
def BG (N:Int) (es:List Ed) (fl:List Int):Bool:=(decide (fl.length=es.length) && Cb N es) && (List.zipWith inB es fl).all id
theorem Kf {es:List Ed} {fl:List Int} {i:Nat} {e:Ed} {x:Int} (he:es[i]? = some e) (hx:fl[i]? = some x):(List.zipWith inB es fl)[i]? = some (inB e x):=by
 rw [List.getElem?_zipWith,he,hx]

set_option maxRecDepth 20000 in
set_option maxHeartbeats 2000000 in
theorem J9 (N:Int) (a b:Option Addr) (n c m d:Nat) (es:List Ed) (fl:List Int) (w:World) (R:Rd w a 4 Cw es) (hn:es.length=n) (hN:I64 N) (Rf:Rd w b 1 I1 fl) (hm:fl.length=m) (hm2:m≤9223372036854775000) :
  Ret Tryz.prog 178 #[CS N a n c,.slice b m d] w fun v w'=>v = .bool (BG N es fl)∧Ext [] w w':=by
 subst hn hm
 obtain ⟨w0,rfl⟩:∃ w0,w0=w:=⟨_,rfl⟩
 have H:=Ctx.start w0 []
 refine A9 (fn:=Tryz.f178) Tryz.func178 rfl [CS N a es.length c,.slice b fl.length d] rfl (by kernel_rfl) ?_
 refine Af (BC rfl [.int .i64 N,.slice a es.length c] (.agg _) rfl rfl H ?_)
 rintro b2 w - H
 refine Ai rfl rfl (Ab (Aa (An (Af (BD (α:=Unit) 262016 (fun _=>[(17,.bool (!(decide (fl.length=es.length) && Cb N es)))]) (fun _ w'=>Ctx w0 [] w' [(b2,Bl 28 [.int .i64 N,.slice a es.length c])]) rfl ?_ ?_)))))
 ·refine Aj rfl rfl (AV rfl AO rfl (Ah rfl Cc rfl (AN rfl Dh rfl H at0 rfl (AV rfl C0 rfl (Cp rfl rfl rfl (Aw rfl rfl (AE 13 rfl ?_ ?_)))))))
  ·intro h1
   replace h1:=CY h1
   refine Ag rfl (Ag rfl (Ag rfl (AA rfl rfl (.bool _) rfl (Ab ?_))))
   exact ⟨rfl,(),rfl,⟨congrArg Value.bool (by rw [Bool.eq_iff_iff]; simp_all; try omega),trivial⟩,H⟩
  ·intro h2
   replace h2:=CZ h2
   refine B6 rfl Cm BQ rfl H at0 rfl (Am rfl Po (KE N a es.length c es _ (R.ext0 H.ext) rfl hN) rfl ?_)
   rintro v w ⟨rfl,hx15⟩
   replace H:=H.call hx15
   refine B1 rfl rfl (A6 rfl rfl (.bool _) rfl (Ab ?_))
   exact ⟨rfl,(),rfl,⟨congrArg Value.bool (by rw [Bool.eq_iff_iff]; simp_all; try omega),trivial⟩,H⟩
 rintro - j17 w H
 refine Aq _ rfl ?_ ?_
 ·intro h1
  replace h1:=Bv h1
  refine Af (Ai rfl rfl (Ab (Aa (A8 (Al (AB (v:=(.bool _)) rfl rfl rfl ?_))))))
  exact ⟨congrArg Value.bool (by unfold BG; rw [show (decide (fl.length=es.length) && Cb N es)=false by simpa using h1]; rfl),H.ext⟩
 ·intro h1
  replace h1:=Bw h1
  have h1':(decide (fl.length=es.length) && Cb N es)=true:=by simpa using h1
  have hw:BG N es fl=(List.zipWith inB es fl).all id:=by unfold BG; rw [h1']; rfl
  have hle:fl.length=es.length:=by simp only [Bool.and_eq_true,decide_eq_true_eq] at h1'; exact h1'.1
  refine Ao (Aa (An (Af (Aj rfl rfl (AV rfl AO rfl (Ad rfl rfl (Ab (Aa (Au (Bf 274876858480 (α:=Nat) (fun i=>[(20,.int .i64 (i:Int))]) (fun i w'=>i≤fl.length∧Ctx w0 [] w' [(b2,Bl 28 [.int .i64 N,.slice a es.length c])]∧∀ (k:Nat) (e:Ed) (x:Int),k<i→es[k]? = some e→fl[k]? = some x→inB e x=true) (fun i=>fl.length - i) 0 rfl ?_ ?_ ?_))))))))))
  ·exact ⟨rfl,trivial⟩
  ·exact ⟨Nat.zero_le _,H,fun k e x h=>absurd h (Nat.not_lt_zero _)⟩
  ·rintro i j w ⟨hi,H,hb⟩
   refine Af (AZ rfl rfl rfl (Ab (Aa (An (Aq _ rfl ?_ ?_)))))
   ·intro h2
    replace h2:=AF h2
    obtain ⟨e,he⟩:=A0 (l:=es) (i:=i) (by omega)
    obtain ⟨x,hx⟩:=A0 (l:=fl) (i:=i) (by omega)
    refine Ao (Aa (An (Au (Af (Ad rfl rfl (AK Rf rfl AO Bu rfl rfl (by omega) (by omega) (by rfl) ?_))))))
    refine Bb rfl Bt rfl (((Rf.ext0 H.ext).fld hx rfl (j:=0) rfl)) ?_
    refine Ae rfl rfl (Ae rfl rfl (Ab (Aa (Af (BD (α:=Unit) 137405399040 (fun _=>[(36,.bool (!inB e x))]) (fun _ w'=>Ctx w0 [] w' [(b2,Bl 28 [.int .i64 N,.slice a es.length c])]) rfl ?_ ?_)))))
    ·refine Ad rfl rfl (AZ rfl rfl rfl (Aw rfl rfl (AE 27 rfl ?_ ?_)))
     ·intro h3
      replace h3:=AF h3
      refine Ag rfl (Ag rfl (Ag rfl (Ag rfl (Ag rfl (Ag rfl (Ag rfl (Ag rfl (AA rfl rfl (.bool _) rfl (Ab ?_)))))))))
      exact ⟨rfl,(),rfl,⟨congrArg Value.bool (by unfold inB; rw [Bool.eq_iff_iff]; simp_all; try omega),trivial⟩,H⟩
     ·intro h4
      replace h4:=AG h4
      refine Ad rfl rfl (Ah rfl Cc rfl (AN rfl Dh rfl H at0 rfl (Ad rfl rfl (AK R rfl C0 CC rfl rfl (by omega) (by omega) (by rfl) ?_))))
      refine Ah rfl DP rfl (Bb rfl Bt rfl (((R.ext0 H.ext).fld he rfl (j:=2) rfl)) ?_)
      refine Ck rfl rfl rfl (A6 rfl rfl (.bool _) rfl (Ab ?_))
      exact ⟨rfl,(),rfl,⟨congrArg Value.bool (by unfold inB; rw [Bool.eq_iff_iff]; simp_all; try omega),trivial⟩,H⟩
    rintro - j36 w H
    refine Aq _ rfl ?_ ?_
    ·intro h3
     replace h3:=Bv h3
     refine Af (Ai rfl rfl (Ab (Aa (A8 (A1 (Al (Al (A1 (Al (AB (v:=(.bool _)) rfl rfl rfl ?_))))))))))
     exact ⟨congrArg Value.bool (by rw [hw,C9 (Kf he hx) (show id (inB e x)=false by simpa using h3)]),H.ext⟩
    ·intro h3
     replace h3:=Bw h3
     refine Ao (A5 (Aa (Av (Ap rfl rfl rfl (by omega) (by omega) ?_))))
     refine Ad rfl rfl (Ab (Aa ?_))
     refine ⟨i+1,rfl,⟨rfl,trivial⟩,⟨by omega,H,fun k f y hk hf hy=>?_⟩,by omega⟩
     rcases Nat.lt_or_ge k i with h7 | h7
     ·exact hb k f y h7 hf hy
     ·obtain rfl:k=i:=by omega
      rw [he] at hf; rw [hx] at hy
      cases hf; cases hy
      simpa using h3
   ·intro h2
    replace h2:=AG h2
    refine Bc (Ak (Ak (AD (Aa (Af (Ai rfl rfl (Ab (Aa (A8 (AB (v:=(.bool _)) rfl rfl rfl ?_))))))))))
    refine ⟨congrArg Value.bool ?_,H.ext⟩
    rw [hw,CV fun k x hk hx=>?_]
    rw [List.length_zipWith] at hk
    obtain ⟨e,he⟩:=A0 (l:=es) (i:=k) (by omega)
    obtain ⟨y,hy⟩:=A0 (l:=fl) (i:=k) (by omega)
    rw [Kf he hy] at hx
    cases hx
    exact hb k e y (by omega) he hy
theorem BZ {N:Int} {es:List Ed} {fl:List Int} (h:BG N es fl=true):fl.length=es.length∧Cb N es=true∧∀ (i:Nat) (e:Ed) (x:Int),es[i]? = some e→fl[i]? = some x→0≤x∧x≤e.cap:=by
 unfold BG at h
 simp only [Bool.and_eq_true,decide_eq_true_eq,List.all_eq_true] at h
 refine ⟨h.1.1,h.1.2,fun i e x he hx=>?_⟩
 have:=h.2 _ (List.mem_of_getElem? (Kf he hx))
 unfold inB at this
 simpa using this
theorem Cn {N:Int} {es:List Ed} (h:Cb N es=true):1≤N∧N≤40∧es.length≤200∧(∀ e∈es,DV N e=true)∧Ef es≤4611686018427387904:=by
 unfold Cb at h
 simp only [Bool.and_eq_true,decide_eq_true_eq,List.all_eq_true] at h
 exact ⟨h.1.1,h.1.2,h.2.1,h.2.2.1,h.2.2.2⟩

/-! ### Arcs -/
def HS (es:List Ed) (a:Int):Bool:=decide (0≤a) && decide (a<2*es.length)
theorem Wn (N:Int) (a:Option Addr) (n c:Nat) (es:List Ed) (hn:es.length=n) (hb:n≤1000000) (k:Int) (w:World):Ret Tryz.prog 197 #[CS N a n c,.int .i64 k] w fun v w'=>v = .bool (HS es k)∧Ext [] w w':=by
 subst hn
 obtain ⟨w0,rfl⟩:∃ w0,w0=w:=⟨_,rfl⟩
 have H:=Ctx.start w0 []
 refine A9 (fn:=Tryz.f197) Tryz.func197 rfl [CS N a es.length c,.int .i64 k] rfl (by kernel_rfl) ?_
 refine Af (BC rfl [.int .i64 N,.slice a es.length c] (.agg _) rfl rfl H ?_)
 rintro b2 w - H
 refine Ai rfl rfl (Ab (Aa (Af (Ad rfl rfl (Cx rfl rfl rfl (Aw rfl rfl (AE 7 rfl ?_ ?_)))))))
 ·intro h1
  replace h1:=AF h1
  refine Ad rfl rfl (Ah rfl Cc rfl (AN rfl Dh rfl H at0 rfl (AV rfl C0 rfl (Dd rfl rfl rfl (by omega) (by omega) ?_))))
  refine AZ rfl rfl rfl (AA rfl rfl (.bool _) rfl (Ai rfl rfl (Ab (Aa (A8 (AB (v:=(.bool _)) rfl rfl rfl ?_))))))
  exact ⟨congrArg Value.bool (by unfold HS; rw [Bool.eq_iff_iff]; simp_all; try omega),H.ext⟩
 ·intro h2
  replace h2:=AG h2
  refine Ag rfl (Ag rfl (Ag rfl (Ag rfl (Ag rfl (Ag rfl (A6 rfl rfl (.bool _) rfl (Ai rfl rfl (Ab (Aa (A8 (AB (v:=(.bool _)) rfl rfl rfl ?_)))))))))))
  exact ⟨congrArg Value.bool (by unfold HS; rw [Bool.eq_iff_iff]; simp_all; try omega),H.ext⟩
theorem T5 (k:Nat) (hk:k<9223372036854775808) (w:World):Ret Tryz.prog 217 #[.int .i64 (k:Int)] w fun v w'=>v = .bool (decide (k % 2=1))∧w=w':=by
 obtain ⟨w0,rfl⟩:∃ w0,w0=w:=⟨_,rfl⟩
 refine A9 (fn:=Tryz.f217) Tryz.func217 rfl [.int .i64 (k:Int)] rfl (by kernel_rfl) ?_
 refine Af (Ai rfl rfl (Ab (Aa (Af (Ad rfl rfl (M9 (b:=1) rfl rfl rfl (by omega) (by omega) ?_))))))
 rw [Nat.and_one_is_mod]
 refine Cu rfl rfl rfl (Ai rfl rfl (Ab (Aa (A8 (AB (v:=(.bool _)) rfl rfl rfl ?_)))))
 exact ⟨congrArg Value.bool (by rw [Bool.eq_iff_iff]; simp; omega),rfl⟩
/-- An arc of an edge: from where, to where, at which cost. -/
def Fj (e:Ed) (k:Nat):Int × Int × Int:=if k % 2=1 then (e.t,e.f,-e.cost) else (e.f,e.t,e.cost)
theorem XU (N:Int) (a:Option Addr) (n c:Nat) (es:List Ed) (w:World) (R:Rd w a 4 Cw es) (hn:es.length=n) (hb:n≤1000000) (k:Nat) {e:Ed} (he:es[k / 2]? = some e) (hc : -9223372036854775808<e.cost∧e.cost≤9223372036854775807):Ret Tryz.prog 211 #[CS N a n c,.int .i64 (k:Int)] w fun v w'=>v = .tuple #[.int .i64 (Fj e k).1,.int .i64 (Fj e k).2.1,.int .i64 (Fj e k).2.2]∧Ext [] w w':=by
 subst hn
 obtain ⟨w0,rfl⟩:∃ w0,w0=w:=⟨_,rfl⟩
 have H:=Ctx.start w0 []
 have hk:=Cr he
 refine A9 (fn:=Tryz.f211) Tryz.func211 rfl [CS N a es.length c,.int .i64 (k:Int)] rfl (by kernel_rfl) ?_
 refine Af (BC rfl [.int .i64 N,.slice a es.length c] (.agg _) rfl rfl H ?_)
 rintro b2 w - H
 refine Ae rfl rfl (Ae rfl rfl (Ae rfl rfl (Ab (Aa (Af (Ah rfl Cc rfl (AN rfl Dh rfl H at0 rfl (Ad rfl rfl (Iu (n:=1) rfl rfl rfl (by omega) ?_)))))))))
 rw [show k / 2 ^ 1=k / 2 from rfl]
 refine AK R rfl C0 CC rfl rfl (by omega) (by omega) (by rfl) ?_
 refine Cv _ rfl Ho CC rfl rfl ((R.ext0 H.ext).row he rfl) ?_
 refine Bj rfl Fd H ?_
 rintro b7 w - H
 refine B5 rfl CC rfl rfl rfl (by exact ES _) H at0 rfl ?_
 rintro w H
 refine Ab (Aa (An (Af (Ad rfl rfl (Am rfl VN (T5 k (by omega) _) rfl ?_)))))
 rintro v w ⟨rfl,rfl⟩
 refine Ab (Aa (Aq _ rfl ?_ ?_))
 ·intro h1
  refine DE (fun x=>x=_) B0 (by kernel_rfl) rfl ?_
  refine A7 rfl EZ rfl (Cd rfl BV rfl (by rintro _ rfl; exact H.drew) at0 rfl ?_)
  refine A7 rfl EY rfl (Cd rfl BV rfl (by rintro _ rfl; exact H.drew) at0 rfl ?_)
  refine A7 rfl EK rfl (Cd rfl Bt rfl (by rintro _ rfl; exact H.drew) at0 rfl ?_)
  refine NK rfl rfl (by omega) (by omega) ?_
  refine C8 rfl rfl (C8 rfl rfl (C8 rfl rfl (BJ ?_)))
  rintro _ rfl
  replace H:=H.drew
  refine A8 (Al (IW (v1:=(.int _ _)) (v2:=(.int _ _)) (v3:=(.int _ _)) rfl rfl rfl rfl rfl ?_))
  exact ⟨by unfold Fj; rw [if_pos (of_decide_eq_true h1)],H.ext⟩
 ·intro h1
  refine Ao (Aa (DE (fun x=>x=_) B0 (by kernel_rfl) rfl ?_))
  refine A7 rfl EY rfl (Cd rfl BV rfl (by rintro _ rfl; exact H.drew) at0 rfl ?_)
  refine A7 rfl EZ rfl (Cd rfl BV rfl (by rintro _ rfl; exact H.drew) at0 rfl ?_)
  refine A7 rfl EK rfl (Cd rfl Bt rfl (by rintro _ rfl; exact H.drew) at0 rfl ?_)
  refine C8 rfl rfl (C8 rfl rfl (C8 rfl rfl (BJ ?_)))
  rintro _ rfl
  replace H:=H.drew
  refine A8 (IW (v1:=(.int _ _)) (v2:=(.int _ _)) (v3:=(.int _ _)) rfl rfl rfl rfl rfl ?_)
  exact ⟨by unfold Fj; rw [if_neg (of_decide_eq_false h1)],H.ext⟩
/-- What is told of an arc. -/
def F0 (N:Int) (es:List Ed) (k:Int):Int × Int × Int:=if (HS es k && Cb N es)=true then Fj (es.getD (k.toNat / 2) ⟨0,0,0,0⟩) k.toNat else (0,0,0)
set_option maxRecDepth 20000 in
theorem Py (N:Int) (a:Option Addr) (n c:Nat) (es:List Ed) (w:World) (R:Rd w a 4 Cw es) (hn:es.length=n) (hb:n≤1000000) (hN:I64 N) (k:Int):Ret Tryz.prog 180 #[CS N a n c,.int .i64 k] w fun v w'=>v = .tuple #[.int .i64 (F0 N es k).1,.int .i64 (F0 N es k).2.1,.int .i64 (F0 N es k).2.2]∧Ext [] w w':=by
 subst hn
 obtain ⟨w0,rfl⟩:∃ w0,w0=w:=⟨_,rfl⟩
 have H:=Ctx.start w0 []
 refine A9 (fn:=Tryz.f180) Tryz.func180 rfl [CS N a es.length c,.int .i64 k] rfl (by kernel_rfl) ?_
 refine Af (BC rfl [.int .i64 N,.slice a es.length c] (.agg _) rfl rfl H ?_)
 rintro b2 w - H
 refine Ae rfl rfl (Ae rfl rfl (Ae rfl rfl (Ab (Aa (An (Af (BD (α:=Unit) 65408 (fun _=>[(15,.bool (!(HS es k && Cb N es)))]) (fun _ w'=>Ctx w0 [] w' [(b2,Bl 28 [.int .i64 N,.slice a es.length c])]) rfl ?_ ?_)))))))
 ·refine B6 rfl Cm BQ rfl H at0 rfl (Ad rfl rfl (Am rfl VJ (Wn N a es.length c es rfl hb k _) rfl ?_))
  rintro v w ⟨rfl,hx9⟩
  replace H:=H.call hx9
  refine B1 rfl rfl (Aw rfl rfl (AE 11 rfl ?_ ?_))
  ·intro h1
   replace h1:=Bv h1
   refine Ag rfl (Ag rfl (Ag rfl (AA rfl rfl (.bool _) rfl (Ab ?_))))
   exact ⟨rfl,(),rfl,⟨congrArg Value.bool (by rw [Bool.eq_iff_iff]; simp_all),trivial⟩,H⟩
  ·intro h2
   replace h2:=Bw h2
   refine B6 rfl Cm BQ rfl H at0 rfl (Am rfl Po (KE N a es.length c es _ (R.ext0 H.ext) rfl hN) rfl ?_)
   rintro v w ⟨rfl,hx13⟩
   replace H:=H.call hx13
   refine B1 rfl rfl (A6 rfl rfl (.bool _) rfl (Ab ?_))
   exact ⟨rfl,(),rfl,⟨congrArg Value.bool (by rw [Bool.eq_iff_iff]; simp_all),trivial⟩,H⟩
 rintro - j15 w H
 refine Aq _ rfl ?_ ?_
 ·intro h1
  replace h1:=Bv h1
  refine Af (Ae rfl rfl (Ae rfl rfl (Ae rfl rfl (Ab (Aa (A8 (Al (IW (v1:=(.int _ _)) (v2:=(.int _ _)) (v3:=(.int _ _)) rfl rfl rfl rfl rfl ?_))))))))
  exact ⟨by unfold F0; rw [if_neg (by rw [show (HS es k && Cb N es)=false by simpa using h1]; simp)],H.ext⟩
 ·intro h1
  replace h1:=Bw h1
  have h1':(HS es k && Cb N es)=true:=by simpa using h1
  have hk:0≤k∧k<2*es.length:=by
   simp only [Bool.and_eq_true] at h1'
   have:=h1'.1
   unfold HS at this
   simpa using this
  obtain ⟨q,rfl⟩:∃ q:Nat,k=(q:Int):=⟨k.toNat,by omega⟩
  obtain ⟨e,he⟩:=A0 (l:=es) (i:=q / 2) (by omega)
  have hee:=(Cn (Bool.and_eq_true_iff.1 h1').2).2.2.2.1 e (List.mem_of_getElem? he)
  have hco:=D6 hee
  have hE:F0 N es (q:Int)=Fj e q:=by unfold F0; rw [if_pos h1',Int.toNat_natCast,List.getD_eq_getElem?_getD,he]; rfl
  rw [hE]
  refine Ao (Aa (Af (B6 rfl Cm BQ rfl H at0 rfl (Ad rfl rfl (Am rfl Aa4 (XU N a es.length c es _ (R.ext0 H.ext) rfl hb q he (by omega)) rfl ?_)))))
  rintro v w ⟨rfl,hx18⟩
  replace H:=H.call hx18
  refine A3 rfl rfl rfl (A3 rfl rfl rfl (A3 rfl rfl rfl (Ae rfl rfl (Ae rfl rfl (Ae rfl rfl (Ab (Aa (A8 (IW (v1:=(.int _ _)) (v2:=(.int _ _)) (v3:=(.int _ _)) rfl rfl rfl rfl rfl ?_)))))))))
  exact ⟨rfl,H.ext⟩
def Jp (e:Ed) (x:Int) (k:Nat):Int:=if k % 2=1 then x else e.cap - x
theorem XV (N:Int) (a b:Option Addr) (n c m d:Nat) (es:List Ed) (fl:List Int) (w:World) (R:Rd w a 4 Cw es) (hn:es.length=n) (hb:n≤1000000) (Rf:Rd w b 1 I1 fl) (hm:fl.length=m) (k:Nat) {e:Ed} {x:Int} (he:es[k / 2]? = some e) (hx:fl[k / 2]? = some x) (hr : -9223372036854775808≤e.cap - x∧e.cap - x≤9223372036854775807) :
  Ret Tryz.prog 198 #[CS N a n c,.slice b m d,.int .i64 (k:Int)] w fun v w'=>v = .int .i64 (Jp e x k)∧Ext [] w w':=by
 subst hn hm
 obtain ⟨w0,rfl⟩:∃ w0,w0=w:=⟨_,rfl⟩
 have H:=Ctx.start w0 []
 have hk:=Cr he
 have hkx:=Cr hx
 refine A9 (fn:=Tryz.f198) Tryz.func198 rfl [CS N a es.length c,.slice b fl.length d,.int .i64 (k:Int)] rfl (by kernel_rfl) ?_
 refine Af (BC rfl [.int .i64 N,.slice a es.length c] (.agg _) rfl rfl H ?_)
 rintro b3 w - H
 refine Ae rfl rfl (Ab (Aa (Af (Aj rfl rfl (Ad rfl rfl (Iu (n:=1) rfl rfl rfl (by omega) ?_))))))
 rw [show k / 2 ^ 1=k / 2 from rfl]
 refine AK Rf rfl AO Bu rfl rfl (by omega) (by omega) (by rfl) ?_
 refine Bb rfl Bt rfl (((Rf.ext0 H.ext).fld hx rfl (j:=0) rfl)) ?_
 refine Ae rfl rfl (Ab (Aa (An (Af (Ad rfl rfl (Am rfl VN (T5 k (by omega) _) rfl ?_))))))
 rintro v w ⟨rfl,rfl⟩
 refine Ab (Aa (Aq _ rfl ?_ ?_))
 ·intro h1
  refine Af (Ad rfl rfl (Ae rfl rfl (Ab (Aa (A8 (Al (AB (v:=(.int _ _)) rfl rfl rfl ?_)))))))
  exact ⟨by unfold Jp; rw [if_pos (of_decide_eq_true h1)],H.ext⟩
 ·intro h1
  refine Ao (Aa (Af (Ah rfl Cc rfl (AN rfl Dh rfl H at0 rfl (Ad rfl rfl (Iu (n:=1) rfl rfl rfl (by omega) ?_))))))
  rw [show k / 2 ^ 1=k / 2 from rfl]
  refine AK R rfl C0 CC rfl rfl (by omega) (by omega) (by rfl) ?_
  refine Ah rfl DP rfl (Bb rfl Bt rfl (((R.ext0 H.ext).fld he rfl (j:=2) rfl)) ?_)
  refine Ad rfl rfl (Be rfl rfl rfl (by omega) (by omega) ?_)
  refine Ae rfl rfl (Ab (Aa (A8 (AB (v:=(.int _ _)) rfl rfl rfl ?_))))
  exact ⟨by unfold Jp; rw [if_neg (of_decide_eq_false h1)],H.ext⟩
def JQ (N:Int) (es:List Ed) (fl:List Int) (k:Int):Int:=if (HS es k && BG N es fl)=true then Jp (es.getD (k.toNat / 2) ⟨0,0,0,0⟩) (fl.getD (k.toNat / 2) 0) k.toNat else 0
set_option maxRecDepth 20000 in
theorem Pz (N:Int) (a b:Option Addr) (n c m d:Nat) (es:List Ed) (fl:List Int) (w:World) (R:Rd w a 4 Cw es) (hn:es.length=n) (hb:n≤1000000) (hN:I64 N) (Rf:Rd w b 1 I1 fl) (hm:fl.length=m) (hm2:m≤9223372036854775000) (k:Int):Ret Tryz.prog 170 #[CS N a n c,.slice b m d,.int .i64 k] w fun v w'=>v = .int .i64 (JQ N es fl k)∧Ext [] w w':=by
 subst hn hm
 obtain ⟨w0,rfl⟩:∃ w0,w0=w:=⟨_,rfl⟩
 have H:=Ctx.start w0 []
 refine A9 (fn:=Tryz.f170) Tryz.func170 rfl [CS N a es.length c,.slice b fl.length d,.int .i64 k] rfl (by kernel_rfl) ?_
 refine Af (BC rfl [.int .i64 N,.slice a es.length c] (.agg _) rfl rfl H ?_)
 rintro b3 w - H
 refine Ae rfl rfl (Ab (Aa (An (Af (BD (α:=Unit) 130944 (fun _=>[(16,.bool (!(HS es k && BG N es fl)))]) (fun _ w'=>Ctx w0 [] w' [(b3,Bl 28 [.int .i64 N,.slice a es.length c])]) rfl ?_ ?_)))))
 ·refine B6 rfl Cm BQ rfl H at0 rfl (Ad rfl rfl (Am rfl VJ (Wn N a es.length c es rfl hb k _) rfl ?_))
  rintro v w ⟨rfl,hx9⟩
  replace H:=H.call hx9
  refine B1 rfl rfl (Aw rfl rfl (AE 11 rfl ?_ ?_))
  ·intro h1
   replace h1:=Bv h1
   refine Ag rfl (Ag rfl (Ag rfl (Ag rfl (AA rfl rfl (.bool _) rfl (Ab ?_)))))
   exact ⟨rfl,(),rfl,⟨congrArg Value.bool (by rw [Bool.eq_iff_iff]; simp_all),trivial⟩,H⟩
  ·intro h2
   replace h2:=Bw h2
   refine B6 rfl Cm BQ rfl H at0 rfl (Aj rfl rfl (Am rfl Pq (J9 N a b es.length c fl.length d es fl _ (R.ext0 H.ext) rfl hN (Rf.ext0 H.ext) rfl hm2) rfl ?_))
   rintro v w ⟨rfl,hx14⟩
   replace H:=H.call hx14
   refine B1 rfl rfl (A6 rfl rfl (.bool _) rfl (Ab ?_))
   exact ⟨rfl,(),rfl,⟨congrArg Value.bool (by rw [Bool.eq_iff_iff]; simp_all),trivial⟩,H⟩
 rintro - j16 w H
 refine Aq _ rfl ?_ ?_
 ·intro h1
  replace h1:=Bv h1
  refine Af (Ae rfl rfl (Ab (Aa (A8 (Al (AB (v:=(.int _ _)) rfl rfl rfl ?_))))))
  exact ⟨by unfold JQ; rw [if_neg (by rw [show (HS es k && BG N es fl)=false by simpa using h1]; simp)],H.ext⟩
 ·intro h1
  replace h1:=Bw h1
  have h1':(HS es k && BG N es fl)=true:=by simpa using h1
  have hk:0≤k∧k<2*es.length:=by
   simp only [Bool.and_eq_true] at h1'
   have:=h1'.1
   unfold HS at this
   simpa using this
  obtain ⟨q,rfl⟩:∃ q:Nat,k=(q:Int):=⟨k.toNat,by omega⟩
  obtain ⟨hl,hri,hin⟩:=BZ (Bool.and_eq_true_iff.1 h1').2
  obtain ⟨e,he⟩:=A0 (l:=es) (i:=q / 2) (by omega)
  obtain ⟨x,hx⟩:=A0 (l:=fl) (i:=q / 2) (by omega)
  have hee:=(Cn hri).2.2.2.1 e (List.mem_of_getElem? he)
  have hco:=D6 hee
  have hxx:=hin _ e x he hx
  have hE:JQ N es fl (q:Int)=Jp e x q:=by unfold JQ; rw [if_pos h1',Int.toNat_natCast,List.getD_eq_getElem?_getD,he,List.getD_eq_getElem?_getD,hx]; rfl
  rw [hE]
  refine Ao (Aa (Af (B6 rfl Cm BQ rfl H at0 rfl (Aj rfl rfl (Ad rfl rfl (Am rfl Aau (XV N a b es.length c fl.length d es fl _ (R.ext0 H.ext) rfl hb (Rf.ext0 H.ext) rfl q he hx (by omega)) rfl ?_))))))
  rintro v w ⟨rfl,hx20⟩
  replace H:=H.call hx20
  refine Ae rfl rfl (Ab (Aa (A8 (AB (v:=(.int _ _)) rfl rfl rfl ?_))))
  exact ⟨rfl,H.ext⟩

end Go.Proofs.YtapphbmlkdhnmaaGreat

/- What flows over: the walks. -/
namespace Go.Proofs.YtapphbmlkdhnmaaGreat
open Go.GV
attribute [local irreducible] AL W Wq Wt

abbrev ptr (b:Nat):Value := .pointer (some ⟨b,0,none⟩)
/-! ### Tables -/
def tab (f:Nat→Int) (n:Nat):List Int:=(List.range n).map f
theorem CQ (f:Nat→Int) (n:Nat):(tab f n).length=n:=by unfold tab; simp
theorem BN {f:Nat→Int} {n i:Nat} (h:i<n):(tab f n)[i]? = some (f i):=D3 h
theorem Abs (l:List Int):tab (fun i=>l.getD i 0) l.length=l:=by
 apply List.ext_getElem?
 intro j
 by_cases hj:j<l.length
 ·rw [BN hj,List.getD_eq_getElem?_getD,List.getElem?_eq_getElem hj]; rfl
 ·rw [List.getElem?_eq_none (by rw [CQ]; omega),List.getElem?_eq_none (by omega)]
theorem Li {f:Nat→Int} {n i:Nat} {x:Int} (h:(tab f n)[i]? = some x):i<n∧x=f i:=by
 have h1:=Cr h
 rw [CQ] at h1
 rw [BN h1] at h
 cases h
 exact ⟨h1,rfl⟩
abbrev BE (f:Nat→Int) (n:Nat):List Value:=(List.range n).map fun i => .int .i64 (f i)
theorem Uu (f:Nat→Int) (n:Nat):BE f n=(tab f n).flatMap I1:=by
 unfold tab I1
 rw [YS,List.map_map]; rfl
theorem Cs {w:World} {b:Nat} {t:TypeId} {f:Nat→Int} {n:Nat} (h:w.heap[b]? = some (Bl t (BE f n))):Rd w (some ⟨b,0,none⟩) 1 I1 (tab f n) :=
 Rd.of_bl (r:=[]) (enc:=I1) (xs:=tab f n) h (by rw [Uu,List.append_nil]) fun _ _=>rfl

def e0:Ed:=⟨0,0,0,0⟩
/-- A net as a graph. -/
def grE (N:Int) (es:List Ed):Gr:=⟨N.toNat,es.length,fun i=>(es.getD i e0).f.toNat,fun i=>(es.getD i e0).t.toNat,fun i=>(es.getD i e0).cost⟩
def Co (es:List Ed) (i:Nat):Int:=(es.getD i e0).cap
def flE (fl:List Int) (i:Nat):Int:=fl.getD i 0
theorem Bn {α:Type} {l:List α} {i:Nat} {x d:α} (h:l[i]? = some x):l.getD i d=x:=by rw [List.getD_eq_getElem?_getD,h]; rfl
def JR (N:Int) (es:List Ed) (fl:List Int):List Int:=tab (BA (grE N es) (flE fl)) N.toNat
def Es (N:Int) (es:List Ed) (fl:List Int):Bool:=BG N es fl && (JR N es fl).all fun x=>decide (x=0)

/-! ### The edges, one by one -/
theorem Wo (N:Int) (a b:Option Addr) (n c m d:Nat) (w:World):Ret Tryz.prog 210 #[CS N a n c,.slice b m d] w fun v w'=>∃ b2 b3,v = .func (.func 224) #[] #[ptr b2,ptr b3]∧w'.heap[b2]? = some (Bl 28 [.int .i64 N,.slice a n c])∧w'.heap[b3]? = some (Bl 29 [.slice b m d])∧w.heap.size≤b2∧w.heap.size≤b3∧b2≠b3∧Ext [] w w':=by
 obtain ⟨w0,rfl⟩:∃ w0,w0=w:=⟨_,rfl⟩
 have H:=Ctx.start w0 []
 refine A9 (fn:=Tryz.f210) Tryz.func210 rfl [CS N a n c,.slice b m d] rfl (by kernel_rfl) ?_
 refine Af (BC rfl [.int .i64 N,.slice a n c] (.agg _) rfl rfl H ?_)
 rintro b2 w - H
 refine BC rfl _ (.slice _ _ _) rfl rfl H ?_
 rintro b3 w - H
 refine Df rfl .nilFunc rfl ?_
 refine Ab (Aa (Af (Dn rfl [.pointer _,.pointer _] rfl (Df rfl (.func _ _ _) rfl ?_))))
 refine Ab (Aa (A8 (AB (v:=(.func _ _ _)) rfl rfl rfl ?_)))
 have ho:∀ x∈[(b3,Bl 29 [.slice b m d]),(b2,Bl 28 [.int .i64 N,.slice a n c])],w0.heap.size≤x.1:=fun x hx=>(H.own x hx).elim (fun h=>by cases h) id
 exact ⟨b2,b3,rfl,H.get at1,H.get at0,ho (b2,_) (List.mem_cons_of_mem _ (List.mem_cons_self ..)),ho (b3,_) (List.mem_cons_self ..),H.ne at1 at0 (by decide),H.ext⟩
def T6 (p:Ed × Int):List Value:=[.agg (Cw p.1).toArray,.int .i64 p.2]
/-- What the rounds leave. -/
structure EdgeK (b2 b3:Nat) (N:Int) (a b:Option Addr) (n c m d:Nat) (es:List Ed) (fl:List Int) (w:World):Prop where
 h2:w.heap[b2]? = some (Bl 28 [.int .i64 N,.slice a n c])
 h3:w.heap[b3]? = some (Bl 29 [.slice b m d])
 R:Rd w a 4 Cw es
 Rf:Rd w b 1 I1 fl
theorem XW {α β:Type} {l:List α} {m:List β} {i:Nat} {x:α} {y:β} (h1:l[i]? = some x) (h2:m[i]? = some y):(l.zip m)[i]? = some (x,y):=by
 rw [List.getElem?_zip_eq_some]; exact ⟨h1,h2⟩

set_option maxRecDepth 20000 in
set_option maxHeartbeats 2000000 in
theorem Uv {b2 b3:Nat} {N:Int} {a b:Option Addr} {n c m d:Nat} {es:List Ed} {fl:List Int} (hn:es.length=n) (hm:fl.length=m) (hnm:n=m) (hn2:n≤1000000):Pf Tryz.prog 224 #[ptr b2,ptr b3] [] (fun _ w=>EdgeK b2 b3 N a b n c m d es fl w) ((es.zip fl).map T6):=by
 subst hn hm
 intro l w J E hJ0 hJs hEs hK hY
 obtain ⟨M0,hJ0⟩:=hJ0
 obtain ⟨w0,rfl⟩:∃ w0,w0=w:=⟨_,rfl⟩
 have hlen:((es.zip fl).map T6).length=es.length:=by rw [List.length_map,List.length_zip]; omega
 refine A9 (fn:=Tryz.f224) Tryz.func224 rfl [.func (.yield l) #[] #[],.pointer (some ⟨b2,0,none⟩),.pointer (some ⟨b3,0,none⟩)] rfl (by kernel_rfl) ?_
 have K0:=(hK _ _ _ hJ0).2
 refine Af (Ah rfl Cc rfl (Bb rfl Dh rfl ((by rw [Ay K0.h2]; rfl)) ?_))
 refine AV rfl C0 rfl (Ad rfl rfl (Ab (Aa (Au (Bf 8388144 (α:=Nat) (fun i=>[(9,.int .i64 (i:Int))]) (fun i w'=>i≤es.length∧∃ M,J i M w') (fun i=>es.length - i) 0 rfl ?_ ?_ ?_)))))
 ·exact ⟨rfl,trivial⟩
 ·exact ⟨Nat.zero_le _,M0,hJ0⟩
 ·rintro i j w ⟨hi,M,hJ⟩
  have KK:=(hK _ _ _ hJ).2
  have R:=KK.R
  have Rf:=KK.Rf
  obtain ⟨w1,rfl⟩:∃ w1,w1=w:=⟨_,rfl⟩
  have H:=Ctx.start w1 []
  refine Af (AZ rfl rfl rfl (Ab (Aa (An (Aq _ rfl ?_ ?_)))))
  ·intro h1
   replace h1:=AF h1
   obtain ⟨e,he⟩:=A0 (l:=es) (i:=i) (by omega)
   obtain ⟨x,hfx⟩:=A0 (l:=fl) (i:=i) (by omega)
   refine Ao (Aa (An (Au (Af (Ad rfl rfl (AK R rfl C0 CC rfl rfl (by omega) (by omega) (by rfl) ?_))))))
   refine Cv _ rfl Ho CC rfl rfl ((R.ext0 H.ext).row he rfl) ?_
   refine Bj rfl Fd H ?_
   rintro b5 w - H
   refine Ae rfl rfl (B5 rfl CC rfl rfl rfl (by exact ES _) H at0 rfl ?_)
   rintro w H
   refine Ab (Aa ?_)
   have hY1:=hY i (T6 (e,x)) M w.drew (by rw [List.getElem?_map,XW he hfx]; rfl) (hJs _ _ _ _ hJ (H.ext.trans (Ext.drew [] w)))
   have KR:=(hK _ _ _ (hJs _ _ _ _ hJ (H.ext.trans (Ext.drew [] w)))).2
   refine DK 6 B0 (by kernel_rfl) rfl rfl ?_
   refine KY rfl (.func _ _ _) rfl ?_
   refine Pc rfl Ho CC rfl (by rintro _ rfl; exact H.drew) at0 rfl ?_
   refine BR rfl BX rfl (by rintro _ rfl; exact ((by rw [Ay KR.h3]; rfl))) ?_
   refine AP rfl rfl (Bs Rf rfl AO Bu rfl rfl (by omega) (by omega) (by rfl) ?_)
   refine BR rfl Bt rfl (by rintro _ rfl; exact ((KR.Rf.fld hfx rfl (j:=0) rfl))) ?_
   refine BJ ?_
   replace H:=H.drew
   refine Gd (vs:=T6 (e,x)) rfl rfl hY1 rfl ?_
   rintro u w hu
   obtain ⟨bb,rfl,hu1,hu0⟩:∃ bb,u = .bool bb∧(bb=true→∃ M,J (i+1) M w)∧(bb=false→E w):=hu.elim (fun h=>⟨true,h.1,fun _=>let ⟨M',h1,_⟩:=h.2; ⟨M',h1⟩,fun h=>by cases h⟩) (fun h=>⟨false,h.1,(fun h=>by cases h),fun _=>h.2⟩)
   refine B1 rfl rfl (Ab (Aa (Aq _ rfl ?_ ?_)))
   ·intro h2
    replace h2:=Bv h2
    refine A8 (A1 (Al (Al (A1 (Fp rfl rfl ?_)))))
    exact .inr (hu0 (by simpa using h2))
   ·intro h2
    replace h2:=Bw h2
    refine Ao (A5 (Aa (Av (Ap rfl rfl rfl (by omega) (by omega) ?_))))
    refine Ad rfl rfl (Ab (Aa ?_))
    exact ⟨i+1,rfl,⟨rfl,trivial⟩,⟨by omega,hu1 (by simpa using h2)⟩,by omega⟩
  ·intro h1
   replace h1:=AG h1
   refine Bc (Ak (Ak (AD (Db rfl rfl ?_))))
   obtain rfl:i=es.length:=by omega
   exact .inl ⟨M,by rw [hlen]; exact hJ⟩

/-! ### What comes to each node, less what goes -/
theorem ET {p:Prop} [Decidable p] (h:p):one p=1:=if_pos h
theorem EB {p:Prop} [Decidable p] (h:¬ p):one p=0:=if_neg h
theorem CT (p:Nat→Int) (v:Nat) (x:Int):upd p v x v=x:=if_pos rfl
theorem DG {p:Nat→Int} {v:Nat} {x:Int} {u:Nat} (h:u≠v):upd p v x u=p u:=if_neg h
theorem G8 (g:Gr) (x:Nat→Int) (k v:Nat):Ee g x (k+1) v=Ee g x k v+(one (g.t k=v) - one (g.f k=v))*x k:=rfl

set_option maxRecDepth 20000 in
set_option maxHeartbeats 4000000 in
theorem XX (N:Int) (a b:Option Addr) (n c m d:Nat) (es:List Ed) (fl:List Int) (w:World) (R:Rd w a 4 Cw es) (hn:es.length=n) (hN:I64 N) (Rf:Rd w b 1 I1 fl) (hm:fl.length=m) (hm2:m≤9223372036854775000) :
  Ret Tryz.prog 179 #[CS N a n c,.slice b m d] w fun v w'=>(BG N es fl=false→v = .slice none 0 0)∧(BG N es fl=true→∃ b',v = .slice (some ⟨b',0,none⟩) N.toNat N.toNat∧w'.heap[b']? = some (Bl 2 (BE (BA (grE N es) (flE fl)) N.toNat))∧w.heap.size≤b')∧Ext [] w w':=by
 subst hn hm
 obtain ⟨w0,rfl⟩:∃ w0,w0=w:=⟨_,rfl⟩
 have H:=Ctx.start w0 []
 refine G5 (fn:=Tryz.f179) Tryz.func179 rfl [CS N a es.length c,.slice b fl.length d] rfl (by kernel_rfl) ?_
 refine Af (BC rfl [.int .i64 N,.slice a es.length c] (.agg _) rfl rfl H ?_)
 rintro b2 w - H
 refine Az rfl rfl (Ab (Aa (An (Af (B6 rfl Cm BQ rfl H at0 rfl (Aj rfl rfl (Am rfl Pq (J9 N a b es.length c fl.length d es fl _ (R.ext0 H.ext) rfl hN (Rf.ext0 H.ext) rfl hm2) rfl ?_)))))))
 rintro v w ⟨rfl,hx10⟩
 replace H:=H.call hx10
 refine B1 rfl rfl (Ab (Aa (Aq _ rfl ?_ ?_)))
 ·intro h1
  replace h1:=Bv h1
  refine Af (Az rfl rfl (Ab (Aa (A8 (Al (Ku (v:=(.slice _ _ _)) rfl rfl ?_))))))
  have h1':BG N es fl=false:=by simpa using h1
  exact ⟨fun _=>rfl,fun h=>(by rw [h1'] at h; cases h),H.ext⟩
 ·intro h1
  replace h1:=Bw h1
  have h1':BG N es fl=true:=by simpa using h1
  obtain ⟨hl,hr,hin⟩:=BZ h1'
  obtain ⟨hN1,hN40,hn200,hed,-⟩:=Cn hr
  obtain ⟨nn,rfl⟩:∃ nn:Nat,N=(nn:Int):=⟨N.toNat,by omega⟩
  obtain ⟨g,hg⟩:∃ g,g=grE (nn:Int) es:=⟨_,rfl⟩
  obtain ⟨x,hx⟩:∃ x,x=flE fl:=⟨_,rfl⟩
  have hgE:g.E=es.length:=by rw [hg]; rfl
  refine Ao (Aa (Af (Ah rfl D5 rfl (AN rfl BV rfl H at0 rfl (F8 rfl AO Bu HN Fa rfl rfl (by omega) (by omega) (by omega) (by omega) H ?_)))))
  rintro b14 w - H
  rw [show ((nn:Int)).toNat=nn from rfl,DZ] at H
  refine Bj rfl Zm H ?_
  rintro b5 w - H
  refine Cy (.slice _ _ _) rfl Zk rfl rfl rfl H at0 (by decide) ?_
  rintro w H
  refine Ab (Aa (An (Af (B6 rfl Cm BQ rfl H at2 rfl (Aj rfl rfl ?_)))))
  have hlt:=H.lt (k:=0) rfl
  have hlt1:=H.lt (k:=1) rfl
  refine Am rfl Aa3 (Wo (nn:Int) a b es.length c fl.length d _) rfl ?_
  rintro v w ⟨x2,x3,rfl,hb2,hb3,hs2,hs3,hne,hx17⟩
  have H3:=(H.callAdd hx17 hb2 hs2).add hb3 (.inr (Nat.le_trans H.size hs3)) (fun y hy=>(List.mem_cons.1 hy).elim (fun h=>by rw [h]; exact hne) fun hy=>Nat.ne_of_lt (Nat.lt_of_lt_of_le (Bp (H.blk y hy)) hs3))
  refine Ab (Aa (Au ?_))
  obtain ⟨ws,rfl⟩:∃ z,z=w:=⟨_,rfl⟩
  have hk3:=H3.lt (k:=0) rfl
  have hk2:=H3.lt (k:=1) rfl
  have hk5:=H3.lt (k:=2) rfl
  have hk14:=H3.lt (k:=3) rfl
  have hkb:=H3.lt (k:=4) rfl
  have hs0:=H3.size
  replace H3:=H3.perm (List.perm_middle (l₁:=[_,_,_]) (l₂:=[_]))
  refine LW (gf:=224) rfl Aba (Uv (b2:=x2) (b3:=x3) (N:=(nn:Int)) (a:=a) (b:=b) (c:=c) (d:=d) (es:=es) (fl:=fl) rfl rfl hl.symm (by omega)) (by kernel_rfl) (by kernel_rfl) (fun v hv=>by obtain ⟨p,-,rfl⟩:=List.mem_map.1 hv; rfl)
   (fun i M w'=>(M=fun y=>y=b14)∧Ctx w0 [] w' [(b14,Bl 2 (BE (Ee g x i) nn)),(x3,Bl 29 [.slice b fl.length d]),(x2,Bl 28 [.int .i64 (nn:Int),.slice a es.length c]),(b5,Bl 29 [.slice (some ⟨b14,0,none⟩) nn nn]),(b2,Bl 28 [.int .i64 (nn:Int),.slice a es.length c])]) (fun _=>False) (by simp)
   (fun w2 hx2 _=>⟨_,rfl,H3.call hx2⟩) (fun i M w' w'' hJ hx=>⟨hJ.1,hJ.2.step hx (fun y hy=>?_) fun z hz => .inr ?_⟩) (fun _ _ h _=>h) (fun i M w' hJ=>⟨fun y hy=>?_,hJ.2.get at2,hJ.2.get at1,R.ext0 hJ.2.ext,Rf.ext0 hJ.2.ext⟩) ?_ ?_ (fun _ h _=>h.elim)
  ·simp only [List.mem_cons,List.not_mem_nil,or_false] at hy ⊢
   rcases hy with rfl | rfl | rfl | rfl | rfl <;> (dsimp only; omega)
  ·simp only [List.mem_cons,List.not_mem_nil,or_false] at hz
   omega
  ·rw [hJ.1] at hy
   subst hy
   exact ⟨Bp (hJ.2.get at0),by omega,by omega⟩
  ·rintro i v _ w hxv ⟨rfl,HJ⟩ hsz
   rw [List.getElem?_map] at hxv
   obtain ⟨⟨e,xx⟩,hez,rfl⟩:=Option.map_eq_some_iff.1 hxv
   obtain ⟨he,hfx⟩:=List.getElem?_zip_eq_some.1 hez
   have hi:=Cr he
   obtain ⟨hf0,hfN,ht0,htN,-⟩:=D6 (hed e (List.mem_of_getElem? he))
   obtain ⟨fn,hfn⟩:∃ fn:Nat,e.f=fn:=⟨e.f.toNat,by omega⟩
   obtain ⟨tn,htn⟩:∃ tn:Nat,e.t=tn:=⟨e.t.toNat,by omega⟩
   have hgf:g.f i=fn:=by rw [hg]; show ((es.getD i e0).f.toNat)=fn; rw [Bn he,hfn]; rfl
   have hgt:g.t i=tn:=by rw [hg]; show ((es.getD i e0).t.toNat)=tn; rw [Bn he,htn]; rfl
   have hxi:x i=xx:=by rw [hx]; exact Bn hfx
   have hxb:∀ j,j<i+1→0≤x j∧x j≤4503599627370496:=fun j hj=>by
    obtain ⟨e',he'⟩:=A0 (l:=es) (i:=j) (by omega)
    obtain ⟨y,hy⟩:=A0 (l:=fl) (i:=j) (by omega)
    have h3:=hin j e' y he' hy
    have h4:=D6 (hed e' (List.mem_of_getElem? he'))
    rw [hx]
    show 0≤fl.getD j 0∧fl.getD j 0≤4503599627370496
    rw [Bn hy]
    omega
   have hbf:=GS (g:=g) (x:=x) fn (k:=i) fun j hj=>hxb j (by omega)
   have hbt:=GS (g:=g) (x:=x) tn (k:=i) fun j hj=>hxb j (by omega)
   have hxx:=hxb i (by omega)
   rw [hxi] at hxx
   obtain ⟨o',ho'⟩:∃ o',o'=upd (Ee g x i) fn (Ee g x i fn - xx):=⟨_,rfl⟩
   have hof:o' fn=Ee g x i fn - xx:=by rw [ho',CT]
   have hon:∀ q,q≠fn→o' q=Ee g x i q:=fun q hq=>by rw [ho',DG hq]
   have hot : -(201*4503599627370496)≤o' tn∧o' tn≤201*4503599627370496:=by
    by_cases h:tn=fn
    ·rw [h,hof]; omega
    ·rw [hon tn h]; omega
   have hst:∀ q,Ee g x (i+1) q=upd o' tn (o' tn+xx) q:=fun q=>by
    rw [G8,hgf,hgt,hxi]
    by_cases h1:q=tn
    ·subst h1
     rw [CT,ET rfl]
     by_cases h2:fn=q
     ·subst h2; rw [ET rfl,hof]; omega
     ·rw [EB h2,hon q (Ne.symm h2)]; omega
    ·rw [DG h1,EB (Ne.symm h1)]
     by_cases h2:fn=q
     ·subst h2; rw [ET rfl,hof]; omega
     ·rw [EB h2,hon q (Ne.symm h2)]; omega
   obtain ⟨w1,rfl⟩:∃ z,z=w:=⟨_,rfl⟩
   have H:=Ctx.start w1 []
   refine Af (Bj rfl Fd H ?_)
   rintro b6 w - H
   refine B5 rfl CC rfl rfl rfl (by exact ES _) H at0 rfl ?_
   rintro w H
   refine Ab (Aa (Av (Ae rfl rfl (Ab ?_))))
   refine ⟨H.ext,fun wB hxB=>?_⟩
   have hb6:=(H.own _ (List.mem_cons_self ..)).elim (fun h=>by cases h) id
   have HB:=((HJ.callAdd H.ext (H.get at0) hb6).step hxB (fun y hy=>by
    simp only [List.mem_cons,List.not_mem_nil,or_false] at hy ⊢
    rcases hy with rfl | rfl | rfl | rfl | rfl | rfl <;> (dsimp only; omega)) (fun z hz => .inr (by rw [List.mem_singleton.1 hz]; omega))).perm (List.Perm.swap _ _ _)
   obtain ⟨w2,rfl⟩:∃ z,z=wB:=⟨_,rfl⟩
   have hb6B:=HB.get at1
   have hb5B:=HB.get at4
   have hn6:b6∉[b14]:=by rw [List.mem_singleton]; omega
   have hn5:b5∉[b14]:=by rw [List.mem_singleton]; exact HB.ne at4 at0 (by decide)
   have H:=Ctx.lend (L1:=[_]) (L2:=_) HB
   dsimp only [List.map] at H
   refine Au (Af (Bb rfl BX rfl ((H.old (Ay hb5B _) hn5)) ?_))
   refine Ah rfl EY rfl (Bb rfl BV rfl ((H.old (Ay hb6B _) hn6)) ?_)
   refine Bg rfl AO Bu rfl rfl (by omega) (by omega) ?_
   refine Pd fn _ rfl Bt rfl H at0 (by rw [hfn]; simp) (by omega) rfl ?_
   refine Ad rfl rfl (Be rfl rfl rfl (by omega) (by omega) ?_)
   refine Bg rfl AO Bu rfl rfl (by omega) (by omega) ?_
   refine BU fn (fun q => .int .i64 (o' q)) (.int _ _) rfl Bu rfl rfl rfl H at0 (by rw [hfn]; simp) (by omega) (by rw [hof]) (fun q _ hq=>by rw [hon q hq]) ?_
   rintro w H
   refine Ab (Aa (Av (Bb rfl BX rfl ((H.old (Ay hb5B _) hn5)) ?_)))
   refine Ah rfl EZ rfl (Bb rfl BV rfl ((H.old (Ay hb6B _) hn6)) ?_)
   refine Bg rfl AO Bu rfl rfl (by omega) (by omega) ?_
   refine Pd tn _ rfl Bt rfl H at0 (by rw [htn]; simp) (by omega) rfl ?_
   refine Ad rfl rfl (Ap rfl rfl rfl (by omega) (by omega) ?_)
   refine Bg rfl AO Bu rfl rfl (by omega) (by omega) ?_
   refine BU tn (fun q => .int .i64 (Ee g x (i+1) q)) (.int _ _) rfl Bu rfl rfl rfl H at0 (by rw [htn]; simp) (by omega) (by rw [hst,CT]) (fun q _ hq=>by rw [hst,DG hq]) ?_
   rintro w H
   refine Ab (A5 ?_)
   exact ⟨_,⟨rfl,((Ctx.back (L1:=[_]) (L1':=[_]) HB H).perm (List.Perm.swap _ _ _)).tail⟩,fun y h => .inl h,[b14],H.ext,fun y hy => .inl (List.mem_singleton.1 hy)⟩
  ·rintro M w ⟨-,HJ⟩ hD
   rw [List.length_map,List.length_zip,hl,Nat.min_self] at HJ
   replace H:=HJ
   refine A5 (Aa (Af (AN rfl BX rfl H at3 rfl (Az rfl rfl (Ab (Aa (A8 (Ku (v:=(.slice _ _ _)) rfl rfl (G6 hD rfl fun wF hxF=>?_)))))))))
   refine ⟨fun h=>(by rw [h1'] at h; cases h),fun _=>⟨b14,rfl,?_,?_⟩,H.ext.then hxF fun z hz => .inr (by rw [List.mem_singleton.1 hz]; omega)⟩
   ·rw [hxF.block b14 (Bp (H.get at0)) (by rw [List.mem_singleton]; omega)]
    have h3:=H.get at0
    rw [show BA (grE (nn:Int) es) (flE fl)=Ee g x es.length by rw [hg,hx]; rfl]
    exact h3
   ·exact (H.own (b14,_) (List.mem_of_getElem? (i:=0) rfl)).elim (fun h=>by cases h) id

theorem Wp (N:Int) (a b:Option Addr) (n c m d:Nat) (es:List Ed) (fl:List Int) (w:World) (R:Rd w a 4 Cw es) (hn:es.length=n) (hN:I64 N) (Rf:Rd w b 1 I1 fl) (hm:fl.length=m) (hm2:m≤9223372036854775000) :
  Ret Tryz.prog 131 #[CS N a n c,.slice b m d] w fun v w'=>v = .bool (Es N es fl)∧Ext [] w w':=by
 subst hn hm
 obtain ⟨w0,rfl⟩:∃ w0,w0=w:=⟨_,rfl⟩
 have H:=Ctx.start w0 []
 refine A9 (fn:=Tryz.f131) Tryz.func131 rfl [CS N a es.length c,.slice b fl.length d] rfl (by kernel_rfl) ?_
 refine Af (BC rfl [.int .i64 N,.slice a es.length c] (.agg _) rfl rfl H ?_)
 rintro b2 w - H
 refine Ai rfl rfl (Ab (Aa (An (Af (B6 rfl Cm BQ rfl H at0 rfl (Aj rfl rfl (Am rfl Pq (J9 N a b es.length c fl.length d es fl _ (R.ext0 H.ext) rfl hN (Rf.ext0 H.ext) rfl hm2) rfl ?_)))))))
 rintro v w ⟨rfl,hx9⟩
 replace H:=H.call hx9
 refine B1 rfl rfl (Ab (Aa (Aq _ rfl ?_ ?_)))
 ·intro h1
  replace h1:=Bv h1
  refine Af (Ai rfl rfl (Ab (Aa (A8 (Al (AB (v:=(.bool _)) rfl rfl rfl ?_))))))
  have h1':BG N es fl=false:=by simpa using h1
  exact ⟨congrArg Value.bool (by unfold Es; rw [h1']; rfl),H.ext⟩
 ·intro h1
  replace h1:=Bw h1
  have h1':BG N es fl=true:=by simpa using h1
  have hfN:Es N es fl=(JR N es fl).all fun x=>decide (x=0):=by unfold Es; rw [h1']; rfl
  obtain ⟨hN1,hN40,-⟩:=Cn (BZ h1').2.1
  obtain ⟨nn,rfl⟩:∃ nn:Nat,N=(nn:Int):=⟨N.toNat,by omega⟩
  refine Ao (Aa (An (Af (B6 rfl Cm BQ rfl H at0 rfl (Aj rfl rfl (Am rfl Aaj (XX (nn:Int) a b es.length c fl.length d es fl _ (R.ext0 H.ext) rfl hN (Rf.ext0 H.ext) rfl hm2) rfl ?_))))))
  rintro v w ⟨-,hv,hx13⟩
  obtain ⟨b13,rfl,hb13,hs13⟩:=hv h1'
  replace H:=H.call hx13
  have R7:=Cs hb13
  rw [show ((nn:Int)).toNat=nn from rfl] at R7 ⊢
  refine AV rfl AO rfl (Ad rfl rfl (Ab (Aa (Au ?_))))
  have hov:JR (nn:Int) es fl=tab (BA (grE (nn:Int) es) (flE fl)) nn:=rfl
  rw [← hov] at R7
  have hlen:(JR (nn:Int) es fl).length=nn:=by rw [hov,CQ]
  obtain ⟨w7,rfl⟩:∃ z,z=w:=⟨_,rfl⟩
  refine Bf 4161616 (α:=Nat) (fun i=>[(15,.int .i64 (i:Int))]) (fun i w'=>i≤nn∧Ext [] w7 w'∧Ctx w0 [] w' [(b2,Bl 28 [.int .i64 (nn:Int),.slice a es.length c])]∧∀ (k:Nat) (x:Int),k<i→(JR (nn:Int) es fl)[k]? = some x→decide (x=0)=true) (fun i=>nn - i) 0 rfl ?_ ?_ ?_
  ·exact ⟨rfl,trivial⟩
  ·exact ⟨Nat.zero_le _,.refl _ _,H,fun k x h=>absurd h (Nat.not_lt_zero _)⟩
  ·rintro i j w ⟨hi,hx7,H,hb⟩
   refine Af (AZ rfl rfl rfl (Ab (Aa (An (Aq _ rfl ?_ ?_)))))
   ·intro h2
    replace h2:=AF h2
    obtain ⟨x,h7x⟩:=A0 (l:=JR (nn:Int) es fl) (i:=i) (by omega)
    refine Ao (Aa (An (Au (Af (AK R7 rfl AO Bu rfl rfl (by omega) (by omega) (by omega) ?_)))))
    refine Bb rfl Bt rfl (((R7.ext0 hx7).fld h7x rfl (j:=0) rfl)) ?_
    refine Ae rfl rfl (Ab (Aa (Af (Ad rfl rfl (Cp rfl rfl rfl (Ab (Aa (Aq _ rfl ?_ ?_))))))))
    ·intro h3
     replace h3:=CY h3
     refine Af (Ai rfl rfl (Ab (Aa (A8 (A1 (Al (Al (A1 (Al (AB (v:=(.bool _)) rfl rfl rfl ?_))))))))))
     exact ⟨congrArg Value.bool (by rw [hfN,C9 h7x (decide_eq_false (by simpa using h3))]),H.ext⟩
    ·intro h3
     replace h3:=CZ h3
     refine Ao (A5 (Aa (Av (Ap rfl rfl rfl (by omega) (by omega) ?_))))
     refine Ad rfl rfl (Ab (Aa ?_))
     refine ⟨i+1,rfl,⟨rfl,trivial⟩,⟨by omega,hx7,H,fun k y hk hy=>?_⟩,by omega⟩
     rcases Nat.lt_or_ge k i with h7 | h7
     ·exact hb k y h7 hy
     ·obtain rfl:k=i:=by omega
      rw [h7x] at hy
      cases hy
      simpa using h3
   ·intro h2
    replace h2:=AG h2
    refine Bc (Ak (Ak (AD (Aa (Af (Ai rfl rfl (Ab (Aa (A8 (AB (v:=(.bool _)) rfl rfl rfl ?_))))))))))
    exact ⟨congrArg Value.bool (by rw [hfN,CV fun k x hk hx=>hb k x (by omega) hx]),H.ext⟩
theorem Gj {N:Int} {es:List Ed} {fl:List Int} (h:Es N es fl=true):BG N es fl=true∧∀ v,v<N.toNat→BA (grE N es) (flE fl) v=0:=by
 unfold Es JR at h
 rw [Bool.and_eq_true] at h
 refine ⟨h.1,fun v hv=>?_⟩
 have h2:=List.all_eq_true.1 h.2 _ (List.mem_of_getElem? (BN hv))
 simpa using h2

end Go.Proofs.YtapphbmlkdhnmaaGreat

/- Whether what flows is the best: the walks. -/
namespace Go.Proofs.YtapphbmlkdhnmaaGreat
open Go.GV
attribute [local irreducible] AL W Wq Wt

def JJ (x:Int):Bool:=decide (-1099511627776≤x) && decide (x≤1099511627776)
def EU (N:Int) (pot:List Int):Bool:=pot.all JJ && decide ((pot.length:Int)=N)
def Q4 (N:Int) (es:List Ed) (pot:List Int) (k:Int):Int:=(F0 N es k).2.2+pot.getD (F0 N es k).1.toNat 0 - pot.getD (F0 N es k).2.1.toNat 0
def Ft (N:Int) (es:List Ed) (fl pot:List Int) (k:Nat):Bool := !(decide (Q4 N es pot (k:Int)<0) && decide (0<JQ N es fl (k:Int)))
def Gs (N:Int) (es:List Ed) (fl pot:List Int):Bool:=(List.range (2*es.length)).all (Ft N es fl pot)
def Ff (N:Int) (es:List Ed) (fl pot:List Int):Bool:=Cb N es && (Es N es fl && (EU N pot && Gs N es fl pot))

set_option maxRecDepth 20000 in
theorem XY (N:Int) (a p:Option Addr) (n c m d:Nat) (pot:List Int) (w:World) (R:Rd w p 1 I1 pot) (hm:pot.length=m) (hm2:m≤9223372036854775000) :
  Ret Tryz.prog 133 #[CS N a n c,.slice p m d] w fun v w'=>v = .bool (EU N pot)∧Ext [] w w':=by
 subst hm
 obtain ⟨w0,rfl⟩:∃ w0,w0=w:=⟨_,rfl⟩
 have H:=Ctx.start w0 []
 refine A9 (fn:=Tryz.f133) Tryz.func133 rfl [CS N a n c,.slice p pot.length d] rfl (by kernel_rfl) ?_
 refine Af (BC rfl [.int .i64 N,.slice a n c] (.agg _) rfl rfl H ?_)
 rintro b2 w - H
 refine Ai rfl rfl (Ab (Aa (An (Af (Aj rfl rfl (AV rfl AO rfl (Ad rfl rfl (Ab (Aa (Au (Bf 1048144 (α:=Nat) (fun i=>[(9,.int .i64 (i:Int))]) (fun i w'=>i≤pot.length∧Ctx w0 [] w' [(b2,Bl 28 [.int .i64 N,.slice a n c])]∧∀ (k:Nat) (x:Int),k<i→pot[k]? = some x→JJ x=true) (fun i=>pot.length - i) 0 rfl ?_ ?_ ?_)))))))))))
 ·exact ⟨rfl,trivial⟩
 ·exact ⟨Nat.zero_le _,H,fun k x h=>absurd h (Nat.not_lt_zero _)⟩
 ·rintro i j w ⟨hi,H,hb⟩
  refine Af (AZ rfl rfl rfl (Ab (Aa (An (Aq _ rfl ?_ ?_)))))
  ·intro h2
   replace h2:=AF h2
   obtain ⟨x,h7x⟩:=A0 (l:=pot) (i:=i) (by omega)
   refine Ao (Aa (An (Au (Af (AK R rfl AO Bu rfl rfl (by omega) (by omega) (by rfl) ?_)))))
   refine Bb rfl Bt rfl (((R.ext0 H.ext).fld h7x rfl (j:=0) rfl)) ?_
   refine Ae rfl rfl (Ab (Aa (Af (BD (α:=Unit) 516096 (fun _=>[(18,.bool (!JJ x))]) (fun _ w'=>Ctx w0 [] w' [(b2,Bl 28 [.int .i64 N,.slice a n c])]) rfl ?_ ?_))))
   ·refine Ad rfl rfl (AZ rfl rfl rfl (Aw rfl rfl (AE 15 rfl ?_ ?_)))
    ·intro h1
     replace h1:=AF h1
     refine Ag rfl (Ag rfl (AA rfl rfl (.bool _) rfl (Ab ?_)))
     exact ⟨rfl,(),rfl,⟨congrArg Value.bool (by unfold JJ; rw [Bool.eq_iff_iff]; simp_all; try omega),trivial⟩,H⟩
    ·intro h2
     replace h2:=AG h2
     refine Ad rfl rfl (Ck rfl rfl rfl (A6 rfl rfl (.bool _) rfl (Ab ?_)))
     exact ⟨rfl,(),rfl,⟨congrArg Value.bool (by unfold JJ; rw [Bool.eq_iff_iff]; simp_all; try omega),trivial⟩,H⟩
   rintro - j18 w H
   refine Aq _ rfl ?_ ?_
   ·intro h3
    replace h3:=Bv h3
    refine Af (Ai rfl rfl (Ab (Aa (A8 (A1 (Al (Al (A1 (Al (AB (v:=(.bool _)) rfl rfl rfl ?_))))))))))
    exact ⟨congrArg Value.bool (by unfold EU; rw [C9 h7x (by simpa using h3)]; rfl),H.ext⟩
   ·intro h3
    replace h3:=Bw h3
    refine Ao (A5 (Aa (Av (Ap rfl rfl rfl (by omega) (by omega) ?_))))
    refine Ad rfl rfl (Ab (Aa ?_))
    refine ⟨i+1,rfl,⟨rfl,trivial⟩,⟨by omega,H,fun k y hk hy=>?_⟩,by omega⟩
    rcases Nat.lt_or_ge k i with h7 | h7
    ·exact hb k y h7 hy
    ·obtain rfl:k=i:=by omega
     rw [h7x] at hy
     cases hy
     simpa using h3
  ·intro h2
   replace h2:=AG h2
   refine Bc (Ak (Ak (AD (Aa (Af (Aj rfl rfl (AV rfl AO rfl (Ah rfl D5 rfl (AN rfl BV rfl H at0 rfl (Cu rfl rfl rfl (Ai rfl rfl (Ab (Aa (A8 (AB (v:=(.bool _)) rfl rfl rfl ?_)))))))))))))))
   exact ⟨congrArg Value.bool (by unfold EU; rw [CV fun k x hk hx=>hb k x (by omega) hx,Bool.true_and]),H.ext⟩

theorem Ma {N:Int} {es:List Ed} (hr:Cb N es=true) {k:Nat} (hk:k<2*es.length):∃ e,es[k / 2]? = some e∧F0 N es (k:Int)=Fj e k∧0≤(Fj e k).1∧(Fj e k).1<N∧0≤(Fj e k).2.1∧(Fj e k).2.1<N ∧ -1000≤(Fj e k).2.2∧(Fj e k).2.2≤1000:=by
 obtain ⟨e,he⟩:=A0 (l:=es) (i:=k / 2) (by omega)
 have hco:=D6 ((Cn hr).2.2.2.1 e (List.mem_of_getElem? he))
 refine ⟨e,he,?_,?_⟩
 ·unfold F0
  rw [if_pos (by rw [hr,Bool.and_true]; unfold HS; simp; omega),Int.toNat_natCast,Bn he]
 ·unfold Fj
  split <;> (dsimp only; omega)
theorem Lj {N:Int} {pot:List Int} (hp:EU N pot=true):(pot.length:Int)=N∧∀ (i:Nat) (x:Int),pot[i]? = some x → -1099511627776≤x∧x≤1099511627776:=by
 unfold EU JJ at hp
 simp only [Bool.and_eq_true,decide_eq_true_eq,List.all_eq_true] at hp
 exact ⟨hp.2,fun i x hx=>hp.1 x (List.mem_of_getElem? hx)⟩
theorem Mb {N:Int} {es:List Ed} {fl:List Int} (hw:BG N es fl=true) {k:Nat} (hk:k<2*es.length):∃ e x,es[k / 2]? = some e∧fl[k / 2]? = some x∧JQ N es fl (k:Int)=Jp e x k∧0≤x∧x≤e.cap∧e.cap≤4503599627370496:=by
 obtain ⟨hl,hri,hin⟩:=BZ hw
 obtain ⟨e,he⟩:=A0 (l:=es) (i:=k / 2) (by omega)
 obtain ⟨x,hx⟩:=A0 (l:=fl) (i:=k / 2) (by omega)
 have hco:=D6 ((Cn hri).2.2.2.1 e (List.mem_of_getElem? he))
 have:=hin _ e x he hx
 refine ⟨e,x,he,hx,?_,this.1,this.2,by omega⟩
 unfold JQ
 rw [if_pos (by rw [hw,Bool.and_true]; unfold HS; simp; omega),Int.toNat_natCast,Bn he,Bn hx]
abbrev MT (b p:Option Addr) (m d q r:Nat):Value := .agg #[.slice b m d,.slice p q r]

set_option maxRecDepth 20000 in
set_option maxHeartbeats 2000000 in
theorem Wr (N:Int) (a b p:Option Addr) (n c m d q r:Nat) (es:List Ed) (fl pot:List Int) (w:World) (R:Rd w a 4 Cw es) (hn:es.length=n) (hN:I64 N) (Rf:Rd w b 1 I1 fl) (hm:fl.length=m) (Rp:Rd w p 1 I1 pot) (hq:pot.length=q)
  (hr:Cb N es=true) (hw:BG N es fl=true) (hp:EU N pot=true) :
  Ret Tryz.prog 135 #[CS N a n c,MT b p m d q r] w fun v w'=>v = .bool (Gs N es fl pot)∧Ext [] w w':=by
 subst hn hm hq
 obtain ⟨w0,rfl⟩:∃ w0,w0=w:=⟨_,rfl⟩
 have H:=Ctx.start w0 []
 obtain ⟨hN1,hN40,hn200,-⟩:=Cn hr
 obtain ⟨hpl,hpb⟩:=Lj hp
 have hfl:=(BZ hw).1
 refine A9 (fn:=Tryz.f135) Tryz.func135 rfl [CS N a es.length c,MT b p fl.length d pot.length r] rfl (by kernel_rfl) ?_
 refine Af (BC rfl [.int .i64 N,.slice a es.length c] (.agg _) rfl rfl H ?_)
 rintro b2 w - H
 refine BC rfl [.slice b fl.length d,.slice p pot.length r] (.agg _) rfl rfl H ?_
 rintro b3 w - H
 refine Ai rfl rfl (Ab (Aa (An (Af (Ah rfl Cc rfl (AN rfl Dh rfl H at1 rfl (AV rfl C0 rfl (Dd rfl rfl rfl (by omega) (by omega) ?_))))))))
 refine Ad rfl rfl (Ab (Aa (Au (Bf 70368744169968 (α:=Nat) (fun i=>[(13,.int .i64 (i:Int))]) (fun i w'=>i≤2*es.length∧Ctx w0 [] w' [(b3,Bl 31 [.slice b fl.length d,.slice p pot.length r]),(b2,Bl 28 [.int .i64 N,.slice a es.length c])]∧∀ k,k<i→Ft N es fl pot k=true) (fun i=>2*es.length - i) 0 rfl ?_ ?_ ?_))))
 ·exact ⟨rfl,trivial⟩
 ·exact ⟨Nat.zero_le _,H,fun k h=>absurd h (Nat.not_lt_zero _)⟩
 ·rintro i j w ⟨hi,H,hb⟩
  refine Af (AZ rfl rfl rfl (Ab (Aa (An (Aq _ rfl ?_ ?_)))))
  ·intro h2
   replace h2:=AF h2
   have hi2:i<2*es.length:=by omega
   obtain ⟨e,he,hE,q1,q2,q3,q4,q5,q6⟩:=Ma hr hi2
   obtain ⟨e',x,he',hx,hro,r1,r2,r3⟩:=Mb hw hi2
   obtain ⟨un,hun⟩:∃ un:Nat,(Fj e i).1=un:=⟨(Fj e i).1.toNat,by omega⟩
   obtain ⟨vn,hvn⟩:∃ vn:Nat,(Fj e i).2.1=vn:=⟨(Fj e i).2.1.toNat,by omega⟩
   obtain ⟨pu,hpu⟩:=A0 (l:=pot) (i:=un) (by omega)
   obtain ⟨pv,hpv⟩:=A0 (l:=pot) (i:=vn) (by omega)
   have hbu:=hpb _ _ hpu
   have hbv:=hpb _ _ hpv
   have hli:Q4 N es pot (i:Int)=(Fj e i).2.2+pu - pv:=by
    unfold Q4
    rw [hE,hun,hvn,Int.toNat_natCast,Int.toNat_natCast,Bn hpu,Bn hpv]
   have hgo:Ft N es fl pot i=true→∀ k,k<i+1→Ft N es fl pot k=true:=fun h3 k hk=>by
    rcases Nat.lt_or_ge k i with h7 | h7
    ·exact hb k h7
    ·obtain rfl:k=i:=by omega
     exact h3
   refine Ao (Aa (An (Au (Af (Ad rfl rfl (Ae rfl rfl (Ab (Aa (Af (B6 rfl Cm BQ rfl H at1 rfl (Ad rfl rfl ?_)))))))))))
   refine Am rfl Se (Py N a es.length c es _ (R.ext0 H.ext) rfl (by omega) hN (i:Int)) rfl ?_
   rintro v w ⟨rfl,hx19⟩
   replace H:=H.call hx19
   rw [hE,hun,hvn]
   refine B9 rfl rfl (A3 rfl rfl rfl (A3 rfl rfl rfl (A3 rfl rfl rfl (Ae rfl rfl (Ae rfl rfl (Ae rfl rfl (Ab (Aa (DK 19 B0 (by kernel_rfl) rfl rfl ?_)))))))))
   refine AP rfl rfl (A7 rfl K6 rfl (Cd rfl BX rfl (by rintro _ rfl; exact H.drew) at0 rfl ?_))
   refine AP rfl rfl (Bs Rp rfl AO Bu rfl rfl (by omega) (by omega) (by rfl) ?_)
   refine BR rfl Bt rfl (by rintro _ rfl; exact (((Rp.ext0 (H.ext.trans (Ext.drew [] _))).fld hpu rfl (j:=0) rfl))) ?_
   refine C7 rfl rfl rfl (by omega) (by omega) ?_
   refine A7 rfl K6 rfl (Cd rfl BX rfl (by rintro _ rfl; exact H.drew) at0 rfl ?_)
   refine AP rfl rfl (Bs Rp rfl AO Bu rfl rfl (by omega) (by omega) (by rfl) ?_)
   refine BR rfl Bt rfl (by rintro _ rfl; exact (((Rp.ext0 (H.ext.trans (Ext.drew [] _))).fld hpv rfl (j:=0) rfl))) ?_
   refine Dq rfl rfl rfl (by omega) (by omega) ?_
   refine IH rfl rfl rfl (CW rfl rfl (Dg 37 rfl ?_ ?_))
   ·intro h3
    replace h3:=AF h3
    refine Pc rfl Cm BQ rfl (by rintro _ rfl; exact H.drew) at1 rfl ?_
    refine A7 rfl FC rfl (Cd rfl BX rfl (by rintro _ rfl; exact H.drew) at0 rfl ?_)
    refine AP rfl rfl (BJ ?_)
    replace H:=H.drew
    refine Am rfl Sc (Pz N a b es.length c fl.length d es fl _ (R.ext0 H.ext) rfl (by omega) hN (Rf.ext0 H.ext) rfl (by omega) (i:Int)) rfl ?_
    rintro v w ⟨rfl,hx42⟩
    replace H:=H.call hx42
    refine Ck rfl rfl rfl (AA rfl rfl (.bool _) rfl (Ab (Aa (Aq _ rfl ?_ ?_))))
    ·intro h4
     replace h4:=AF h4
     refine Af (Ai rfl rfl (Ab (Aa (A8 (A1 (Al (Al (A1 (Al (AB (v:=(.bool _)) rfl rfl rfl ?_))))))))))
     exact ⟨congrArg Value.bool (by unfold Gs; rw [C9 (List.getElem?_range hi2) (by unfold Ft; rw [hli,decide_eq_true h3,decide_eq_true h4]; rfl)]),H.ext⟩
    ·intro h4
     replace h4:=AG h4
     refine Ao (A5 (Aa (Av (Ap rfl rfl rfl (by omega) (by omega) ?_))))
     refine Ad rfl rfl (Ab (Aa ?_))
     exact ⟨i+1,rfl,⟨rfl,trivial⟩,⟨by omega,H,hgo (by unfold Ft; rw [hli,decide_eq_false h4,Bool.and_false]; rfl)⟩,by omega⟩
   ·intro h3
    replace h3:=AG h3
    refine Ax rfl (Ax rfl (Ax rfl (Ax rfl (BJ ?_))))
    replace H:=H.drew
    refine Ag rfl (Ag rfl (A6 rfl rfl (.bool _) rfl (Ab (Aa (CJ rfl (Ao (A5 (Aa (Av (Ap rfl rfl rfl (by omega) (by omega) ?_))))))))))
    refine Ad rfl rfl (Ab (Aa ?_))
    exact ⟨i+1,rfl,⟨rfl,trivial⟩,⟨by omega,H,hgo (by unfold Ft; rw [hli,decide_eq_false h3,Bool.false_and]; rfl)⟩,by omega⟩
  ·intro h2
   replace h2:=AG h2
   refine Bc (Ak (Ak (AD (Aa (Af (Ai rfl rfl (Ab (Aa (A8 (AB (v:=(.bool _)) rfl rfl rfl ?_))))))))))
   exact ⟨congrArg Value.bool (by unfold Gs; rw [List.all_eq_true.2 fun k hk=>hb k (by have:=List.mem_range.1 hk; omega)]),H.ext⟩

end Go.Proofs.YtapphbmlkdhnmaaGreat

/- Whether it is the best: the walk. -/
namespace Go.Proofs.YtapphbmlkdhnmaaGreat
open Go.GV
attribute [local irreducible] AL W Wq Wt

theorem HU {w:World} {b:Nat} {t:TypeId} {l:List Value} (h:w.heap[b]? = some (Bl t l)):∀ j v,l[j]? = some v→w.cell? ⟨b,0+j,none⟩=some v:=fun j v hv=>by
 rw [Ay h,Nat.zero_add]; exact hv
/-- What the four questions read. -/
structure ChkK (b2 b3:Nat) (N:Int) (a b p:Option Addr) (c d r:Nat) (es:List Ed) (fl pot:List Int) (w:World):Prop where
 h2:w.heap[b2]? = some (Bl 28 [.int .i64 N,.slice a es.length c])
 h3:w.heap[b3]? = some (Bl 31 [.slice b fl.length d,.slice p pot.length r])
 R:Rd w a 4 Cw es
 Rf:Rd w b 1 I1 fl
 Rp:Rd w p 1 I1 pot
theorem ChkK.ext {b2 b3:Nat} {N:Int} {a b p:Option Addr} {c d r:Nat} {es:List Ed} {fl pot:List Int} {w w':World} (K:ChkK b2 b3 N a b p c d r es fl pot w) (h:Ext [] w w'):ChkK b2 b3 N a b p c d r es fl pot w' :=
 ⟨h.to K.h2 (by simp),h.to K.h3 (by simp),K.R.ext0 h,K.Rf.ext0 h,K.Rp.ext0 h⟩
section
variable {b2 b3:Nat} {N:Int} {a b p:Option Addr} {c d r:Nat} {es:List Ed} {fl pot:List Int} {w:World}
theorem XZ (K:ChkK b2 b3 N a b p c d r es fl pot w) (hN:I64 N):Ret Tryz.prog 129 #[ptr b2] w fun v w'=>v = .bool (Cb N es)∧Ext [] w w':=by
 obtain ⟨w0,rfl⟩:∃ w0,w0=w:=⟨_,rfl⟩
 have H:=Ctx.start w0 []
 refine A9 (fn:=Tryz.f129) Tryz.func129 rfl [.pointer (some ⟨b2,0,none⟩)] rfl (by kernel_rfl) ?_
 refine Af (Ai rfl rfl (Ab (Aa (Af (Cv _ rfl Cm BQ rfl rfl (HU K.h2) ?_)))))
 refine Am rfl Po (KE N a es.length c es _ K.R rfl hN) rfl ?_
 rintro v w ⟨rfl,hx3⟩
 replace H:=H.call hx3
 refine Ai rfl rfl (Ab (Aa (A8 (AB (v:=(.bool _)) rfl rfl rfl ?_))))
 exact ⟨rfl,H.ext⟩
theorem Ya (K:ChkK b2 b3 N a b p c d r es fl pot w) (hN:I64 N) (hf:fl.length≤9223372036854775000):Ret Tryz.prog 130 #[ptr b2,ptr b3] w fun v w'=>v = .bool (Es N es fl)∧Ext [] w w':=by
 obtain ⟨w0,rfl⟩:∃ w0,w0=w:=⟨_,rfl⟩
 have H:=Ctx.start w0 []
 refine A9 (fn:=Tryz.f130) Tryz.func130 rfl [.pointer (some ⟨b2,0,none⟩),.pointer (some ⟨b3,0,none⟩)] rfl (by kernel_rfl) ?_
 refine Af (Ai rfl rfl (Ab (Aa (Af (Cv _ rfl Cm BQ rfl rfl (HU K.h2) ?_)))))
 refine Ah rfl FC rfl (Bb rfl BX rfl ((by rw [Ay K.h3]; rfl)) ?_)
 refine Am rfl ZI (Wp N a b es.length c fl.length d es fl _ K.R rfl hN K.Rf rfl hf) rfl ?_
 rintro v w ⟨rfl,hx3⟩
 replace H:=H.call hx3
 refine Ai rfl rfl (Ab (Aa (A8 (AB (v:=(.bool _)) rfl rfl rfl ?_))))
 exact ⟨rfl,H.ext⟩
theorem Yb (K:ChkK b2 b3 N a b p c d r es fl pot w) (hq:pot.length≤9223372036854775000):Ret Tryz.prog 132 #[ptr b2,ptr b3] w fun v w'=>v = .bool (EU N pot)∧Ext [] w w':=by
 obtain ⟨w0,rfl⟩:∃ w0,w0=w:=⟨_,rfl⟩
 have H:=Ctx.start w0 []
 refine A9 (fn:=Tryz.f132) Tryz.func132 rfl [.pointer (some ⟨b2,0,none⟩),.pointer (some ⟨b3,0,none⟩)] rfl (by kernel_rfl) ?_
 refine Af (Ai rfl rfl (Ab (Aa (Af (Cv _ rfl Cm BQ rfl rfl (HU K.h2) ?_)))))
 refine Ah rfl K6 rfl (Bb rfl BX rfl ((by rw [Ay K.h3]; rfl)) ?_)
 refine Am rfl ZL (XY N a p es.length c pot.length r pot _ K.Rp rfl hq) rfl ?_
 rintro v w ⟨rfl,hx3⟩
 replace H:=H.call hx3
 refine Ai rfl rfl (Ab (Aa (A8 (AB (v:=(.bool _)) rfl rfl rfl ?_))))
 exact ⟨rfl,H.ext⟩
theorem Yc (K:ChkK b2 b3 N a b p c d r es fl pot w) (hN:I64 N) (hr:Cb N es=true) (hw:BG N es fl=true) (hp:EU N pot=true):Ret Tryz.prog 134 #[ptr b2,ptr b3] w fun v w'=>v = .bool (Gs N es fl pot)∧Ext [] w w':=by
 obtain ⟨w0,rfl⟩:∃ w0,w0=w:=⟨_,rfl⟩
 have H:=Ctx.start w0 []
 refine A9 (fn:=Tryz.f134) Tryz.func134 rfl [.pointer (some ⟨b2,0,none⟩),.pointer (some ⟨b3,0,none⟩)] rfl (by kernel_rfl) ?_
 refine Af (Ai rfl rfl (Ab (Aa (Af (Cv _ rfl Cm BQ rfl rfl (HU K.h2) ?_)))))
 refine Cv _ rfl NV LA rfl rfl (HU K.h3) ?_
 refine Am rfl ZN (Wr N a b p es.length c fl.length d pot.length r es fl pot _ K.R rfl hN K.Rf rfl K.Rp rfl hr hw hp) rfl ?_
 rintro v w ⟨rfl,hx3⟩
 replace H:=H.call hx3
 refine Ai rfl rfl (Ab (Aa (A8 (AB (v:=(.bool _)) rfl rfl rfl ?_))))
 exact ⟨rfl,H.ext⟩
end
def askN (N:Int) (es:List Ed) (fl pot:List Int):Nat→Bool
 | 0=>Cb N es
 | 1=>Es N es fl
 | 2=>EU N pot
 | _=>Gs N es fl pot
theorem Yd {N:Int} {es:List Ed} {fl pot:List Int} (h:∀ k,k<4→askN N es fl pot k=true):Ff N es fl pot=true:=by
 have h0:=h 0 (by omega)
 have h1:=h 1 (by omega)
 have h2:=h 2 (by omega)
 have h3:=h 3 (by omega)
 unfold Ff
 rw [show Cb N es=true from h0,show Es N es fl=true from h1,show EU N pot=true from h2,show Gs N es fl pot=true from h3]; rfl
theorem Ye {N:Int} {es:List Ed} {fl pot:List Int} {k:Nat} (hk:k<4) (h:askN N es fl pot k=false):Ff N es fl pot=false:=by
 have:k=0∨k=1∨k=2∨k=3:=by omega
 unfold Ff
 rcases this with rfl | rfl | rfl | rfl
 ·rw [show Cb N es=false from h]; simp
 ·rw [show Es N es fl=false from h]; simp
 ·rw [show EU N pot=false from h]; simp
 ·rw [show Gs N es fl pot=false from h]; simp

set_option maxRecDepth 20000 in
set_option maxHeartbeats 2000000 in
theorem Ws (N:Int) (a b p:Option Addr) (n c m d q r:Nat) (es:List Ed) (fl pot:List Int) (w:World) (R:Rd w a 4 Cw es) (hn:es.length=n) (hN:I64 N) (Rf:Rd w b 1 I1 fl) (hm:fl.length=m) (hm2:m≤9223372036854775000) (Rp:Rd w p 1 I1 pot) (hq:pot.length=q) (hq2:q≤9223372036854775000) :
  Ret Tryz.prog 66 #[CS N a n c,MT b p m d q r] w fun v w'=>v = .bool (Ff N es fl pot)∧Ext [] w w':=by
 subst hn hm hq
 obtain ⟨w0,rfl⟩:∃ w0,w0=w:=⟨_,rfl⟩
 have H:=Ctx.start w0 []
 refine A9 (fn:=Tryz.f66) Tryz.func66 rfl [CS N a es.length c,MT b p fl.length d pot.length r] rfl (by kernel_rfl) ?_
 refine Af (BC rfl [.int .i64 N,.slice a es.length c] (.agg _) rfl rfl H ?_)
 rintro b2 w - H
 refine BC rfl [.slice b fl.length d,.slice p pot.length r] (.agg _) rfl rfl H ?_
 rintro b3 w - H
 refine Ai rfl rfl (Ab (Aa (An (Af (Dn rfl [.pointer _] rfl (Dn rfl [.pointer _,.pointer _] rfl (Dn rfl [.pointer _,.pointer _] rfl (Dn rfl [.pointer _,.pointer _] rfl (J0 [.func (.func 129) #[] #[ptr b2],.func (.func 130) #[] #[ptr b2,ptr b3],.func (.func 132) #[] #[ptr b2,ptr b3],.func (.func 134) #[] #[ptr b2,ptr b3]] rfl Si Zl zc_34 (by decide) (by decide) (by kernel_rfl) H ?_)))))))))
 rintro b11 w - H
 refine AV rfl Si rfl (Ad rfl rfl (Ab (Aa (Au (Bf 2089040 (α:=Nat) (fun i=>[(13,.int .i64 (i:Int))]) (fun i w'=>i≤4∧Ctx w0 [] w' [(b11,Bl 34 [.func (.func 129) #[] #[ptr b2],.func (.func 130) #[] #[ptr b2,ptr b3],.func (.func 132) #[] #[ptr b2,ptr b3],.func (.func 134) #[] #[ptr b2,ptr b3]]),(b3,Bl 31 [.slice b fl.length d,.slice p pot.length r]),(b2,Bl 28 [.int .i64 N,.slice a es.length c])]∧∀ k,k<i→askN N es fl pot k=true) (fun i=>4 - i) 0 rfl ?_ ?_ ?_)))))
 ·exact ⟨rfl,trivial⟩
 ·exact ⟨Nat.zero_le _,H,fun k h=>absurd h (Nat.not_lt_zero _)⟩
 ·rintro i j w ⟨hi,H,hb⟩
  refine Af (AZ rfl rfl rfl (Ab (Aa (An (Aq _ rfl ?_ ?_)))))
  ·intro h2
   replace h2:=AF h2
   have KK:ChkK b2 b3 N a b p c d r es fl pot w:=⟨H.get at2,H.get at1,R.ext0 H.ext,Rf.ext0 H.ext,Rp.ext0 H.ext⟩
   obtain ⟨f,ca,hfi,hcf,hret⟩:∃ f ca,[Value.func (.func 129) #[] #[ptr b2],.func (.func 130) #[] #[ptr b2,ptr b3],.func (.func 132) #[] #[ptr b2,ptr b3],.func (.func 134) #[] #[ptr b2,ptr b3]][i]? = some (.func (.func f) #[] ca)∧A4 Tryz.prog f=true∧Ret Tryz.prog f ca w (fun v w'=>v = .bool (askN N es fl pot i)∧Ext [] w w'):=by
    have:i=0∨i=1∨i=2∨i=3:=by omega
    rcases this with rfl | rfl | rfl | rfl
    ·exact ⟨_,_,rfl,ZG,XZ KK hN⟩
    ·exact ⟨_,_,rfl,ZH,Ya KK hN hm2⟩
    ·exact ⟨_,_,rfl,ZJ,Yb KK hq2⟩
    ·exact ⟨_,_,rfl,ZM,Yc KK hN (hb 0 (by omega)) (Gj (hb 1 (by omega))).1 (hb 2 (by omega))⟩
   refine Ao (Aa (An (Au (Af (Bg rfl Si Zl rfl rfl (by omega) (by omega) ?_)))))
   refine Bb rfl ag_34 rfl ((by rw [Ay (H.get at0)]; simpa using hfi)) ?_
   refine Df rfl (.func _ _ _) rfl ?_
   refine Ab (Aa (Af (D0 rfl (.func _ _ _) rfl ?_)))
   refine IZ (l:=ca.toList) rfl rfl hcf (by simpa using hret) (by simp) ?_
   rintro v w ⟨rfl,hx18⟩
   replace H:=H.call hx18
   refine B1 rfl rfl (Ab (Aa (Aq _ rfl ?_ ?_)))
   ·intro h3
    replace h3:=Bv h3
    refine Af (Ai rfl rfl (Ab (Aa (A8 (A1 (Al (Al (A1 (Al (AB (v:=(.bool _)) rfl rfl rfl ?_))))))))))
    exact ⟨congrArg Value.bool (by rw [Ye (k:=i) (by omega) (by simpa using h3)]),H.ext⟩
   ·intro h3
    replace h3:=Bw h3
    refine Ao (A5 (Aa (Av (Ap rfl rfl rfl (by omega) (by omega) ?_))))
    refine Ad rfl rfl (Ab (Aa ?_))
    refine ⟨i+1,rfl,⟨rfl,trivial⟩,⟨by omega,H,fun k hk=>?_⟩,by omega⟩
    rcases Nat.lt_or_ge k i with h7 | h7
    ·exact hb k h7
    ·obtain rfl:k=i:=by omega
     simpa using h3
  ·intro h2
   replace h2:=AG h2
   refine Bc (Ak (Ak (AD (Aa (Af (Ai rfl rfl (Ab (Aa (A8 (AB (v:=(.bool _)) rfl rfl rfl ?_))))))))))
   exact ⟨congrArg Value.bool (by rw [Yd fun k hk=>hb k (by omega)]),H.ext⟩

end Go.Proofs.YtapphbmlkdhnmaaGreat

/- Plain law of heaps: what swaps keep. -/
namespace Go.Proofs.YtapphbmlkdhnmaaGreat
open Go.GV

abbrev Tg:=Int × Nat
def lt7 (x y:Tg):Prop:=x.1<y.1∨(x.1=y.1∧x.2<y.2)
instance (x y:Tg):Decidable (lt7 x y):=by unfold lt7; infer_instance
def le7 (x y:Tg):Prop:=x.1<y.1∨(x.1=y.1∧x.2≤y.2)
theorem le7.trans {x y z:Tg} (h:le7 x y) (k:le7 y z):le7 x z:=by unfold le7 at *; omega
theorem lt7.le {x y:Tg} (h:lt7 x y):le7 x y:=by unfold lt7 at h; unfold le7; omega
theorem Sp {x y:Tg} (h:¬ lt7 y x):le7 x y:=by unfold lt7 at h; unfold le7; omega
/-- Each stands behind none of the two below it. -/
def HeapL (L:List Tg):Prop:=∀ i x y,0<i→L[i]? = some x→L[(i - 1) / 2]? = some y→le7 y x
def UpI (L:List Tg) (k:Nat):Prop :=
 (∀ i x y,0<i→i≠k→L[i]? = some x→L[(i - 1) / 2]? = some y→le7 y x)∧∀ c x y,0<k→0<c→(c - 1) / 2=k→L[c]? = some x→L[(k - 1) / 2]? = some y→le7 y x
def DownI (L:List Tg) (k:Nat):Prop :=
 (∀ i x y,0<i→(i - 1) / 2≠k→L[i]? = some x→L[(i - 1) / 2]? = some y→le7 y x)∧∀ c x y,0<k→0<c→(c - 1) / 2=k→L[c]? = some x→L[(k - 1) / 2]? = some y→le7 y x
theorem Gk {L:List Tg} {k o:Nat} {x y:Tg} (hx:L[k]? = some x) (hy:L[o]? = some y) (i:Nat):((L.set k y).set o x)[i]? = if i=o then some x else if i=k then some y else L[i]? := by
 have h1:k<L.length:=(List.getElem?_eq_some_iff.1 hx).1
 have h2:o<L.length:=(List.getElem?_eq_some_iff.1 hy).1
 by_cases e:i=o
 ·subst e; rw [if_pos rfl,List.getElem?_set_self (by rw [List.length_set]; exact h2)]
 ·rw [if_neg e,List.getElem?_set_ne (Ne.symm e)]
  by_cases e2:i=k
  ·subst e2; rw [if_pos rfl,List.getElem?_set_self h1]
  ·rw [if_neg e2,List.getElem?_set_ne (Ne.symm e2)]
theorem UpI.done {L:List Tg} {k:Nat} (h:UpI L k) (h0:∀ x y,0<k→L[k]? = some x→L[(k - 1) / 2]? = some y→le7 y x):HeapL L:=fun i x y hi hx hy=>by
 by_cases e:i=k
 ·subst e; exact h0 x y hi hx hy
 ·exact h.1 i x y hi e hx hy
theorem UpI.step {L:List Tg} {k:Nat} (h:UpI L k) {x y:Tg} (hk:0<k) (hx:L[k]? = some x) (hy:L[(k - 1) / 2]? = some y) (hlt:lt7 x y):UpI ((L.set k y).set ((k - 1) / 2) x) ((k - 1) / 2):=by
 obtain ⟨o,ho⟩:∃ o,o=(k - 1) / 2:=⟨_,rfl⟩
 rw [← ho] at hy ⊢
 have hko:k≠o:=by omega
 refine ⟨fun i a b hi hio ha hb=>?_,fun c a b h0 hc hco ha hb=>?_⟩
 ·rw [Gk hx hy,if_neg hio] at ha
  rw [Gk hx hy] at hb
  by_cases e:i=k
  ·subst e
   rw [if_pos rfl] at ha
   rw [if_pos ho.symm] at hb
   cases ha; cases hb
   exact hlt.le
  ·rw [if_neg e] at ha
   by_cases p1:(i - 1) / 2=o
   ·rw [if_pos p1] at hb
    cases hb
    exact hlt.le.trans (h.1 i a y hi e ha (by rw [p1]; exact hy))
   ·rw [if_neg p1] at hb
    by_cases p2:(i - 1) / 2=k
    ·rw [if_pos p2] at hb
     cases hb
     exact h.2 i a _ hk hi p2 ha (by rw [← ho]; exact hy)
    ·rw [if_neg p2] at hb
     exact h.1 i a b hi e ha hb
 ·rw [Gk hx hy,if_neg (by omega:c≠o)] at ha
  rw [Gk hx hy,if_neg (by omega:(o - 1) / 2≠o),if_neg (by omega:(o - 1) / 2≠k)] at hb
  have hz:=h.1 o y b h0 (Ne.symm hko) hy hb
  by_cases e:c=k
  ·rw [if_pos e] at ha
   cases ha
   exact hz
  ·rw [if_neg e] at ha
   exact hz.trans (h.1 c a y hc e ha (by rw [hco]; exact hy))
theorem DownI.none {L:List Tg} {k:Nat} (h:DownI L k) (hn:L.length≤2*k+1):HeapL L:=fun i x y hi hx hy=>by
 have hil:i<L.length:=(List.getElem?_eq_some_iff.1 hx).1
 exact h.1 i x y hi (by omega) hx hy
/-- The lesser one of the two below. -/
def Sq (L:List Tg) (k o:Nat) (y:Tg):Prop:=(o=2*k+1∨o=2*k+2)∧L[o]? = some y∧∀ i z,(i - 1) / 2=k→0<i→L[i]? = some z→le7 y z
theorem DownI.done {L:List Tg} {k o:Nat} {x y:Tg} (h:DownI L k) (hx:L[k]? = some x) (hl:Sq L k o y) (hn:¬ lt7 y x):HeapL L:=fun i a b hi ha hb=>by
 by_cases e:(i - 1) / 2=k
 ·rw [e,hx] at hb
  cases hb
  exact (Sp hn).trans (hl.2.2 i a e hi ha)
 ·exact h.1 i a b hi e ha hb
theorem DownI.step {L:List Tg} {k o:Nat} {x y:Tg} (h:DownI L k) (hx:L[k]? = some x) (hl:Sq L k o y) (hlt:lt7 y x):DownI ((L.set k y).set o x) o:=by
 obtain ⟨ho,hy,hmin⟩:=hl
 have hko:k≠o:=by omega
 have hpo:(o - 1) / 2=k:=by omega
 refine ⟨fun i a b hi hio ha hb=>?_,fun c a b h0 hc hco ha hb=>?_⟩
 ·rw [Gk hx hy,if_neg hio] at hb
  rw [Gk hx hy] at ha
  by_cases p:(i - 1) / 2=k
  ·rw [if_pos p] at hb
   cases hb
   by_cases e:i=o
   ·rw [if_pos e] at ha
    cases ha
    exact hlt.le
   ·rw [if_neg e,if_neg (by omega:i≠k)] at ha
    exact hmin i a p hi ha
  ·rw [if_neg p] at hb
   rw [if_neg (by omega:i≠o)] at ha
   by_cases e:i=k
   ·rw [if_pos e] at ha
    cases ha
    subst e
    exact h.2 o _ b hi (by omega) hpo hy hb
   ·rw [if_neg e] at ha
    exact h.1 i a b hi p ha hb
 ·rw [Gk hx hy,if_neg (by omega:c≠o),if_neg (by omega:c≠k)] at ha
  rw [Gk hx hy,hpo,if_neg hko,if_pos rfl] at hb
  cases hb
  exact h.1 c a _ hc (by omega) ha (by rw [hco]; exact hy)
theorem HeapL.root {L:List Tg} (h:HeapL L) {r:Tg} (hr:L[0]? = some r):∀ (i:Nat) (x:Tg),L[i]? = some x→le7 r x:=fun i=>by
 induction i using Nat.strongRecOn with
 | _ i ih =>
  intro x hx
  by_cases e:i=0
  ·subst e
   rw [hr] at hx
   cases hx
   exact .inr ⟨rfl,Nat.le_refl _⟩
  ·have hil:i<L.length:=(List.getElem?_eq_some_iff.1 hx).1
   obtain ⟨y,hy⟩:∃ y,L[(i - 1) / 2]? = some y:=⟨_,List.getElem?_eq_getElem (by omega)⟩
   exact (ih _ (by omega) y hy).trans (h i x y (by omega) hx hy)
theorem HeapL.snoc {L:List Tg} (h:HeapL L) (z:Tg):UpI (L++[z]) L.length:=by
 have hg:∀ (i:Nat) (x:Tg),i≠L.length→(L++[z])[i]? = some x→L[i]? = some x:=fun i x hi hx=>by
  have hil:i<(L++[z]).length:=(List.getElem?_eq_some_iff.1 hx).1
  rw [List.length_append,List.length_singleton] at hil
  rwa [List.getElem?_append_left (by omega)] at hx
 refine ⟨fun i x y hi hn hx hy=>?_,fun c x y h0 hc hco hx hy=>?_⟩
 ·have h1:=hg i x hn hx
  have hil:i<L.length:=(List.getElem?_eq_some_iff.1 h1).1
  exact h i x y hi h1 (hg _ y (by omega) hy)
 ·have hil:c<(L++[z]).length:=(List.getElem?_eq_some_iff.1 hx).1
  rw [List.length_append,List.length_singleton] at hil
  omega
theorem HeapL.cut {x z:Tg} {L:List Tg} (h:HeapL (x::L)):DownI (((x::L).set 0 z).take L.length) 0:=by
 have hg:∀ (i:Nat) (a:Tg),0<i→(((x::L).set 0 z).take L.length)[i]? = some a→(x::L)[i]? = some a:=fun i a hi ha=>by
  rw [List.getElem?_take] at ha
  split at ha
  ·rwa [List.getElem?_set_ne (by omega)] at ha
  ·cases ha
 exact ⟨fun i a b hi hn ha hb=>h i a b hi (hg i a hi ha) (hg _ b (by omega) hb),fun c a b h0=>absurd h0 (Nat.lt_irrefl 0)⟩

end Go.Proofs.YtapphbmlkdhnmaaGreat
