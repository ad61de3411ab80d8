/- Part 6 of the proof. -/
import Derived.Test.YtffclglpjlcojaaGreatPart5
set_option maxRecDepth 20000
set_option maxHeartbeats 8000000
namespace Go.Proofs.YtffclglpjlcojaaGreat
open Go.GV Go.Proofs.Tryz
attribute [local irreducible] AG W Wq Wt
structure Slo where
 a:Option Addr
 n:Nat
 c:Nat
 full:List Value
def sloV(s:Slo):Value := .slice s.a s.n s.c
abbrev LJ(s:Slo):List (Nat × Obj):=ent s.a 270 s.full
abbrev XR(nn:Nat)(st:Nat->Slo):List Value:=(List.range nn).map fun u=>sloV (st u)
structure OutR(w0 w:World)(oo nn:Nat)(g:Gr)(p:Nat->Int)(st:Nat->Slo)(sel:Nat->List Nat)(oth:Nat->Prop):Prop where
 tbl:w.heap[oo]?=some (Bl 271 (XR nn st))
 os:∀u,u<nn->OS (st u).a (st u).n (st u).c 4 (st u).full ((sel u).flatMap (Hl g p))
 blk:∀u,u<nn->∀y∈LJ (st u),w.heap[y.1]?=some y.2/\w0.heap.size<=y.1/\¬oth y.1/\y.1≠oo
 ne:∀u v,u<nn->v<nn->u≠v->∀y∈LJ (st u),∀z∈LJ (st v),y.1≠z.1
def Pt(oo nn:Nat)(st:Nat->Slo):Mt:=fun x=>x=oo\/∃u,u<nn/\∃y∈LJ (st u),y.1=x
theorem OutR.keep{w0 w w':World}{oo nn:Nat}{g:Gr}{p:Nat->Int}{st:Nat->Slo}{sel:Nat->List Nat}{oth:Nat->Prop}(R:OutR w0 w oo nn g p st sel oth){S:List Nat}(h:Ext S w w')(hS:∀x∈S,¬Pt oo nn st x):OutR w0 w' oo nn g p st sel oth :=
 ⟨h.to R.tbl fun hm=>hS _ hm (.inl rfl),R.os,fun u hu y hy=>⟨h.to (R.blk u hu y hy).1 fun hm=>hS _ hm (.inr ⟨u,hu,y,hy,rfl⟩),(R.blk u hu y hy).2⟩,R.ne⟩
def stS(st:Nat->Slo)(u:Nat)(s:Slo):Nat->Slo:=fun q=>if q=u then s else st q
theorem Ip(st:Nat->Slo)(u:Nat)(s:Slo):stS st u s u=s:=if_pos rfl
theorem K4{st:Nat->Slo}{u:Nat}{s:Slo}{q:Nat}(h:q≠u):stS st u s q=st q:=if_neg h
theorem OutR.step{w0 w w':World}{oo nn:Nat}{g:Gr}{p:Nat->Int}{st:Nat->Slo}{sel sel':Nat->List Nat}{oth:Nat->Prop}(R:OutR w0 w oo nn g p st sel oth){u:Nat}(hu:u<nn){s:Slo}(hoth:∀x,oth x->x<w.heap.size)(h0:w0.heap.size<=w.heap.size)(H:Ctx w ((oo::(LJ (st u)).map (·.1))) w' ((oo,Bl 271 (XR nn (stS st u s)))::LJ s))(O:OS s.a s.n s.c 4 s.full ((sel' u).flatMap (Hl g p)))(hsel:∀q,q≠u->sel' q=sel q) :
  OutR w0 w' oo nn g p (stS st u s) sel' oth/\∀x,Pt oo nn (stS st u s) x->Pt oo nn st x\/w.heap.size<=x:=by
 have hlt:∀q,q<nn->∀y∈LJ (st q),y.1<w.heap.size:=fun q hq y hy=>AY (R.blk q hq y hy).1;have hoo:=AY R.tbl;have hnd:=(qbf.1 H.nd).1
 have hnew:∀y∈LJ s,(∃z∈LJ (st u),z.1=y.1)\/w.heap.size<=y.1:=fun y hy=>by
  rcases H.own y (qah _ hy)with h|h
  .rcases qae.1 h with h|h
   .exact absurd h.symm (hnd y hy)
   .obtain⟨z,hz,he⟩:=qag.1 h;exact .inl ⟨z,hz,he⟩
  .exact .inr h
 have hout:∀q,q<nn->q≠u->∀y∈LJ (st q),y.1∉oo::(LJ (st u)).map (·.1):=fun q hq hqu y hy hm=>by
  rcases qae.1 hm with h|h
  .exact(R.blk q hq y hy).2.2.2 h
  .obtain⟨z,hz,he⟩:=qag.1 h;exact R.ne q u hq hu hqu y hy z hz he.symm
 refine⟨⟨H.get at0,fun q hq=>?_,fun q hq y hy=>?_,fun q v hq hv hqv y hy z hz=>?_⟩,fun x hx=>?_⟩
 .by_cases e:q=u
  .subst e;rw[Ip];exact O
  .rw[K4 e,hsel q e];exact R.os q hq
 .by_cases e:q=u
  .subst e;rw[Ip]at hy;refine⟨H.blk y (qah _ hy),?_,?_,fun h=>hnd y hy h.symm⟩
   .rcases hnew y hy with⟨z,hz,he⟩|h
    .rw[<-he];exact(R.blk q hq z hz).2.1
    .omega
   .rcases hnew y hy with⟨z,hz,he⟩|h
    .rw[<-he];exact(R.blk q hq z hz).2.2.1
    .exact fun ho=>by have:=hoth _ ho;omega
  .rw[K4 e]at hy;obtain⟨h1,h2,h3,h4⟩:=R.blk q hq y hy;exact⟨H.ext.to h1 (hout q hq e y hy),h2,h3,h4⟩
 .by_cases e:q=u
  .subst e;rw[Ip]at hy;rw[K4 (Ne.symm hqv)]at hz
   rcases hnew y hy with⟨t,ht,he⟩|h
   .rw[<-he];exact R.ne q v hq hv hqv t ht z hz
   .have:=hlt v hv z hz;omega
  .rw[K4 e]at hy
   by_cases e2:v=u
   .subst e2;rw[Ip]at hz
    rcases hnew z hz with⟨t,ht,he⟩|h
    .rw[<-he];exact R.ne q v hq hv hqv y hy t ht
    .have:=hlt q hq y hy;omega
   .rw[K4 e2]at hz;exact R.ne q v hq hv hqv y hy z hz
 .rcases hx with h|⟨q,hq,y,hy,rfl⟩
  .exact .inl (.inl h)
  .by_cases e:q=u
   .subst e;rw[Ip]at hy
    rcases hnew y hy with⟨t,ht,he⟩|h
    .exact .inl (.inr ⟨q,hq,t,ht,he⟩)
    .exact .inr h
   .rw[K4 e]at hy;exact .inl (.inr ⟨q,hq,y,hy,rfl⟩)
theorem OutR.ctx{w0 w:World}{oo nn:Nat}{g:Gr}{p:Nat->Int}{st:Nat->Slo}{sel:Nat->List Nat}{oth:Nat->Prop}(R:OutR w0 w oo nn g p st sel oth){u:Nat}(hu:u<nn):Ctx w (oo::(LJ (st u)).map (·.1)) w ((oo,Bl 271 (XR nn st))::LJ (st u)):=by
 refine⟨.refl _ _,fun x hx=>?_,qbf.2 ⟨fun y hy h=>(R.blk u hu y hy).2.2.2 h.symm,FY⟩,fun x hx => .inl ?_⟩
 .rcases qae.1 hx with rfl|hx
  .exact R.tbl
  .exact(R.blk u hu x hx).1
 .rcases qae.1 hx with rfl|hx
  .exact qai ..
  .exact qah _ (qag.2 ⟨x,hx,rfl⟩)
def IW(g:Gr)(l:List Nat)(u:Nat):List Nat:=l.filter fun a=>decide (g.u a=u)
theorem XS{g:Gr}{l:List Nat}{i a:Nat}(h:l[i]?=some a):IW g (l.take (i+1)) (g.u a)=IW g (l.take i) (g.u a)++[a]/\∀q,q≠g.u a->IW g (l.take (i+1)) q=IW g (l.take i) q:=by
 unfold IW;rw[Fc h];refine⟨by rw[qcc];congr 1;rw[qbr,qar rfl];rfl,fun q hq=>?_⟩;rw[qcc,qbr,qbb (Ne.symm hq)];simp
theorem Akz{g:Gr}{cap x p:Nat->Int}{src:List Nat}{n:Nat}{m:Int}{s:Lb}{by':Nat->Int}{all done:Nat->Prop}(D:Done (Mz g cap x p) src n m s)(hA:Ss (Mz g cap x p) n m)(B:BI g p s all done by')(hall:∀a,all a->a<2*g.E/\0<CB cap x a)(hdone:∀a,a<2*g.E->0<CB cap x a->done a) :
  Bys g cap x p s fun v=>if by' v = -1 then none else some (by' v).toNat:=by
 have hmem:∀a,a<2*g.E->0<CB cap x a->(g.u a,g.v a,g.len p a)∈Mz g cap x p:=fun a h1 h2=>Kw.2 ⟨a,h1,h2,rfl⟩;refine⟨fun v hv=>?_,fun v hd hh=>?_⟩
 .dsimp only
  by_cases e:by' v = -1
  .rw[if_pos e]
  .exfalso
   rcases B.val v with h|⟨a,_,ha,⟨h1,h2,h3,h4⟩,hva⟩
   .exact e h
   .obtain⟨ha1,ha2⟩:=hall a ha;have hl:=(hA _ (hmem a ha1 ha2)).2.2.1;dsimp only at hl;rw[hva]at h2 h3
    rcases hv with hv|hv
    .have:=D.J.low (g.u a);omega
    .exact h2 hv
 .obtain⟨b,hb,hbv,hb1,hb2,hb3⟩:=D.pre v hd hh;obtain⟨a,ha1,ha2,rfl⟩:=Kw.1 hb;dsimp only at hbv hb1 hb2 hb3;have hg:Jo g p s a:=⟨hb1,by rw[hbv];exact hh,by rw[hbv];exact hb2,by rw[hbv];exact hb3⟩;have hne:=B.in' a (hdone a ha1 ha2) hg;rw[hbv]at hne
  rcases B.val v with h|⟨a',hby,ha',⟨h1,h2,h3,h4⟩,hva⟩
  .exact absurd h hne
  .obtain⟨q1,q2⟩:=hall a' ha';refine⟨a',by dsimp only;rw[if_neg hne,hby];rfl,⟨q1,q2,h1,by rw[hva];exact hd,h3,h4⟩,hva⟩
structure WaysX(g:Gr)(cap x p:Nat->Int)(s:Lb)(by':Nat->Int):Prop where
 rlx:∀a∈Mz g cap x p,s.d a.1 ≠ -1->Rlx s a
 fst:∀v (a:Nat),by' v=(a:Int)->∀b,b<2*g.E->0<CB cap x b->Jo g p s b->g.v b=v->a<=b
 all':∀v (a:Nat),by' v=(a:Int)->a<2*g.E/\0<CB cap x a/\Jo g p s a/\g.v a=v
 some':∀b,b<2*g.E->0<CB cap x b->Jo g p s b->by' (g.v b) ≠ -1
 neg:∀v,by' v = -1\/∃a:Nat,by' v=(a:Int)
theorem S6{A:List Ar}{src:List Nat}{n:Nat}{m m':Int}{s s':Lb}(D:Done A src n m s)(D':Done A src n m' s')(r:∀a∈A,s'.d a.1 ≠ -1->Rlx s' a):∀(k v:Nat),s.h v=k->s.d v ≠ -1->s'.d v ≠ -1/\le2 (s'.d v) (s'.h v) (s.d v) (s.h v):=by
 intro k
 induction k with
 |zero =>
  intro v hk hv;have h1:=D.J.zero v hv hk;obtain⟨-,h2,h3⟩:=D'.J.src' v h1;have h4:=D.J.low v;refine⟨by omega,?_⟩;unfold le2;omega
 |succ k ih =>
  intro v hk hv;obtain⟨a,ha,hav,h1,h2,h3⟩:=D.pre v hv (by omega);obtain⟨h4,h5⟩:=ih a.1 (by omega) h1;obtain⟨h6,h7⟩:=r a ha h4;rw[hav]at h6 h7;refine⟨h6,?_⟩;unfold le2 at h5 h7 |-;omega
theorem Aa8{A:List Ar}{src:List Nat}{n:Nat}{m m':Int}{s s':Lb}(D:Done A src n m s)(D':Done A src n m' s')(r:∀a∈A,s.d a.1 ≠ -1->Rlx s a)(r':∀a∈A,s'.d a.1 ≠ -1->Rlx s' a):s=s':=by
 have h:∀v,s.d v=s'.d v/\s.h v=s'.h v:=fun v=>by
  by_cases e:s.d v = -1
  .by_cases e':s'.d v = -1
   .exact⟨e.trans e'.symm,by rw[D.J.none' v e,D'.J.none' v e']⟩
   .exact absurd e (S6 D' D r _ v U e').1
  .obtain⟨e',h1⟩:=S6 D D' r' _ v rfl e;obtain⟨-,h2⟩:=S6 D' D r _ v rfl e';unfold le2 at h1 h2;omega
 obtain⟨d,hh⟩:=s;obtain⟨d',hh'⟩:=s';obtain rfl:d=d':=funext fun v=>(h v).1;obtain rfl:hh=hh':=funext fun v=>(h v).2;rfl
theorem Ak0{g:Gr}{cap x p:Nat->Int}{s:Lb}{f f':Nat->Int}(X:WaysX g cap x p s f)(X':WaysX g cap x p s f'):f=f':=funext fun v=>by
 rcases X.neg v with h|⟨a,h⟩
 .rcases X'.neg v with h'|⟨a',h'⟩
  .rw[h,h']
  .obtain⟨h1,h2,h3,h4⟩:=X'.all' v a' h';exact absurd (h4 ▸ h) (X.some' a' h1 h2 h3)
 .obtain⟨h1,h2,h3,h4⟩:=X.all' v a h
  rcases X'.neg v with h'|⟨a',h'⟩
  .exact absurd (h4 ▸ h') (X'.some' a h1 h2 h3)
  .obtain⟨k1,k2,k3,k4⟩:=X'.all' v a' h';have h5:=X.fst v a h a' k1 k2 k3 k4;have h6:=X'.fst v a' h' a h1 h2 h3 h4;rw[h,h'];omega
theorem XT{n:Nat}{A:List Ar}{src:List Nat}{d:Int}(hA:∀v,v<n->Jn A v<=d)(_:0<=d:=by omega):psi n A (-1) (lb0 src) (JE src)<=src.length+n*(d*(n+1)):=by
 have hg:∀v,gv n (-1) (lb0 src) (JE src) v=(n:Int)+1:=fun v=>by
  unfold gv;rw[if_neg];rintro⟨h1,h2⟩;unfold lb0 at h1 h2;dsimp only at h1 h2
  split at h1 <;> split at h2 <;> omega
 have h1:=Ku (f:=fun v=>Jn A v*gv n (-1) (lb0 src) (JE src) v) (g:=fun _=>d*((n:Int)+1)) (k:=n) fun i hi=>by
  rw[hg];exact qeb (hA i hi) (by omega)
 have h2:∀(c:Int) (k:Nat),BC (fun _=>c) k=k*c:=fun c k=>by
  induction k with
  |zero=>show(0:Int)=((0:Nat):Int)*c;rw[show((0:Nat):Int)=0 from rfl,Int.zero_mul]
  |succ k ih =>
   show BC (fun _=>c) k+c=_;rw[ih,qde,Int.add_mul];simp
 rw[h2]at h1;unfold psi JE;rw[qak];have h3:BC (fun v=>Jn A v*gv n (-1) (lb0 src) (List.map (fun v=>((0:Int),v)) src) v) n<=(n:Int)*(d*((n:Int)+1)):=h1;omega
theorem W7{A:List Ar}{src:List Nat}{n:Nat}{m D:Int}{u:Nat}(hA:Ss A n m)(hm:0<=m)(hn:n<=60)(hD:0<=D):∀(l dn:List Ar) (s:Lb) (hp:List Tg),DJ A src n m s->Clo A s hp u dn->(∀a∈l,a∈A/\a.1=u)->s.d u=D->PI n D s hp ->
  DJ A src n m (l.foldl JD (s,hp)).1/\Clo A (l.foldl JD (s,hp)).1 (l.foldl JD (s,hp)).2 u (dn++l)/\(l.foldl JD (s,hp)).1.d u=D/\PI n D (l.foldl JD (s,hp)).1 (l.foldl JD (s,hp)).2/\psi n A D (l.foldl JD (s,hp)).1 (l.foldl JD (s,hp)).2<=psi n A D s hp+l.length
 | [],dn,s,hp,J,K,_,hu,P=>⟨J,by simpa using K,hu,P,by simp⟩
 |a::l,dn,s,hp,J,K,hl,hu,P=>by
  obtain⟨ha,hau⟩:=hl a (qai ..);obtain⟨J1,K1,h1,h2,-⟩:=DJ.relax hA hm hn J K ha hau (by rw[hu];omega);obtain⟨P1,h3⟩:=P.relax (A:=A) (a:=a) (by rw[hau];exact hu) hD (hA a ha).2.2.1 J.low fun h=>J1.hops h;obtain⟨r1,r2,r3,r4,r5⟩:=W7 hA hm hn hD l (dn++[a]) (Hj s a) (IU s a hp) J1 K1 (fun b hb=>hl b (qah _ hb)) (by rw[h1];exact hu) P1;rw[qaz]at r2;refine⟨r1,r2,r3,r4,?_⟩;rw[qa8,qda];have h4:JD (s,hp) a=(Hj s a,IU s a hp):=rfl;rw[h4];omega
structure MI(A:List Ar)(src:List Nat)(n:Nat)(m D:Int)(s:Lb)(hp:List Tg):Prop where
 dj:DJ A src n m s
 clo:Clo A s hp 0 A
 pi:PI n D s hp
theorem Clo.any{A:List Ar}{s:Lb}{hp:List Tg}{u:Nat}(K:Clo A s hp u A)(v:Nat):Clo A s hp v A:=fun x hx=>(K x hx).imp id fun h a ha hax _=>h a ha hax fun _=>ha
theorem Clo.perm{A:List Ar}{s:Lb}{hp hq:List Tg}{u:Nat}{dn:List Ar}(K:Clo A s hp u dn)(h:hp.Perm hq):Clo A s hq u dn:=fun x hx=>(K x hx).imp (fun h'=>h.mem_iff.1 h') id
theorem MI.perm{A:List Ar}{src:List Nat}{n:Nat}{m D:Int}{s:Lb}{hp hq:List Tg}(M:MI A src n m D s hp)(h:hp.Perm hq):MI A src n m D s hq:=⟨M.dj,M.clo.perm h,M.pi.perm h⟩
theorem MI.start{A:List Ar}{src:List Nat}{n:Nat}{m:Int}(hs:∀v∈src,v<n)(hnd:src.Nodup):MI A src n m (-1) (lb0 src) (JE src):=by
 refine⟨DJ.start hs,fun v hv=>?_,fun t ht=>?_,fun t ht=>?_,fun v hv=>?_⟩
 .have hm:v∈src:=by
   rcases Decidable.em (v∈src)with h|h
   .exact h
   .exact absurd (if_neg h) hv
  have:(lb0 src).d v=0:=if_pos hm;rw[this];exact .inl (qag.2 ⟨v,hm,rfl⟩)
 .obtain⟨v,_,rfl⟩:=qag.1 ht;show(-1:Int)<=0;omega
 .obtain⟨v,hv,rfl⟩:=qag.1 ht;have:(lb0 src).d v=0:=if_pos hv;dsimp only;rw[this];omega
 .have hm:v∈src:=by
   rcases Decidable.em (v∈src)with h|h
   .exact h
   .exact absurd (if_neg h) hv
  have h1:(JE src).Nodup:=List.Pairwise.map _ (fun a b h e=>h (Prod.mk.inj e).2) hnd;have h2:=List.nodup_iff_count.1 h1 ((lb0 src).d v,v);have h3:=hs v hm;show _+0<=n;omega
section
variable {A:List Ar}{src:List Nat}{n:Nat}{m D:Int}{s:Lb}{hp:List Tg}{t:Tg}
theorem MI.lt(hA:Ss A n m)(M:MI A src n m D s hp){v:Nat}(hv:s.d v ≠ -1):v<n:=by
 by_cases h:s.h v=0
 .exact(M.dj.src' v (M.dj.zero v hv h)).1
 .obtain⟨a,ha,h1,_⟩:=M.dj.pre v hv h;rw[<-h1];exact(hA a ha).2.1
theorem MI.top(hA:Ss A n m)(M:MI A src n m D s (t::hp)):t.2<n:=M.lt hA (M.pi.item t (qai ..)).1
theorem MI.drop(hA:Ss A n m)(M:MI A src n m D s (t::hp))(hmin:∀x∈hp,t.1<=x.1)(hne:t.1≠s.d t.2):MI A src n m t.1 s hp/\psi n A t.1 s hp+1<=psi n A D s (t::hp):=by
 obtain⟨P1,h1,-⟩:=M.pi.pop (A:=A) hmin (M.top hA);refine⟨⟨M.dj,fun v hv=>(M.clo v hv).imp (fun h=>?_) id,P1⟩,h1⟩
 rcases qae.1 h with h|h
 .exact absurd (by rw[<-h]) hne
 .exact h
theorem MI.key0(M:MI A src n m D s (t::hp))(he:t.1=s.d t.2):0<=t.1:=by
 have h1:=(M.pi.item t (qai ..)).1;have:=M.dj.low t.2;omega
theorem MI.go(hA:Ss A n m)(hm:0<=m)(hn:n<=60)(M:MI A src n m D s (t::hp))(hmin:∀x∈hp,t.1<=x.1)(he:t.1=s.d t.2){l l1:List Ar}(hl:A.filter (fun a=>decide (a.1=t.2))=l++l1) :
  DJ A src n m (l.foldl JD (s,hp)).1/\(l1=[]->MI A src n m t.1 (l.foldl JD (s,hp)).1 (l.foldl JD (s,hp)).2/\psi n A t.1 (l.foldl JD (s,hp)).1 (l.foldl JD (s,hp)).2+1<=psi n A D s (t::hp)):=by
 obtain⟨P1,-,h1⟩:=M.pi.pop (A:=A) hmin (M.top hA)
 have hla:∀a∈l,a∈A/\a.1=t.2:=fun a ha=>by
  have h2:a∈A.filter (fun a=>decide (a.1=t.2)):=by rw[hl];exact qao _ ha
  obtain⟨h3,h4⟩:=qbd.1 h2;exact⟨h3,qba h4⟩
 have K0:Clo A s hp t.2 []:=fun v hv=>by
  by_cases e:v=t.2
  .exact .inr fun a _ hav hd=>by cases hd e
  .refine(M.clo v hv).imp (fun h=>?_) fun h a ha hav _=>h a ha hav fun _=>ha
   rcases qae.1 h with h|h
   .exact absurd (by rw[<-h]) e
   .exact h
 obtain⟨r1,r2,r3,r4,r5⟩:=W7 hA hm hn (M.key0 he) l [] s hp M.dj K0 hla he.symm P1;refine⟨r1,fun hl1=>?_⟩;rw[hl1,qa3]at hl
 have KK:Clo A (l.foldl JD (s,hp)).1 (l.foldl JD (s,hp)).2 t.2 A:=fun v hv=>(r2 v hv).imp id fun h a ha hav hd=>h a ha hav fun e=>by
  rw[qb9,<-hl];exact qbd.2 ⟨ha,qar (hav.trans e)⟩
 refine⟨⟨r1,KK.any 0,r4⟩,?_⟩;have h2:=h1 he;have h3:Jn A t.2=(l.length:Nat):=by unfold Jn;rw[hl]
 omega
theorem MI.ends(M:MI A src n m D s []):Done A src n m s:=M.dj.ends M.clo
theorem MI.rlx(M:MI A src n m D s []):∀a∈A,s.d a.1 ≠ -1->Rlx s a:=fun a ha h=>(M.clo a.1 h).elim (fun h=>by cases h) fun h=>h a ha rfl fun _=>ha
end
theorem Aa9(g:Gr)(cap x p:Nat->Int):Mz g cap x p=(EG cap x g.E).map (JC g p):=rfl
theorem TO(g:Gr)(cap x p:Nat->Int)(u:Nat):(Mz g cap x p).filter (fun a=>decide (a.1=u))=(IW g (EG cap x g.E) u).map (JC g p):=by
 rw[Aa9,List.filter_map];rfl
theorem S7{N:Int}{es:List Ed}{fl pot:List Int}(h:IG N es fl pot=true):Fine (grE N es) (Ck es) (flE fl) (EQ pot):=by
 unfold IG at h;simp only[qaf]at h;obtain⟨hw,_,ha⟩:=h;obtain⟨h1,_,h2⟩:=Cx hw;refine⟨fun i hi=>?_,fun a ha' hr=>?_⟩
 .obtain⟨e,he⟩:=AA (l:=es) (i:=i) (h:=hi);obtain⟨x,hx⟩:=AA (l:=fl) (i:=i) (h:=by rw[h1];exact hi);have:=h2 i e x he hx;unfold flE Ck;rw[Bs he,Bs hx];exact this
 .have:=qau.1 ha a (qbd.2 ⟨qa6.2 ha',qar hr⟩);exact qba this
theorem S8{N:Int}{es:List Ed}{fl pot:List Int}(hw:Cn N es fl=true)(hp:G2 N pot=true)(h:Fine (grE N es) (Ck es) (flE fl) (EQ pot)):IG N es fl pot=true:=by
 unfold IG;rw[hw,hp,qcp,qcp];refine qau.2 fun a ha=>?_;obtain⟨h1,h2⟩:=qbd.1 ha;exact qar (h.fit a (qa6.1 h1) (qba h2))
theorem Afj{N:Int}{es:List Ed}{pot:List Int}(hr:C2 N es=true){B:Int}(hB:∀v,-B<=EQ pot v/\EQ pot v<=B)(a:Nat):(grE N es).len (EQ pot) a<=1000+2*B /\ -(1000+2*B)<=(grE N es).len (EQ pot) a:=by
 have h1 : -1000<=(grE N es).c a/\(grE N es).c a<=1000:=by
  have h2 : -1000<=(grE N es).co (a / 2)/\(grE N es).co (a / 2)<=1000:=by
   show -1000<=(es.getD (a / 2) e0).cost/\(es.getD (a / 2) e0).cost<=1000
   rcases qap (a / 2) es.length with h|h
   .obtain⟨e,he⟩:=AA (l:=es) (h:=h);have:=EP ((CM hr).2.2.2.1 e (qac he));rw[Bs he];omega
   .rw[qbk,qa9 h];exact⟨by decide,by decide⟩
  unfold Gr.c
  split
  .exact h2
  .omega
 have h3:=hB ((grE N es).u a);have h4:=hB ((grE N es).v a);unfold Gr.len;omega
theorem Afk{N:Int}{pot:List Int}(hp:G2 N pot=true)(v:Nat) : -1099511627776<=EQ pot v/\EQ pot v<=1099511627776:=by
 unfold EQ
 rcases qap v pot.length with h|h
 .obtain⟨x,hx⟩:=AA (l:=pot) (h:=h);rw[Bs hx];exact(LI hp).2 v x hx
 .rw[qbk,qa9 h];exact⟨by decide,by decide⟩
theorem DJ.dist{A:List Ar}{src:List Nat}{n:Nat}{m:Int}{s:Lb}(J:DJ A src n m s)(hm:0<=m)(hn:n<=60)(v:Nat) : -1<=s.d v/\s.d v<=60*m/\s.h v<=60:=by
 by_cases h:s.d v = -1
 .have h1:=J.none' v h;have:0<=60*m:=by omega
  omega
 .have h1:=J.hops h;have h2:=J.bnd v h;have h3:=J.low v;have h4:(s.h v:Int)*m<=60*m:=qeb (by omega) hm;omega
abbrev SC(N:Nat)(ae:Option Addr)(n ce bf bp bo:Nat)(k:Int):List Value:=[.int .i64 (N:Int),.slice ae n ce,.slice (some ⟨bf,0,none⟩) n n,.slice (some ⟨bp,0,none⟩) N N,.slice (some ⟨bo,0,none⟩) N N,.int .i64 k]
def Hr(ov:Nat->Int)(N:Nat):List Nat:=(List.range N).filter fun v=>decide (0<ov v)
theorem QG(ov:Nat->Int)(i:Nat):Hr ov (i+1)=Hr ov i++if 0<ov i then[i]else[]:=by
 unfold Hr;rw[qdz,qcc]
 congr 1
 by_cases h:0<ov i <;> simp[h]
theorem Aba(ov:Nat->Int)(i:Nat):(Hr ov i).length<=i:=by
 have:=qdl (fun v=>decide (0<ov v)) (List.range i);rw[List.length_range]at this;exact this
abbrev iN(v:Nat):Value := .int .i64 (v:Int)
structure LSt where
 i:Nat
 a:Option Addr
 c:Nat
 full:List Value
section
variable {w:World}{bs:Nat}{N:Nat}{ae:Option Addr}{n ce bf bp bo:Nat}{k:Int}{ov:Nat->Int}
theorem V3(hs:w.heap[bs]?=some (Bl 217 (SC N ae n ce bf bp bo k)))(ho:w.heap[bo]?=some (Bl 2 (BZ ov N)))(hN:N<=1000000:=by omega):
  Ret prog 169 #[ptr bs] w fun v w'=>Fresh w w' 3 1 v ((Hr ov N).map iN):=by
 obtain⟨w0,rfl,H⟩:=qE w;have R:=C4 ho;refine Ay (fn:=f169) func169 U [.pointer (some ⟨bs,0,none⟩)] U ?_;refine Ad (A4 U (qA (Ad (A4 U (qA (Ao (Ad (Ax U (AE U ?_)))))))));refine Ah Hg U (Bc BN U ((by rw[Aj hs];rfl)) ?_);refine Ba AV U (Af U (qA (A1 (Bt 8386616 (α:=LSt) (fun t=>[(11,.int .i64 (t.i:Int)),(3,.slice t.a (Hr ov t.i).length t.c)]) (fun t w'=>t.i<=N/\OS t.a (Hr ov t.i).length t.c 1 t.full ((Hr ov t.i).map iN)/\Ctx w0 [] w' (ent t.a 3 t.full)) (fun t=>N - t.i) ⟨0,none,0,[]⟩ U ?_ ?_ ?_))))
 .exact⟨rfl,rfl,trivial⟩
 .exact⟨qaj _,OS.nil,H⟩
 .rintro⟨i,a,c,full⟩ j w ⟨hi,O,H⟩;dsimp only at hi O H;dsimp only;have hpl:=Aba ov i;refine Ad (Bm U U (qA (Ao (An _ U ?_ ?_))))
  .intro h1;replace h1:=AM h1;have hgd:(tab ov N)[i]?=some (ov i):=BW (by omega);refine Aq (Aa (Ao (A1 (Ad (Af U (Bn AV B2 U U ?_))))));refine Bc Bw U (((R.ext0 H.ext).fld hgd U (j:=0) U)) ?_;refine Ae U (Ae U (qA (Ad (Af U (CD U U (qA (An _ U ?_ ?_)))))))
   .intro h2;replace h2:=AM h2;have hps:Hr ov (i+1)=Hr ov i++[i]:=by rw[QG,if_pos h2]
    refine A0 (A2 U (Af U (Cs _ (.int _ _) Ep Gy Vw U U U U H ?_)));rintro b20 w - H;refine CI (L:=[]) Ep Ep Gy by_3 Vw U U U H O U (by simp[AZ]) ?_;rintro a' c' full' w H O;refine A4 U (Ab (A8 (Aa (A0 (Az U U ?_)))));refine Af U (qA ?_);exact⟨⟨i+1,a',c',full'⟩,rfl,⟨rfl,by dsimp only;rw[hps,qat];rfl,trivial⟩,⟨by dsimp only;omega,by dsimp only;rw[hps,qat,qay];exact O,H⟩,by dsimp only;omega⟩
   .intro h2;replace h2:=AN h2;have hps:Hr ov (i+1)=Hr ov i:=by rw[QG,if_neg (by omega),qa3]
    refine Aq (A8 (Aa (A0 (Az U U ?_))));refine Af U (qA ?_);exact⟨⟨i+1,a,c,full⟩,rfl,⟨rfl,by dsimp only;rw[hps];rfl,trivial⟩,⟨by dsimp only;omega,by dsimp only;rw[hps];exact O,H⟩,by dsimp only;omega⟩
  .intro h1;replace h1:=AN h1;refine Bp (Am (Am (AO (Aa (Ad (A2 U (A4 U (qA (A7 (AD (v:=(.slice _ _ _)) U U U ?_))))))))));obtain rfl:i=N:=by omega
   exact Ctx.fresh (L:=[]) H O
def TP(ov d:Nat->Int)(n:Nat)(to:Int):Prop:=(to = -1/\∀u,u<n->¬(ov u<0/\0<=d u))\/∃x:Nat,x<n/\to=x/\ov x<0/\0<=d x/\∀y,y<n->ov y<0->0<=d y->d x<d y\/(d x=d y/\x<=y)
theorem Abb{ov d:Nat->Int}{n:Nat}{a b:Int}(h:TP ov d n a)(h':TP ov d n b):a=b:=by
 rcases h with⟨rfl,h⟩|⟨x,hx,rfl,h1,h2,h3⟩
 .rcases h' with⟨rfl,-⟩|⟨y,hy,rfl,k1,k2,-⟩
  .rfl
  .exact absurd ⟨k1,k2⟩ (h y hy)
 .rcases h' with⟨rfl,h'⟩|⟨y,hy,rfl,k1,k2,k3⟩
  .exact absurd ⟨h1,h2⟩ (h' x hx)
  .have h4:=h3 y hy k1 k2;have h5:=k3 x hx h1 h2;omega
theorem V4{od:Nat}{d:Nat->Int}(hs:w.heap[bs]?=some (Bl 217 (SC N ae n ce bf bp bo k)))(ho:w.heap[bo]?=some (Bl 2 (BZ ov N)))(hd:w.heap[od]?=some (Bl 2 (BZ d N)))(hN:N<=1000000:=by omega):
  Ret prog 171 #[ptr bs,.slice (some ⟨od,0,none⟩) N N] w fun v w'=>(∃to:Int,v=.int .i64 to/\TP ov d N to)/\w=w':=by
 obtain⟨w0,rfl⟩:=qD w;have RO:=C4 ho;have RD:=C4 hd;refine Ay (fn:=f171) func171 U [.pointer (some ⟨bs,0,none⟩),.slice (some ⟨od,0,none⟩) N N] U ?_;refine Ad (Ae U (qA (Ad (Ae U (qA (Ao (Ad (A2 U (Ba AV U ?_)))))))));refine Af U (qA (A1 (Bt 2199023254752 (α:=Nat × Int) (fun t=>[(10,.int .i64 (t.1:Int)),(5,.int .i64 t.2)]) (fun t w'=>w0=w'/\t.1<=N/\TP ov d t.1 t.2) (fun t=>N - t.1) (0,-1) U ?_ ?_ ?_)))
 .exact⟨rfl,rfl,trivial⟩
 .exact⟨rfl,qaj _,.inl ⟨rfl,fun u h=>absurd h (qa7 _)⟩⟩
 .rintro⟨i,to⟩ j w ⟨rfl,hi,hto⟩;dsimp only at hi hto;dsimp only;refine Ad (Bm U U (qA (Ao (An _ U ?_ ?_))))
  .intro h1;replace h1:=AM h1;have hgd:(tab d N)[i]?=some (d i):=BW (by omega);have hgo:(tab ov N)[i]?=some (ov i):=BW (by omega);have htd:=Di d N
   obtain⟨dx,hdx⟩:∃dx:Int,0<=to->∃x:Nat,x<N/\to=x/\(tab d N)[x]?=some dx:=by
    rcases hto with⟨h,_⟩|⟨x,hx,h,_⟩
    .exact⟨0,fun h7=>by omega⟩
    .exact⟨d x,fun _=>⟨x,by omega,h,BW (by omega)⟩⟩
   refine Aq (Aa (Ao (A1 (Ad (Af U (Be RD AV B2 U U (by omega) ?_))))));refine Bc Bw U ((RD.fld hgd U (j:=0) U)) ?_;refine Ae U (Ae U (qA (Ad (BV (α:=Unit) 549755781120 (fun _=>[(38,.bool (decide ((ov i<0/\0<=d i)/\(to<0\/d i<dx))))]) (fun _ w'=>w'=w0) U ?_ ?_))))
   .refine Ax U (AE U (Ah Hg U (Bc BN U ((by rw[Aj hs];rfl)) ?_)));refine Af U (Bn AV B2 U U ?_);refine Bc Bw U ((RO.fld hgo U (j:=0) U)) ?_;refine Bm U U (Aw U (AK 23 U ?_ ?_))
    .intro h1;replace h1:=AM h1;refine Af U (CG U U (A6 U (.bool _) U (Aw U (AK 27 U ?_ ?_))))
     .intro h2;replace h2:=AM h2;refine Af U (Bm U U (Aw U (AK 30 U ?_ ?_)))
      .intro h3;replace h3:=AM h3;refine Ag U (Ag U (Ag U (Ag U (Ag U (Ag U (A6 U (.bool _) U (A6 U (.bool _) U (Ab ?_))))))));exact⟨rfl,(),rfl,⟨qaa Value.bool (by clear hgd hgo;rw[qad];simp_all;try omega),trivial⟩,rfl⟩
      .intro h4;replace h4:=AN h4;refine Af U (A2 U (Af U ?_));obtain⟨x,hx,rfl,hgx⟩:=hdx (by omega);refine Be RD AV B2 U U (by omega) (Bc Bw U (RD.fld hgx U (j:=0) U) ?_);refine Bm U U (A9 U (.bool _) U (A6 U (.bool _) U (Ab ?_)));exact⟨rfl,(),rfl,⟨qaa Value.bool (by clear hgd hgo;rw[qad];simp_all;try omega),trivial⟩,rfl⟩
     .intro h5;replace h5:=AN h5;refine Ag U (Ag U (Ag U (Ag U (Ag U (Ag U (Ag U (Ag U (Ag U (Ag U ?_)))))))));refine A9 U (.bool _) U (Ab ?_);exact⟨rfl,(),rfl,⟨qaa Value.bool (by clear hgd hgo;rw[qad];simp_all;try omega),trivial⟩,rfl⟩
    .intro h6;replace h6:=AN h6;refine Ag U (Ag U (A9 U (.bool _) U (Aw U (Ag U (Ag U (Ag U (Ag U (Ag U (Ag U ?_)))))))));refine Ag U (Ag U (Ag U (Ag U (A9 U (.bool _) U (Ab ?_)))));exact⟨rfl,(),rfl,⟨qaa Value.bool (by clear hgd hgo;rw[qad];simp_all;try omega),trivial⟩,rfl⟩
   rintro - j38 w hw;subst hw;refine An _ U ?_ ?_
   .intro h2;have h2:=qba h2;refine A0 (Af U (Ae U (Ab (A8 (Aa (A0 (Az U U ?_)))))));refine Af U (qA ?_);refine⟨(i+1,(i:Int)),rfl,⟨rfl,rfl,trivial⟩,⟨rfl,by dsimp only;omega,.inr ⟨i,by dsimp only;omega,rfl,h2.1.1,h2.1.2,fun y hy k1 k2=>?_⟩⟩,by dsimp only;omega⟩;dsimp only at hy
    by_cases e:y=i
    .subst e;exact .inr ⟨rfl,qan _⟩
    .rcases hto with⟨h,h7⟩|⟨x,hx,h,h3,h4,h5⟩
     .exact absurd ⟨k1,k2⟩ (h7 y (by omega))
     .obtain⟨x',hx',hxx,hdx'⟩:=hdx (by omega);obtain rfl:x'=x:=by omega
      rw[BW hx']at hdx';obtain rfl:=qam hdx';have h6:=h5 y (by omega) k1 k2;have h8:=h2.2;exact .inl (by omega)
   .intro h2;have h2:=qbh h2;refine Aq (A8 (Aa (A0 (Az U U ?_))));refine Af U (qA ?_);refine⟨(i+1,to),rfl,⟨rfl,rfl,trivial⟩,⟨rfl,by dsimp only;omega,?_⟩,by dsimp only;omega⟩
    rcases hto with⟨h,h7⟩|h
    .refine .inl ⟨h,fun u hu hh=>?_⟩;dsimp only at hu
     by_cases e:u=i
     .subst e;exact h2 ⟨hh,.inl (by omega)⟩
     .exact h7 u (by omega) hh
    .obtain⟨x,hx,h,h3,h4,h5⟩:=h;refine .inr ⟨x,by dsimp only;omega,h,h3,h4,fun y hy k1 k2=>?_⟩;dsimp only at hy
     by_cases e:y=i
     .subst e;obtain⟨x',hx',hxx,hdx'⟩:=hdx (by omega);obtain rfl:x'=x:=by omega
      rw[BW hx']at hdx';obtain rfl:=qam hdx'
      by_cases h9:d y<d x'
      .exact absurd ⟨⟨k1,k2⟩,.inr h9⟩ h2
      .omega
     .exact h5 y (by omega) k1 k2
  .intro h1;replace h1:=AN h1;refine Bp (Am (Am (AO (Aa (Ad (Af U (Ae U (qA (A7 (AD (v:=(.int _ _)) U U U ?_))))))))));obtain rfl:i=N:=by omega
   exact⟨⟨to,rfl,hto⟩,rfl⟩
def M5(d:Nat->Int)(D:Int)(v:Nat):Int:=if d v<0\/D<d v then D else d v
def Iq(p d:Nat->Int)(D:Int)(i v:Nat):Int:=if v<i then p v+M5 d D v else p v
theorem Abc{od:Nat}{d p:Nat->Int}{D:Int}(hs:w.heap[bs]?=some (Bl 217 (SC N ae n ce bf bp bo k)))(hp:w.heap[bp]?=some (Bl 2 (BZ p N)))(hd:w.heap[od]?=some (Bl 2 (BZ d N)))(n1:bs≠bp)(n2:od≠bp)(hD:0<=D/\D<=1152921504606846976)(hpb:∀v,-1152921504606846976<=p v/\p v<=1152921504606846976)(hN:N<=1000000:=by omega):
  Ret prog 174 #[ptr bs,.slice (some ⟨od,0,none⟩) N N,.int .i64 D] w fun v w'=>v=.tuple #[]/\Ctx w [bp] w' [(bp,Bl 2 (BZ (fun v=>p v+M5 d D v) N))]:=by
 obtain⟨w0,rfl⟩:=qD w;have H:=Ctx.start1 hp;have n1':bs∉[bp]:=by rw[qab];exact n1
 have n2':od∉[bp]:=by rw[qab];exact n2
 have RD:=C4 hd;refine Ay (fn:=f174) func174 U [.pointer (some ⟨bs,0,none⟩),.slice (some ⟨od,0,none⟩) N N,.int .i64 D] U ?_;refine Ad (A2 U (Ba AV U (Af U (qA (A1 ?_)))));have h0:BZ p N=BZ (Iq p d D 0) N:=qbl fun v _=>by unfold Iq;rw[if_neg (qa7 _)]
 rw[h0]at H;refine Bt 17179868352 (α:=Nat) (fun i=>[(10,.int .i64 (i:Int))]) (fun i w'=>i<=N/\Ctx w0 [bp] w' [(bp,Bl 2 (BZ (Iq p d D i) N))]) (fun i=>N - i) 0 U ?_ ?_ ?_
 .exact⟨rfl,trivial⟩
 .exact⟨qaj _,H⟩
 .rintro i j w ⟨hi,H⟩;refine Ad (Bm U U (qA (Ao (An _ U ?_ ?_))))
  .intro h1;replace h1:=AM h1;have hgd:(tab d N)[i]?=some (d i):=BW (by omega);have hgp:(tab (Iq p d D i) N)[i]?=some (p i):=by rw[BW (by omega)];unfold Iq;rw[if_neg (Nat.lt_irrefl _)]
   have hbi:=hpb i;have hsucc:∀r,r=M5 d D i->Value.int .i64 (p i+r)=Value.int .i64 (Iq p d D (i+1) i):=fun r hr=>by unfold Iq;rw[if_pos (by omega),hr]
   have hoth:∀q,q≠i->Value.int .i64 (Iq p d D (i+1) q)=Value.int .i64 (Iq p d D i q):=fun q hq=>by
    unfold Iq
    by_cases h:q<i
    .rw[if_pos h,if_pos (by omega)]
    .rw[if_neg h,if_neg (by omega)]
   refine Aq (Aa (Ao (A1 (Ad (Af U (Bn AV B2 U U ?_))))));refine Bc Bw U (((RD.ext H.ext n2').fld hgd U (j:=0) U)) (Ae U (Ae U (qA (Ao (Ad (Af U (Bm U U (Aw U (AK 17 U ?_ ?_)))))))))
   .intro h1;replace h1:=AM h1;refine Ag U (Ag U (Ag U (A6 U (.bool _) U (qA (DH U (A0 (Af U (Ae U (qA ?_)))))))));refine A0 (Ax U (AE U (Ah EW U (Bc BN U ((by rw[Aj (H.ext.to hs n1')];rfl)) ?_))));refine Af U (Bn AV B2 U U ?_);refine Bc Bw U (((C4 (H.get at0)).fld hgp U (j:=0) U)) (Af U (Az U U ?_));refine Bn AV B2 U U ?_;refine Ch i (fun q => .int .i64 (Iq p d D (i+1) q)) (.int _ _) B2 U U U H at0 (by simp) (hsucc _ (by unfold M5;(rw[if_pos (by omega)];done))).symm (fun q _ hq=>hoth q hq) ?_;rintro w H;refine Ab (A8 (Aa (A0 (Az U U ?_))));refine Af U (qA ?_);exact⟨i+1,rfl,⟨rfl,trivial⟩,⟨by omega,H⟩,by omega⟩
   .intro h2;replace h2:=AN h2;refine Af U (Af U (CD U U (A9 U (.bool _) U (qA (An _ U ?_ ?_)))))
    .intro h3;replace h3:=AM h3;refine A0 (Af U (Ae U (qA (A0 (Ax U (AE U (Ah EW U (Bc BN U ((by rw[Aj (H.ext.to hs n1')];rfl)) ?_))))))));refine Af U (Bn AV B2 U U ?_);refine Bc Bw U (((C4 (H.get at0)).fld hgp U (j:=0) U)) (Af U (Az U U ?_));refine Bn AV B2 U U ?_;refine Ch i (fun q => .int .i64 (Iq p d D (i+1) q)) (.int _ _) B2 U U U H at0 (by simp) (hsucc _ (by unfold M5;(rw[if_pos (by omega)];done))).symm (fun q _ hq=>hoth q hq) ?_;rintro w H;refine Ab (A8 (Aa (A0 (Az U U ?_))));refine Af U (qA ?_);exact⟨i+1,rfl,⟨rfl,trivial⟩,⟨by omega,H⟩,by omega⟩
    .intro h4;replace h4:=AN h4;refine Aq (Aa (A0 (Ax U (AE U (Ah EW U (Bc BN U ((by rw[Aj (H.ext.to hs n1')];rfl)) ?_))))));refine Af U (Bn AV B2 U U ?_);refine Bc Bw U (((C4 (H.get at0)).fld hgp U (j:=0) U)) (Af U (Az U U ?_));refine Bn AV B2 U U ?_;refine Ch i (fun q => .int .i64 (Iq p d D (i+1) q)) (.int _ _) B2 U U U H at0 (by simp) (hsucc _ (by unfold M5;(rw[if_neg (by omega)];done))).symm (fun q _ hq=>hoth q hq) ?_;rintro w H;refine Ab (A8 (Aa (A0 (Az U U ?_))));refine Af U (qA ?_);exact⟨i+1,rfl,⟨rfl,trivial⟩,⟨by omega,H⟩,by omega⟩
  .intro h1;replace h1:=AN h1;refine Bp (Am (Am (AO (CO U U ?_))));obtain rfl:i=N:=by omega
   have h9:BZ (Iq p d D i) i=BZ (fun v=>p v+M5 d D v) i:=qbl fun v hv=>by unfold Iq;rw[if_pos (qa6.1 hv)]
   rw[h9]at H;exact⟨rfl,H⟩
end
def JV(g:Gr)(cap x:Nat->Int)(k:Nat):List Ar:=((List.range k).filter fun a=>decide (0<CB cap x a)).map fun a=>(g.u a,g.v a,g.c a)
theorem XU(g:Gr)(cap x:Nat->Int)(k:Nat):JV g cap x (k+1)=JV g cap x k++if 0<CB cap x k then[(g.u k,g.v k,g.c k)]else[]:=by
 unfold JV;rw[qdz,qcc,qay]
 congr 1
 by_cases h:0<CB cap x k <;> simp[h]
theorem Abd{g:Gr}{cap x:Nat->Int}{k m:Nat}(h:k<=m):∀a∈JV g cap x k,a∈JV g cap x m:=fun a ha=>by
 obtain⟨b,hb,rfl⟩:=qag.1 ha;obtain⟨h1,h2⟩:=qbd.1 hb;exact qag.2 ⟨b,qbd.2 ⟨qa6.2 (by have:=qa6.1 h1;omega),h2⟩,rfl⟩
theorem Jp{w:World}{bs:Nat}{t:TypeId}{N:Nat}{ae:Option Addr}{n ce bf bp bo:Nat}{k:Int}(h:w.heap[bs]?=some (Bl t (SC N ae n ce bf bp bo k))):∀j v,[Value.int .i64 (N:Int),.slice ae n ce][j]?=some v->w.cell? ⟨bs,0+j,none⟩=some v:=fun j v hv=>by
 rw[Aj h,qa4]
 match j,hv with
 |0,hv=>exact hv
 |1,hv=>exact hv
theorem Afl{x:Nat->Int}{n i:Nat}(h:i<n):flE (tab x n) i=x i:=by
 unfold flE;exact Bs (BW h)
theorem Pu{N:Nat}{es:List Ed}{x:Nat->Int}(hw:Cn (N:Int) es (tab x es.length)=true){k:Nat}(hk:k<2*es.length) :
  Gn (N:Int) es (k:Int)=(((grE (N:Int) es).u k:Int),((grE (N:Int) es).v k:Int),(grE (N:Int) es).c k)/\Lt (N:Int) es (tab x es.length) (k:Int)=CB (Ck es) x k/\(grE (N:Int) es).u k<N/\(grE (N:Int) es).v k<N /\ -1000<=(grE (N:Int) es).c k/\(grE (N:Int) es).c k<=1000/\0<=CB (Ck es) x k/\CB (Ck es) x k<=4503599627370496:=by
 obtain⟨hl,hr,hin⟩:=Cx hw;obtain⟨e,he,hE,q1,q2,q3,q4,q5,q6⟩:=Sy hr hk;obtain⟨e',xx,he',hx,hro,r1,r2,r3⟩:=Sz hw hk;obtain rfl:e'=e:=qam (he'.symm.trans he);obtain⟨hxk,rfl⟩:=Pp hx;have hce:Ck es (k / 2)=e'.cap:=by unfold Ck;rw[Bs he]
 have hge:(grE (N:Int) es).f (k / 2)=e'.f.toNat/\(grE (N:Int) es).t (k / 2)=e'.t.toNat/\(grE (N:Int) es).co (k / 2)=e'.cost:=by
  refine⟨?_,?_,?_⟩ <;> (show _=_;unfold grE;dsimp only;rw[Bs he])
 rw[hE,hro];unfold Gr.u Gr.v Gr.c CB N6;rw[hge.1,hge.2.1,hge.2.2,hce];unfold I8 at q1 q2 q3 q4 q5 q6 |-
 by_cases hp:k % 2=1
 .have hp2:¬k % 2=0:=by omega
  simp only[if_pos hp]at q1 q2 q3 q4 q5 q6 |-;simp only[if_neg hp2];exact⟨by rw[qd0 q1,qd0 q3],trivial,by omega,by omega,q5,q6,r1,by omega⟩
 .have hp2:k % 2=0:=by omega
  simp only[if_neg hp]at q1 q2 q3 q4 q5 q6 |-;simp only[if_pos hp2];exact⟨by rw[qd0 q1,qd0 q3],trivial,by omega,by omega,q5,q6,by omega,by omega⟩
section
variable {w:World}{bs:Nat}{N:Nat}{ae:Option Addr}{ce bf bp bo:Nat}{k:Int}{es:List Ed}{x p:Nat->Int}
theorem Afm(hs:w.heap[bs]?=some (Bl 217 (SC N ae es.length ce bf bp bo k)))(Re:Rd w ae 4 CJ es)(hen:es≠[]->(adr ae).block≠bp)(hf:w.heap[bf]?=some (Bl 2 (BZ x es.length)))(hp:w.heap[bp]?=some (Bl 2 (BZ p N)))(n1:bs≠bp)(n2:bf≠bp)(hw:Cn (N:Int) es (tab x es.length)=true){p0:Nat->Int}(hF:Fine (grE (N:Int) es) (Ck es) x p0) :
  Ret prog 203 #[ptr bs] w fun v w'=>v=.tuple #[]/\Ctx w [bp] w' [(bp,Bl 2 (BZ (EO (JV (grE (N:Int) es) (Ck es) x (2*es.length)) N fun _=>0) N))]:=by
 obtain⟨w0,rfl⟩:=qD w;have H:=Ctx.start1 hp;have n1':bs∉[bp]:=by rw[qab];exact n1
 have n2':bf∉[bp]:=by rw[qab];exact n2
 obtain⟨hwl,hr,-⟩:=Cx hw;obtain⟨hN1,hN40,hn200,-⟩:=CM hr;have hI:I64 (N:Int):=by unfold I64;omega
 obtain⟨g,hg⟩:=qD (grE (N:Int) es);obtain⟨cap,hcap⟩:=qD (Ck es)
 have hat:∀{a:Nat},a<2*es.length->Gn (N:Int) es (a:Int)=((g.u a:Int),(g.v a:Int),g.c a)/\Lt (N:Int) es (tab x es.length) (a:Int)=CB cap x a/\g.u a<N/\g.v a<N /\ -1000<=g.c a/\g.c a<=1000/\0<=CB cap x a/\CB cap x a<=4503599627370496:=fun ha=>by
  rw[hg,hcap];exact Pu hw ha
 rw[<-hg,<-hcap]at hF |-;obtain⟨A,hA⟩:=qD (JV g cap x (2*es.length));have hgE:g.E=es.length:=by rw[hg];rfl
 have hAm:∀b∈A,b.1<N/\b.2.1<N /\ -1000<=b.2.2:=fun b hb=>by
  rw[hA]at hb;obtain⟨a,ha,rfl⟩:=qag.1 hb;obtain⟨-,-,h1,h2,h3,-⟩:=hat (qa6.1 (qbd.1 ha).1);exact⟨h1,h2,h3⟩
 have hfea:Fea A p0:=by rw[hA,<-hgE];exact TI hF
 have hfe2:=Vx hfea fun a ha=>⟨(hAm a ha).1,(hAm a ha).2.1⟩;have hfb:=Wx (A:=A) (m:=1000) (by omega) (fun a ha=>(hAm a ha).2.2) N
 have hbnd:∀r k v,-40000<=(JV g cap x k).foldl Jj (EO A r fun _=>0) v\/2*es.length<k:=fun r k v=>by
  rcases qap (2*es.length) k with h|h
  .exact .inr h
  .refine .inl ?_;have h1:=Sp (A:=JV g cap x k) (p:=EO A r fun _=>0) (f:=DD A N) (fun a ha=>hfe2 a (by rw[hA];exact Abd h a ha)) (fun v=>KV hfe2 (fun v=>by have:=Mv A v (qaj N);exact this) r v) v;have h2:=hfb v;have h3:(N:Int)*1000<=40000:=by omega
   omega
 have hbnd2:∀r k v,(JV g cap x k).foldl Jj (EO A r fun _=>0) v<=0:=fun r k v=>by
  refine qbg (Mx _ _ v) ?_
  induction r with
  |zero=>exact qax _
  |succ r ih=>exact qbg (Mx _ _ v) ih
 rw[<-hA];refine Ay (fn:=f203) func203 U [.pointer (some ⟨bs,0,none⟩)] U ?_;refine Ad (Ax U (AE U (Ah EW U (Bc BN U ((by rw[Aj hs];rfl)) ?_))));refine Q3 U AV E5 U (by simp[AZ]) U H at0 (by simp) ?_;rintro w H;refine qA ?_
 have hz:over (BZ p N) 0 (List.replicate N [Value.int .i64 0]).flatten=BZ (EO A 0 fun _=>0) N:=by
  rw[_root_.Go.GV.over_all (by simp)];show _=(List.range N).map fun _=>Value.int .i64 0;rw[<-Fe];simp
 rw[hz]at H;refine Ad (Ax U (AE U (Ah Hf U (Ah Eg U (Bc Cd U ((by rw[Aj (H.ext.to hs n1')];rfl)) ?_)))));refine Af U (qA (A1 (Bt 151115727451828646772860 (α:=Nat) (fun r=>[(16,.int .i64 (r:Int))]) (fun r w'=>r<=N/\Ctx w0 [bp] w' [(bp,Bl 2 (BZ (EO A r fun _=>0) N))]) (fun r=>N - r) 0 U ?_ ?_ ?_)))
 .exact⟨rfl,trivial⟩
 .exact⟨qaj _,H⟩
 .rintro r j w ⟨hr2,H⟩;refine Ad (Bm U U (qA (Ao (An _ U ?_ ?_))))
  .intro h1;replace h1:=AM h1;refine Aq (Aa (Ao (A1 (Ad (Ax U (AE U (Ah EV U (Bc BN U ((by rw[Aj (H.ext.to hs n1')];rfl)) ?_))))))));refine Ba AV U (DL U U ?_);refine Af U (qA (A1 (Bt 75557863725914306642044 (α:=Nat) (fun a=>[(24,.int .i64 (a:Int))]) (fun a w'=>a<=2*es.length/\Ctx w0 [bp] w' [(bp,Bl 2 (BZ ((JV g cap x a).foldl Jj (EO A r fun _=>0)) N))]) (fun a=>2*es.length - a) 0 U ?_ ?_ ?_)))
   .exact⟨rfl,trivial⟩
   .exact⟨qaj _,H⟩
   .rintro a j2 w ⟨ha2,H⟩;refine Ad (Bm U U (qA (Ao (An _ U ?_ ?_))))
    .intro h2;replace h2:=AM h2;have ha:a<2*es.length:=by omega
     obtain⟨hE,hR,q1,q2,q3,q4,q5,q6⟩:=hat ha;obtain⟨un,hun⟩:=qD (g.u a);obtain⟨vn,hvn⟩:=qD (g.v a);obtain⟨co,hco⟩:=qD (g.c a);obtain⟨q,hq⟩:=qD ((JV g cap x a).foldl Jj (EO A r fun _=>0));have hb1:∀v,-40000<=q v/\q v<=0:=fun v=>by rw[hq];exact⟨(hbnd r a v).resolve_right (by omega),hbnd2 r a v⟩
     have hsucc:(JV g cap x (a+1)).foldl Jj (EO A r fun _=>0)=if 0<CB cap x a then Jj q (un,vn,co)else q:=by
      rw[XU,qdk,<-hq]
      split
      .rw[hun,hvn,hco];rfl
      .rfl
     rw[<-hq]at H;rw[<-hun,<-hvn,<-hco]at hE;have hE1:(Gn (N:Int) es (a:Int)).1=un:=by rw[hE]
     have hE2:(Gn (N:Int) es (a:Int)).2.1=vn:=by rw[hE]
     have hE3:(Gn (N:Int) es (a:Int)).2.2=co:=by rw[hE]
     rw[<-hun]at q1;rw[<-hvn]at q2;rw[<-hco]at q3 q4;have b1:=hb1 un;have b2:=hb1 vn;have hgu:(tab q N)[un]?=some (q un):=BW q1;have hgv:(tab q N)[vn]?=some (q vn):=BW q2;have hne:(es≠[]->(adr ae).block∉[bp]):=fun h=>by rw[qab];exact hen h
     have hes:es≠[]:=fun h=>by rw[h]at ha;simp at ha
     refine Aq (Aa (Ao (A1 (Ad (Af U (Ae U (qA (Ad (Ax U (AE U ?_))))))))));refine Ah Hf U (BQ _ C7 Cp U U ((Jp (H.ext.to hs n1'))) ?_);refine Af U (Al qB (Sv (N:Int) ae es.length ce es _ (Re.ext H.ext (hne hes)) U hI (a:Int)) U ?_);rintro v w ⟨rfl,hx33⟩;replace H:=H.call hx33;rw[hE1,hE2,hE3];refine Cb U (AJ U U (AJ U U (AJ U U (Ae U (Ae U (Ae U (qA (Ad (Ax U ?_)))))))));refine AE U (Ah EW U (Bc BN U ((by rw[Aj (H.ext.to hs n1')];rfl)) ?_));refine Af U (Bn AV B2 U U ?_);refine Bc Bw U (((C4 (H.get at0)).fld hgu U (j:=0) U)) (Af U (Az U U ?_));refine Ae U (qA (Ec 19 Bq U U ?_));refine AX U (B6 U (Bb U (A5 EW U (BX BN U (by rintro _ rfl;exact((by rw[Aj (H.drew.ext.to hs n1')];rfl))) ?_))))
     refine AX U (Bi AV B2 U U ?_);refine BX Bw U (by rintro _ rfl;exact(((C4 (H.drew.get at0)).fld hgv rfl (j:=0) rfl))) ?_;refine Ln U U (CZ U (D6 55 U ?_ ?_))
     .intro h3;replace h3:=AM h3;refine B6 U (Bb U (A5 Hf U (G4 _ C7 Cp U U (by rintro _ rfl;exact((Jp (H.drew.ext.to hs n1')))) ?_)));refine B6 U (Bb U (A5 EV U (BX BN U (by rintro _ rfl;exact((by rw[Aj (H.drew.ext.to hs n1')];rfl))) ?_)));refine AX U (BT ?_);replace H:=H.drew;refine Al qB (Sx (N:Int) ae (some ⟨bf,0,none⟩) es.length ce es.length es.length es (tab x es.length) _ (Re.ext H.ext (hne hes)) U hI (C4 (H.ext.to hf n2')) (Di _ _) (a:Int)) U ?_;rintro v w ⟨rfl,hx65⟩;replace H:=H.call hx65;rw[hR];refine CD U U (A6 U (.bool _) U (qA (An _ U ?_ ?_)))
      .intro h4;replace h4:=AM h4;refine A0 (Ax U (AE U (Ah EW U (Bc BN U ((by rw[Aj (H.ext.to hs n1')];rfl)) ?_))));refine Af U (Af U (Bn AV B2 U U ?_));refine Ch vn (fun z => .int .i64 (upd q vn (q un+co) z)) (.int _ _) B2 U U U H at0 (by simp) (hk:=q2) (by rw[Dk,Int.add_comm]) (fun z _ hz=>by rw[Er hz]) ?_;rintro w H;refine Ab (A8 (Aa (A0 (Az U U ?_))));refine Af U (qA ?_);refine⟨a+1,rfl,⟨rfl,trivial⟩,⟨by omega,?_⟩,by omega⟩;rw[hsucc,if_pos h4];unfold Jj;rw[if_pos (by dsimp only;omega)];exact H
      .intro h4;replace h4:=AN h4;refine Aq (A8 (Aa (A0 (Az U U ?_))));refine Af U (qA ?_);refine⟨a+1,rfl,⟨rfl,trivial⟩,⟨by omega,?_⟩,by omega⟩;rw[hsucc,if_neg (by omega)];exact H
     .intro h3;replace h3:=AN h3;refine A3 U (A3 U (A3 U (A3 U (A3 U (A3 U (A3 U (A3 U (A3 U (BT ?_)))))))));replace H:=H.drew;refine Ag U (Ag U (A9 U (.bool _) U (qA (F2 U (Aq (A8 (Aa (A0 (Az U U ?_)))))))));refine Af U (qA ?_);refine⟨a+1,rfl,⟨rfl,trivial⟩,⟨by omega,?_⟩,by omega⟩;rw[hsucc]
      split
      .unfold Jj;rw[if_neg (by dsimp only;omega)];exact H
      .exact H
    .intro h2;replace h2:=AN h2;refine Bp (Am (Am (AO (A8 (Aa (A0 (Az U U ?_)))))));refine Af U (qA ?_);obtain rfl:a=2*es.length:=by omega
     refine⟨r+1,rfl,⟨rfl,trivial⟩,⟨by omega,?_⟩,by omega⟩;rw[<-hA]at H;exact H
  .intro h1;replace h1:=AN h1;refine Bp (Am (Am (AO (CO U U ?_))));obtain rfl:r=N:=by omega
   exact⟨rfl,H⟩
end
theorem Abe{g:Gr}{cap x p q:Nat->Int}(h:Fine g cap x p)(hq:Fea (JV g cap x (2*g.E)) q):Fine g cap x q:=Aav h hq
theorem Pv{g:Gr}(hg:g.Ok){cap x p q:Nat->Int}(h:Fine g cap x p)(hq:∀v,v<g.N->q v=p v):Fine g cap x q :=
 ⟨h.in',fun a ha hr=>by
  have:=h.fit a ha hr;unfold Gr.len at this |-
  rw[hq _ (hg.u ha),hq _ (hg.v ha)];exact this⟩
def V5(p:Nat->Int)(n:Nat):Bool:=(List.range n).all fun v=>decide (-1073741824<=p v/\p v<=1073741824)
theorem QH{p:Nat->Int}{n:Nat}:V5 p n=true↔∀v,v<n -> -1073741824<=p v/\p v<=1073741824:=by
 unfold V5;rw[qau];exact⟨fun h v hv=>qba (h v (qa6.2 hv)),fun h v hv=>qar (h v (qa6.1 hv))⟩
def narF(es:List Ed)(n:Nat)(x p:Nat->Int):Nat->Int:=if V5 p n=true then p else EO (JV (grE (n:Int) es) (Ck es) x (2*es.length)) n fun _=>0
section
variable {w:World}{bs:Nat}{N:Nat}{ae:Option Addr}{ce bf bp bo:Nat}{k:Int}{es:List Ed}{x p:Nat->Int}
theorem XV(hs:w.heap[bs]?=some (Bl 217 (SC N ae es.length ce bf bp bo k)))(Re:Rd w ae 4 CJ es)(hen:es≠[]->(adr ae).block≠bp)(hf:w.heap[bf]?=some (Bl 2 (BZ x es.length)))(hp:w.heap[bp]?=some (Bl 2 (BZ p N)))(n1:bs≠bp)(n2:bf≠bp)(hw:Cn (N:Int) es (tab x es.length)=true)(hF:Fine (grE (N:Int) es) (Ck es) x p) :
  Ret prog 175 #[ptr bs] w fun v w'=>v=.tuple #[]/\∃p':Nat->Int,p'=narF es N x p/\Fine (grE (N:Int) es) (Ck es) x p'/\(∀v,v<N -> -1073741824<=p' v/\p' v<=1073741824)/\Ctx w [bp] w' [(bp,Bl 2 (BZ p' N))]:=by
 obtain⟨w0,rfl⟩:=qD w;have H:=Ctx.start1 hp;have R:=C4 hp;obtain⟨hwl,hr,-⟩:=Cx hw;obtain⟨hN1,hN40,hn200,-⟩:=CM hr;refine Ay (fn:=f175) func175 U [.pointer (some ⟨bs,0,none⟩)] U ?_;refine Ad (Ax U (AE U (Ah EW U (Bc BN U ((by rw[Aj hs];rfl)) ?_))));refine Ba AV U (Af U (qA (A1 (Bt 4193800 (α:=Nat) (fun i=>[(9,.int .i64 (i:Int))]) (fun i w'=>w0=w'/\i<=N/\∀v,v<i -> -1073741824<=p v/\p v<=1073741824) (fun i=>N - i) 0 U ?_ ?_ ?_))))
 .exact⟨rfl,trivial⟩
 .exact⟨rfl,qaj _,fun v h=>absurd h (qa7 _)⟩
 .rintro i j w ⟨rfl,hi,hb⟩;refine Ad (Bm U U (qA (Ao (An _ U ?_ ?_))))
  .intro h1;replace h1:=AM h1;have hgp:(tab p N)[i]?=some (p i):=BW (by omega);refine Aq (Aa (Ao (A1 (Ad (Bn AV B2 U U ?_)))));refine Bc Bw U ((R.fld hgp U (j:=0) U)) ?_;refine Ae U (qA (Ad (BV (α:=Unit) 516096 (fun _=>[(18,.bool (decide (p i < -1073741824\/1073741824<p i)))]) (fun _ w'=>w'=w0) U ?_ ?_)))
   .refine Af U (Bm U U (Aw U (AK 15 U ?_ ?_)))
    .intro h1;replace h1:=AM h1;refine Ag U (Ag U (A6 U (.bool _) U (Ab ?_)));exact⟨rfl,(),rfl,⟨qaa Value.bool (by clear hgp;rw[qad];simp_all;try omega),trivial⟩,rfl⟩
    .intro h2;replace h2:=AN h2;refine Af U (CD U U (A9 U (.bool _) U (Ab ?_)));exact⟨rfl,(),rfl,⟨qaa Value.bool (by clear hgp;rw[qad];simp_all;try omega),trivial⟩,rfl⟩
   rintro - j18 w hw;subst hw;refine An _ U ?_ ?_
   .intro h2;refine Ad (Ax U (Al qB (Afm hs Re hen hf hp n1 n2 hw hF) U ?_));rintro v w ⟨rfl,H⟩;refine qA (A7 (AF (Av (Av (AF (FW U U ?_))))))
    have hnf:narF es N x p=EO (JV (grE (N:Int) es) (Ck es) x (2*es.length)) N fun _=>0:=if_neg fun h=>by
     have h3:=QH.1 h i (by omega);have h4:=qba h2;omega
    rw[<-hnf]at H;obtain⟨g,hg⟩:=qD (grE (N:Int) es);have hgE:g.E=es.length:=by rw[hg];rfl
    rw[<-hg]at hF hnf |-
    have hAm:∀b∈JV g (Ck es) x (2*es.length),b.1<N/\b.2.1<N /\ -1000<=b.2.2:=fun b hb=>by
     obtain⟨a,ha,rfl⟩:=qag.1 hb;obtain⟨-,-,h1,h2,h3,-⟩:=Pu hw (qa6.1 (qbd.1 ha).1);rw[hg];exact⟨h1,h2,h3⟩
    have hfea:Fea (JV g (Ck es) x (2*es.length)) p:=by rw[<-hgE];exact TI hF
    refine⟨rfl,_,rfl,?_,fun v _=>?_,H⟩ <;> rw[hnf]
    .have h7:=XK hfea fun a ha=>⟨(hAm a ha).1,(hAm a ha).2.1⟩;rw[<-hgE]at h7 |-;exact Abe hF h7
    .have h7:=Aaq hfea (fun a ha=>⟨(hAm a ha).1,(hAm a ha).2.1⟩) (m:=1000) (fun a ha=>(hAm a ha).2.2) N v;omega
   .intro h2;have h2:=qbh h2;refine Aq (A8 (Aa (A0 (Az U U ?_))));refine Af U (qA ?_);refine⟨i+1,rfl,⟨rfl,trivial⟩,⟨rfl,by omega,fun v hv=>?_⟩,by omega⟩
    by_cases e:v=i
    .subst e;omega
    .exact hb v (by omega)
  .intro h1;replace h1:=AN h1;refine Bp (Am (Am (AO (CO U U ?_))));obtain rfl:i=N:=by omega
   exact⟨rfl,p,(if_pos (QH.2 hb)).symm,hF,hb,H⟩
end
theorem TQ(s by':Value)(ob:Option Addr)(on oc:Nat)(bs:Nat)(v:Int)(w:World)(hs:s=ptr bs)(hb:by'=.slice ob on oc):Ret prog 172 #[s,by',.int .i64 v] w fun r w'=>∃b3 b4 b5,r=.func (.func 200) #[] #[ptr b4,ptr b5,ptr b3]/\w'.heap[b3]?=some (Bl 215 [ptr bs])/\w'.heap[b4]?=some (Bl 235 [.slice ob on oc])/\w'.heap[b5]?=some (Bl 3 [.int .i64 v])/\w.heap.size<=b3/\w.heap.size<=b4/\w.heap.size<=b5/\b5≠b3/\b5≠b4/\Ext [] w w':=by
 subst hs hb;obtain⟨w0,rfl,H⟩:=qE w;refine Ay (fn:=f172) func172 U [.pointer (some ⟨bs,0,none⟩),.slice ob on oc,.int .i64 v] U ?_;refine Ad (Br _ (.pointer _) U U H ?_);rintro b3 w - H;refine Br _ (.slice _ _ _) U U H ?_;rintro b4 w - H;refine Br _ (.int _ _) U U H ?_;rintro b5 w - H;refine CX U .nilFunc U (qA (Ad (Cf [.pointer _,.pointer _,.pointer _] U (CX U (.func _ _ _) U ?_))));refine qA (A7 (AD (v:=(.func _ _ _)) U U U ?_));have h3:=H.own _ (qac at2);have h4:=H.own _ (qac at1);have h5:=H.own _ (qac at0);exact⟨_,_,_,rfl,H.get at2,H.get at1,H.get at0,h3.elim (fun h=>by cases h) id,h4.elim (fun h=>by cases h) id,h5.elim (fun h=>by cases h) id,H.ne at0 at2 (by decide),H.ne at0 at1 (by decide),H.ext⟩
def byO(by':Nat->Int)(v:Nat):Option Nat:=if by' v = -1 then none else some (by' v).toNat
def Abf(g:Gr)(a:Nat):List Value:=[.int .i64 (a:Int),.int .i64 (g.u a:Int)]
structure BackK(b3 b4 b5 bs ob:Nat)(N:Nat)(ae:Option Addr)(ce bf bp bo:Nat)(k:Int)(es:List Ed)(by':Nat->Int)(M:Mt)(w:World):Prop where
 h4:w.heap[b4]?=some (Bl 235 [.slice (some ⟨ob,0,none⟩) N N])
 h3:w.heap[b3]?=some (Bl 215 [ptr bs])
 hs:w.heap[bs]?=some (Bl 217 (SC N ae es.length ce bf bp bo k))
 ho:w.heap[ob]?=some (Bl 3 (BZ by' N))
 Re:Rd w ae 4 CJ es
 nm:¬M b5
theorem TR{g:Gr}{cap x p:Nat->Int}{s:Lb}{by':Nat->Option Nat}(hB:Bys g cap x p s by'):∀{k v:Nat},s.d v ≠ -1->s.h v=k->(Ei by' g k v).length=k
 |0,_,_,_=>rfl
 |k+1,v,hd,hk=>by
  obtain⟨a,h1,h2,h3⟩:=hB.2 v hd (by omega);have hh:=h2.h;rw[h3,hk]at hh;rw[(HW (g:=g) (k:=k) h1).1,qa8,TR hB h2.du (by omega)]
theorem TS{b3 b4 b5 bs ob:Nat}{N:Nat}{ae:Option Addr}{ce bf bp bo:Nat}{kk:Int}{es:List Ed}{by':Nat->Int}{x p:Nat->Int}{s:Lb}(hw:Cn (N:Int) es (tab x es.length)=true)(hB:Bys (grE (N:Int) es) (Ck es) x p s (byO by'))(hby:∀v,by' v = -1\/∃a:Nat,by' v=(a:Int)/\a<2*es.length){k v:Nat}(hv:v<N)(hd:s.d v ≠ -1)(hk:s.h v=k) :
  Wg prog 200 #[ptr b4,ptr b5,ptr b3] [b5] (fun M w=>BackK b3 b4 b5 bs ob N ae ce bf bp bo kk es by' M w) ((Ei (byO by') (grE (N:Int) es) k v).map (Abf (grE (N:Int) es))) (fun w=>w.heap[b5]?=some (Bl 3 [.int .i64 (v:Int)])):=by
 intro l w hS J E hJ0 hJs hEs hK hY;obtain⟨M0,hJ0⟩:=hJ0;obtain⟨w0,rfl⟩:=qD w;have hr:=(Cx hw).2.1;obtain⟨hN1,hN40,hn200,-⟩:=CM hr;have hI:I64 (N:Int):=by unfold I64;omega
 obtain⟨g,hg⟩:=qD (grE (N:Int) es)
 have hat:∀{a:Nat},a<2*es.length->Gn (N:Int) es (a:Int)=((g.u a:Int),(g.v a:Int),g.c a)/\g.u a<N:=fun ha=>by
  rw[hg];exact⟨(Pu hw ha).1,(Pu hw ha).2.2.1⟩
 rw[<-hg]at hB hY |-;have hlen:((Ei (byO by') g k v).map (Abf g)).length=k:=by rw[qak,TR hB hd hk]
 refine Ay (fn:=f200) func200 U [.func (.yield l) #[] #[],.pointer (some ⟨b4,0,none⟩),.pointer (some ⟨b5,0,none⟩),.pointer (some ⟨b3,0,none⟩)] U ?_;refine A1 (Bt 1073741792 (α:=Nat × Nat) (fun _=>[]) (fun t w'=>t.1<=k/\(∃M,J t.1 M w')/\w'.heap[b5]?=some (Bl 3 [.int .i64 (t.2:Int)])/\t.2<N/\s.d t.2 ≠ -1/\s.h t.2=k - t.1/\(Ei (byO by') g k v).drop t.1=Ei (byO by') g (k - t.1) t.2) (fun t=>k - t.1) (0,v) U ?_ ?_ ?_)
 .exact trivial
 .exact⟨qaj _,⟨M0,hJ0⟩,hS,hv,hd,hk,rfl⟩
 .rintro⟨i,u⟩ j w ⟨hi,⟨M,hJ⟩,hb5,hun,hdu,hhu,hdrop⟩;dsimp only at hi hJ hb5 hun hdu hhu hdrop;dsimp only;have KK:=(hK _ _ _ hJ).2;obtain⟨w1,rfl⟩:=qD w;have H:=Ctx.start1 hb5;have hgb:(tab by' N)[u]?=some (by' u):=BW hun;refine Ao (Ad (Bc Gu U ((by rw[Aj KK.h4];rfl)) ?_));refine AB Cd U H at0 U (Bn Ep Gy U U ?_);refine Bc Cd U (((C4 KK.ho).fld hgb U (j:=0) U)) ?_;refine CG U U (qA (An _ U ?_ ?_))
  .intro h1;replace h1:=AM h1;have hne:byO by' u≠none:=by unfold byO;rw[if_neg (by omega)];exact fun h=>by cases h
   have hh0:s.h u≠0:=fun h=>hne (hB.1 u (.inr h));obtain⟨a,ha,hW,hva⟩:=hB.2 u hdu hh0
   have hba:by' u=(a:Int):=by
    unfold byO at ha;rw[if_neg (by omega)]at ha;have:=qam ha;omega
   have ha2:a<2*es.length:=by
    rcases hby u with h|⟨a',h,h7⟩
    .omega
    .omega
   obtain⟨hE,hu2⟩:=hat ha2;rw[hba]at hgb;obtain⟨u2,hu2e⟩:=qD (g.u a);obtain⟨v2,hv2e⟩:=qD (g.v a);obtain⟨c2,hc2e⟩:=qD (g.c a);rw[<-hu2e,<-hv2e,<-hc2e]at hE;rw[<-hu2e]at hu2;have hE1:(Gn (N:Int) es (a:Int)).1=u2:=by rw[hE]
   have hE2:(Gn (N:Int) es (a:Int)).2.1=v2:=by rw[hE]
   have hE3:(Gn (N:Int) es (a:Int)).2.2=c2:=by rw[hE]
   have hki:k - i=(k - (i+1))+1:=by omega
   have hps:=(HW (g:=g) (k:=k - (i+1)) ha).1;rw[<-hki,<-hdrop,<-hu2e]at hps
   have hgi:(Ei (byO by') g k v)[i]?=some a:=by
    have:=qaa (·[0]?) hps
    simpa using this
   have hdrop2:(Ei (byO by') g k v).drop (i+1)=Ei (byO by') g (k - (i+1)) u2:=by
    have:=qaa List.tail hps
    simpa using this
   refine Aq (Aa (A1 (Ad (Bc Gu U ((by rw[Aj KK.h4];rfl)) ?_))));refine AB Cd U H at0 U (Bn Ep Gy U U ?_);refine Bc Cd U (((C4 KK.ho).fld hgb U (j:=0) U)) (Ae U (qA (Ad (Bc EN U ((by rw[Aj KK.h3];rfl)) ?_))));refine AE U (Ah Hf U (BQ _ C7 Cp U U ((Jp KK.hs)) ?_));refine Af U (Al qB (Sv (N:Int) ae es.length ce es _ KK.Re U hI (a:Int)) U ?_);rintro r w ⟨rfl,hx21⟩;replace H:=H.call hx21;rw[hE1,hE2,hE3];refine Cb U (AJ U U (AJ U U (AJ U U (Ct (.int _ _) Gy U U U H at0 (by(simp;done)) ?_))));rintro w H;refine qA ?_;have hJ1:=hJs _ _ _ _ hJ H.ext;have hY1:=hY i (Abf g a) M w (by rw[qa1,hgi];rfl) hJ1;have hb51:=H.get at0;have hnm:=KK.nm;have hwv:Abf g a=[.int .i64 (a:Int),.int .i64 (u2:Int)]:=by rw[hu2e];rfl
   rw[hwv]at hY1;refine Ad (CU (.func _ _ _) U ?_);refine Af U (AB Cd U H at0 U (Hb (vs:=[.int .i64 (a:Int),.int .i64 (u2:Int)]) U hY1 U ?_));rintro u' w hu';obtain⟨bb,rfl,hu1,hu0⟩:∃bb,u'=.bool bb/\(bb=true->(∃M,J (i+1) M w)/\w.heap[b5]?=some (Bl 3 [.int .i64 (u2:Int)]))/\(bb=false->E w):=hu'.elim (fun h=>⟨true,h.1,fun _=>let ⟨M',h1,h2⟩:=h.2;⟨⟨M',h1⟩,h2.to hb51 hnm⟩,fun h=>by cases h⟩) (fun h=>⟨false,h.1,(fun h=>by cases h),fun _=>h.2⟩);refine BE U (qA (An _ U ?_ ?_))
   .intro h2;replace h2:=B7 h2;refine A7 (AF (Av (AF (FW U U ?_))));exact .inr (hu0 (by simpa using h2))
   .intro h2;replace h2:=B9 h2;refine Aq (A8 (Aa ?_));obtain⟨hJ2,hb52⟩:=hu1 (by simpa using h2);have hh:=hW.h;rw[hva,<-hu2e]at hh;exact⟨(i+1,u2),rfl,trivial,⟨by dsimp only;omega,hJ2,hb52,hu2,by dsimp only;rw[hu2e];exact hW.du,by dsimp only;omega,hdrop2⟩,by dsimp only;omega⟩
  .intro h1;replace h1:=AN h1
   have hh0:s.h u=0:=by
    rcases qcw (s.h u)with h|h
    .exact h
    .obtain⟨a,ha,-,-⟩:=hB.2 u hdu (by omega);exfalso;unfold byO at ha
     rcases hby u with h7|⟨a',h7,-⟩
     .rw[if_pos h7]at ha;cases ha
     .omega
   refine Bp (Am (Am (AO (CO U U ?_))));obtain rfl:i=k:=by omega
   exact .inl ⟨M,by rw[hlen];exact hJ⟩
def IX:Nat->List Nat
 |1=>[0]|2=>[1,0]|4=>[3]|5=>[4,3]|7=>[6]|8=>[7,6]|10=>[9]|11=>[10,9]
 |12=>[2,1,0,5,4,3,8,7,6,11,10,9]|13=>[12,2,1,0,5,4,3,8,7,6,11,10,9]|15=>[14,13,12,2,1,0,5,4,3,8,7,6,11,10,9]|_=>[]
def N8(i:Nat):Nat:=if i=14 then 11 else 23+i
def XW(b4 n:Nat)(i:Nat)(B:Nat->Nat):Value :=
 if i=1\/i=4\/i=7\/i=10 then .int .i64 (n:Int)else if i=2\/i=5\/i=8\/i=11 then .slice (some ⟨B i,0,none⟩) n n
 else if i=12 then .agg (FB (B 2) (B 5) (B 8) (B 11) n).toArray else if i=13\/i=14 then ptr (B i)else .pointer (some ⟨b4,0+0,none⟩)
def EH(n:Nat)(i:Nat):Option ((Nat->Nat)->Obj) :=
 if i=2 then some fun _=>Bl 271 ((List.range n).map fun _ => .slice none 0 0)else if i=5 then some fun _=>Bl 2 (BZ (fun _=>0) n)else if i=8\/i=11 then some fun _=>Bl 3 (BZ (fun _=>0) n)
 else if i=13 then some fun B=>Bl 265 (FB (B 2) (B 5) (B 8) (B 11) n)else if i=14 then some fun _=>Bl 262 [.pointer none]else none
theorem XX:∀i j,i<15->j<15->N8 i=N8 j->i=j:=fun i j hi hj h=>by
 unfold N8 at h
 split at h <;> split at h <;> omega
theorem wStab(b4 n:Nat)(i k b:Nat)(B:Nat->Nat)(hi:i<15)(hki:k≠i)(hka:k∉IX i):XW b4 n i (Kg B k b)=XW b4 n i B/\∀ob,EH n i=some ob->ob (Kg B k b)=ob B:=by
 have h0:Kg B k b i=B i:=GO (Ne.symm hki)
 have h1:i=12\/i=13->Kg B k b 2=B 2/\Kg B k b 5=B 5/\Kg B k b 8=B 8/\Kg B k b 11=B 11:=fun h=>by
  have:k≠2/\k≠5/\k≠8/\k≠11:=by
   rcases h with rfl|rfl <;> (simp[IX]at hka;omega)
  exact⟨GO (Ne.symm this.1),GO (Ne.symm this.2.1),GO (Ne.symm this.2.2.1),GO (Ne.symm this.2.2.2)⟩
 constructor
 .unfold XW
  by_cases e:i=12
  .have:=h1 (.inl e);subst e;simp[this]
  .rw[h0];simp[e]
 .intro ob hob;unfold EH at hob
  by_cases e:i=13
  .have:=h1 (.inr e);subst e;simp at hob;subst hob;simp[this]
  .split at hob
   .cases hob;rfl
   .split at hob
    .cases hob;rfl
    .split at hob
     .cases hob;rfl
     .split at hob
      .cases hob;rfl
      .cases hob
theorem JF{N:Int}{es:List Ed}(hr:C2 N es=true):(grE N es).Ok:=by
 have h:∀i,i<es.length->(es.getD i e0).f.toNat<N.toNat/\(es.getD i e0).t.toNat<N.toNat:=fun i hi=>by
  obtain⟨e,he⟩:=AA (l:=es) (i:=i) (h:=hi);have:=EP ((CM hr).2.2.2.1 e (qac he));rw[Bs he];omega
 exact⟨fun i hi=>(h i hi).1,fun i hi=>(h i hi).2⟩
theorem W8{cap x:Nat->Int}{k a:Nat}(h:a∈EG cap x k):a<2*k:=qa6.1 (qbd.1 h).1
def Pw(i:Nat)(v:Nat):Int:=if v<i then -1 else 0
theorem W9(i:Nat):Pw (i+1) i = -1:=if_pos (by omega)
theorem WA{i q:Nat}(h:q≠i):Pw (i+1) q=Pw i q:=by unfold Pw;split <;> split <;> omega
theorem Afn{P:Program}{e:Env}{w:World}{fn:Func}{R:Value->World->Prop}{t1 t2 t3:Tmp}{v1 v2 v3:Value}(hr:fn.results=#[.tmp t1,.tmp t2,.tmp t3])(h1:e.g t1=v1)(h2:e.g t2=v2)(h3:e.g t3=v3)(h:Marks e.ds w (R (.tuple #[v1,v2,v3]))):Tp P fn R .ret e w :=
 Marks.mono (fun w h tmps ht=>by
  have q1:=(ht t1).trans h1;have q2:=(ht t2).trans h2;have q3:=(ht t3).trans h3;rw[qa2]at q1 q2 q3
  exact⟨_,by simp[results,hr,q1,q2,q3],h⟩) h
theorem V6{L L':List (Nat × Obj)}(h:(L++L').Pairwise (fun x y=>x.1≠y.1)){x:Nat × Obj}(hx:x∈L):x.1∉L'.map (·.1):=fun hm=>by
 obtain⟨y,hy,he⟩:=qag.1 hm;exact(qbu.1 h).2.2 x hx y hy he.symm
theorem Rd.lt{α:Type}{w:World}{a:Option Addr}{s:Nat}{enc:α->List Value}{xs:List α}(R:Rd w a s enc xs)(h:xs≠[])(hs:∀x∈xs,∃v,(enc x)[0]?=some v)(h0:0<s):(adr a).block<w.heap.size:=by
 obtain⟨x,hx⟩:=AA (l:=xs) (i:=0) (h:=qbn.2 h);obtain⟨v,hv⟩:=hs x (qac hx);exact World.block_lt_of_cell? w ⟨(adr a).block,(adr a).off+0*s+0,none⟩ (R.cell 0 x hx 0 v hv h0)
theorem Afo:(lb0 []).d=fun _ => -1:=by
 funext v
 show(if v∈([]:List Nat)then(0:Int)else -1) = -1;exact if_neg qaq
structure WSt where
 s:Lb
 a:Option Addr
 hn:Nat
 c:Nat
 full:List Value
 L:List Tg
 D:Int
theorem Afp(N:Int)(a b p fr:Option Addr)(n c m d q r fc:Nat)(es:List Ed)(fl pot:List Int)(src:List Nat)(w:World)(R:Rd w a 4 CJ es)(hn:es.length=n)(hN:I64 N)(Rf:Rd w b 1 I1 fl)(hm:fl.length=m)(Rp:Rd w p 1 I1 pot)(hq:pot.length=q)(Rs:Rd w fr 1 I1 (src.map fun v:Nat=>(v:Int)))(hfit:IG N es fl pot=true)(hsrc:∀v∈src,v<N.toNat)(hnd:src.Nodup)(hs0:0<src.length)(hm2:m<=9223372036854775000:=by omega)(hq2:q<=9223372036854775000:=by omega):
  Ret prog 170 #[DV N a n c,.slice b m d,.slice p q r,.slice fr src.length fc] w fun v w'=>∃(od ob:Nat) (s:Lb) (by':Nat->Int),v=.tuple #[.slice (some ⟨od,0,none⟩) N.toNat N.toNat,.slice (some ⟨ob,0,none⟩) N.toNat N.toNat,.int .i64 0]/\Done (Mz (grE N es) (Ck es) (flE fl) (EQ pot)) src N.toNat 2199023256552 s/\Bys (grE N es) (Ck es) (flE fl) (EQ pot) s (fun v=>if by' v = -1 then none else some (by' v).toNat)/\(∀v,by' v = -1\/∃a:Nat,by' v=(a:Int)/\a<2*es.length)/\WaysX (grE N es) (Ck es) (flE fl) (EQ pot) s by'/\Ctx w [] w' [(od,Bl 2 (BZ s.d N.toNat)),(ob,Bl 3 (BZ by' N.toNat))]:=by
 subst hn hm hq;obtain⟨w0,rfl,H⟩:=qE w;refine HU (fn:=f170) func170 U [DV N a es.length c,.slice b fl.length d,.slice p pot.length r,.slice fr src.length fc] U (Ad (Br [.int .i64 N,.slice a es.length c] (.agg _) U U H ?_));rintro b4 w - H;refine A4 U (A4 U (Ae U (qA (Ao (Ad (Cj C7 Cp U H at0 U (A2 U (A2 U (Al qB (Afg N a b p es.length c fl.length d pot.length r es fl pot _ (R.ext0 H.ext) U hN (Rf.ext0 H.ext) U hm2 (Rp.ext0 H.ext) U hq2) U ?_)))))))));rintro v w ⟨rfl,hx21⟩;replace H:=H.call hx21;refine BE U (qA (An _ U ?_ ?_))
 .intro h1;replace h1:=B7 h1;rw[hfit]at h1;cases h1
 .intro h1;replace h1:=B9 h1;have hw:Cn N es fl=true:=by unfold IG at hfit;rw[qaf]at hfit;exact hfit.1
  obtain⟨hN1,hN40,hn200,-⟩:=CM (Cx hw).2.1;obtain⟨nn,rfl⟩:∃nn:Nat,N=(nn:Int):=⟨N.toNat,by omega⟩;refine Aq (Aa (DQ 137430566912 (α:=Nat × Nat × Nat × Nat × Nat × Nat) (fun z=>[(11,ptr z.1)]) (fun z w'=>Ctx w0 [] w' [(z.1,Bl 262 [ptr z.2.1]),(z.2.1,Bl 265 (FB z.2.2.1 z.2.2.2.1 z.2.2.2.2.1 z.2.2.2.2.2 nn)),(z.2.2.1,Bl 271 ((List.range nn).map fun _ => .slice none 0 0)),(z.2.2.2.1,Bl 2 (BZ (fun _=>0) nn)),(z.2.2.2.2.1,Bl 3 (BZ (fun _=>0) nn)),(z.2.2.2.2.2,Bl 3 (BZ (fun _=>0) nn)),(b4,Bl 123 [.int .i64 (nn:Int),.slice a es.length c])]) U ?_ ?_))
  .skip
   have hb4:=H.get at0;refine Zp (n:=15) (anc:=IX) N8 (XW b4 nn) (EH nn) (show Tryz.prog.follows .mixedOrders=true by kernel_rfl) U ?_ XX (wStab b4 nn) ?_ ?_
   .intro k hk;have:k=0\/k=1\/k=2\/k=3\/k=4\/k=5\/k=6\/k=7\/k=8\/k=9\/k=10\/k=11\/k=12\/k=13\/k=14:=by omega
    simp[IX];omega
   .intro i o e' w' B hi ho hold hsl hx hbl
    have h4:e'.g 4=ptr b4:=(hold 4 fun j hj h=>by
     have h:(4:Nat)=N8 j:=h;unfold N8 at h
     split at h <;> omega).trans rfl
    have hc4:w'.heap[b4]?=some (Bl 123 [.int .i64 (nn:Int),.slice a es.length c]):=hx.to (by exact hb4) (by simp);have hcs:i=0\/i=1\/i=2\/i=3\/i=4\/i=5\/i=6\/i=7\/i=8\/i=9\/i=10\/i=11\/i=12\/i=13\/i=14:=by omega
    have hpure:∀{v:Value},EH nn i=none->XW b4 nn i (Kg B i 0)=v->AQ N8 (XW b4 nn) (EH nn) i e' w' B (put e' (some (N8 i)) v) w':=fun h1 h2=>⟨0,fun ob h=>(by rw[h1]at h;cases h),.refl _ _,by rw[h2]⟩
    rcases hcs with rfl|rfl|rfl|rfl|rfl|rfl|rfl|rfl|rfl|rfl|rfl|rfl|rfl|rfl|rfl
    .cases qam ho;exact Ah (by kernel_rfl) h4 (Ab (hpure U U))
    .cases qam ho;exact Bc Cd (hsl 0 (by simp[IX])) (by rw[Aj hc4];rfl) (Ab (hpure U U))
    .cases qam ho;refine HI Nf Nh Aib Aks (hsl 1 (by simp[IX])) (hsl 1 (by simp[IX])) (Ctx.start w' []) fun b w2 hb H=>?_;have hbb:=H.get at0;rw[show((nn:Int)).toNat=nn from rfl,Fe]at hbb;exact Ab ⟨b,fun ob h=>(by obtain rfl:=qam h;exact⟨by omega,hbb⟩),H.ext,rfl⟩
    .cases qam ho;exact Ah (by kernel_rfl) h4 (Ab (hpure U U))
    .cases qam ho;exact Bc Cd (hsl 3 (by simp[IX])) (by rw[Aj hc4];rfl) (Ab (hpure U U))
    .cases qam ho;refine HI AV B2 LB E5 (hsl 4 (by simp[IX])) (hsl 4 (by simp[IX])) (Ctx.start w' []) fun b w2 hb H=>?_;have hbb:=H.get at0;rw[show((nn:Int)).toNat=nn from rfl,Fe]at hbb;exact Ab ⟨b,fun ob h=>(by obtain rfl:=qam h;exact⟨by omega,hbb⟩),H.ext,rfl⟩
    .cases qam ho;exact Ah (by kernel_rfl) h4 (Ab (hpure U U))
    .cases qam ho;exact Bc Cd (hsl 6 (by simp[IX])) (by rw[Aj hc4];rfl) (Ab (hpure U U))
    .cases qam ho;refine HI Ep Gy by_3 Vw (hsl 7 (by simp[IX])) (hsl 7 (by simp[IX])) (Ctx.start w' []) fun b w2 hb H=>?_;have hbb:=H.get at0;rw[show((nn:Int)).toNat=nn from rfl,Fe]at hbb;exact Ab ⟨b,fun ob h=>(by obtain rfl:=qam h;exact⟨by omega,hbb⟩),H.ext,rfl⟩
    .cases qam ho;exact Ah (by kernel_rfl) h4 (Ab (hpure U U))
    .cases qam ho;exact Bc Cd (hsl 9 (by simp[IX])) (by rw[Aj hc4];rfl) (Ab (hpure U U))
    .cases qam ho;refine HI Ep Gy by_3 Vw (hsl 10 (by simp[IX])) (hsl 10 (by simp[IX])) (Ctx.start w' []) fun b w2 hb H=>?_;have hbb:=H.get at0;rw[show((nn:Int)).toNat=nn from rfl,Fe]at hbb;exact Ab ⟨b,fun ob h=>(by obtain rfl:=qam h;exact⟨by omega,hbb⟩),H.ext,rfl⟩
    .cases qam ho;refine Bx (FB (B 2) (B 5) (B 8) (B 11) nn) Akk Akr (hl:=?_) (Ab (hpure U U));show Instr.fill _ _ [(0,e'.g 25),(1,e'.g 28),(2,e'.g 31),(3,e'.g 34)]=_;rw[show e'.g 25=.slice (some ⟨B 2,0,none⟩) nn nn from hsl 2 (by simp[IX]),show e'.g 28=.slice (some ⟨B 5,0,none⟩) nn nn from hsl 5 (by simp[IX]),show e'.g 31=.slice (some ⟨B 8,0,none⟩) nn nn from hsl 8 (by simp[IX]),show e'.g 34=.slice (some ⟨B 11,0,none⟩) nn nn from hsl 11 (by simp[IX])];rfl
    .cases qam ho;refine Br (FB (B 2) (B 5) (B 8) (B 11) nn) (.agg _) (hsl 12 (by simp[IX])) U (Ctx.start w' []) fun b w2 hb H=>?_;exact Ab ⟨b,fun ob h=>(by obtain rfl:=qam h;exact⟨by omega,H.get at0⟩),H.ext,rfl⟩
    .cases qam ho;refine AU Akq (Ctx.start w' []) fun b w2 hb H=>?_;exact Ab ⟨b,fun ob h=>(by obtain rfl:=qam h;exact⟨by omega,H.get at0⟩),H.ext,rfl⟩
   .intro o e' w' B ho A;have hl4:=AY hb4;have hs0:=H.size;have h9:w.drew.heap.size=w.heap.size:=rfl;have n14_13:B 14≠B 13:=A.ne 14 13 (by omega) (by omega) (by omega) trivial trivial (by simp[EH]) (by simp[EH]);have n14_2:B 14≠B 2:=A.ne 14 2 (by omega) (by omega) (by omega) trivial trivial (by simp[EH]) (by simp[EH]);have n14_5:B 14≠B 5:=A.ne 14 5 (by omega) (by omega) (by omega) trivial trivial (by simp[EH]) (by simp[EH]);have n14_8:B 14≠B 8:=A.ne 14 8 (by omega) (by omega) (by omega) trivial trivial (by simp[EH]) (by simp[EH]);have n14_11:B 14≠B 11:=A.ne 14 11 (by omega) (by omega) (by omega) trivial trivial (by simp[EH]) (by simp[EH]);have n13_2:B 13≠B 2:=A.ne 13 2 (by omega) (by omega) (by omega) trivial trivial (by simp[EH]) (by simp[EH]);have n13_5:B 13≠B 5:=A.ne 13 5 (by omega) (by omega) (by omega) trivial trivial (by simp[EH]) (by simp[EH])
    have n13_8:B 13≠B 8:=A.ne 13 8 (by omega) (by omega) (by omega) trivial trivial (by simp[EH]) (by simp[EH]);have n13_11:B 13≠B 11:=A.ne 13 11 (by omega) (by omega) (by omega) trivial trivial (by simp[EH]) (by simp[EH]);have n2_5:B 2≠B 5:=A.ne 2 5 (by omega) (by omega) (by omega) trivial trivial (by simp[EH]) (by simp[EH]);have n2_8:B 2≠B 8:=A.ne 2 8 (by omega) (by omega) (by omega) trivial trivial (by simp[EH]) (by simp[EH]);have n2_11:B 2≠B 11:=A.ne 2 11 (by omega) (by omega) (by omega) trivial trivial (by simp[EH]) (by simp[EH]);have n5_8:B 5≠B 8:=A.ne 5 8 (by omega) (by omega) (by omega) trivial trivial (by simp[EH]) (by simp[EH]);have n5_11:B 5≠B 11:=A.ne 5 11 (by omega) (by omega) (by omega) trivial trivial (by simp[EH]) (by simp[EH]);have n8_11:B 8≠B 11:=A.ne 8 11 (by omega) (by omega) (by omega) trivial trivial (by simp[EH]) (by simp[EH])
    have k14:=A.blk 14 _ (by omega) trivial (show EH nn 14=some _ from rfl);have m14:B 14≠b4:=by have:=k14.2;have h9:w.drew.heap.size=w.heap.size:=rfl;omega
    have k13:=A.blk 13 _ (by omega) trivial (show EH nn 13=some _ from rfl);have m13:B 13≠b4:=by have:=k13.2;have h9:w.drew.heap.size=w.heap.size:=rfl;omega
    have k2:=A.blk 2 _ (by omega) trivial (show EH nn 2=some _ from rfl);have m2:B 2≠b4:=by have:=k2.2;have h9:w.drew.heap.size=w.heap.size:=rfl;omega
    have k5:=A.blk 5 _ (by omega) trivial (show EH nn 5=some _ from rfl);have m5:B 5≠b4:=by have:=k5.2;have h9:w.drew.heap.size=w.heap.size:=rfl;omega
    have k8:=A.blk 8 _ (by omega) trivial (show EH nn 8=some _ from rfl);have m8:B 8≠b4:=by have:=k8.2;have h9:w.drew.heap.size=w.heap.size:=rfl;omega
    have k11:=A.blk 11 _ (by omega) trivial (show EH nn 11=some _ from rfl);have m11:B 11≠b4:=by have:=k11.2;have h9:w.drew.heap.size=w.heap.size:=rfl;omega
    have Hc:Ctx w0 [] w' [(B 14,Bl 262 [.pointer none]),(B 13,Bl 265 (FB (B 2) (B 5) (B 8) (B 11) nn)),(B 2,Bl 271 ((List.range nn).map fun _ => .slice none 0 0)),(B 5,Bl 2 (BZ (fun _=>0) nn)),(B 8,Bl 3 (BZ (fun _=>0) nn)),(B 11,Bl 3 (BZ (fun _=>0) nn)),(b4,Bl 123 [.int .i64 (nn:Int),.slice a es.length c])]:=by
     refine⟨(H.ext.trans (Ext.drew [] _)).trans A.ext,fun x hx=>?_,?_,fun x hx => .inr ?_⟩
     .simp only[qae,qaq,or_false]at hx
      rcases hx with rfl|rfl|rfl|rfl|rfl|rfl|rfl
      .exact k14.1
      .exact k13.1
      .exact k2.1
      .exact k5.1
      .exact k8.1
      .exact k11.1
      .exact A.ext.to hb4 (by simp)
     .simp only[qbf,qae,qaq,or_false,forall_eq_or_imp,forall_eq,List.Pairwise.nil,false_imp_iff,implies_true,and_true];exact⟨⟨n14_13,n14_2,n14_5,n14_8,n14_11,m14⟩,⟨n13_2,n13_5,n13_8,n13_11,m13⟩,⟨n2_5,n2_8,n2_11,m2⟩,⟨n5_8,n5_11,m5⟩,⟨n8_11,m8⟩,m11⟩
     .simp only[qae,qaq,or_false]at hx;have hb40:=(H.own _ (qai ..)).elim (fun h=>by cases h) id
      rcases hx with rfl|rfl|rfl|rfl|rfl|rfl|rfl
      .have:=k14.2;dsimp only;omega
      .have:=k13.2;dsimp only;omega
      .have:=k2.2;dsimp only;omega
      .have:=k5.2;dsimp only;omega
      .have:=k8.2;dsimp only;omega
      .have:=k11.2;dsimp only;omega
      .exact hb40
    cases qam ho;exact Ct (ptr (B 13)) Akn (A.slot 14 (by omega) trivial) (A.slot 13 (by omega) trivial) U Hc at0 (by decide) fun w2 H2=>Ab ⟨(B 14,B 13,B 2,B 5,B 8,B 11),A.ds,⟨A.slot 14 (by omega) trivial,trivial⟩,H2⟩
  .rintro⟨b11,b36,oo,od,oh,ob⟩ j w H;dsimp only at H;dsimp only;refine Ao (Ad (Ah Eg U (AB Cd U H at6 U (Af U (qA (A1 (Bt 36028247263154176 (α:=Nat) (fun i=>[(39,.int .i64 (i:Int))]) (fun i w'=>i<=nn/\Ctx w0 [] w' [(b11,Bl 262 [ptr b36]),(b36,Bl 265 (FB oo od oh ob nn)),(oo,Bl 271 ((List.range nn).map fun _ => .slice none 0 0)),(od,Bl 2 (BZ (Pw i) nn)),(oh,Bl 3 (BZ (fun _=>0) nn)),(ob,Bl 3 (BZ (Pw i) nn)),(b4,Bl 123 [.int .i64 (nn:Int),.slice a es.length c])]) (fun i=>nn - i) 0 U ?_ ?_ ?_)))))))
   .exact⟨rfl,trivial⟩
   .exact⟨qaj _,H⟩
   .rintro i j2 w ⟨hi,H⟩;refine Ad (Bm U U (qA (Ao (An _ U ?_ ?_))))
    .intro h2;replace h2:=AM h2;refine Aq (Aa (Ao (A1 (Ad (Af U (Ae U (qA (Fh [([0,1,2,3,4,5,6,7,8,9,10],11),([12],13)] (fun z=>z.heap[b11]?=some (Bl 262 [ptr b36])/\z.heap[b36]?=some (Bl 265 (FB oo od oh ob nn))) [13] Bq (⟨H.drew.get at0,H.drew.get at1⟩) ?_))))))));refine AH U U (B3 IR U (fun _ hx=>(by rw[Aj hx.1];rfl)) ?_);refine Bg U (Ap E4 U (B3 BN U (fun _ hx=>(by rw[Aj hx.2];rfl)) ?_));refine Bd U (B3 IR U (fun _ hx=>(by rw[Aj hx.1];rfl)) ?_);refine Bg U (Ap Kp U (B3 Gu U (fun _ hx=>(by rw[Aj hx.2];rfl)) ?_));refine Bd U (AP AV B2 U U ?_);refine AR ?_;replace H:=H.drew;refine Ch i (fun q => .int .i64 (Pw (i+1) q)) (.int _ _) B2 U U U H at3 (by simp) (by rw[W9]) (fun q _ hq=>by rw[WA hq]) ?_;rintro w H;refine Ab (BM (⟨H.get at0,H.get at1⟩) (AH U U ?_))
     refine AP Ep Gy U U ?_;refine AR (Ch i (fun q => .int .i64 (Pw (i+1) q)) (.int _ _) Gy U U U H at5 (by simp) (by rw[W9]) (fun q _ hq=>by rw[WA hq]) ?_);rintro w H;refine Ab (B5 U (BG (A8 (Aa (A0 (Az U U ?_))))));refine Af U (qA ?_);exact⟨i+1,rfl,⟨rfl,trivial⟩,⟨by omega,H⟩,by omega⟩
    .intro h2;replace h2:=AN h2;obtain rfl:nn=i:=by omega
     have htab:BZ (Pw nn) nn=BZ (fun _ => -1) nn:=qbl fun v hv=>by
      show Value.int _ (Pw nn v)=Value.int _ (-1);unfold Pw;rw[if_pos (qa6.1 hv)]
     rw[htab]at H;have hr:=(Cx hw).2.1;have hp:G2 (nn:Int) pot=true:=by unfold IG at hfit;rw[qaf,qaf]at hfit;exact hfit.2.1
     obtain⟨g,hg⟩:=qD (grE (nn:Int) es);obtain⟨pf,hpf⟩:=qD (EQ pot);obtain⟨l,hl⟩:=qD (EG (Ck es) (flE fl) es.length);have hgo:g.Ok:=by rw[hg];exact JF hr
     have hlen400:l.length<=400:=by
      rw[hl];unfold EG;have:=qdl (fun a=>decide (0<CB (Ck es) (flE fl) a)) (List.range (2*es.length));rw[List.length_range]at this;omega
     refine Bp (Am (Am (AO (Aa (Ao (Ad (Cj C7 Cp U H at6 U (A2 U (A2 U ?_)))))))));have hb7:=H;refine Al qB (W6 (nn:Int) a b p es.length c fl.length d pot.length r _) U ?_;rintro v w ⟨x1,x2,x3,rfl,hb1,hb2,hb3,hs1,hs2,hs3,hx58⟩;replace H:=H.call hx58;refine qA (A1 ?_);obtain⟨ws,rfl⟩:=qD w;have hk1:=AY hb1;have hk2:=AY hb2;have hk3:=AY hb3;have hs07:=H.size;have hoo:=H.get at2;have HL:=(H.perm (qbq (l₁:=[_,_]) (l₂:=[_,_,_,_]))).tail;have hoolt:=AY hoo;have hoo7:=AY (hb7.get at2);have hooge:w0.heap.size<=oo:=(H.own (oo,_) (qac (i:=2) rfl)).elim (fun h=>by cases h) id;obtain⟨OL,hOL⟩:=qD ([(b11,Bl 262 [ptr b36]),(b36,Bl 265 (FB oo od oh ob nn)),(od,Bl 2 (BZ (fun _ => -1) nn)),(oh,Bl 3 (BZ (fun _=>0) nn)),(ob,Bl 3 (BZ (fun _ => -1) nn)),(b4,Bl 123 [.int .i64 (nn:Int),.slice a es.length c])]:List (Nat × Obj))
     have HL':Ctx w0 [] ws OL:=by rw[hOL];exact HL
     have hOLlt:∀y∈OL,y.1<ws.heap.size:=fun y hy=>AY (HL'.blk y hy)
     have hOLoo:∀y∈OL,y.1≠oo:=fun y hy=>by
      have h9:=H.perm (qbq (l₁:=[_,_]) (l₂:=[_,_,_,_]));rw[hOL]at hy;exact fun h=>(qbf.1 h9.nd).1 y hy h.symm
     obtain⟨hD,hhD⟩:=qD ws.heap.size
     have hM:∀{w':World} {st:Nat->Slo} {sel:Nat->List Nat},OutR w0 w' oo nn g pf st sel (fun x=>x<ws.heap.size+2)->∀x,Pt oo nn st x->x<w'.heap.size/\x≠ws.heap.size/\x≠ws.heap.size+1:=fun{w' st sel} RO x hx=>by
      rcases hx with rfl|⟨u,hu,y,hy,rfl⟩
      .exact⟨AY RO.tbl,by omega,by omega⟩
      .have h1:=RO.blk u hu y hy;have h2:=AY h1.1;have h3:¬y.1<ws.heap.size+2:=h1.2.2.1;exact⟨h2,by omega,by omega⟩
     refine NT (gf:=212) U qB (TM (b1:=x1) (b2:=x2) (b3:=x3) (a:=a) (b:=b) (p:=p) (c:=c) (d:=d) (r:=r) hw hp) (by kernel_rfl) (by kernel_rfl) (fun v hv=>by obtain⟨p,-,rfl⟩:=qag.1 hv;rfl)
      (fun i M w'=>∃st,M=Pt oo nn st/\OutR w0 w' oo nn g pf st (fun u=>IW g (l.take i) u) (fun x=>x<ws.heap.size+2)/\(∀u,u<nn->(st u).n<=i)/\Ctx w0 [] w' OL/\w'.heap[x1]?=some (Bl 123 [.int .i64 (nn:Int),.slice a es.length c])/\w'.heap[x2]?=some (Bl 31 [.slice p pot.length r])/\w'.heap[x3]?=some (Bl 31 [.slice b fl.length d]))
      (fun _=>False) (by simp)
      (fun w2 hx2 _=>⟨_,fun _=>⟨none,0,0,[]⟩,rfl,⟨hx2.to hoo (by simp),fun u _=>OS.nil,(fun u _ y hy=>by cases hy),(fun u v _ _ _ y hy=>by cases hy)⟩,fun u _=>qan _,HL'.call hx2,hx2.to hb1 (by simp),hx2.to hb2 (by simp),hx2.to hb3 (by simp)⟩)
      (fun i M w' w'' hJ hx=>?_) (fun _ _ h _=>h) (fun i M w' hJ=>?_) ?_ ?_ (fun _ h _=>h.elim)
     .obtain⟨st,h1,RO,hni,HJ,g1,g2,g3⟩:=hJ;refine⟨st,h1,RO.keep hx fun x hx hm=>?_,hni,HJ.step hx (fun y hy=>?_) fun z hz => .inr ?_,hx.to g1 ?_,hx.to g2 ?_,hx.to g3 ?_⟩
      .have:=hM RO x hm;simp only[qae,qaq,or_false]at hx;omega
      .have:=hOLlt y hy;simp only[qae,qaq,or_false];omega
      .simp only[qae,qaq,or_false]at hz;omega
      .simp only[qae,qaq,or_false];omega
      .simp only[qae,qaq,or_false];omega
      .simp only[qae,qaq,or_false];omega
     .obtain⟨st,rfl,RO,hni,HJ,g1,g2,g3⟩:=hJ;exact⟨hM RO,g1,g2,g3,R.ext0 HJ.ext,Rf.ext0 HJ.ext,Rp.ext0 HJ.ext⟩
     .rintro i v _ w hxv ⟨st,rfl,RO,hni,HJ,g1,g2,g3⟩ hsz;unfold Lu at hxv;rw[qa1,<-hl,<-hg,<-hpf]at hxv;obtain⟨y,hy,rfl⟩:=qc0.1 hxv;have hil:=C0 hy;have hyl:=qac hy
      have hyu:g.u y<nn:=by
       have h1:=hgo.u (a:=y) (by rw[hl]at hyl;have:=W8 hyl;rw[hg];exact this);rw[hg]at h1 |-;exact h1
      obtain⟨w1,rfl,H⟩:=qE w;refine A0 (AU Kt H ?_);rintro b13 w - H;refine Bj Ij U U U (by exact Pr _ _ _) H at0 U ?_;rintro w H;refine Ab ?_;refine⟨H.ext,fun wB hxB=>?_⟩;have hb13:=(H.own _ (qai ..)).elim (fun h=>by cases h) id;have k13:=hxB.to (H.get at0) (by rw[qab];omega);have ROB:=(RO.keep H.ext (fun x hx=>by cases hx)).keep hxB fun x hx hm=>(hM RO x hm).2.2 (qab.1 hx);have HB:=(HJ.call H.ext).step hxB (fun y hy=>by have:=hOLlt y hy;rw[qab];omega) (fun z hz => .inr (by rw[qab.1 hz];omega));have e1:=hxB.to (H.ext.to g1 (by simp)) (by rw[qab];omega);have e2:=hxB.to (H.ext.to g2 (by simp)) (by rw[qab];omega);have e3:=hxB.to (H.ext.to g3 (by simp)) (by rw[qab];omega);have hsB:=hxB.size;have hsH:=H.ext.size
      have HB':=HB;rw[hOL]at HB';have k11:=HB'.get at0;have k36:=HB'.get at1;obtain⟨u,hu⟩:=qD (g.u y);rw[<-hu]at hyu
      have hnot:∀x,x≠oo->(x<ws.heap.size+2\/w1.heap.size<=x)->x∉oo::(LJ (st u)).map (·.1):=fun x h1 h2 h=>by
       rcases qae.1 h with h|h
       .exact h1 h
       .obtain⟨z,hz,he⟩:=qag.1 h;have q1:=RO.blk u hyu z hz;have q2:=AY q1.1;have q3:¬z.1<ws.heap.size+2:=q1.2.2.1;omega
      have hO11:=hOLoo (b11,_) (by rw[hOL];exact qac (i:=0) rfl);have hO36:=hOLoo (b36,_) (by rw[hOL];exact qac (i:=1) rfl);have hl11:=hOLlt (b11,_) (by rw[hOL];exact qac (i:=0) rfl);have hl36:=hOLlt (b36,_) (by rw[hOL];exact qac (i:=1) rfl);have hoo1:=AY RO.tbl;dsimp only at hO11 hO36 hl11 hl36;have n11:=hnot b11 hO11 (.inl (by omega));have n36:=hnot b36 hO36 (.inl (by omega));have n13:=hnot b13 (by omega) (.inr hb13);have hgu:(XR nn st)[u]?=some (.slice (st u).a (st u).n (st u).c):=DZ hyu;have hnu:=hni u hyu;obtain⟨w2,rfl⟩:=qD wB;replace H:=ROB.ctx hyu;have hrow:Hl g pf y=[.int .i64 (y:Int),.int .i64 (u:Int),.int .i64 (g.v y:Int),.int .i64 (g.len pf y)]:=by unfold Hl;rw[<-hu]
      refine A1 (Fh [([0,1,2,3,4,5,6,7,8,9,10,11,12,13,14],15),([],16),([17],18)] (fun z=>z.heap[b11]?=some (Bl 262 [ptr b36])/\z.heap[b36]?=some (Bl 265 (FB oo od oh ob nn))/\z.heap[b13]?=some (Bl 270 (Hl g pf y))/\z.heap[oo]?=some (Bl 271 (XR nn st))) [18] Bq (⟨H.drew.ext.to k11 n11,H.drew.ext.to k36 n36,H.drew.ext.to k13 n13,H.drew.get at0⟩) ?_);refine AH U U (B3 IR U (fun _ hx=>(by rw[Aj hx.1];rfl)) ?_);refine Bg U (Ap Mq U (B3 Sc U (fun _ hx=>(by rw[Aj hx.2.1];rfl)) ?_));refine Ap TD U (B3 Cd U (fun _ hx=>(by rw[Aj hx.2.2.1,hrow];rfl)) ?_);refine B3 IR U (fun _ hx=>(by rw[Aj hx.1];rfl)) ?_;refine Bg U (Ap Mq U (B3 Sc U (fun _ hx=>(by rw[Aj hx.2.1];rfl)) ?_));refine Ap TD U (B3 Cd U (fun _ hx=>(by rw[Aj hx.2.2.1,hrow];rfl)) ?_);refine AP Nf Nh U U ?_
      refine B3 Vf U (fun _ hx=>(by rw[Aj hx.2.2.2];simpa using hgu)) ?_;refine Gh _ Ve Ij U U (fun _ hx=>(Jl hx.2.2.1)) (AR ?_);replace H:=H.drew;refine Cs (Hl g pf y) (.agg _) LC Ij Kt U U U U H ?_;rintro b75 w - H;refine Ab (BM (⟨H.ext.to k11 n11,H.ext.to k36 n36,H.ext.to k13 n13,H.get at1⟩) (AH U U ?_));refine AR (CI (L:=[(oo,_)]) LC LC Ij Aia Kt U U U H (ROB.os u hyu) U (Pr g pf y) ?_);rintro a76 c76 f76 w H O76;refine Ab (BM (⟨H.ext.to k11 n11,H.ext.to k36 n36,H.ext.to k13 n13,H.get at0⟩) (AH U U ?_));refine AP Nf Nh U U ?_;refine AR (Ch u (fun q=>sloV (stS st u ⟨a76,(st u).n+1,c76,f76⟩ q)) (.slice _ _ _) Nh U U U H at0 (by simp) (hk:=hyu) (by rw[Ip];rfl) (fun q _ hq=>by rw[K4 hq]) ?_);rintro w H;refine Ab (B5 U (BG (A8 ?_)));have hss:=XS (g:=g) hy;rw[<-hu]at hss
      have hO':OS a76 ((st u).n+1) c76 4 f76 ((IW g (l.take (i+1)) u).flatMap (Hl g pf)):=by rw[hss.1,qb1];simpa using O76
      have h02:w0.heap.size<=w2.heap.size:=by omega
      obtain⟨RO',hnewM⟩:=ROB.step hyu (s:=⟨a76,(st u).n+1,c76,f76⟩) (sel':=fun q=>IW g (l.take (i+1)) q) (fun x hx=>by have hx:x<ws.heap.size+2:=hx;omega) h02 H hO' (fun q hq=>hss.2 q hq)
      have hidM:∀x∈oo::(LJ (st u)).map (·.1),Pt oo nn st x:=fun x hx=>by
       rcases qae.1 hx with h|h
       .exact .inl h
       .obtain⟨z,hz,he⟩:=qag.1 h;exact .inr ⟨u,hyu,z,hz,he⟩
      refine⟨_,⟨stS st u ⟨a76,(st u).n+1,c76,f76⟩,rfl,RO',fun q hq=>?_,HB.step H.ext (fun z hz=>hnot z.1 (hOLoo z hz) (.inl (by have:=hOLlt z hz;omega))) (fun z hz => .inr ?_),H.ext.to e1 (hnot x1 (by omega) (.inl (by omega))),H.ext.to e2 (hnot x2 (by omega) (.inl (by omega))),H.ext.to e3 (hnot x3 (by omega) (.inl (by omega)))⟩,fun x hx=>?_,_,H.ext,fun x hx => .inl (hidM x hx)⟩
      .by_cases e:q=u
       .subst e;rw[Ip];dsimp only;omega
       .rw[K4 e];have:=hni q hq;omega
      .rcases qae.1 hz with h|h
       .rw[h];exact hooge
       .obtain⟨t,ht,he⟩:=qag.1 h;have:=(RO.blk u hyu t ht).2.1;omega
      .exact(hnewM x hx).imp id fun h=>by omega
     .rintro M w ⟨st,rfl,RO,hni,HJ,-,-,-⟩ hD;have htk:l.take (Lu (grE (nn:Int) es) (EQ pot) (EG (Ck es) (flE fl) es.length)).length=l:=qdt (by unfold Lu;rw[qak,<-hl];exact qan _);simp only[htk]at RO;clear hni htk;obtain⟨w5,rfl⟩:=qD w;have h59:∀x,Pt oo nn st x->x<w5.heap.size:=fun x hx=>(hM RO x hx).1;have h5D:=AY hD;obtain⟨ids,hids⟩:=qD (OL.map (·.1))
      have hidM:∀x∈ids,¬Pt oo nn st x:=fun x hx hm=>by
       rw[hids]at hx;obtain⟨y,hy,rfl⟩:=qag.1 hx;have a1:=hOLlt y hy;have a2:=hOLoo y hy
       rcases hm with h|⟨u,hu,z,hz,he⟩
       .exact a2 h
       .have h3:=(RO.blk u hu z hz).2.2.1;apply h3;show z.1<_;omega
      have hidD:ws.heap.size∉ids:=fun hx=>by
       rw[hids]at hx;obtain⟨y,hy,he⟩:=qag.1 hx;have a1:=hOLlt y hy;omega
      have hB:∀{w':World} {L':List (Nat × Obj)},Ctx w5 ids w' L'->Ctx w0 [] w' L':=fun h=>(Ctx.back (L1:=OL) (L2:=[]) HJ.app_nil (by rw[<-hids];exact h)).nil_app
      have hnotL:∀x,Pt oo nn st x->∀{w':World} {L':List (Nat × Obj)},Ctx w5 ids w' L'->x∉L'.map (·.1):=fun x hx {w' L'} h hm=>by
       obtain⟨y,hy,he⟩:=qag.1 hm
       rcases h.own y hy with h1|h1
       .rw[he]at h1;exact hidM x h1 hx
       .have:=h59 x hx;omega
      have H:Ctx w5 ids w5 OL:=by rw[hids];exact HJ.app_nil.lend
      rw[hOL]at H;clear hids;obtain⟨A,hA⟩:=qD (Mz g (Ck es) (flE fl) pf);have hF:=S7 hfit;rw[<-hg,<-hpf]at hF
      have hlb:∀a,g.len pf a<=2199023256552 /\ -2199023256552<=g.len pf a:=fun a=>by
       rw[hg,hpf];exact Afj hr (Afk hp) a
      have hgN:g.N=nn:=by rw[hg];rfl
      have hgE:g.E=es.length:=by rw[hg];rfl
      have hArcs:Ss A nn 2199023256552:=by rw[hA,<-hgN];exact hF.arcs hgo fun a _=>(hlb a).1
      have hlE:l=EG (Ck es) (flE fl) g.E:=by rw[hgE];exact hl
      have hAf:∀u,A.filter (fun a=>decide (a.1=u))=(IW g l u).map (JC g pf):=fun u=>by rw[hA,hlE];exact TO g _ _ pf u
      have hsl:∀u,(IW g l u).length<=400:=fun u=>qa0 (qdl _ _) hlen400;have hdeg:∀u,Jn A u<=400:=fun u=>by unfold Jn;rw[hAf,qak];have:=hsl u;omega
      have hsn:src.length<=nn:=Mw nn src hnd hsrc;have hfr:src≠[]->(adr fr).block<w0.heap.size:=fun h=>Rd.lt Rs (by simpa using h) (fun x _=>⟨_,rfl⟩) (by decide)
      have hselx:∀u,u<nn->∀x∈IW g l u,g.u x=u/\g.v x<nn/\x<2*es.length:=fun u _ x hx=>by
       obtain⟨h1,h2⟩:=qbd.1 hx;have h3:x<2*es.length:=by rw[hl]at h1;exact W8 h1
       have h4:=hgo.v (a:=x) (by rw[hgE];exact h3);exact⟨qba h2,by rw[<-hgN];exact h4,h3⟩
      have hstn:∀u,u<nn->(st u).n=(IW g l u).length:=fun u hu=>(RO.os u hu).numN (fun _ _=>rfl) (by decide)
      have hget:∀u,u<nn->(XR nn st)[u]?=some (.slice (st u).a (IW g l u).length (st u).c):=fun u hu=>by
       have:=DZ (f:=fun u=>sloV (st u)) hu;rw[<-hstn u hu];exact this
      have hrow:∀{w':World} {S:List Nat},Ext S w5 w'->(∀x∈S,x∈ids)->∀u,u<nn->Rd w' (st u).a 4 (Hl g pf) (IW g l u):=fun{w' S} hx hS u hu=>by
       have RO':=RO.keep hx fun x hx'=>hidM x (hS x hx');exact(RO'.os u hu).rd (t:=270) (fun y hy=>(RO'.blk u hu y hy).1) (fun _ _=>rfl) (by decide)
      have hrowM:∀u,u<nn->IW g l u≠[]->Pt oo nn st (adr (st u).a).block:=fun u hu hne=>by
       obtain⟨b,hb⟩:=(RO.os u hu).form (by rw[hstn u hu];exact qbn.2 hne);exact Or.inr ⟨u,hu,(b,Bl 270 (st u).full),by show _∈ent (st u).a _ _;rw[Ael hb];exact qai ..,by rw[hb];rfl⟩
      have hooM:Pt oo nn st oo := .inl rfl;refine A8 (Aa (Ad (Al qB (Afd _) U ?_)));rintro v w ⟨bh,rfl,hbh,hbhv,hx78⟩;replace H:=H.callAdd hx78 hbhv hbh;have Hp0:=H.perm (qbq (l₁:=[_,_,_]) (l₂:=[_,_,_]));have hlb0:=Afo;have Hp:Ctx w5 ids w (NBl od nn (lb0 []) bh none 0 0 []++[(b11,Bl 262 [ptr b36]),(b36,Bl 265 (FB oo od oh ob nn)),(oh,Bl 3 (BZ (fun _=>0) nn)),(ob,Bl 3 (BZ (fun _ => -1) nn)),(b4,Bl 123 [.int .i64 (nn:Int),.slice a es.length c])]):=by show Ctx w5 ids w ((od,Bl 2 (BZ (lb0 []).d nn))::_);rw[hlb0];exact Hp0
      refine B1 U (qA (Ao (Ad (AB IR U H at1 U (Ax U (A2 U (Al qB (Aa6 (Ctx.lend Hp) OS.nil (Hp.get at3) (V6 (Hp.comm).nd (x:=(b36,_)) (qac (i:=1) U)) ((Rs.ext0 (hB Hp).ext)) (fun hne hm=>by have h1:=hfr hne;have h2:=(hB Hp.left).own;obtain⟨y,hy,he⟩:=qag.1 hm;rcases h2 y hy with h|h;cases h;omega) hsrc hnd) U ?_)))))));rintro v w ⟨rfl,a0,c0,f0,L0,hp0,hH0,O0,H2⟩;replace H:=Ctx.comm (L:=NBl od nn (lb0 src) bh a0 src.length c0 f0) (Ctx.back Hp H2);refine BE U (qA (An _ U ?_ ?_))
      .intro h4;replace h4:=B7 h4;have:=qbh h4;omega
      .intro h4;replace h4:=B9 h4;refine Aq (Aa (Ao (A1 ?_)));have hn0:src.length=L0.length:=O0.numN (fun _ _=>rfl) (by decide);have hps:=XT (n:=nn) (A:=A) (src:=src) (d:=400) fun v _=>hdeg v;have hps2:(nn:Int)*(400*((nn:Int)+1))<=40*(400*41):=Int.mul_le_mul (by omega) (by omega) (by omega) (by omega);refine Bt 81129619071793567861722210074624 (α:=WSt) (fun _=>[]) (fun t w'=>MI A src nn 2199023256552 t.D t.s t.L/\HeapL t.L/\OS t.a t.hn t.c 2 t.full (t.L.flatMap EZ)/\psi nn A t.D t.s t.L<=1000000/\Ctx w5 ids w' ([(b11,Bl 262 [ptr b36]),(b36,Bl 265 (FB oo od oh ob nn)),(ob,Bl 3 (BZ (fun _ => -1) nn)),(b4,Bl 123 [.int .i64 (nn:Int),.slice a es.length c])]++GB od oh nn t.s bh t.a t.hn t.c t.full)) (fun t=>(psi nn A t.D t.s t.L).toNat) ⟨lb0 src,a0,src.length,c0,f0,L0,-1⟩ U ?_ ?_ ?_
       .exact trivial
       .refine⟨(MI.start hsrc hnd).perm hp0.symm,hH0,O0,?_,?_⟩
        .dsimp only;rw[Ps hp0];omega
        .exact H.perm (List.Perm.cons _ (List.Perm.cons _ (qbq (l₁:=[_,_,_])).symm))
       .rintro⟨s,a',hn,c',full,L,D⟩ j w ⟨MM,hH,O,hpsi,H⟩;dsimp only at MM hH O hpsi H;dsimp only;have hnl:hn=L.length:=O.numN (fun _ _=>rfl) (by decide);have hpl:=S5 (n:=nn) (A:=A) (D:=D) (s:=s) (hp:=L);refine Ao (Ad (Ax U (Al qB (Afe (H.get (k:=6) U)) U ?_)));rintro v w ⟨rfl,rfl⟩;refine CD U U (qA (An _ U ?_ ?_))
        .intro h5;replace h5:=AM h5
         obtain⟨⟨d,v⟩,L1,rfl⟩:∃t L1,L=t::L1:=by
          cases L with
          |nil=>simp at hnl;omega
          |cons t L1=>exact⟨t,L1,rfl⟩
         obtain⟨q,rfl⟩:=O.form (by omega)
         have hmin:∀x∈L1,d<=x.1:=fun x hx=>by
          obtain⟨i,hi⟩:=qcy hx;have h:=hH.root (r:=(d,v)) rfl (i+1) x (by simpa using hi)
          rcases h with h|h
          .exact Int.le_of_lt h
          .exact Int.le_of_eq h.1
         have hvn:=MM.top hArcs;dsimp only at hvn;obtain⟨dv,hdv⟩:=qD (s.d v);have hgd:(tab s.d nn)[v]?=some dv:=by rw[BW hvn,hdv]
         refine Aq (Aa (A1 (Ad (Ax U ?_))));have Hc:=Ctx.comm (L:=[_,_,_,_,_,_]) (L':=HB bh (some ⟨q,0,none⟩) hn c' full) H;refine Al qB (Aky (Ctx.lend (L1:=HB bh (some ⟨q,0,none⟩) hn c' full) (L2:=[_,_,_,_,_,_]) Hc) O hH) U ?_;rintro rv w ⟨rfl,f2,L2,hp2,hH2,O2,H2⟩;replace H:=Ctx.comm (L:=HB bh (some ⟨q,0,none⟩) L1.length c' f2) (L':=[_,_,_,_,_,_]) (Ctx.back (L1:=HB bh (some ⟨q,0,none⟩) hn c' full) (L2:=[_,_,_,_,_,_]) Hc H2);refine Cb U (AJ U U (AJ U U (AJ U U (Ae U (Ae U (Ae U (qA ?_)))))));have MM2:MI A src nn 2199023256552 D s ((d,v)::L2):=MM.perm ((hp2.cons _).symm);have hmin2:∀x∈L2,d<=x.1:=fun x hx=>hmin x (hp2.mem_iff.1 hx);have hps3:psi nn A D s ((d,v)::L2)=psi nn A D s ((d,v)::L1):=Ps (hp2.cons _);refine Ad (Af U (AB IR U H at0 U (AE U (Ah E4 U (AB BN U H at1 U (Af U (Bn AV B2 U U ?_)))))))
         refine Bc Bw U (((C4 (H.get at4)).fld hgd U (j:=0) U)) (BP U U (qA (An _ U ?_ ?_)))
         .intro h6;replace h6:=AM h6;have he:(d,v).1=s.d (d,v).2:=by dsimp only;rw[<-hdv];exact h6
          obtain⟨La,hLa⟩:=qD (IW g l v);have hll:La.length<=400:=by rw[hLa];exact hsl v
          have hfold:∀k,(goP g pf s L2 (La.take k))=(((La.take k).map (JC g pf)).foldl JD (s,L2)):=fun k=>rfl
          have hgoes:∀k,DJ A src nn 2199023256552 (goP g pf s L2 (La.take k)).1:=fun k=>by
           rw[hfold];exact(MM2.go hArcs (by omega) (by omega) hmin2 he (l:=(La.take k).map (JC g pf)) (l1:=(La.drop k).map (JC g pf)) (by rw[<-qay,qbp,hLa];exact hAf v)).1
          obtain⟨M3,hps4⟩:=(MM2.go hArcs (by omega) (by omega) hmin2 he (l:=La.map (JC g pf)) (l1:=[]) (by rw[qa3,hLa];exact hAf v)).2 rfl;have RO1:=RO.keep H.ext hidM;have RX:=hrow H.ext (fun _ h=>h) v hvn;have hgv:=hget v hvn;rw[<-hLa]at RX hgv;refine A0 (AB IR U H at0 U (Ax U (Af U ?_)));have Hc:=Ctx.comm (L:=[_,_,_,_]) (L':=GB od oh nn s bh (some ⟨q,0,none⟩) L1.length c' f2) H
          refine Al qB (Afi (Ctx.lend (L1:=GB od oh nn s bh (some ⟨q,0,none⟩) L1.length c' f2) (L2:=[_,_,_,_]) Hc) O2 hH2 (H.get at1) (V6 (L:=[_,_,_,_]) H.nd (x:=(b36,_)) (qac (i:=1) U)) RO1.tbl (hnotL oo hooM (Ctx.left (L':=[_,_,_,_]) Hc)) hgv hvn RX (fun hne=>hnotL _ (hrowM v hvn (hLa ▸ hne)) (Ctx.left (L':=[_,_,_,_]) Hc)) (fun x hx=>by rw[hLa]at hx;have h7:=hselx v hvn x hx;have h8:=hlb x;exact⟨h7.1,h7.2.1,by omega,by omega⟩) (by simp only[qa8]at hnl hpl;omega) (fun k x _=>by have h7:=(hgoes k).dist (by omega) (by omega) x;exact⟨h7.1,by omega,by omega⟩)) U ?_;rintro rv w ⟨rfl,a3,hn3,c3,f3,L3,hp3,hH3,O3,H3⟩;replace H:=Ctx.comm (L:=GB od oh nn (goP g pf s L2 La).1 bh a3 hn3 c3 f3) (L':=[_,_,_,_]) (Ctx.back (L1:=GB od oh nn s bh (some ⟨q,0,none⟩) L1.length c' f2) (L2:=[_,_,_,_]) Hc H3);refine Ab (A8 (Aa ?_))
          have hps7:psi nn A d (goP g pf s L2 La).1 (goP g pf s L2 La).2+1<=psi nn A D s ((d,v)::L2):=hps4
          have hps5:psi nn A d (goP g pf s L2 La).1 L3+1<=psi nn A D s ((d,v)::L1):=by
           rw[Ps hp3,<-hps3];exact hps7
          have hps6:=S5 (n:=nn) (A:=A) (D:=d) (s:=(goP g pf s L2 La).1) (hp:=L3);exact⟨⟨(goP g pf s L2 La).1,a3,hn3,c3,f3,L3,d⟩,rfl,trivial,⟨MI.perm M3 hp3.symm,hH3,O3,by dsimp only;omega,H⟩,by dsimp only;omega⟩
         .intro h6;replace h6:=AN h6;have hne:(d,v).1≠s.d (d,v).2:=by dsimp only;rw[<-hdv];exact h6
          obtain⟨M3,hps4⟩:=MM2.drop hArcs hmin2 hne;have hps6:=S5 (n:=nn) (A:=A) (D:=d) (s:=s) (hp:=L2);refine Aq (A8 (Aa ?_));exact⟨⟨s,some ⟨q,0,none⟩,L1.length,c',f2,L2,d⟩,rfl,trivial,⟨M3,hH2,O2,by dsimp only at hps4 |-;omega,H⟩,by dsimp only at hps4 |-;omega⟩
        .intro h5;replace h5:=AN h5;obtain rfl:L=[]:=qbt (by omega);have DN:=MM.ends;have hsd:=fun v=>MM.dj.dist (by omega) (by omega) v;have hge:∀u,u<nn->g.u u=g.u u:=fun _ _=>rfl;have RO1:=RO.keep H.ext hidM;have hooG:=hnotL oo hooM H;have Hp4:=H.perm (qbq (l₁:=[_,_]) (l₂:=[_,_,_]++_));have hobM:∀u,u<nn->IW g l u≠[]->(adr (st u).a).block≠ob:=fun u hu hne e=>hnotL _ (hrowM u hu hne) H (by rw[e];exact qag.2 ⟨(ob,_),qac (i:=2) rfl,rfl⟩)
         refine Bp (Am (Am (AO (Aa (Ad (AB IR U H at0 U (Al qB (Aa7 (outL:=fun u=>IW g l u) (g:=g) (p:=pf) (s:=s) (H.get at2) (H.get at1) (H.get at4) (H.get at5) RO1.tbl (H.ne at1 at2 (by decide)) (H.ne at4 at2 (by decide)) (H.ne at5 at2 (by decide)) (fun e=>hooG (by rw[e];exact qag.2 ⟨(ob,_),qac (i:=2) rfl,rfl⟩)) (fun v=>by have h7:=hsd v;omega) (fun u hu=>⟨_,_,hget u hu,hrow H.ext (fun _ h=>h) u hu,hobM u hu,by have:=hsl u;omega,fun x hx=>by have h7:=hselx u hu x hx;have h8:=hlb x;exact⟨h7.1,h7.2.1,by omega,by omega,by omega⟩⟩)) U ?_)))))));rintro rv w ⟨rfl,by',BB,H3⟩;replace H:=Ctx.back (L1:=[_]) (L2:=[_,_,_,_,_]++_) Hp4 H3;refine qA (Dw (fun x=>x=_) Bq U ?_);refine Cc IR U (by rintro _ rfl;exact H.drew) at1 U ?_;refine Bb U (A5 E4 U (Cc BN U (by rintro _ rfl;exact H.drew) at2 U ?_))
         refine Cc IR U (by rintro _ rfl;exact H.drew) at1 U ?_;refine Bb U (A5 Kp U (Cc Gu U (by rintro _ rfl;exact H.drew) at2 U ?_));refine Q1 U U (Q1 U U (Dp U (BT ?_)));rintro _ rfl;replace H:=H.drew;refine A7 (Afn U U U U ?_);have hodlt:=hOLlt (od,_) (by rw[hOL];exact qac (i:=2) rfl);have hoblt:=hOLlt (ob,_) (by rw[hOL];exact qac (i:=4) rfl);dsimp only at hodlt hoblt
         have hall:∀a,a∈IW g l (g.u a)->a<2*g.E/\0<CB (Ck es) (flE fl) a:=fun x hx=>by
          have h1:=(qbd.1 hx).1;rw[hlE]at h1;obtain⟨h2,h3⟩:=qbd.1 h1;exact⟨qa6.1 h2,qba h3⟩
         have hdn:∀x,x<2*g.E->0<CB (Ck es) (flE fl) x->g.u x<nn/\x∈IW g l (g.u x):=fun x h1 h2=>⟨by rw[<-hgN];exact hgo.u h1,qbd.2 ⟨by rw[hlE];exact qbd.2 ⟨qa6.2 h1,qar h2⟩,qar rfl⟩⟩;have BY:=Akz (cap:=Ck es) (x:=flE fl) (by rw[<-hA];exact DN) (by rw[<-hA];exact hArcs) BB hall hdn
         have WX:WaysX g (Ck es) (flE fl) pf s by':=by
          refine⟨by rw[<-hA];exact MM.rlx,fun v a h b h1 h2 h3 h4=>BB.fst v a h b (hdn b h1 h2) h3 h4,fun v a h=>?_,fun b h1 h2 h3=>BB.in' b (hdn b h1 h2) h3,fun v=>(BB.val v).imp id fun⟨a,h,_⟩=>⟨a,h⟩⟩
          rcases BB.val v with h'|⟨c,h',h1,h2,h3⟩
          .omega
          .obtain rfl:a=c:=by omega
           exact⟨(hall a h1).1,(hall a h1).2,h2,h3⟩
         refine HV (H.ext.to hD hidD) U fun wF hxF=>⟨od,ob,s,by',rfl,?_,?_,fun v=>?_,?_,?_⟩
         .rw[hA,hg,hpf]at DN;exact DN
         .rw[hg,hpf]at BY;exact BY
         .rcases BB.val v with h|⟨x,h1,h2,-⟩
          .exact .inl h
          .exact .inr ⟨x,h1,by rw[<-hgE];exact(hall x h2).1⟩
         .rw[hg,hpf]at WX;exact WX
         .refine((hB H).sub (L':=[(od,Bl 2 (BZ s.d nn)),(ob,Bl 3 (BZ by' nn))]) (fun x hx=>?_) ?_).step hxF (fun x hx=>?_) fun x hx => .inr ?_
          .simp only[qae,qaq,or_false]at hx
           rcases hx with rfl|rfl
           .exact qac (i:=4) U
           .exact qac (i:=0) U
          .simp only[qbf,qab,forall_eq,qaq,false_imp_iff,implies_true,List.Pairwise.nil,and_true];exact H.ne at4 at0 (by decide)
          .simp only[qae,qaq,or_false]at hx;rw[qab]
           rcases hx with rfl|rfl
           .dsimp only;omega
           .dsimp only;omega
          .rw[qab.1 hx];exact hs07
theorem OS.setf{α:Type}{a:Option Addr}{n c s:Nat}{full:List Value}{enc:α->List Value}{L:List α}(O:OS a n c s full (L.flatMap enc))(hs:∀x,(enc x).length=s){i j:Nat}{x y:α}{v:Value}(hx:L[i]?=some x)(hj:j<s)(hy:enc y=(enc x).set j v):OS a n c s (full.set (i*s+j) v) ((L.set i y).flatMap enc):=by
 refine⟨O.zero,O.none',by rw[qb6];exact O.len,O.le,?_⟩;rw[O.split,Afb (fun z _=>hs z) hx hj hy];have h1:=O.llen;rw[EY fun z _=>hs z]at h1;exact qci (by rw[EY fun z _=>hs z,qb6,h1])
def edC(es:List Ed)(c:Nat->Int)(i:Nat):Ed:={ es.getD i e0 with cap:=c i }
def esC(es:List Ed)(c:Nat->Int):List Ed:=(List.range es.length).map (edC es c)
theorem JG(es:List Ed)(c:Nat->Int):(esC es c).length=es.length:=by unfold esC;simp
theorem JH{es:List Ed}{c:Nat->Int}{i:Nat}(h:i<es.length):(esC es c)[i]?=some (edC es c i):=DZ h
theorem KZ{es:List Ed}{c d:Nat->Int}(h:∀i,i<es.length->c i=d i):esC es c=esC es d:=qbl fun i hi=>by unfold edC;rw[h i (qa6.1 hi)]
theorem WB{es:List Ed}{c d:Nat->Int}{i:Nat}{e:Ed}(he:edC es d i=e)(h:∀j,j<es.length->j≠i->d j=c j):(esC es c).set i e=esC es d:=Jb he fun j hj hn=>by unfold edC;rw[h j hj hn]
theorem Px(es:List Ed):esC es (Ck es)=es:=by
 refine qb0 fun i=>?_
 rcases qap i es.length with h|h
 .obtain⟨e,he⟩:=AA (h:=h);rw[JH h,he];unfold edC Ck;rw[Bs he]
 .rw[qa9 (by rw[JG];exact h),qa9 h]
theorem Ak1{es:List Ed}{c:Nat->Int}{i:Nat}(h:i<es.length):Ck (esC es c) i=c i:=by
 unfold Ck;rw[Bs (JH h)];rfl
theorem grE_C(N:Int)(es:List Ed)(c:Nat->Int):grE N (esC es c)=grE N es:=by
 have h:∀i,((esC es c).getD i e0).f=(es.getD i e0).f/\((esC es c).getD i e0).t=(es.getD i e0).t/\((esC es c).getD i e0).cost=(es.getD i e0).cost:=fun i=>by
  rcases qap i es.length with h|h
  .rw[Bs (JH h)];exact⟨rfl,rfl,rfl⟩
  .rw[qbk,qa9 (by rw[JG];exact h),qbk,qa9 h];exact⟨rfl,rfl,rfl⟩
 unfold grE;rw[JG]
 congr 1
 .funext i;rw[(h i).1]
 .funext i;rw[(h i).2.1]
 .funext i;rw[(h i).2.2]
theorem QI{α:Type}{f g:α->Nat}:∀{l:List α},(∀x∈l,f x<=g x)->(l.map f).sum<=(l.map g).sum
 | [],_=>qan _
 |x::l,h=>by
  have h1:=h x (qai ..);have h2:=QI (l:=l) fun y hy=>h y (qah _ hy);simp only[qav,List.sum_cons];omega
theorem WC{N:Int}{es:List Ed}{c:Nat->Int}(h:C2 N es=true)(hc:∀i,i<es.length->0<=c i/\c i<=Ck es i):C2 N (esC es c)=true:=by
 obtain⟨h1,h2,h3,h4,h5⟩:=CM h
 have h6:Gm (esC es c)<=Gm es:=by
  have e1:Gm es=((List.range es.length).map fun i=>Hy (es.getD i e0)).sum:=by
   conv=>lhs;rw[<-Px es]
   unfold Gm esC;rw[qbx]
   congr 1
  have e2:Gm (esC es c)=((List.range es.length).map fun i=>Hy (edC es c i)).sum:=by
   unfold Gm esC;rw[qbx]
   congr 1
  rw[e1,e2];refine QI fun i hi=>?_;have h7:=hc i (qa6.1 hi);unfold Hy edC;dsimp only;exact qch _ (by unfold Ck at h7;omega)
 have h7:(esC es c).all (Gl N)=true:=qau.2 fun e he=>by
  obtain⟨i,hi,rfl⟩:=qag.1 he;have hil:=qa6.1 hi;obtain⟨e,he⟩:=AA (h:=hil);have h8:=EP (h4 e (qac he));have h9:=hc i hil;unfold Ck at h9;rw[Bs he]at h9;unfold edC Gl M1;rw[Bs he];dsimp only;simp only[qaf,qas];omega
 unfold C2;rw[h7,JG];simp only[qaf,qas];exact⟨⟨h1,h2⟩,h3,trivial,by omega⟩
theorem Abg{N:Int}{es:List Ed}{c x:Nat->Int}(h:C2 N es=true)(hc:∀i,i<es.length->0<=c i/\c i<=Ck es i)(hx:∀i,i<es.length->0<=x i/\x i<=c i):Cn N (esC es c) (tab x es.length)=true:=by
 unfold Cn;rw[WC h hc,Di,JG,qar rfl];refine qau.2 fun b hb=>?_;obtain⟨i,hi⟩:=qcy hb
 have hil:i<es.length:=by
  have:=C0 hi;rw[qcn,JG,Di]at this;omega
 rw[Po (JH hil) (BW hil)]at hi;obtain rfl:=qam hi;have:=hx i hil;unfold inB edC;simp only[qaf,qas,id_eq];omega
def FO(es:List Ed)(k i:Nat):Int:=(((Ck es i).toNat / 2 ^ k:Nat):Int)
theorem NY{N:Int}{es:List Ed}(h:C2 N es=true)(k:Nat):∀i,i<es.length->0<=FO es k i/\FO es k i<=Ck es i:=fun i hi=>by
 obtain⟨e,he⟩:=AA (h:=hi);have h8:=EP ((CM h).2.2.2.1 e (qac he));have h9:(Ck es i).toNat / 2 ^ k<=(Ck es i).toNat:=Nat.div_le_self _ _;have h7:0<=Ck es i:=by unfold Ck;rw[Bs he];omega
 unfold FO;obtain⟨z,hz⟩:=qD ((Ck es i).toNat / 2 ^ k);rw[<-hz]at h9 |-;omega
theorem QJ(es:List Ed)(k i:Nat):2*FO es (k+1) i<=FO es k i/\FO es k i<=2*FO es (k+1) i+1:=by
 have h:(Ck es i).toNat / 2 ^ (k+1)=((Ck es i).toNat / 2 ^ k) / 2:=by rw[Nat.pow_succ,Nat.div_div_eq_div_mul]
 unfold FO;rw[h];obtain⟨z,hz⟩:=qD ((Ck es i).toNat / 2 ^ k);rw[<-hz];omega
theorem XY{N:Int}{es:List Ed}(h:C2 N es=true):∀i,i<es.length->FO es 0 i=Ck es i:=fun i hi=>by
 have h7:=NY h 0 i hi;unfold FO at h7 |-;rw[Nat.pow_zero,Nat.div_one]at h7 |-;omega
theorem NZ{N:Int}{es:List Ed}(h:C2 N es=true):∀i,i<es.length->0<=Ck es i/\Ck es i<=4503599627370496:=fun i hi=>by
 obtain⟨e,he⟩:=AA (h:=hi);have h8:=EP ((CM h).2.2.2.1 e (qac he));unfold Ck;rw[Bs he];omega
theorem Nj{g:Gr}{cap cap' x p:Nat->Int}(h:Fine g cap x p)(hc:∀i,i<g.E->cap' i=cap i):Fine g cap' x p:=by
 refine⟨fun i hi=>by rw[hc i hi];exact h.in' i hi,fun a ha hr=>h.fit a ha ?_⟩;unfold CB at hr |-;rw[hc _ (by omega)]at hr;exact hr
theorem WD{g:Gr}{x:Nat->Int}(hx:∀i,i<g.E->0<=x i/\x i<=4503599627370496)(v:Nat)(hE:g.E<=200:=by omega): -900719925474099200<=BD g x v/\BD g x v<=900719925474099200:=by
 have h:=Kx (g:=g) (x:=x) (c:=4503599627370496) v (k:=g.E) hx;have h2:(g.E:Int)*4503599627370496<=200*4503599627370496:=by omega
 unfold BD;omega
def JI(c c':Nat->Int)(i j:Nat):Int:=if j<i then c' j else c j
def flW(g:Gr)(c' x p:Nat->Int)(i j:Nat):Int:=if j<i then JU g c' x p j else x j
theorem WE{c c':Nat->Int}{i j:Nat}(h:j≠i):JI c c' (i+1) j=JI c c' i j:=by unfold JI;split <;> split <;> first|rfl|omega
theorem Abh{g:Gr}{c' x p:Nat->Int}{i j:Nat}(h:j≠i):flW g c' x p (i+1) j=flW g c' x p i j:=by unfold flW;split <;> split <;> first|rfl|omega
abbrev FL(bf bo n N:Nat)(x ov:Nat->Int)(ae:Option Addr)(full:List Value):List (Nat × Obj):=(bf,Bl 2 (BZ x n))::(bo,Bl 2 (BZ ov N))::ent ae 158 full
theorem Abi{w:World}{bs:Nat}{N:Nat}{ae aw:Option Addr}{ce cw bf bp bo k:Nat}{kk:Int}{es:List Ed}{c x p ov:Nat->Int}{full:List Value}(H0:Ctx w ((FL bf bo es.length N x ov ae full).map (·.1)) w (FL bf bo es.length N x ov ae full))(O:OS ae es.length ce 4 full ((esC es c).flatMap CJ))(hs:w.heap[bs]?=some (Bl 217 (SC N ae es.length ce bf bp bo kk)))(hbs:bs∉(FL bf bo es.length N x ov ae full).map (·.1))(hp:w.heap[bp]?=some (Bl 2 (BZ p N)))(hbp:bp∉(FL bf bo es.length N x ov ae full).map (·.1))(Rw:Rd w aw 4 CJ es)(hRw:es≠[]->(adr aw).block∉(FL bf bo es.length N x ov ae full).map (·.1))(hr:C2 (N:Int) es=true)(hc:∀i,i<es.length->2*c i<=FO es k i/\FO es k i<=2*c i+1)(hF:Fine (grE (N:Int) es) c x p)(hx0:∀v,v<N->BD (grE (N:Int) es) x v=0)(hov:∀v,v<N->ov v=0)(hpb:∀v,v<N -> -1073741824<=p v/\p v<=1073741824)(hk:k<=64:=by omega):
  Ret prog 144 #[ptr bs,DV (N:Int) aw es.length cw,.int .i64 (k:Int)] w fun v w'=>v=.tuple #[]/\∃full',OS ae es.length ce 4 full' ((esC es (FO es k)).flatMap CJ) /\
   Ctx w ((FL bf bo es.length N x ov ae full).map (·.1)) w' (FL bf bo es.length N (JU (grE (N:Int) es) (FO es k) x p) (BD (grE (N:Int) es) (JU (grE (N:Int) es) (FO es k) x p)) ae full'):=by
 obtain⟨w0,rfl⟩:=qD w;obtain⟨ids,hids⟩:=qD ((FL bf bo es.length N x ov ae full).map (·.1));rw[<-hids]at H0 hbs hbp hRw |-;have H:=H0;obtain⟨hN1,hN40,hn200,hall,-⟩:=CM hr;obtain⟨g,hg⟩:=qD (grE (N:Int) es);obtain⟨c',hc'⟩:∃c',c'=FO es k:=⟨_,rfl⟩;have hgE:g.E=es.length:=by rw[hg];rfl
 have hgo:g.Ok:=by rw[hg];exact JF hr
 have hin:=NY hr k;have hcb:=NZ hr;rw[<-hg]at hF hx0 |-;rw[<-hc']at hc hin |-;have hF2:=Pn hF (cap':=c') (fun i hi=>hc i (by rw[<-hgE];exact hi))
 have hxb:∀i,i<es.length->0<=x i/\2*x i<=c' i/\c' i<=4503599627370496:=fun i hi=>by
  have h1:=hF.in' i (by rw[hgE];exact hi);have h2:=hc i hi;have h3:=hin i hi;have h4:=hcb i hi;omega
 have hmix:∀i v,-900719925474099200<=BD g (IV g c' x p i) v/\BD g (IV g c' x p i) v<=900719925474099200:=fun i v=>WD (fun j hj=>by
  have h1:=hxb j (by rw[<-hgE];exact hj);have h2:=hF2.in' j hj;unfold IV
  split <;> omega) v
 refine Ay (fn:=f144) func144 U [.pointer (some ⟨bs,0,none⟩),DV (N:Int) aw es.length cw,.int .i64 (k:Int)] U ?_;refine Ad (Br [.int .i64 (N:Int),.slice aw es.length cw] (.agg _) U U H ?_);rintro b4 w - H;refine qA (Ad (Ax U (AE U (Ah EV U (Bc BN U ((by rw[Aj (H.ext.to hs hbs)];rfl)) ?_)))));refine Ba AV U (Af U (qA (A1 (Bt 21778071482940061661655974875633165517248 (α:=Nat × List Value) (fun t=>[(14,.int .i64 (t.1:Int))]) (fun t w'=>t.1<=es.length/\OS ae es.length ce 4 t.2 ((esC es (JI c c' t.1)).flatMap CJ)/\Ctx w0 ids w' ((b4,Bl 123 [.int .i64 (N:Int),.slice aw es.length cw])::FL bf bo es.length N (flW g c' x p t.1) (BD g (IV g c' x p t.1)) ae t.2)) (fun t=>es.length - t.1) (0,full) U ?_ ?_ ?_))))
 .exact⟨rfl,trivial⟩
 .refine⟨qaj _,?_,?_⟩
  .rw[KZ (d:=c) fun i _=>by unfold JI;rw[if_neg (qa7 _)]];exact O
  .have e1:BZ (flW g c' x p 0) es.length=BZ x es.length:=qbl fun i _=>by unfold flW;rw[if_neg (qa7 _)]
   have e2:BZ (BD g (IV g c' x p 0)) N=BZ ov N:=qbl fun v hv=>by
    have hv:=qa6.1 hv;rw[Aat (hx0 v hv),hov v hv]
   dsimp only[FL];rw[e1,e2];exact H
 .rintro⟨i,full1⟩ j w ⟨hi,O,H⟩;dsimp only at hi O H;dsimp only;refine Ad (Bm U U (qA (Ao (An _ U ?_ ?_))))
  .intro h1;replace h1:=AM h1;have hil:i<es.length:=by omega
   obtain⟨e,he⟩:=AA (h:=hil);have hee:=EP (hall e (qac he));obtain⟨un,hun⟩:∃un:Nat,e.f=un:=⟨e.f.toNat,by omega⟩;obtain⟨vn,hvn⟩:∃vn:Nat,e.t=vn:=⟨e.t.toNat,by omega⟩;obtain⟨cc,hcc⟩:∃cc:Nat,e.cap=cc:=⟨e.cap.toNat,by omega⟩;have hgf:g.f i=un:=by rw[hg];show(es.getD i e0).f.toNat=un;rw[Bs he,hun];rfl
   have hgt:g.t i=vn:=by rw[hg];show(es.getD i e0).t.toNat=vn;rw[Bs he,hvn];rfl
   have hgc:g.co i=e.cost:=by rw[hg];show(es.getD i e0).cost=_;rw[Bs he]
   have hck:c' i=((cc / 2 ^ k:Nat):Int):=by
    rw[hc'];unfold FO Ck;rw[Bs he,hcc];rfl
   have hunN:un<N:=by omega
   have hvnN:vn<N:=by omega
   obtain⟨q,rfl⟩:=O.form (by omega);have hxi:=hxb i hil;obtain⟨xi,hxie⟩:=qD (x i);obtain⟨ck,hcke⟩:=qD (c' i);rw[<-hxie,<-hcke]at hxi;rw[<-hcke]at hck;have hgx:(tab (flW g c' x p i) es.length)[i]?=some xi:=by rw[BW hil,hxie];unfold flW;rw[if_neg (Nat.lt_irrefl _)]
   have hcap2:(CJ e)[2]?=some (.int .i64 (cc:Int)):=by unfold CJ;rw[hcc];rfl
   have hes:es≠[]:=fun h=>by rw[h]at he;cases he
   have hqn:=O.le;have hOl:=O.len;refine Aq (Aa (Ao (A1 (Ad (Af U (Ae U (qA (Ad (Ax U (AE U ?_))))))))));refine Ah Hf U (Ah CE U (Bc D7 U ((by rw[Aj (H.ext.to hs hbs)];rfl)) ?_));refine Af U (Bn C8 C9 U U ?_);refine B1 U (qA (Ad (Ax U (AE U (Ah EV U (Bc BN U ((by rw[Aj (H.ext.to hs hbs)];rfl)) ?_))))));refine Af U (Bn AV B2 U U ?_);refine Bc Bw U (((C4 (H.get at1)).fld hgx U (j:=0) U)) (DL U U ?_);refine Bn AV B2 U U (Ch i (fun z => .int .i64 (if z=i then xi*2 else flW g c' x p i z)) (.int _ _) B2 U U U H at1 (by simp) (hk:=hil) (by rw[if_pos rfl]) (fun z _ hz=>by rw[if_neg hz]) ?_);rintro w H;refine qA (Ad (Ax U (Ah CE U (AB D7 U H at0 U (Af U (Be Rw C8 C9 U U (by rfl) ?_))))))
   refine Ah E3 U (Bc Bw U (((Rw.ext H.ext (hRw hes)).fld he U (j:=2) hcap2)) ?_);refine Af U (J5 (a:=cc) (n:=k) U U U ?_);rw[<-hck];refine AE U (Ah E3 U (Ct (.int _ _) B2 U U U H at3 (by omega) ?_));rintro w H;refine qA ?_;rw[show 0+((i:Int)).toNat*4+2=i*4+2 by omega]at H;have O1:=OS.setf O (y:=edC es (JI c c' (i+1)) i) (j:=2) (v := .int .i64 ck) (fun _=>rfl) (JH (c:=JI c c' i) hil) (by decide) (by unfold edC CJ JI;dsimp only;rw[if_pos (by omega),<-hcke];rfl);rw[WB rfl (fun j _ hj=>WE hj)]at O1;obtain⟨full2,hf2⟩:=qD (full1.set (i*4+2) (.int .i64 ck));rw[<-hf2]at O1;replace H:Ctx w0 ids w ((b4,Bl 123 [.int .i64 (N:Int),.slice aw es.length cw])::(bf,Bl 2 (BZ (fun z=>if z=i then xi*2 else flW g c' x p i z) es.length))::(bo,Bl 2 (BZ (BD g (IV g c' x p i)) N))::[(q,Bl 158 full2)]):=by rw[hf2];exact H
   have hrow:=JH (c:=JI c c' (i+1)) hil
   have henc:CJ (edC es (JI c c' (i+1)) i)=[.int .i64 (un:Int),.int .i64 (vn:Int),.int .i64 ck,.int .i64 e.cost]:=by
    unfold edC CJ JI;rw[Bs he];dsimp only;rw[if_pos (by omega),hun,hvn,<-hcke]
   have hfin:JU g c' x p i=if 2*xi<ck/\e.cost+p un - p vn<0 then ck else 2*xi:=by
    unfold JU;rw[hgc,hgf,hgt,<-hxie,<-hcke]
   have hms:=fun v=>Aau (g:=g) (cap':=c') (x:=x) (p:=p) (k:=i) v;rw[hgf,hgt,<-hxie]at hms;obtain⟨pu,hpu⟩:=qD (p un);obtain⟨pv,hpv⟩:=qD (p vn);have hpbu:=hpb un hunN;have hpbv:=hpb vn hvnN;rw[<-hpu]at hpbu hfin;rw[<-hpv]at hpbv hfin;have hgpu:(tab p N)[un]?=some pu:=by rw[BW hunN,hpu]
   have hgpv:(tab p N)[vn]?=some pv:=by rw[BW hvnN,hpv]
   have hgx2:(tab (fun z=>if z=i then xi*2 else flW g c' x p i z) es.length)[i]?=some (xi*2):=by rw[BW hil,if_pos rfl]
   have RP:=C4 hp;have hRE:∀{z:World},z.heap[q]?=some (Bl 158 full2)->Rd z (some ⟨q,0,none⟩) 4 CJ (esC es (JI c c' (i+1))):=fun h=>O1.rd (t:=158) (fun y hy=>by have hy:=qab.1 hy;rw[hy];exact h) (fun _ _=>rfl) (by decide);have RE:=hRE (H.drew.get at3);refine DQ 38685626227650541404553216 (α:=Unit) (fun _=>[(84,.bool (decide (xi*2<ck/\e.cost+pu - pv<0)))]) (fun _ w'=>Ctx w0 ids w' ((b4,Bl 123 [.int .i64 (N:Int),.slice aw es.length cw])::(bf,Bl 2 (BZ (fun z=>if z=i then xi*2 else flW g c' x p i z) es.length))::(bo,Bl 2 (BZ (BD g (IV g c' x p i)) N))::[(q,Bl 158 full2)])) U ?_ ?_
   .skip
    refine Wd (fun x=>x=_) Bq U ?_;refine B6 U (Bb U (A5 EV U (BX BN U (by rintro _ rfl;exact((by rw[Aj (H.drew.ext.to hs hbs)];rfl))) ?_)));refine AX U (Bi AV B2 U U ?_);refine BX Bw U (by rintro _ rfl;exact(((C4 (H.drew.get at1)).fld hgx2 rfl (j:=0) rfl))) ?_;refine B6 U (Bb U (A5 E3 U (BX Bw U (by rintro _ rfl;exact((RE.fld hrow rfl (j:=2) (by rw[henc];rfl)))) ?_)));refine Ln U U (CZ U (D6 56 U ?_ ?_))
    .intro h1;replace h1:=AM h1;refine B6 U (Bb U (A5 Gx U (BX Bw U (by rintro _ rfl;exact((RE.fld hrow rfl (j:=3) (by rw[henc];rfl)))) ?_)));refine B6 U (Bb U (A5 EW U (BX BN U (by rintro _ rfl;exact((by rw[Aj (H.drew.ext.to hs hbs)];rfl))) ?_)));refine B6 U (Bb U (A5 Fv U (BX Cd U (by rintro _ rfl;exact((RE.fld hrow rfl (j:=0) (by rw[henc];rfl)))) ?_)));refine Bi AV B2 U U ?_;refine BX Bw U (by rintro _ rfl;exact(((RP.ext H.drew.ext hbp).fld hgpu rfl (j:=0) rfl))) ?_;refine Dn U U ?_;refine B6 U (Bb U (A5 EW U (BX BN U (by rintro _ rfl;exact((by rw[Aj (H.drew.ext.to hs hbs)];rfl))) ?_)));refine B6 U (Bb U (A5 Fw U (BX Cd U (by rintro _ rfl;exact((RE.fld hrow rfl (j:=1) (by rw[henc];rfl)))) ?_)));refine Bi AV B2 U U ?_
     refine BX Bw U (by rintro _ rfl;exact(((RP.ext H.drew.ext hbp).fld hgpv rfl (j:=0) rfl))) ?_;refine DY U U (Ln U U (IB U (.bool _) U (BT ?_)));rintro _ rfl;replace H:=H.drew;refine Aa ?_;exact⟨(),rfl,⟨qaa Value.bool (by clear hgx hgx2 hgpu hgpv hcke hxie hpu hpv hms hmix hxb hfin henc hrow hgf hgt hgc;rw[qad];simp_all;try omega),trivial⟩,H⟩
    .intro h2;replace h2:=AN h2;refine A3 U (A3 U (A3 U (A3 U (A3 U (A3 U (A3 U (A3 U (A3 U (A3 U ?_)))))))));refine A3 U (A3 U (A3 U (A3 U (A3 U (A3 U (A3 U (A3 U (A3 U (A3 U ?_)))))))));refine A3 U (A3 U (A3 U (A3 U (A3 U (A3 U (A3 U (HK U (.bool _) U (BT ?_))))))));rintro _ rfl;replace H:=H.drew;refine Aa ?_;exact⟨(),rfl,⟨qaa Value.bool (by clear hgx hgx2 hgpu hgpv hcke hxie hpu hpv hms hmix hxb hfin henc hrow hgf hgt hgc;rw[qad];simp_all;try omega),trivial⟩,H⟩
   .rintro - j6 w H;refine An _ U ?_ ?_
    .intro h2;have h2:=qba h2;rw[if_pos ⟨by omega,h2.2⟩]at hfin;have ob1:=hmix i un;have ob2:=hmix i vn;have ob3:=hmix (i+1) un;have ob4:=hmix (i+1) vn;obtain⟨ov1,hov1⟩:=qD (BD g (IV g c' x p i));have hgo2:(tab ov1 N)[vn]?=some (ov1 vn):=BW hvnN;have hgo1:(tab (upd ov1 vn (ov1 vn+(ck - xi*2))) N)[un]?=some (upd ov1 vn (ov1 vn+(ck - xi*2)) un):=BW hunN;rw[<-hov1]at ob1 ob2 H;rw[hms,hfin,<-hov1]at ob3 ob4
     have ob5:upd ov1 vn (ov1 vn+(ck - xi*2)) un=ov1 un+(ck - xi*2)*one (vn=un):=by
      by_cases e:un=vn
      .rw[e,Dk,Gz rfl];omega
      .rw[Er e,FN (Ne.symm e)];omega
     have ob6:∀u,one (vn=u)=0\/one (vn=u)=1:=fun u=>by unfold one;split <;> omega
     have ob7:=ob6 un
     have ob8 : -1801439850948198400<=upd ov1 vn (ov1 vn+(ck - xi*2)) un/\upd ov1 vn (ov1 vn+(ck - xi*2)) un<=1801439850948198400:=by
      rw[ob5]
      rcases ob7 with h|h <;> rw[h] <;> omega
     refine Dw (fun x=>x=_) Bq U ?_;refine B6 U (Bb U (A5 E3 U (BX Bw U (by rintro _ rfl;exact(((hRE (H.drew.get at3)).fld hrow rfl (j:=2) (by rw[henc];rfl)))) ?_)));refine B6 U (Bb U (A5 EV U (BX BN U (by rintro _ rfl;exact((by rw[Aj (H.drew.ext.to hs hbs)];rfl))) ?_)));refine AX U (Bi AV B2 U U ?_);refine BX Bw U (by rintro _ rfl;exact(((C4 (H.drew.get at1)).fld hgx2 rfl (j:=0) rfl))) ?_;refine DY U U (Dp U (BT ?_));rintro _ rfl;replace H:=H.drew;refine Ad (Ax U (AE U (Ah EV U (Bc BN U ((by rw[Aj (H.ext.to hs hbs)];rfl)) ?_))));refine Af U (Bn AV B2 U U ?_);refine Bc Bw U (((C4 (H.get at1)).fld hgx2 U (j:=0) U)) (Af U (Az U U ?_));refine Bn AV B2 U U ?_
     refine Ch i (fun z => .int .i64 (if z=i then ck else flW g c' x p i z)) (.int _ _) B2 U U U H at1 (by simp) (hk:=hil) (by rw[if_pos rfl];congr 1;omega) (fun z _ hz=>by dsimp only;rw[if_neg hz,if_neg hz]) ?_;rintro w H;refine qA (Ec 13 Bq U U ?_);refine B6 U (Bb U (A5 Hg U (BX BN U (by rintro _ rfl;exact((by rw[Aj (H.drew.ext.to hs hbs)];rfl))) ?_)));refine B6 U (Bb U (A5 Fw U (BX Cd U (by rintro _ rfl;exact(((hRE (H.drew.get at3)).fld hrow rfl (j:=1) (by rw[henc];rfl)))) ?_)));refine Bi AV B2 U U ?_;refine BX Bw U (by rintro _ rfl;exact(((C4 (H.drew.get at2)).fld hgo2 rfl (j:=0) rfl))) ?_;refine AX U (Dn U U ?_);refine Bi AV B2 U U (BT ?_);replace H:=H.drew
     refine Ch vn (fun z => .int .i64 (upd ov1 vn (ov1 vn+(ck - xi*2)) z)) (.int _ _) B2 U U U H at2 (by simp) (hk:=hvnN) (by rw[Dk]) (fun z _ hz=>by rw[Er hz]) ?_;rintro w H;refine qA (FX 13 Bq U U ?_);refine B6 U (Bb U (A5 Hg U (BX BN U (by rintro _ rfl;exact((by rw[Aj (H.drew.ext.to hs hbs)];rfl))) ?_)));refine B6 U (Bb U (A5 Fv U (BX Cd U (by rintro _ rfl;exact(((hRE (H.drew.get at3)).fld hrow rfl (j:=0) (by rw[henc];rfl)))) ?_)));refine Bi AV B2 U U ?_;refine BX Bw U (by rintro _ rfl;exact(((C4 (H.drew.get at2)).fld hgo1 rfl (j:=0) rfl))) ?_;refine AX U (DY U U ?_);refine Bi AV B2 U U (BT ?_);replace H:=H.drew
     refine Ch un (fun z => .int .i64 (upd (upd ov1 vn (ov1 vn+(ck - xi*2))) un (upd ov1 vn (ov1 vn+(ck - xi*2)) un - (ck - xi*2)) z)) (.int _ _) B2 U U U H at2 (by simp) (hk:=hunN) (by rw[Dk]) (fun z _ hz=>by rw[Er hz]) ?_;rintro w H;refine Ab (A8 (Aa (A0 (Az U U ?_))));refine Af U (qA ?_)
     have e1:BZ (fun z=>if z=i then ck else flW g c' x p i z) es.length=BZ (flW g c' x p (i+1)) es.length:=qbl fun z _=>by
      dsimp only
      by_cases e:z=i
      .subst e;rw[if_pos rfl];unfold flW;rw[if_pos (by omega),hfin]
      .rw[if_neg e,Abh e]
     have e2:BZ (upd (upd ov1 vn (ov1 vn+(ck - xi*2))) un (upd ov1 vn (ov1 vn+(ck - xi*2)) un - (ck - xi*2))) N=BZ (BD g (IV g c' x p (i+1))) N:=qbl fun z _=>by
      congr 1
      rw[hms,hfin,<-hov1]
      by_cases e:z=un
      .subst e;rw[Dk,ob5,Gz rfl]
       rcases ob7 with h|h <;> rw[h] <;> omega
      .rw[Er e,FN (p:=un=z) (Ne.symm e)]
       by_cases e3:z=vn
       .subst e3;rw[Dk,Gz rfl];omega
       .rw[Er e3,FN (Ne.symm e3)];omega
     refine⟨(i+1,full2),rfl,⟨rfl,trivial⟩,⟨by dsimp only;omega,O1,?_⟩,by dsimp only;omega⟩;dsimp only[FL];rw[<-e1,<-e2];exact H
    .intro h2;have h2:=qbh h2;rw[if_neg (fun h=>h2 ⟨by omega,h.2⟩)]at hfin;refine Aq (A8 (Aa (A0 (Az U U ?_))));refine Af U (qA ?_)
     have e1:BZ (fun z=>if z=i then xi*2 else flW g c' x p i z) es.length=BZ (flW g c' x p (i+1)) es.length:=qbl fun z _=>by
      dsimp only
      by_cases e:z=i
      .subst e;rw[if_pos rfl];unfold flW;rw[if_pos (by omega),hfin];congr 1;omega
      .rw[if_neg e,Abh e]
     have e2:BZ (BD g (IV g c' x p i)) N=BZ (BD g (IV g c' x p (i+1))) N:=qbl fun z _=>by
      congr 1
      rw[hms,hfin,Int.sub_self,Int.zero_mul,qc2]
     refine⟨(i+1,full2),rfl,⟨rfl,trivial⟩,⟨by dsimp only;omega,O1,?_⟩,by dsimp only;omega⟩;dsimp only[FL];rw[<-e1,<-e2];exact H
  .intro h1;replace h1:=AN h1;refine Bp (Am (Am (AO (CO U U ?_))));obtain rfl:i=es.length:=by omega
   rw[KZ (d:=c') fun i hi=>by unfold JI;rw[if_pos hi]]at O
   have e1:BZ (flW g c' x p es.length) es.length=BZ (JU g c' x p) es.length:=qbl fun z hz=>by
    unfold flW;rw[if_pos (qa6.1 hz)]
   have e2:BZ (BD g (IV g c' x p es.length)) N=BZ (BD g (JU g c' x p)) N:=qbl fun z _=>by
    congr 1
    refine LG (fun i hi=>?_) z;rw[<-hgE];exact Aey hi
   refine⟨rfl,full1,O,?_⟩;have H:=H.tail;dsimp only[FL]at H |-;rw[e1,e2]at H;exact H
end Go.Proofs.YtffclglpjlcojaaGreat
