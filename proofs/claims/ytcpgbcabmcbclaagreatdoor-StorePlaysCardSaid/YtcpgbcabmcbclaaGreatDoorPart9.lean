/- Part 9 of the proof. -/
import Derived.Test.YtcpgbcabmcbclaaGreatDoorPart8
set_option maxRecDepth 20000
set_option maxHeartbeats 4000000
namespace Go.Proofs.YtcpgbcabmcbclaaGreatDoor
open Go.GV Go.Proofs.Tryz
theorem Aeg(h:Nat):2 ^ (h+1)=2 ^ h+2 ^ h:=by rw[qd9];omega
theorem Kids.count{R:Nat->Option (Bool × List It)}{h:Nat}(ih:∀p L S,Lies R h p L S->2 ^ (h+1)<=S.length+1/\S.length+1<=2*L.length):∀{l:List It} {L:List Pr} {S:List Nat},Kids (Lies R h) l L S->l.length*2 ^ (h+1)<=S.length+l.length/\S.length+l.length<=2*L.length
 | [],_,_,⟨rfl,rfl⟩=>by simp
 |x::l,_,_,⟨L1,L2,S1,S2,rfl,rfl,h1,_,_,h4⟩=>by
  have a:=ih _ _ _ h1;have b:=Kids.count ih h4;simp only[qav,qan,Nat.succ_mul,Nat.mul_add];omega
theorem Lies.count{R:Nat->Option (Bool × List It)}:∀{h p:Nat} {L:List Pr} {S:List Nat},Lies R h p L S->2 ^ (h+1)<=S.length+1/\S.length+1<=2*L.length
 |0,p,L,S,hL=>by
  have hne:=qbv.2 hL.ne;obtain⟨i,M,S',⟨_,_,rfl⟩,h2,rfl,h4,h5⟩:=hL;simp;omega
 |h+1,p,L,S,⟨i,M,S',h1,h2,h3,h4,h5⟩=>by
  obtain⟨rfl,hk⟩:=h1;subst h3;have hm:2<=M.length:=h4;obtain⟨a,b⟩:=Kids.count (fun p L S h=>Lies.count h) hk;have hp:=Aeg (h+1);have h1:0<2 ^ (h+1):=Nat.pow_pos (by omega);have h6:(M.length - 2)*1<=(M.length - 2)*2 ^ (h+1):=qb7 _ h1;have h7:M.length*2 ^ (h+1)=(M.length - 2)*2 ^ (h+1)+2*2 ^ (h+1):=by rw[<-qco];congr 1;omega
  rw[qav];omega
def Root(R:Nat->Option (Bool × List It))(root:Int)(L:List Pr)(S:List Nat):Prop:=(root = -1/\L=[]/\S=[])\/∃(h p:Nat),root=(p:Int)/\Lies R h p L S
theorem Root.frame{R R':Nat->Option (Bool × List It)}{root:Int}{L:List Pr}{S:List Nat}(hr:Root R root L S)(he:∀x∈S,R' x=R x):Root R' root L S :=
 hr.imp id fun⟨h,p,h1,h2⟩=>⟨h,p,h1,h2.frame he⟩
structure TreeAt(fr:Nat)(A:Dev)(P:List Nat)(root:Int)(L:List Pr):Prop where
 lies:∃S,Root (RD A fr) root L S/\S.Nodup/\∀x:Nat,(x∈S↔P[x]?=some 1\/P[x]?=some 2)
 rise:Rising L
 ok:OkP L
def Ou(s:Nat):Nat:=if s=1 then 3 else if s=2 then 0 else s
theorem Aeh(P:List Nat)(k x:Nat):(EC P k)[x]?=if x=k then P[x]?.map Ou else P[x]? := by
 unfold EC
 by_cases hx:x=k
 .subst hx;rw[if_pos rfl]
  by_cases h1:P[x]?=some 1
  .rw[if_pos h1,qew (qap.1 h1).1,h1];rfl
  .rw[if_neg h1]
   by_cases h2:P[x]?=some 2
   .rw[if_pos h2,qew (qap.1 h2).1,h2];rfl
   .rw[if_neg h2]
    cases h3:P[x]? with
    |none=>rfl
    |some s =>
     have hs1:s≠1:=fun e=>h1 (by rw[h3,e]);have hs2:s≠2:=fun e=>h2 (by rw[h3,e]);rw[qbd,Ou,if_neg hs1,if_neg hs2]
 .rw[if_neg hx]
  split
  .rw[qex (fun e=>hx e.symm)]
  .split
   .rw[qex (fun e=>hx e.symm)]
   .rfl
theorem JT:∀(g:List Nat) (P:List Nat),g.Nodup->∀x:Nat,(g.foldl EC P)[x]?=if x∈g then P[x]?.map Ou else P[x]?
 | [],P,_,x=>by simp
 |k::g,P,hd,x=>by
  obtain⟨h1,h2⟩:=qck.1 hd;rw[qdk,JT g _ h2 x,Aeh]
  by_cases hx:x=k
  .subst hx;rw[if_neg h1,if_pos rfl,if_pos (qaf ..)]
  .rw[if_neg hx]
   by_cases hg:x∈g
   .rw[if_pos hg,if_pos (qaj _ hg)]
   .rw[if_neg hg,if_neg (by simp[hx,hg])]
theorem Pv:∀(g:List Nat) (P:List Nat),(g.foldl EC P).length=P.length
 | [],P=>rfl
 |k::g,P=>by
  rw[qdk,Pv g];unfold EC
  split
  .simp
  .split <;> simp
theorem Mp(s:Nat):Ou s≠1/\Ou s≠2:=by
 unfold Ou
 split
 .decide
 .split
  .decide
  .omega
theorem UU(s:Nat):DC (Ou s)=DC s:=by
 unfold Ou
 split
 .rename_i h;rw[h];rfl
 .split
  .rename_i h;rw[h];rfl
  .rfl
structure Tops(fr:Nat)(L:List Pr)(S t:List Nat)(r:Int × Ch × Int):Prop where
 ok:r.1=0
 on:On fr r.2.1
 root:∃S',Root (RD r.2.1.A fr) r.2.2 L S'/\S'.Perm (S++t)/\Held r.2.1.P S'
theorem Ajm{fr h:Nat}{c:Ch}{i:Bool}{M:List It}{L:List Pr}{S:List Nat}(hp:Part (RD c.A fr) h i M L S)(ho:OkP L)(hh:Held c.P S)(hn:On fr c)(hne:0<h->M≠[])(hz:Bc i M<=667) :
  ∃t,CI fr c (Ee fr c i M).2.1 t []/\t.length<=3/\(Tops fr L S t (Ee fr c i M)\/Bad c (Ee fr c i M).1 3):=by
 by_cases hf:Je i M=true
 .have hi:i=true:=by unfold Je at hf;simp at hf;exact hf.1
  have hM:M.length=1:=by unfold Je at hf;simp at hf;exact hf.2
  subst hi;have ht:Ee fr c true M=(0,c,(Cr M 0:Int)):=by unfold Ee;rw[if_pos hf]
  rw[ht];refine⟨[],CI.refl _ _,by simp,.inl ⟨rfl,hn,S,?_,by simp,hh⟩⟩
  cases h with
  |zero=>exact absurd hp.inner0 (by simp)
  |succ h =>
   obtain⟨_,hk⟩:=hp
   match M,hM with
   | [z],_ =>
    obtain⟨L1,L2,S1,S2,rfl,rfl,h1,h2,h3,rfl,rfl⟩:=hk;rw[qa3,qa3];exact .inr ⟨h,z.page,rfl,h1⟩
 .have hm:(M=[]/\h=0)\/Many i M:=by
   cases h with
   |zero =>
    by_cases hM:M=[]
    .exact .inl ⟨hM,rfl⟩
    .right;rw[hp.inner0];exact hM
   |succ h =>
    right;have hM:=hne (by omega);obtain⟨rfl,_⟩:=hp;show 2<=M.length
    have:¬M.length=1:=fun h=>hf (by unfold Je;rw[qal h];rfl)
    have:=qbv.2 hM;omega
  obtain⟨t,u1,u2,u3⟩:=XC hp ho hh hn hm hz;obtain⟨q,hq⟩:=qD (Fc fr c i M)
  have ht:Ee fr c i M=if q.1≠0 then(q.1,q.2.1,-1)else if q.2.2=[]then(0,q.2.1,-1)else if 1<q.2.2.length then((wrC fr q.2.1 true q.2.2).1,(wrC fr q.2.1 true q.2.2).2,(Ci q.2.1.P:Int))else(0,q.2.1,(Cr q.2.2 0:Int)):=by
   unfold Ee;rw[if_neg hf,hq]
  rw[<-hq]at u1 u3;rw[ht]
  rcases u3 with u3|u3
  .obtain⟨S',k1,k2,k3⟩:=u3.kids;have hnum:=u3.num;rw[if_neg (by rw[u3.ok];simp)]
   by_cases h0:q.2.2=[]
   .rw[if_pos h0];rw[h0]at k1;obtain⟨rfl,rfl⟩:=k1;exact⟨t,u1,by omega,.inl ⟨rfl,u3.on,[],.inl ⟨rfl,rfl,rfl⟩,k2,k3⟩⟩
   .rw[if_neg h0];have hpos:=qbv.2 h0
    by_cases h1:1<q.2.2.length
    .rw[if_pos h1];have hk38:=k1.total ho
     have:38*q.2.2.length<=38*2:=qb7 _ hnum
     obtain⟨t2,v1,v2,v3⟩:=Mn (h:=h+1) (i:=true) ⟨rfl,k1⟩ ho k3 u3.on (show Many true q.2.2 from h1) (by omega);have hci:=u1.trans v1;rw[qa3]at hci;refine⟨_,hci,by rw[qan];omega,?_⟩
     rcases v3 with⟨v3,rfl,v4,v5,v6⟩|v3
     .refine .inl ⟨v3,v4,Ci q.2.1.P::S',.inr ⟨h+1,_,rfl,v5⟩,?_,v1.held.app (k3.keep v1)⟩;rw[qep]at *;intro z;have e1:=k2 z;simp only[qeq,qeg,List.count_nil]at *;omega
     .exact .inr (v3.back u1 (by omega))
    .rw[if_neg h1];refine⟨t,u1,by omega,.inl ⟨rfl,u3.on,S',.inr ?_,k2,k3⟩⟩;have h2:q.2.2.length=1:=by omega
     match hq2:q.2.2,h2 with
     | [z],_ =>
      rw[hq2]at k1;obtain⟨L1,L2,S1,S2,rfl,rfl,h1,h2,h3,rfl,rfl⟩:=k1;rw[qa3,qa3];exact⟨h,z.page,rfl,h1⟩
  .rw[if_pos u3.ne];exact⟨t,u1,by omega,.inr (u3.mono (by omega))⟩
structure After(fr:Nat)(A:Dev)(P:List Nat)(A':Dev)(P':List Nat):Prop where
 blk:∀q,(∀x:Nat,P[x]?=some 0->q≠fr+x)->A'.B.getD q (zeros,[])=A.B.getD q (zeros,[])
 blen:A'.B.length=A.B.length
 left:A.left = -1->A'.left = -1
 len:P'.length=P.length
 back:P'.map DC=P.map DC
def Worse(A:Dev)(P:List Nat)(e:Int)(m:Nat):Prop:=(e=8/\A.left ≠ -1)\/(e=7/\DD P<m)
theorem Al6{fr:Nat}{c0 c:Ch}{t g:List Nat}{S S':List Nat}(h:CI fr c0 c t g)(h0:c0.tk=[]/\c0.gn=[])(hS:∀x:Nat,(x∈S↔c0.P[x]?=some 1\/c0.P[x]?=some 2))(hd:S.Nodup)(hp:(S'++g).Perm (S++t)) :
  After fr c0.A c0.P (DI c 0).A (DI c 0).P/\S'.Nodup/\∀x:Nat,(x∈S'↔(DI c 0).P[x]?=some 1\/(DI c 0).P[x]?=some 2):=by
 have hgn:c.gn=g:=by rw[h.gn,h0.2];rfl
 have hH:Held c0.P S:=fun x hx=>((hS x).1 hx).elim (fun h=>⟨1,h,by decide⟩) fun h=>⟨2,h,by decide⟩
 have hnd:(S++t).Nodup:=by
  rw[qdm];exact⟨hd,h.nd,fun a ha b hb e=>h.apart hH a ha (e ▸ hb)⟩
 have hnd2:=hp.nodup_iff.2 hnd;rw[qdm]at hnd2;obtain⟨n1,n2,n3⟩:=hnd2
 have hget:∀x:Nat,(DI c 0).P[x]?=if x∈g then c.P[x]?.map Ou else c.P[x]? := fun x=>by
  show(List.foldl EC c.P (if(0:Int)≠0 then c.tk else c.gn))[x]?=_;rw[if_neg (by simp),hgn,JT g _ n2 x]
 have hlen:(DI c 0).P.length=c0.P.length:=by
  show(List.foldl EC c.P _).length=_;rw[Pv,h.len]
 refine⟨⟨fun q hq=>h.blk q fun x hx=>hq x (h.was x hx),h.blen,h.left,hlen,?_⟩,n1,fun x=>?_⟩
 .refine qci fun x=>?_;rw[qas,qas,hget x,h.now x]
  by_cases ht:x∈t
  .rw[if_pos ht,h.was x ht]
   split <;> rfl
  .rw[if_neg ht]
   split
   .cases c0.P[x]? with
    |none=>rfl
    |some s=>simp only[qbd,UU]
   .rfl
 .rw[hget x];have hm:=hp.mem_iff (a:=x);simp only[qat]at hm;constructor
  .intro hx;have hxg:x∉g:=fun h2=>n3 x hx x h2 rfl;rw[if_neg hxg,h.now x]
   rcases hm.1 (.inl hx)with h2|h2
   .rw[if_neg (h.apart hH x h2)];exact(hS x).1 h2
   .rw[if_pos h2];exact .inr rfl
  .intro hx
   by_cases hxg:x∈g
   .rw[if_pos hxg]at hx;exfalso
    cases hc:c.P[x]? with
    |none=>rw[hc]at hx;simp at hx
    |some s =>
     rw[hc]at hx;simp only[qbd,qbb]at hx;exact hx.elim (Mp s).1 (Mp s).2
   .rw[if_neg hxg,h.now x]at hx
    have:x∈S\/x∈t:=by
     by_cases ht:x∈t
     .exact .inr ht
     .rw[if_neg ht]at hx;exact .inl ((hS x).2 hx)
    exact(hm.2 this).elim id fun h2=>absurd h2 hxg
theorem Ta{fr:Nat}{c0 c:Ch}{t g:List Nat}{e:Int}(h:CI fr c0 c t g)(h0:c0.tk=[]/\c0.gn=[])(he:e≠0):After fr c0.A c0.P (DI c e).A (DI c e).P/\(DI c e).P=c0.P:=by
 have htk:c.tk=t:=by rw[h.tk,h0.1];rfl
 have hP:(DI c e).P=c0.P:=by
  refine qci fun x=>?_;show(List.foldl EC c.P (if e≠0 then c.tk else c.gn))[x]?=_;rw[if_pos he,htk,JT t _ h.nd x,h.now x]
  by_cases ht:x∈t
  .rw[if_pos ht,if_pos ht,h.was x ht];rfl
  .rw[if_neg ht,if_neg ht]
 exact⟨⟨fun q hq=>h.blk q fun x hx=>hq x (h.was x hx),h.blen,h.left,by rw[hP],by rw[hP]⟩,hP⟩
structure Turned(fr:Nat)(A:Dev)(P:List Nat)(root:Int)(L:List Pr)(m:Nat)(r:Int × Int × Ch):Prop where
 aft:After fr A P r.2.2.A r.2.2.P
 out:(r.1=0/\r.2.2.A.on=true/\TreeAt fr r.2.2.A r.2.2.P r.2.1 L)\/(r.2.1=root/\r.2.2.P=P/\Worse A P r.1 m)
theorem Ajn{R:Nat->Option (Bool × List It)}{h p n:Nat}{L:List Pr}{S:List Nat}(hL:Lies R h p L S)(hd:S.Nodup)(hlt:∀x∈S,x<n)(hn:n<=2000):h<=9:=by
 have h1:=hL.count.1;have h2:=VU n S hd hlt
 rcases qbr h 10 with h3|h3
 .omega
 .have:2 ^ 11<=2 ^ (h+1):=qc2 (by omega) (by omega)
  omega
theorem UV{fr:Nat}{A:Dev}{P:List Nat}{root:Int}{L:List Pr}{key:Byt}{G:List It->List It}{g:List Pr->List Pr}(act:Acts key G g)(hr:∀L,Rising L->Rising (g L))(T:TreeAt fr A P root L)(hon:A.on=true)(hl:fr+P.length<=A.B.length)(hP:P.length<=2000){m:Nat}(hm:∀h,h=0\/2 ^ (h+1)<=P.length+1->2*h+3<=m) :
  Turned fr A P root (g L) m (DE fr A P root key G):=by
 obtain⟨S,hroot,hnd,hS⟩:=T.lies;have hH:Held P S:=fun x hx=>((hS x).1 hx).elim (fun h=>⟨1,h,by decide⟩) fun h=>⟨2,h,by decide⟩;obtain⟨ed,hed⟩:=qD (if root = -1 then(0,⟨A,P,[],[]⟩,false,G [])else CO fr G key 18 ⟨A,P,[],[]⟩ root.toNat 0:Int × Ch × Bool × List It);have hn:On fr (⟨A,P,[],[]⟩:Ch):=⟨hon,hl,by show P.length<=4096;omega⟩
 have he:∃(h:Nat) (t g':List Nat),2*h+3<=m/\CI fr ⟨A,P,[],[]⟩ ed.2.1 t g'/\t.length<=2*h/\(Eds fr h (g L) S t g' ed\/Bad ⟨A,P,[],[]⟩ ed.1 (2*h)):=by
  rcases hroot with⟨rfl,rfl,rfl⟩|⟨h,p,rfl,hLies⟩
  .rw[if_pos rfl]at hed;have h0:=act.leaf [] List.Pairwise.nil (fun p hp=>by cases hp);rw[qbo]at h0;have hsz:=act.size [] List.Pairwise.nil (fun p hp=>by cases hp);rw[hed,h0];exact⟨0,[],[],hm 0 (.inl U),CI.refl _ _,by simp,.inl ⟨rfl,hn,⟨[],⟨rfl,rfl,rfl⟩,by simp,fun x hx=>by cases hx⟩,fun h=>absurd h (Nat.lt_irrefl 0),by show Bc false (List.map BM (g []))<=667;have:Bc false (List.map BM [])=0:=rfl;omega⟩⟩
  .rw[if_neg (by omega),qbp]at hed;have hh:=Ajn hLies hnd (fun x hx=>hH.lt hx) hP;obtain⟨t,g',e1,e2,e3⟩:=UT act h 18 ⟨A,P,[],[]⟩ p 0 L S hLies T.rise T.ok hH hn (by omega) (by omega);rw[hed];have h1:=hLies.count.1;have h2:=VU P.length S hnd fun x hx=>hH.lt hx;exact⟨h,t,g',hm h (.inr (by omega)),e1,e2,e3⟩
 obtain⟨h,t,g',hh,e1,e2,e3⟩:=he
 have hturn:DE fr A P root key G=if ed.1≠0 then(ed.1,root,DI ed.2.1 ed.1)else if(Ee fr ed.2.1 ed.2.2.1 ed.2.2.2).1≠0 then((Ee fr ed.2.1 ed.2.2.1 ed.2.2.2).1,root,DI (Ee fr ed.2.1 ed.2.2.1 ed.2.2.2).2.1 (Ee fr ed.2.1 ed.2.2.1 ed.2.2.2).1)else(0,(Ee fr ed.2.1 ed.2.2.1 ed.2.2.2).2.2,DI (Ee fr ed.2.1 ed.2.2.1 ed.2.2.2).2.1 0):=by
  unfold DE;rw[hed]
 rw[hturn]
 rcases e3 with e3|e3
 .obtain⟨S1,p1,p2,p3⟩:=e3.part;rw[if_neg (by rw[e3.ok];simp)];obtain⟨t2,v1,v2,v3⟩:=Ajm p1 (act.ok _ T.ok) p3 e3.on e3.ne e3.sz;have hci:=e1.trans v1;rw[qa3]at hci
  rcases v3 with v3|v3
  .obtain⟨S2,k1,k2,k3⟩:=v3.root;rw[if_neg (by rw[v3.ok];simp)]
   obtain⟨o1,o2,o3⟩:=Al6 (S:=S) (S':=S2) hci ⟨rfl,rfl⟩ hS hnd (by
    rw[qep]at *;intro z;have e1:=p2 z;have e2:=k2 z;simp only[qeq]at *
    omega)
   exact⟨o1,.inl ⟨rfl,v3.on.on,⟨⟨S2,k1,o2,o3⟩,hr _ T.rise,act.ok _ T.ok⟩⟩⟩
  .rw[if_pos v3.ne];obtain⟨o1,o2⟩:=Ta (e:=(Ee fr ed.2.1 ed.2.2.1 ed.2.2.2).1) hci ⟨rfl,rfl⟩ v3.ne;exact⟨o1,.inr ⟨rfl,o2,(v3.back e1 (show 3+t.length<=m by omega))⟩⟩
 .rw[if_pos e3.ne];obtain⟨o1,o2⟩:=Ta (e:=ed.1) e1 ⟨rfl,rfl⟩ e3.ne;exact⟨o1,.inr ⟨rfl,o2,e3.mono (by omega)⟩⟩
def Ab7(M:List It):Prop:=M.Pairwise fun x y=>ltB x.key y.key
theorem Ab8{M:List It}(hr:Ab7 M){i j:Nat}{x y:It}(hx:M[i]?=some x)(hy:M[j]?=some y)(h:i<j):ltB x.key y.key:=by
 obtain⟨h1,h2⟩:=qap.1 hx;obtain⟨h3,h4⟩:=qap.1 hy;have:=qb9.1 hr i j h1 h3 h
 rwa [h2,h4]at this
theorem Wg{M:List It}(hr:Ab7 M)(key:Byt):∀(n i j:Nat),j - i<=n->i<=j->j<=M.length->(∀(k:Nat) (x:It),k<i->M[k]?=some x->ltB x.key key)->(∀(k:Nat) (x:It),j<=k->M[k]?=some x->¬ltB x.key key) ->
  (∀(k:Nat) (x:It),k<bsN M key i j->M[k]?=some x->ltB x.key key)/\(∀(k:Nat) (x:It),bsN M key i j<=k->M[k]?=some x->¬ltB x.key key)
 |0,i,j,h,hij,hj,h1,h2=>by
  rw[NX];exact⟨h1,fun k x hk=>h2 k x (by omega)⟩
 |n+1,i,j,h,hij,hj,h1,h2=>by
  by_cases hlt:i<j
  .rw[Z7 hlt];obtain⟨x,hx⟩:=AP (l:=M) (i:=(i+j) / 2);rw[hx];simp only[qbd,qdr]
   by_cases hc:DU x.key key<0
   .rw[if_pos hc];have hlx:=Iw.1 hc;refine Wg hr key n _ j (by omega) (by omega) hj (fun k y hk hy=>?_) h2
    rcases qbr k ((i+j) / 2)with h3|h3
    .exact ET (Ab8 hr hy hx h3) hlx
    .obtain rfl:k=(i+j) / 2:=by omega
     rw[hx]at hy;cases hy;exact hlx
   .rw[if_neg hc];have hlx:¬ltB x.key key:=fun h=>hc (Iw.2 h);refine Wg hr key n i _ (by omega) (by omega) (by omega) h1 fun k y hk hy=>?_
    rcases Nat.eq_or_lt_of_le hk with h3|h3
    .subst h3;rw[hx]at hy;cases hy;exact hlx
    .exact fun h4=>hlx (ET (Ab8 hr hx hy h3) h4)
  .rw[NX];exact⟨h1,fun k x hk=>h2 k x (by omega)⟩
theorem ZK{M:List It}(hr:Ab7 M)(key:Byt):(∀x∈M.take (CK M key),ltB x.key key)/\(∀x∈M.drop (CK M key),¬ltB x.key key):=by
 obtain⟨h1,h2⟩:=Wg hr key _ 0 M.length (qae _) (qak _) (qae _) (fun k x hk=>absurd hk (qc3 _)) (fun k x hk hx=>by have:=(qap.1 hx).1;omega);constructor
 .intro x hx;obtain⟨k,hk⟩:=List.getElem?_of_mem hx;have:=(qap.1 hk).1;rw[qa0]at this;rw[List.getElem?_take_of_lt (by omega)]at hk;exact h1 k x (by show k<CK M key;omega) hk
 .intro x hx;obtain⟨k,hk⟩:=List.getElem?_of_mem hx;rw[qcm]at hk;exact h2 _ x (by show CK M key<=_;omega) hk
theorem Aei{L:List Pr}(h:Rising L):Ab7 (L.map BM):=qbs.2 h
theorem Lz{L:List Pr}(hr:Rising L)(key:Byt):∃A B:List Pr,(∀p∈A,ltB p.1 key)/\(∀p∈B,ltB key p.1)/\(L.map BM).take (CK (L.map BM) key)=A.map BM /\
  ((Fw (L.map BM) key=true/\∃v,L=A++(key,v)::B/\(L.map BM).drop (CK (L.map BM) key+1)=B.map BM/\(L.map BM)[CK (L.map BM) key]?=some (BM (key,v))) \/
   (Fw (L.map BM) key=false/\L=A++B/\(L.map BM).drop (CK (L.map BM) key)=B.map BM)):=by
 obtain⟨h1,h2⟩:=ZK (Aei hr) key;obtain⟨k,hk⟩:=qD (CK (L.map BM) key);have hle:k<=L.length:=by have:=Pp (L.map BM) key;rw[qai]at this;omega
 rw[<-hk]at h1 h2 |-;rw[<-List.map_take]at h1 |-;rw[<-qd0]at h2;have hA:∀p∈L.take k,ltB p.1 key:=fun p hp=>h1 _ (qah.2 ⟨p,hp,rfl⟩);have hB:∀p∈L.drop k,¬ltB p.1 key:=fun p hp=>h2 _ (qah.2 ⟨p,hp,rfl⟩);have hsp:=(qbl k L).symm
 cases hd:L.drop k with
 |nil =>
  rw[hd]at hsp;have hlen:L.length<=k:=by have:=qab List.length hd;simp at this;omega
  refine⟨L.take k,[],hA,(fun p hp=>by cases hp),rfl,.inr ⟨?_,hsp,?_⟩⟩
  .unfold Fw;rw[<-hk,qbz (by rw[qai];exact hlen)]
  .rw[<-qd0,hd]
 |cons q B =>
  rw[hd]at hsp hB
  have hq0:L[k]?=some q:=by
   have:(L.drop k)[0]?=some q:=by rw[hd];rfl
   rw[qcm]at this;exact this
  have hg:(L.map BM)[k]?=some (BM q):=by rw[qas,hq0];rfl
  have hrB:Rising (q::B):=by rw[hsp]at hr;exact(Rising.append.1 hr).2.1
  have hqB:=(qbh.1 hrB).1;have hdr:L.drop (k+1)=B:=by rw[<-qdq,hd];rfl
  rcases Mj q.1 key with h3|h3|h3
  .exact absurd h3 (hB q (qaf ..))
  .refine⟨L.take k,B,hA,fun p hp=>h3 ▸ hqB p hp,rfl,.inl ⟨?_,q.2,?_,?_,?_⟩⟩
   .unfold Fw;rw[<-hk,hg];exact qal (by show DU q.1 key=0;rw[h3];exact Mi _)
   .rw[<-h3];exact hsp
   .rw[<-qd0,hdr]
   .rw[hg,<-h3]
  .refine⟨L.take k,q::B,hA,fun p hp=>?_,rfl,.inr ⟨?_,hsp,?_⟩⟩
   .rcases qac.1 hp with rfl|hp
    .exact h3
    .exact ET h3 (hqB p hp)
   .unfold Fw;rw[<-hk,hg];exact qag fun h=>Hx h3 (NT h).symm
   .rw[<-qd0,hd]
theorem QB{A B:List Pr}{k v:Byt}{L:List Pr}(hA:∀p∈A,ltB p.1 k)(hB:∀p∈B,ltB k p.1)(hL:L=A++B\/∃u,L=A++(k,u)::B):HU L k v=A++((k,v)::B):=by
 have f1:A.filter (fun p=>decide (ltB p.1 k))=A:=Eo fun p hp=>qal (hA p hp);have f2:B.filter (fun p=>decide (ltB p.1 k))=[]:=FJ fun p hp=>qag (Fp (hB p hp));have f3:A.filter (fun p=>decide (ltB k p.1))=[]:=FJ fun p hp=>qag (Fp (hA p hp));have f4:B.filter (fun p=>decide (ltB k p.1))=B:=Eo fun p hp=>qal (hB p hp);unfold HU
 rcases hL with rfl|⟨u,rfl⟩
 .rw[qbn,qbn,f1,f2,f3,f4];simp
 .have hkk:decide (ltB k k)=false:=qag (Hw k);rw[qbn,qbn,qbk,qbk,f1,f2,f3,f4];simp[hkk]
theorem Wh{A B:List Pr}{k:Byt}{L:List Pr}(hA:∀p∈A,ltB p.1 k)(hB:∀p∈B,ltB k p.1)(hL:L=A++B\/∃u,L=A++(k,u)::B):JD L k=A++B:=by
 have f1:A.filter (fun p => !decide (p.1=k))=A:=Eo fun p hp=>by rw[qag (Hx (hA p hp))];rfl
 have f2:B.filter (fun p => !decide (p.1=k))=B:=Eo fun p hp=>by rw[qag (fun e=>Hx (hB p hp) e.symm)];rfl
 unfold JD
 rcases hL with rfl|⟨u,rfl⟩
 .rw[qbn,f1,f2]
 .rw[qbn,qbk,f1,f2];simp
theorem Ab9{A B:List Pr}{k:Byt}(hA:∀p∈A,ltB p.1 k)(hB:∀p∈B,ltB k p.1):DO (A++B) k=none/\∀u,DO (A++(k,u)::B) k=some u:=by
 have f1:A.find? (fun p=>decide (p.1=k))=none:=qej.2 fun p hp=>by simpa using Hx (hA p hp)
 have f2:B.find? (fun p=>decide (p.1=k))=none:=qej.2 fun p hp=>by simpa using fun e=>Hx (hB p hp) e.symm
 unfold DO;refine⟨by rw[qek,f1,f2];rfl,fun u=>?_⟩;rw[qek,f1,qda,qal rfl];rfl
theorem XN{L:List Pr}(hr:Rising L)(key val:Byt):Lp key val (L.map BM)=(HU L key val).map BM:=by
 obtain⟨A,B,hA,hB,ht,h|h⟩:=Lz hr key
 .obtain⟨h1,v,h2,h3,_⟩:=h;unfold Lp;rw[if_pos h1,ht,h3,QB hA hB (.inr ⟨v,h2⟩),qay,qaz];rfl
 .obtain⟨h1,h2,h3⟩:=h;unfold Lp;rw[if_neg (by rw[h1];simp),ht,h3,QB hA hB (.inl h2),qay,qaz];rfl
theorem XO{L:List Pr}(hr:Rising L)(key:Byt):KG key (L.map BM)=(JD L key).map BM:=by
 obtain⟨A,B,hA,hB,ht,h|h⟩:=Lz hr key
 .obtain⟨h1,v,h2,h3,_⟩:=h;unfold KG;rw[if_pos h1,ht,h3,Wh hA hB (.inr ⟨v,h2⟩),qay]
 .obtain⟨h1,h2,h3⟩:=h;unfold KG;rw[if_neg (by rw[h1];simp),Wh hA hB (.inl h2),<-h2]
theorem Pw(i:Bool)(l:List It)(k m:Nat)(hk:k<=m:=by omega):Bc i (l.take k)+Bc i (l.drop m)<=Bc i l:=by
 have h1:=BB i (l.take k) (l.drop k);rw[qbl]at h1;have h2:=BB i ((l.drop k).take (m - k)) ((l.drop k).drop (m - k));rw[qbl,qdq,show k+(m - k)=m by omega]at h2;omega
theorem XP{key val:Byt}(hk:1<=key.length)(hk2:key.length<=32)(hv:val.length<=128):Acts key (Lp key val) (fun L=>HU L key val):=by
 refine⟨fun L hr _=>XN hr key val,fun A L B hA hB=>Aim hA hB,fun L ho p hp=>?_,fun L hr ho=>?_⟩
 .rcases Xi hp with rfl|h
  .exact⟨hk,hk2,hv⟩
  .exact ho p h
 .rw[<-XN hr key val];have h5:Bc false [(⟨key,val,0⟩:It)]<=164:=by show 4+key.length+val.length+0<=164;omega
  unfold Lp
  split
  .have:=Pw false (L.map BM) (CK (L.map BM) key) (CK (L.map BM) key+1);rw[BB,BB];omega
  .have:=Pw false (L.map BM) (CK (L.map BM) key) (CK (L.map BM) key);rw[BB,BB];omega
theorem XQ(key:Byt):Acts key (KG key) (fun L=>JD L key):=by
 refine⟨fun L hr _=>XO hr key,fun A L B hA hB=>Ain hA hB,fun L ho p hp=>ho p (Xj hp),fun L hr ho=>?_⟩;rw[<-XO hr key];unfold KG
 split
 .have:=Pw false (L.map BM) (CK (L.map BM) key) (CK (L.map BM) key+1);rw[BB];omega
 .omega
theorem XR{fr sz:Nat}{A:Dev}(key:Byt)(hon:A.on=true)(hl:fr+sz<=A.B.length):∀(h n p d:Nat) (L:List Pr) (S:List Nat),Lies (RD A fr) h p L S->Rising L->(∀x∈S,x<sz)->d+h<=16->h<n ->
  X0 A fr sz key n (p:Int) (d:Int)=(0,DO L key)
 |0,n+1,p,d,L,S,hL,hr,hs,hd,hn=>by
  have hp:=hs p hL.page;obtain⟨i,M,S',⟨rfl,rfl,rfl⟩,h2,rfl,h4,h5⟩:=hL;have hrd:=Lo hon hp hl (show d<=16 by omega) h2;rw[Wa,if_neg (by omega),hrd];dsimp only;obtain⟨A',B',hA,hB,ht,h|h⟩:=Lz hr key
  .obtain⟨h1,v,h2,h3,h6⟩:=h;rw[if_pos h1,h6,h2,(Ab9 hA hB).2 v];rfl
  .obtain⟨h1,h2,h3⟩:=h;rw[if_neg (by rw[h1];simp),h2,(Ab9 hA hB).1]
 |h+1,n+1,p,d,L,S,hL,hr,hs,hd,hn=>by
  have hp:=hs p hL.page;obtain⟨i,l,S',⟨rfl,hk⟩,h2,rfl,h4,h5⟩:=hL;have hrd:=Lo hon hp hl (show d<=16 by omega) h2;rw[Wa,if_neg (by omega),hrd];dsimp only;obtain⟨a,x,b,La,Lx,Lb,Sa,Sx,Sb,rfl,hal,rfl,rfl,ka,q1,q2,q3,kb,hlo,hhi⟩:=Qf hk hr h4.ne key;have hpg:((a++x::b)[Cf (a++x::b) key]?.map (·.page)).getD 0=x.page:=Nl hal;rw[hpg,Aio hlo hhi];exact XR key hon hl h n x.page (d+1) Lx Sx q1 (Rising.append.1 (Rising.append.1 hr).2.1).1 (fun x hx=>hs x (by simp[hx])) (by omega) (by omega)
attribute [local irreducible] AA W Wq Wt
theorem Prs.of{w0 w:World}{M:Mut}(hM:∀x,M x->x<w0.heap.size){a:Option Addr}{n c:Nat}{full:List Value}{ps:List Im}(H:Ctx w0 [] w (ent a 68 full))(O:OS a n c 2 full (ps.flatMap Gz))(hok:∀m∈ps,m.Ok w0 M){L:List Pr}(hl:ps.map (fun m=>prI m.it)=L):Prs w M a L.length c L:=by
 have hn:n=ps.length:=O.numN (fun _ _=>rfl) (by decide);have hL:L.length=n:=by rw[<-hl,qai,hn]
 refine⟨⟨ps,OS.rd O H.blk (fun _ _=>rfl) (by decide),?_,hl,fun m hm=>(hok m hm).call H.ext⟩,rfl,by rw[hL];exact O.le⟩
 cases ha:a with
 |none =>
  left;have h8:=O.none' ha;have h9:=O.le;exact qa4 (by omega)
 |some q =>
  right;have h8:=(H.own (q.block,Bl 68 full) (by rw[ha];exact qaa.2 rfl)).elim (fun h=>by cases h) id;obtain⟨qb,qo,qs⟩:=q;exact fun h=>by have:=hM _ h;dsimp only[adr]at this h8;omega
def inR(kf kt:Byt)(k:Byt):Bool := !decide (ltB k kf) && (decide (kt.length=0) || decide (ltB k kt))
def Ga(kf kt:Byt)(L:List Pr):List Pr:=L.filter fun p=>inR kf kt p.1
theorem ZL{kf kt:Byt}{A:List Pr}{p:Pr}:Ga kf kt (A++[p])=Ga kf kt A++if inR kf kt p.1=true then[p]else[]:=by
 unfold Ga;rw[qbn]
 congr 1
 by_cases h:inR kf kt p.1=true
 .rw[if_pos h,qbk,h];rfl
 .rw[if_neg h,qbk,show inR kf kt p.1=false by simpa using h];rfl
structure Dk(w:World)(bx bt bd bp ba:Nat)(A:Dev)(P:List Nat)(F:Mut):Prop where
 dk:w.heap[bx]?=some (Bl 0 [ptr bd,ptr bp,ptr bt])
 T:Tx w bt bd bp ba 10 A P F []
 nx:¬TM F ba bt bp [] bx
theorem ZM(kf:Byt)(L:List Pr):MO kf false (L.map BM)=L.filter fun p => !decide (ltB p.1 kf):=by
 unfold MO;rw[if_neg (by simp)]
 induction L with
 |nil=>rfl
 |cons p L ih =>
  have hd:decide (0<=DU p.1 kf) = !decide (ltB p.1 kf):=by
   by_cases h:ltB p.1 kf
   .rw[qal h,qag (fun h2=>Q7.1 h2 h)];rfl
   .rw[qag h,qal (Q7.2 h)];rfl
  rw[qaz,qbk,qbk,show(BM p).key=p.1 from rfl,hd]
  by_cases h:(!decide (ltB p.1 kf))=true
  .rw[if_pos h,if_pos h,qaz,ih];rfl
  .rw[if_neg h,if_neg h,ih]
theorem Aej(kf:Byt)(a b:List Nd):Lw kf (a++b)=Lw kf a++Lw kf b:=qbc
theorem UW{fr sz:Nat}{A:Dev}(hon:A.on=true)(hl:fr+sz<=A.B.length):∀(h n p d:Nat) (L:List Pr) (S:List Nat),Lies (RD A fr) h p L S->(∀x∈S,x<sz)->sz<=4096->d+h<=16->h<n ->
  (Fg A fr sz n (p:Int) d).1=0/\(Fg A fr sz n (p:Int) d).2.map (·.1)=S.map (fun x:Nat=>(x:Int))/\∀kf,Lw kf (Fg A fr sz n (p:Int) d).2=L.filter fun p => !decide (ltB p.1 kf)
 |0,n+1,p,d,L,S,hL,hs,hz,hd,hn=>by
  have hp:=hs p hL.page;obtain⟨i,M,S',⟨rfl,rfl,rfl⟩,h2,rfl,h4,h5⟩:=hL;have hrd:=Lo hon hp hl (show d<=16 by omega) h2;unfold Fg;rw[hrd];refine⟨rfl,rfl,fun kf=>?_⟩;show MO kf false (L.map BM)++[]=_;rw[qa3,ZM]
 |h+1,n+1,p,d,L,S,hL,hs,hz,hd,hn=>by
  have hp:=hs p hL.page;obtain⟨i,l,S',⟨rfl,hk'⟩,h2,rfl,h4,h5⟩:=hL;have hk:Kids (Lies (RD A fr) h) l L S':=hk';have hrd:=Lo hon hp hl (show d<=16 by omega) h2;have hs':∀x∈S',x<sz:=fun x hx=>hs x (qaj _ hx);have hkid:Kids (fun p L S=>Lies (RD A fr) h p L S/\∀x∈S,x<sz) l L S':=hk.mono fun p L S hsub hq=>⟨hq,fun x hx=>hs' x (hsub x hx)⟩
  obtain⟨b1,b2,b3⟩:(Jg (fun p=>Fg A fr sz n p (d+1)) l).1=0/\(Jg (fun p=>Fg A fr sz n p (d+1)) l).2.map (·.1)=S'.map (fun x:Nat=>(x:Int))/\∀kf,Lw kf (Jg (fun p=>Fg A fr sz n p (d+1)) l).2=L.filter fun p => !decide (ltB p.1 kf):=by
   clear h2 h4 h5 hrd hp hs hk hk'
   induction l generalizing L S' with
   |nil=>obtain⟨rfl,rfl⟩:=hkid;exact⟨rfl,rfl,fun _=>rfl⟩
   |cons x l ih =>
    obtain⟨L1,L2,S1,S2,rfl,rfl,⟨h3,h3s⟩,_,_,h6⟩:=hkid;obtain⟨a1,a2,a3⟩:=UW hon hl h n x.page (d+1) L1 S1 h3 h3s hz (by omega) (by omega);obtain⟨b1,b2,b3⟩:=ih L2 S2 (fun x hx=>hs' x (qax _ hx)) h6;unfold Jg;rw[if_neg (by rw[a1];simp)];exact⟨b1,by rw[qay,qay,a2,b2],fun kf=>by rw[Aej,a3,b3,qbn]⟩
  unfold Fg;rw[hrd];dsimp only;refine⟨b1,by rw[qaz,qaz,b2],fun kf=>?_⟩;show MO kf true l++Lw kf _=_;rw[b3];rfl
theorem Aek{L:List Pr}(hr:Rising L)(kt:Byt):L.takeWhile (fun p=>decide (DU p.1 kt<0))=L.filter fun p=>decide (ltB p.1 kt):=by
 induction L with
 |nil=>rfl
 |cons p L ih =>
  obtain⟨h1,h2⟩:=qbh.1 hr
  have hd:decide (DU p.1 kt<0)=decide (ltB p.1 kt):=by
   by_cases h:ltB p.1 kt
   .rw[qal h,qal (Iw.2 h)]
   .rw[qag h,qag (fun h2=>h (Iw.1 h2))]
  rw[qc4,qbk,hd]
  by_cases h:ltB p.1 kt
  .rw[qal h];simp only[if_true];rw[ih h2]
  .rw[qag h];simp only[qdn,if_false];refine(FJ fun q hq=>qag fun h3=>h (ET (h1 q hq) h3)).symm
theorem Ael{L:List Pr}(hr:Rising L)(kf kt:Byt):XK kt (L.filter fun p => !decide (ltB p.1 kf))=Ga kf kt L:=by
 unfold XK Ga inR
 by_cases hk:kt=[]
 .rw[if_pos hk,hk];simp
 .rw[if_neg hk,Aek (hr.sublist qe0),List.filter_filter]
  congr 1
  funext p
  rw[qag (show ¬kt.length=0 from fun h=>hk (qa4 h)),Bool.false_or,Bool.and_comm]
structure Told(fr:Nat)(A:Dev)(P:List Nat)(root:Int)(L:List Pr)(S:List Nat):Prop where
 may:Ij P.length root=0
 rlo : -1<=root
 rhi:root<P.length
 none:root = -1↔L=[]
 scan:∀kf kt,Ol A fr P.length root kf kt=(0,Ga kf kt L)
 walk:Lu A fr P.length root=(0,Jh (S.map fun x:Nat=>(x:Int)))
 num:(Eu A fr P.length root).2.length=S.length
 get:∀key,X0 A fr P.length key 18 root 0=(0,DO L key)
 len:S.length<=2*L.length
theorem told{fr:Nat}{A:Dev}{P:List Nat}{root:Int}{L:List Pr}{S:List Nat}(hR:Root (RD A fr) root L S)(hon:A.on=true)(hl:fr+P.length<=A.B.length)(hP:P.length<=2000)(hnd:S.Nodup)(hS:∀x∈S,x<P.length)(hr:Rising L):Told fr A P root L S:=by
 rcases hR with⟨rfl,rfl,rfl⟩|⟨h,p,rfl,hL⟩
 .have hm:Ij P.length (-1)=0:=by unfold Ij;rw[if_neg (by omega)]
  have hn:Eu A fr P.length (-1)=(0,[]):=by unfold Eu;rw[if_pos rfl]
  refine⟨hm,by omega,by omega,by simp,fun kf kt=>?_,?_,by rw[hn];rfl,fun key=>?_,qak _⟩
  .unfold Ol;rw[if_neg (by rw[hm];simp),hn,if_neg (by simp)];unfold XK Lw Ga
   split <;> rfl
  .unfold Lu;rw[if_neg (by rw[hm];simp),hn,if_neg (by simp)];rfl
  .rw[Wa,if_pos rfl];rfl
 .have hp:=hS p hL.page;have hm:Ij P.length (p:Int)=0:=by unfold Ij;rw[if_neg (by omega)]
  have hh:=Ajn hL hnd hS hP;obtain⟨e1,e2,e3⟩:=UW hon hl h 18 p 0 L S hL hS (by omega) (by omega) (by omega);have hn:Eu A fr P.length (p:Int)=Fg A fr P.length 18 (p:Int) 0:=by unfold Eu;rw[if_neg (by omega)]
  rw[<-hn]at e1 e2 e3;refine⟨hm,by omega,by omega,⟨fun h=>by omega,fun h=>absurd h hL.ne⟩,fun kf kt=>?_,?_,?_,fun key=>?_,?_⟩
  .unfold Ol;rw[if_neg (by rw[hm];simp),if_neg (by rw[e1];simp),e3,Ael hr]
  .unfold Lu;rw[if_neg (by rw[hm];simp),if_neg (by rw[e1];simp),e2]
  .have:=qab List.length e2
   rwa [qai,qai]at this
  .exact XR key hon hl h 18 p 0 L S hL hr hS (by omega) (by omega)
  .have:=hL.count.2;omega
theorem Px(L:List Pr):Ga [] [] L=L:=Eo fun p _=>by
 unfold inR
 have:¬ltB p.1 []:=by
  cases p.1 with
  |nil=>exact Hw _
  |cons x l=>intro h;cases h
 rw[qag this];rfl
theorem TreeAt.told{fr:Nat}{A:Dev}{P:List Nat}{root:Int}{L:List Pr}(T:TreeAt fr A P root L)(hon:A.on=true)(hl:fr+P.length<=A.B.length)(hP:P.length<=2000):∃S,Told fr A P root L S/\S.Nodup/\(∀x:Nat,x∈S↔P[x]?=some 1\/P[x]?=some 2):=by
 obtain⟨S,hR,hnd,hS⟩:=T.lies;exact⟨S,Go.Proofs.YtcpgbcabmcbclaaGreatDoor.told hR hon hl hP hnd (fun x hx=>((hS x).1 hx).elim (fun h=>(qap.1 h).1) fun h=>(qap.1 h).1) T.rise,hnd,hS⟩
theorem Ajo{fr:Nat}{c:Ch}{i:Bool}{M:List It}{m:Nat}(h:Few c.A m):Few (Ee fr c i M).2.1.A (m+3):=by
 obtain⟨-,-,q3,-⟩:=Lq (fr:=fr) (c:=c) (i:=i) (M:=M) (m:=m);have q3:=q3 h;unfold Ee
 split
 .exact h.mono (by omega)
 .split
  .exact q3.mono (by omega)
  .split
   .exact q3.mono (by omega)
   .split
    .exact(QA q3).mono (by omega)
    .exact q3.mono (by omega)
theorem UX{fr:Nat}{A:Dev}{P:List Nat}{root:Int}{key:Byt}{G:List It->List It}{m:Nat}(h:Few A m):Few (DE fr A P root key G).2.2.A (m+40):=by
 obtain⟨ed,hed⟩:=qD (if root = -1 then(0,⟨A,P,[],[]⟩,false,G [])else CO fr G key 18 ⟨A,P,[],[]⟩ root.toNat 0:Int × Ch × Bool × List It)
 have hb:Few ed.2.1.A (m+36):=by
  rw[hed]
  split
  .exact h.mono (by omega)
  .obtain⟨x1,x2,x3⟩:=Mo (fr:=fr) (G:=G) (key:=key) (m:=m) (n:=18) (c:=⟨A,P,[],[]⟩) (p:=root.toNat) (d:=0);exact x3 h
 have hturn:DE fr A P root key G=if ed.1≠0 then(ed.1,root,DI ed.2.1 ed.1)else if(Ee fr ed.2.1 ed.2.2.1 ed.2.2.2).1≠0 then((Ee fr ed.2.1 ed.2.2.1 ed.2.2.2).1,root,DI (Ee fr ed.2.1 ed.2.2.1 ed.2.2.2).2.1 (Ee fr ed.2.1 ed.2.2.1 ed.2.2.2).1)else(0,(Ee fr ed.2.1 ed.2.2.1 ed.2.2.2).2.2,DI (Ee fr ed.2.1 ed.2.2.1 ed.2.2.2).2.1 0):=by
  unfold DE;rw[hed]
 rw[hturn];have ht:=Ajo (fr:=fr) (i:=ed.2.2.1) (M:=ed.2.2.2) hb
 split
 .exact hb.mono (by omega)
 .split
  .exact ht.mono (by omega)
  .exact ht.mono (by omega)
theorem hm24{P:List Nat}(hP:P.length<=2000):∀h,h=0\/2 ^ (h+1)<=P.length+1->2*h+3<=24:=fun h hh=>by
 rcases hh with rfl|hh
 .omega
 .rcases qbr h 10 with h3|h3
  .omega
  .have:2 ^ 11<=2 ^ (h+1):=qc2 (by omega) (by omega)
   omega
structure Stepped(fr:Nat)(A:Dev)(P:List Nat)(root':Int)(L':List Pr)(A':Dev)(P':List Nat)(mx:Nat):Prop where
 tree:TreeAt fr A' P' root' L'
 aft:After fr A P A' P'
 on:A'.on=true
 few:Few A' mx
theorem After.refl(fr:Nat)(A:Dev)(P:List Nat):After fr A P A P:=⟨fun _ _=>rfl,rfl,fun h=>h,rfl,rfl⟩
theorem UY{fr:Nat}{A:Dev}{P:List Nat}{root:Int}{L:List Pr}{key:Byt}{G:List It->List It}{g:List Pr->List Pr}(act:Acts key G g)(hr:∀L,Rising L->Rising (g L))(T:TreeAt fr A P root L)(hon:A.on=true)(hl:fr+P.length<=A.B.length)(hP:P.length<=2000)(hleft:A.left = -1)(hfree:24<=DD P){mx:Nat}(hfew:Few A mx) :
  (DE fr A P root key G).1=0/\Stepped fr A P (DE fr A P root key G).2.1 (g L) (DE fr A P root key G).2.2.A (DE fr A P root key G).2.2.P (mx+40):=by
 obtain⟨h1,h2⟩:=UV act hr T hon hl hP (hm24 hP)
 rcases h2 with⟨h3,h4,h5⟩|⟨_,_,h3⟩
 .exact⟨h3,h5,h1,h4,UX hfew⟩
 .rcases h3 with⟨_,h3⟩|⟨_,h3⟩
  .exact absurd hleft h3
  .omega
theorem Ajp{fr:Nat}{A:Dev}{P:List Nat}{root:Int}{L:List Pr}{key val:Byt}(T:TreeAt fr A P root L)(hon:A.on=true)(hl:fr+P.length<=A.B.length)(hleft:A.left = -1)(hfree:24<=DD P){mx:Nat}(hfew:Few A mx)(hP:P.length<=2000:=by omega):
  (Dg key.length val.length=false/\JR fr A P root key val=(1,root,A,P))\/(Dg key.length val.length=true/\(JR fr A P root key val).1=0/\Stepped fr A P (JR fr A P root key val).2.1 (HU L key val) (JR fr A P root key val).2.2.1 (JR fr A P root key val).2.2.2 (mx+40)):=by
 obtain⟨S,td,-,-⟩:=T.told hon hl hP;unfold JR;rw[if_neg (by rw[td.may];simp)]
 by_cases hk:Dg key.length val.length=true
 .right;rw[if_pos hk];have hk2:=hk;unfold Dg at hk2;simp only[qao,qaq]at hk2;obtain⟨h1,h2⟩:=UY (XP hk2.1 hk2.2.1 hk2.2.2) (fun L h=>GR h key val) T hon hl hP hleft hfree hfew;exact⟨hk,h1,h2⟩
 .left;rw[if_neg hk];exact⟨by simpa using hk,rfl⟩
theorem Ajq{fr:Nat}{A:Dev}{P:List Nat}{root:Int}{L:List Pr}{key:Byt}(T:TreeAt fr A P root L)(hon:A.on=true)(hl:fr+P.length<=A.B.length)(hleft:A.left = -1)(hfree:24<=DD P){mx:Nat}(hfew:Few A mx)(hP:P.length<=2000:=by omega):
  (Dg key.length 0=false/\Hi fr A P root key=(1,root,false,A,P))\/(Dg key.length 0=true/\(Hi fr A P root key).1=0/\(Hi fr A P root key).2.2.1=(DO L key).isSome/\((DO L key).isSome=false->(Hi fr A P root key).2.1=root) /\
   Stepped fr A P (Hi fr A P root key).2.1 (JD L key) (Hi fr A P root key).2.2.2.1 (Hi fr A P root key).2.2.2.2 (mx+40)):=by
 obtain⟨S,td,-,-⟩:=T.told hon hl hP
 have hget:Oi A fr P.length root key=if Dg key.length 0=true then(0,DO L key)else(1,none):=by
  unfold Oi;rw[if_neg (by rw[td.may];simp),td.get]
 unfold Hi;rw[hget]
 by_cases hk:Dg key.length 0=true
 .right;rw[if_pos hk,if_neg (by simp)]
  cases hg:DO L key with
  |none =>
   rw[if_pos (show((0,(none:Option Byt)):Int × Option Byt).2.isSome=false from rfl),UF hg];exact⟨hk,rfl,rfl,fun _=>rfl,T,After.refl _ _ _,hon,hfew.mono (by omega)⟩
  |some u =>
   rw[if_neg (by simp)];obtain⟨h1,h2⟩:=UY (XQ key) (fun L h=>HV h key) T hon hl hP hleft hfree hfew;exact⟨hk,h1,by dsimp only;rw[qal h1];rfl,(fun h=>by cases h),h2⟩
 .left;rw[if_neg hk,if_pos (by simp)];exact⟨by simpa using hk,rfl⟩
theorem XS{fr:Nat}{A:Dev}{P:List Nat}{root:Int}{L:List Pr}{key:Byt}(T:TreeAt fr A P root L)(hon:A.on=true)(hl:fr+P.length<=A.B.length)(hP:P.length<=2000):Oi A fr P.length root key=if Dg key.length 0=true then(0,DO L key)else(1,none):=by
 obtain⟨S,td,-,-⟩:=T.told hon hl hP;unfold Oi;rw[if_neg (by rw[td.may];simp),td.get]
def Jz(P:List Nat)(k:Nat):Bool:=decide (P[k]?=some 1) || decide (P[k]?=some 2)
def Hj(P:List Nat)(k:Nat):List Nat:=(List.range k).filter (Jz P)
theorem Tc(P:List Nat)(k:Nat):Hj P (k+1)=Hj P k++if Jz P k=true then[k]else[]:=by
 unfold Hj;rw[List.range_succ,qbn]
 congr 1
 by_cases h:Jz P k=true
 .rw[if_pos h,qbk,h];rfl
 .rw[if_neg h,qbk,show Jz P k=false by simpa using h];rfl
section
variable {ops rest:List Oper}{Q:Exit->Env->World->Prop}{e:Env}{w:World}{dst:Option Tmp}{ty:TypeId}{pos:String}{af:Array Edge}{g:Option (Nat × Bool)}{r:Option Nat}
theorem HK(h:∀b w',Ext [] w w'->w.heap.size<=b->w'.heap[b]?=some (Bl 5 [])->AA prog r ops Q rest (put e dst (.slice (some ⟨b,0,none⟩) 0 0)) w')(hg:AJ ⟨dst,.buildSlice 24 0 #[],ty,pos,af,g⟩ ops e=true:=by exact U):AA prog r ops Q (⟨dst,.buildSlice 24 0 #[],ty,pos,af,g⟩::rest) e w :=
 JH hg AX CJ (Ctx.start w []) fun b w' H _=>h b w' H.ext ((H.own (b,Bl 5 []) (qax _ (qaa.2 rfl))).elim (fun h=>by cases h) id) (H.blk (b,Bl 5 []) (qax _ (qaa.2 rfl)))
theorem Mq{x y:Operand}{b c2:Nat}{a2:Option Addr}{l:Byt}(hg:AJ ⟨dst,.call ⟨.builtin .append,#[x,y],#[24,24]⟩,ty,pos,af,g⟩ ops e=true)(hx:ev e x=.slice (some ⟨b,0,none⟩) 0 0)(hy:ev e y=.slice a2 l.length c2)(hb:w.heap[b]?=some (Bl 5 []))(R:Rd w a2 1 B8 l)(h:∀a' c' w',Ext [b] w w'->Rd w' a' 1 B8 l->l.length<=c'->(l=[]\/(adr a').block=b\/w.heap.size<=(adr a').block)->AA prog r ops Q rest (put e dst (.slice a' l.length c')) w')(hl:l.length<=1000000:=by omega):
  AA prog r ops Q (⟨dst,.call ⟨.builtin .append,#[x,y],#[24,24]⟩,ty,pos,af,g⟩::rest) e w:=by
 refine DQ (L:=[]) (a:=some ⟨b,0,none⟩) (n:=0) (c:=0) (full:=[]) (l:=[]) hg AX AX CJ OZ IW U (l.map bv) hx hy (Ctx.start1 hb) ⟨(fun p hp=>by injection hp with hp;subst hp;rfl),(fun hp=>by cases hp),by simp,qae _,by simp⟩ (by simp) (Ht l) (Rd.appB R) fun a' c' full' w' H' O'=>?_;rw[qa2]at O' |-;refine h a' c' w' H'.ext (OS.rdB (by simpa using O') fun y hy=>H'.blk y hy) O'.le ?_
 cases ha:a' with
 |none =>
  left;have h8:=O'.none' ha;have h9:=O'.le;exact qa4 (by omega)
 |some q =>
  have h8:=H'.own (q.block,Bl 5 full') (by rw[ha];exact qaa.2 rfl);obtain⟨qb,qo,qs⟩:=q;exact .inr (h8.imp (fun h=>qaa.1 h) id)
end
theorem Ex{w2 w:World}{l:Byt}{b:Nat}{a:Option Addr}(h:l=[]\/(adr a).block=b\/w.heap.size<=(adr a).block)(hs:w2.heap.size<=w.heap.size)(hb:w2.heap.size<=b:=by omega):l=[]\/w2.heap.size<=(adr a).block:=by
 rcases h with h|h|h
 .exact .inl h
 .exact .inr (by omega)
 .exact .inr (by omega)
theorem JU{w w':World}{l:Byt}{b:Nat}{a:Option Addr}(R:Rd w a 1 B8 l)(h:l=[]\/(adr a).block≠b)(hx:Ext [b] w w'):Rd w' a 1 B8 l:=by
 rcases h with rfl|h
 .exact Rd.nil
 .exact R.ext hx (by simpa using h)
theorem Ajr{w:World}{l:Byt}{b2:Nat}{a:Option Addr}(R:Rd w a 1 B8 l)(h:w.heap.size<=b2):l=[]\/(adr a).block≠b2:=by
 rcases Pi R (fun _ _=>rfl)with h1|h1
 .exact .inl h1
 .exact .inr (by omega)
structure St7 where
 cut:Bool
 key:Byt
 val:Byt
 settle:Bool
structure Sm where
 ka:Option Addr
 kc:Nat
 va:Option Addr
 vc:Nat
 s:St7
def Sm.enc(m:Sm):List Value:=[.bool m.s.cut,.slice m.ka m.s.key.length m.kc,.slice m.va m.s.val.length m.vc,.bool m.s.settle]
theorem Sm.oneE(m:Sm):∀v∈m.enc,Bh v=true:=fun v hv=>by
 simp only[Sm.enc,qac,qam,or_false]at hv
 rcases hv with rfl|rfl|rfl|rfl <;> rfl
structure Sm.Ok(w:World)(M:Mut)(m:Sm):Prop where
 k:Rdx w M m.ka m.s.key
 v:Rdx w M m.va m.s.val
 kc:m.s.key.length<=m.kc
 vc:m.s.val.length<=m.vc
 kl:m.s.key.length<=200
 vl:m.s.val.length<=500
def Td(s:St7)(L:List Pr):List Pr :=
 if s.cut=true then(if Dg s.key.length 0=true then JD L s.key else L)else if Dg s.key.length s.val.length=true then HU L s.key s.val else L
structure Does(w0:World)(bx bt bd bp ba:Nat)(A:Dev)(P:List Nat)(F:Mut)(L':List Pr)(mx:Nat)(v:Value)(w':World):Prop where
 ex:∃(root':Int) (a':Option Addr) (c':Nat) (A':Dev) (P':List Nat) (F':Mut),v=.tuple #[.int .i64 root',.slice a' L'.length c',.bool true]/\Dk w' bx bt bd bp ba A' P' F'/\Grown (TM F ba bt bp []) (TM F' ba bt bp []) w0 w'/\Stepped 10 A P root' L' A' P' (mx+40)/\Prs w' (TM F' ba bt bp []) a' L'.length c' L'
theorem Dk.step{w w':World}{bx bt bd bp ba:Nat}{A A':Dev}{P P':List Nat}{F F':Mut}(D:Dk w bx bt bd bp ba A P F)(T:Tx w' bt bd bp ba 10 A' P' F' [])(t:Grown (TM F ba bt bp []) (TM F' ba bt bp []) w w'):Dk w' bx bt bd bp ba A' P' F' :=
 ⟨t.keep D.dk D.nx,T,fun h=>(t.2 bx h).elim D.nx fun h=>by have:=Al D.dk;omega⟩
theorem Dk.call{w w':World}{bx bt bd bp ba:Nat}{A:Dev}{P:List Nat}{F:Mut}(D:Dk w bx bt bd bp ba A P F)(hx:Ext [] w w'):Dk w' bx bt bd bp ba A P F:=D.step (D.T.call hx) (.call0 hx)
def TS(l:List (Byt × Sv))(x:Wr)(s:Sv):List (Byt × Sv):=if x.d=true then Gr l x.k else JC (Gr l x.k) x.k s
def JV(t:List (Byt × Int))(k:Byt):List (Byt × Int):=JC t k ((BJ t k).getD 0+1)
theorem JW{α:Type}{k:Byt}:∀{m:List (Byt × α)} {p:Byt × α},p∈Gr m k->p∈m
 | [],_,h=>h
 |q::m,p,h=>by
  unfold Gr at h
  split at h
  .exact qaj _ h
  .rcases qac.1 h with rfl|h
   .exact qaf ..
   .exact qaj _ (JW h)
theorem Ov{α:Type}{k:Byt}{v:α}:∀{m:List (Byt × α)} {p:Byt × α},p∈JC m k v->p=(k,v)\/p∈m
 | [],p,h => .inl (qaa.1 h)
 |q::m,p,h=>by
  unfold JC at h
  split at h
  .rcases qac.1 h with h|h
   .exact .inl h
   .exact .inr (qaj _ h)
  .rcases qac.1 h with rfl|h
   .exact .inr (qaf ..)
   .exact(Ov h).imp id (qaj _)
theorem XT{l:List (Byt × Sv)}{x:Wr}{s:Sv}{p:Byt × Sv}(h:p∈TS l x s):(x.d=false/\p=(x.k,s))\/p∈l:=by
 unfold TS at h
 split at h
 .exact .inr (JW h)
 .rename_i hd
  exact(Ov h).imp (fun h=>⟨by simpa using hd,h⟩) JW
theorem Te{t:List (Byt × Int)}{k:Byt}{T:Int}(ht:∀p∈t,0<=p.2/\p.2<=T)(hT:0<=T):(∀p∈JV t k,0<=p.2/\p.2<=T+1)/\0<=(BJ t k).getD 0/\(BJ t k).getD 0<=T:=by
 have h0:0<=(BJ t k).getD 0/\(BJ t k).getD 0<=T:=by
  cases hq:BJ t k with
  |none=>exact⟨Int.le_refl _,hT⟩
  |some z=>exact ht _ (EV hq)
 refine⟨fun p hp=>?_,h0⟩
 rcases Ov hp with rfl|hp
 .dsimp only;omega
 .have:=ht p hp;omega
theorem Ctx.ent_new{w0 w:World}{S:List Nat}{L:List (Nat × Obj)}{a:Option Addr}{t n c:Nat}{full:List Value}{l:Byt}(H:Ctx w0 S w (L++ent a t full))(hS:∀x∈S,∃o,(x,o)∈L)(O:OS a n c 1 full (l.map bv)):l=[]\/w0.heap.size<=(adr a).block:=by
 cases ha:a with
 |none =>
  left;have h8:=O.none' ha;have h9:=O.le;have h10:=O.llen;rw[qai]at h10;exact qa4 (by omega)
 |some q =>
  subst ha;right;have hin:∀y∈ent (some q) t full,y.1=q.block:=fun y hy=>by rw[qaa.1 hy]
  have h1:(q.block,Bl t full)∈ent (some q) t full:=qaa.2 rfl
  rcases H.own _ (qax _ h1)with h|h
  .obtain⟨o,ho⟩:=hS _ h;exact absurd U ((qca.1 H.nd).2.2 (q.block,o) ho (q.block,Bl t full) h1)
  .exact h
theorem Aca{w:World}{bs m1 m2 gen:Nat}{n root T:Int}{dead:Bool}{vd vj vp vt:Value}{o1 o2:Obj}{M:Mut}{l:List (Byt × Sv)}{t:List (Byt × Int)}(H:Ctx w [bs,m1,m2] w [(bs,Bl CU (CN vd vj vp vt gen root m1 m2 n dead)),(m1,o1),(m2,o2)])(K:KvAt w M l o1)(hM2:Ek str (mi t) o2)(hS:∀x∈[bs,m1,m2],M x)(hMb:∀x,M x->x<w.heap.size){M9:Mut}(hS9:∀x∈[bs,m1,m2],M9 x)(m:Wm)(hm:m.Ok w M9)(hf:m.x.Few)(ht:∀p∈t,0<=p.2/\p.2<=T)(hn: -1000000000<=n/\n<=1000000000:=by omega)(hT:0<=T/\T<=1000000000000:=by omega):
  Ret prog 49 #[ptr bs,.agg (CE m).toArray] w fun v w'=>v=.tuple #[]/\∃s o1' o2',Ctx w [bs,m1,m2] w' [(bs,Bl CU (CN vd vj vp vt gen root m1 m2 (n - Jo l m.x.k+H3 m.x) dead)),(m1,o1'),(m2,o2')]/\KvAt w' M (TS l m.x s) o1'/\s.v=m.x.v/\Ek str (mi (JV t m.x.k)) o2':=by
 obtain⟨w0,rfl⟩:=qD w;unfold Wr.Few at hf;obtain⟨htl,ht1,ht2⟩:=Te (k:=m.x.k) ht hT.1
 have hold:0<=Jo l m.x.k/\Jo l m.x.k<=164:=by
  unfold Jo
  cases hq:BJ l m.x.k with
  |none=>simp
  |some s=>have:=K.few _ (EV hq);dsimp only[ME]at this |-;omega
 refine A8 (fn:=f49) func49 U [ptr bs,.agg (CE m).toArray] U ?_
 obtain⟨A,N,C,hz⟩:∃A N C,((BJ l m.x.k).map Sv.enc).getD (.slice none 0 0)=.slice A N C:=by
  cases BJ l m.x.k with
  |none=>exact⟨_,_,_,rfl⟩
  |some s=>exact⟨_,_,_,rfl⟩
 refine Ad (Cu (CE m) (.agg _) U U H ?_);rintro b3 w - H;refine qA (Ad (Af EK U (AH B1 U H at0 U (Kk AX Hm FA U (Rdx.read hm.k H.ext hS9) ?_))));refine IM U U (qA (Ar (Ad (An U (A7 U (Af HH U (AH MJ U H at1 U (Ce U (FU (m:=mv l) (n:=m.x.k) U NK (Fy FA) Sj U U H at2 K.m ?_)))))))));rw[Fh (f:=Sv.enc),hz,qe6];refine AW U (Ai U U (Ai U U (Ak U (Am U (qA (Ad (AF U (qA (Gn 34358689792 (α:=Obj) (fun _=>[]) (fun z w'=>Ek str (mv (Gr l m.x.k)) z/\Ctx w0 [bs,m1,m2] w' [(b3,Bl 56 (CE m)),(bs,Bl CU (CN vd vj vp vt gen root m1 m2 (n - Jo l m.x.k) dead)),(m1,z),(m2,o2)]) U ?_ ?_)))))))))
 .skip
  refine Av _ U ?_ ?_
  .intro h19;obtain⟨s,hq⟩:=qdh.1 h19;rw[hq]at hz;have ho1:Jo l m.x.k=ME m.x.k s.v:=by unfold Jo;rw[hq]
   have hsf:=(K.few _ (EV hq)).2;dsimp only at hsf
   obtain⟨rfl,rfl,rfl⟩:s.a=A/\s.v.length=N/\s.c=C:=by injection hz with h1 h2 h3;exact⟨h1,h2,h3⟩
   refine BV [([0,1,2,3,4,5],6),([7,8,9],10)] (fun z=>z.heap[bs]?=some (Bl CU (CN vd vj vp vt gen root m1 m2 n dead))) [10] mixed (H.drew.get at1) (AD U U ?_);refine C1 U (Bm U (AC Md U (BC DV U (fun _ hx=>(by rw[Aq hx];rfl)) ?_)));refine VB U U (B9 U (AV ?_));replace H:=H.drew;refine Aj qB (JS m.x.k s.v s.a s.c _) U ?_;rintro v w ⟨rfl,rfl⟩;refine Ab (Bb (H.get at1) (AD U U ?_));refine IB U U U (Bm U (AC Md U (AV (Bf (.int _ _) HN U U U H at1 (by(simp;done)) ?_))));rintro w H;refine Ab (CQ U (B4 (Au (An U (A7 U (Af HH U (AH MJ U H at1 U (Ce U (Zh (m:=mv l) (n:=m.x.k) U NK (Fy FA) U U H at2 K.m ?_)))))))));rw[Oq];rintro o5 w hM1 H;refine qA ?_;exact⟨o5,rfl,trivial,hM1,by rw[ho1];exact H⟩
  .intro h19;have hq:BJ l m.x.k=none:=by simpa using h19
   refine Ap (Aa ?_);exact⟨o1,rfl,trivial,by rw[OV hq];exact K.m,by rw[show Jo l m.x.k=0 by(unfold Jo;rw[hq]),Int.sub_zero];exact H⟩
 .rintro o5 j19 w ⟨hM1,H⟩
  have hSL:∀(z:Obj) (y:Obj),∀x∈[bs,m1,m2],∃o,(x,o)∈[(b3,Bl 56 (CE m)),(bs,y),(m1,z),(m2,o2)]:=fun z y x hx=>by
   simp only[qac,qam,or_false]at hx
   rcases hx with rfl|rfl|rfl
   .exact⟨y,by simp⟩
   .exact⟨z,by simp⟩
   .exact⟨o2,by simp⟩
  refine Ar (Ad (Af Jt U (AH Ge U H at0 U (Cl U (qA (Gn 288230101273804800 (α:=Sv × Obj × List (Nat × Obj)) (fun _=>[]) (fun z w'=>z.1.v=m.x.v/\Ek str (mv (TS l m.x z.1)) z.2.1/\(m.x.d=false->(∀w':World,(∀x∈z.2.2,w'.heap[x.1]?=some x.2)->Rd w' z.1.a 1 B8 z.1.v)/\(z.1.v=[]\/w0.heap.size<=(adr z.1.a).block)/\z.1.v.length<=z.1.c)/\Ctx w0 [bs,m1,m2] w' ([(b3,Bl 56 (CE m)),(bs,Bl CU (CN vd vj vp vt gen root m1 m2 (n - Jo l m.x.k+H3 m.x) dead)),(m1,z.2.1),(m2,o2)]++z.2.2)) U ?_ ?_))))))
  .skip
   refine Av _ U ?_ ?_
   .intro hd;replace hd:=C8 hd;have hd':m.x.d=false:=by simpa using hd
    have hnew:H3 m.x=((m.x.k.length+m.x.v.length+4:Nat):Int):=by unfold H3;rw[if_neg (by simp[hd'])];rfl
    refine BV [([0,1,2,3,4,6,7],5),([],8),([],9)] (fun z=>(z.heap[bs]?=some (Bl CU (CN vd vj vp vt gen root m1 m2 (n - Jo l m.x.k) dead))/\z.heap[b3]?=some (Bl 56 (CE m)))) [] mixed (⟨H.drew.get at1,H.drew.get at0⟩) ?_;refine AD U U (C1 U (Bm U (AC HH U (BC MJ U (fun _ hx=>(by rw[Aq hx.1];rfl)) ?_))));refine VB U U (AC EL U (BC B1 U (fun _ hx=>(by rw[Aq hx.2];rfl)) ?_));refine AV ?_;replace H:=H.drew;refine JH U AX CJ H ?_;rintro b43 w H O;refine Ab (Bb (⟨H.get at1,H.get at0⟩) (AD U U ?_));refine AV (DQ U AX AX CJ OZ IW U (m.x.v.map bv) U U H O (by simp) (Ht m.x.v) (Rd.appB (Rdx.read hm.v H.ext hS9)) ?_);clear H O;rintro a46 c46 f46 w H O;rw[qa2 m.x.v.length];replace O:OS a46 m.x.v.length c46 1 f46 (m.x.v.map bv):=(by simpa using O);refine Ab (Bb (⟨H.get at1,H.get at0⟩) (AD U U ?_))
    refine AV (HF (.slice a46 m.x.v.length c46) U NK (Fy FA) U U U H at2 hM1 ?_);rw[show JC (mv (Gr l m.x.k)) m.x.k (.slice a46 m.x.v.length c46)=mv (TS l m.x ⟨a46,c46,m.x.v⟩)by(unfold TS;rw[if_neg (by simp[hd'])];exact Oo (f:=Sv.enc) (x:=⟨a46,c46,m.x.v⟩))];rintro o9 w hM3 H9;have H:Ctx w0 [bs,m1,m2] w ([(b3,Bl 56 (CE m)),(bs,Bl CU (CN vd vj vp vt gen root m1 m2 (n - Jo l m.x.k) dead)),(m1,o9),(m2,o2)]++ent a46 5 f46):=H9;refine Ab (Bb (⟨H.get at1,H.get at0⟩) (B4 (IK [([0,1,2,3,4,5,6],7),([8,9,10],11)] (fun z=>(z.heap[bs]?=some (Bl CU (CN vd vj vp vt gen root m1 m2 (n - Jo l m.x.k) dead))/\z.heap[b3]?=some (Bl 56 (CE m)))) [11] mixed (⟨H.drew.get at1,H.drew.get at0⟩) ?_)));refine AD U U (C1 U (Bm U (AC Md U (BC DV U (fun _ hx=>(by rw[Aq hx.1];rfl)) ?_))));refine VB U U (AC EL U (BC B1 U (fun _ hx=>(by rw[Aq hx.2];rfl)) ?_));refine AV ?_
    replace H:=H.drew;refine Aj qB (JS m.x.k m.x.v m.va m.vc _) U ?_;rintro v w ⟨rfl,rfl⟩;refine Ab (Bb (⟨H.get at1,H.get at0⟩) (AD U U ?_));refine Fl U U (Bm U (AC Md U (AV (Bf (.int _ _) HN U U U H at1 (by(simp;done)) ?_))));rintro w H;refine Ab (CQ U (B4 (Aa ?_)));refine⟨(⟨a46,c46,m.x.v⟩,o9,ent a46 5 f46),rfl,trivial,rfl,hM3,fun _=>⟨fun w' hw'=>OS.rdB O hw',?_,O.le⟩,?_⟩
    .exact Ctx.ent_new H (hSL _ _) O
    .rw[hnew];exact H
   .intro hd;replace hd:=CA hd;have hd':m.x.d=true:=by simpa using hd
    have hnew:H3 m.x=0:=by unfold H3;rw[if_pos hd']
    refine Ap (Aa ?_);exact⟨(⟨none,0,m.x.v⟩,o5,[]),rfl,trivial,rfl,by unfold TS;rw[if_pos hd'];exact hM1,(fun h=>by rw[hd']at h;cases h),by rw[hnew,Int.add_zero];exact H⟩
  .rintro⟨s,o9,E⟩ j37 w ⟨hsv,hM3,hR,H⟩;dsimp only at hsv hM3 hR H;refine Au (An U (A7 U (Af Q6 U (AH Aa7 U H at1 U (Ce U (RA (m:=mi t) (n:=m.x.k) U Sd (Fy FA) zv_3 U U H at3 hM2 ?_))))));rw[show(BJ (mi t) m.x.k).getD (.int .i64 0)=.int .i64 ((BJ t m.x.k).getD 0)by(rw[Fh (f:=Value.int .i64)];cases BJ t m.x.k <;> rfl)];refine Ay U U (HF (.int .i64 ((BJ t m.x.k).getD 0+1)) U Sd (Fy FA) U U U H at3 hM2 ?_);rw[Oo (f:=Value.int .i64)];rintro o10 w hM4 H9;have H:Ctx w0 [bs,m1,m2] w ([(b3,Bl 56 (CE m)),(bs,Bl CU (CN vd vj vp vt gen root m1 m2 (n - Jo l m.x.k+H3 m.x) dead)),(m1,o9),(m2,o10)]++E):=H9;refine Ab (HC U U ?_);refine⟨rfl,s,o9,o10,H.left.drop 1,⟨hM3,fun p hp=>?_,fun p hp=>?_⟩,hsv,hM4⟩
   .rcases XT hp with⟨hd,rfl⟩|hp
    .obtain⟨h1,h2,h3⟩:=hR hd;exact⟨⟨h1 _ fun x hx=>H.blk x (qax _ hx),h2.imp id fun h hMx=>by have h8:(adr s.a).block<w0.heap.size:=hMb _ hMx;omega⟩,h3⟩
    .have h:=K.ok p hp;exact⟨⟨Rdx.read h.1 H.ext hS,h.1.2⟩,h.2⟩
   .rcases XT hp with⟨hd,rfl⟩|hp
    .exact⟨hf.1,by rw[hsv];exact hf.2⟩
    .exact K.few p hp
section
variable {w:World}{bs m1 m2 gen:Nat}{n root:Int}{dead:Bool}{vd vj vp vt:Value}
abbrev deadE(dead:Bool):Int:=if dead=true then 8 else 0
theorem JX(hs:w.heap[bs]?=some (Bl CU (CN vd vj vp vt gen root m1 m2 n dead))):Ret prog 42 #[ptr bs] w fun v w'=>v=.int .i64 (deadE dead)/\w=w':=by
 obtain⟨w0,rfl⟩:=qD w;refine A8 (fn:=f42) func42 U [ptr bs] U (Ad (Ac U (qA (Ar (AB (Ad (An U (BU U2 U ?_))))))));refine Am U (qA (Bz U (Ad (An U (A7 U (Af Abi U (Bd Ge U ((by rw[Aq hs];rfl)) ?_)))))));refine Am U (qA (Av _ U ?_ ?_))
 .intro h1;refine Ad (Ac U (qA (A6 (AK (Ao (AG (v:=(.int _ _)) U U U ?_))))));exact⟨qab (Value.int .i64) (if_pos h1).symm,rfl⟩
 .intro h1;refine Ap (AE (Aa (Ad (Ac U (qA (A6 (AG (v:=(.int _ _)) U U U ?_)))))));exact⟨qab (Value.int .i64) (if_neg (by simp[h1])).symm,rfl⟩
theorem Aem(hs:w.heap[bs]?=some (Bl CU (CN vd vj vp vt gen root m1 m2 n dead))):Ret prog 25 #[ptr bs] w fun v w'=>v=.int .i64 (if dead=true then 0 else n)/\w=w':=by
 obtain⟨w0,rfl⟩:=qD w;refine A8 (fn:=f25) func25 U [ptr bs] U (Ad (Ac U (qA (Ar (Ad (An U (Aj qB (JX hs) U ?_)))))));rintro v w ⟨rfl,rfl⟩;refine Be U U (qA (Av _ U ?_ ?_))
 .intro h1;replace h1:=Bv h1;have hd:dead=true:=by cases dead;exact absurd rfl h1;rfl
  refine Ad (Ac U (qA (A6 (Ao (AG (v:=(.int _ _)) U U U ?_)))));exact⟨qab (Value.int .i64) (if_pos hd).symm,rfl⟩
 .intro h1;replace h1:=Bw h1;have hd:¬dead=true:=fun h=>by rw[h]at h1;cases h1
  refine Ap (Aa (Ad (An U (A7 U (Af Md U (Bd DV U ((by rw[Aq hs];rfl)) ?_))))));refine Ac U (qA (A6 (AG (v:=(.int _ _)) U U U ?_)));exact⟨qab (Value.int .i64) (if_neg hd).symm,rfl⟩
theorem XU(H:Ctx w [bs] w [(bs,Bl CU (CN vd vj vp vt gen root m1 m2 n dead))])(x:Int):Ret prog 47 #[ptr bs,.int .i64 x] w fun v w'=>v=.int .i64 x/\Ctx w [bs] w' [(bs,Bl CU (CN vd vj vp vt gen root m1 m2 n (!decide (x=0))))]:=by
 obtain⟨w0,rfl⟩:=qD w;refine A8 (fn:=f47) func47 U [ptr bs,.int .i64 x] U (Ad (Ac U (qA (Ad (An U (Ae U (Be U U (A7 U (Af Abi U (Bf (.bool _) Ahq U U U H at0 (by(simp;done)) ?_))))))))));rintro w H;refine qA (Ad (Ae U (Ac U (qA (A6 (AG (v:=(.int _ _)) U U U ?_))))));exact⟨rfl,H⟩
def L4(l:List (Byt × Sv))(k:Byt):Byt:=((BJ l k).map Sv.v).getD []
theorem Al7{o1:Obj}{M:Mut}{l:List (Byt × Sv)}(hs:w.heap[bs]?=some (Bl CU (CN vd vj vp vt gen root m1 m2 n false)))(h1m:w.heap[m1]?=some o1)(K:KvAt w M l o1)(a:Option Addr)(c:Nat)(k:Byt)(Rk:Rd w a 1 B8 k) :
  Ret prog 26 #[ptr bs,.slice a k.length c] w fun v w'=>∃a' c',v=.tuple #[.slice a' (L4 l k).length c',.bool (BJ l k).isSome,.int .i64 0]/\Rd w' a' 1 B8 (L4 l k)/\Ext [] w w':=by
 obtain⟨w0,rfl⟩:=qD w
 obtain⟨A,C,hz,hR,hlen⟩:∃A C,((BJ l k).map Sv.enc).getD (.slice none 0 0)=.slice A (L4 l k).length C/\Rd w0 A 1 B8 (L4 l k)/\(L4 l k).length<=128:=by
  unfold L4
  cases hq:BJ l k with
  |none=>exact⟨none,0,rfl,Rd.nil,by simp⟩
  |some s=>exact⟨s.a,s.c,rfl,(K.ok _ (EV hq)).1.1,(K.few _ (EV hq)).2⟩
 refine A8 (fn:=f26) func26 U [ptr bs,.slice a k.length c] U (Ad (Ak U (Am U (Ac U (qA (Ar (Ad (An U (Aj qB (JX hs) U ?_)))))))));rintro v w ⟨rfl,rfl⟩;have H:=Ctx.start w0 [];refine Ac U (qA (Ad (Ae U (Be U U (qA (Av _ U ?_ ?_))))))
 .intro h1;replace h1:=Bv h1;exact absurd U h1
 .intro h1;replace h1:=Bw h1;refine Ap (Aa (J9 (fun x=>x=_) mixed U ?_));refine Ha U (El U (BP HH U (Ig MJ U (by rintro _ rfl;exact((by rw[Aq (w:=World.drew w0) hs];rfl))) ?_)));refine Gm U (Zd U AX Hm FA U (by rintro _ rfl;exact Rk.ext0 (Ext.drew [] _)) ?_);refine WK k U NK (Fy FA) Sj U U (by rintro _ rfl;exact h1m) K.m ?_;rw[Fh (f:=Sv.enc),hz,qe6];refine Ak2 U U (Uj U U U (Uj U U U (Uo U U (Ac8 U U (Js ?_)))));rintro _ rfl;replace H:=H.drew;refine Ad (Ah U (Aj qB (JN A C _ (L4 l k) _ (hR.ext0 (Ext.drew [] _)) U) U ?_));rintro v w ⟨F,-⟩;obtain⟨a24,c24,rfl,R24,hc24⟩:=Fresh.rdB F;refine AF U (Ak U (Am U (Ac U (qA (A6 (CX (v1:=(.slice _ _ _)) (v2:=(.bool _)) (v3:=(.int _ _)) U U U U U ?_))))));exact⟨a24,c24,rfl,R24,(Ext.drew [] _).trans F.ext⟩
end
structure Stp where
 op:Int
 gen:Nat
 ba:Option Addr
 bc:Nat
 b:Byt
 n:Int
 pos:Nat
 by':UInt8
 pa:Option Addr
 pc:Nat
 picks:List Int
abbrev I64:Int->List Value:=fun x=>[.int .i64 x]
def Stp.enc(x:Stp):List Value:=[.int .i64 x.op,.int .u64 (x.gen:Int),.slice x.ba x.b.length x.bc,.int .i64 x.n,.int .u16 (x.pos:Int),bv x.by',.slice x.pa x.picks.length x.pc]
structure Stp.Ok(w:World)(x:Stp):Prop where
 rb:Rd w x.ba 1 B8 x.b
 rp:Rd w x.pa 1 I64 x.picks
 cb:x.b.length<=x.bc
 cp:x.picks.length<=x.pc
 mb:x.b.length<=140737488351232
 mp:x.picks.length<=140737488351232
 gen:x.gen<18446744073709551616
 n1 : -9223372036854775808<=x.n
 n2:x.n<=9223372036854775807
 pos:x.pos<65536
 picks:∀i∈x.picks,-9223372036854775808<=i/\i<=9223372036854775807
def sumH(l:List Stp):Nat:=(l.map fun x=>x.b.length+x.picks.length).sum
def heavyB(l:List Stp):Bool:=decide (40<l.length) || decide (20000<sumH (l.take 100))
def Al8(x:Stp):Byt:=if x.b.length<=497 then DH x.gen x.b else zeros
def rawB(x:Stp):Byt:=(Al8 x).modify (x.pos % 512) fun c=>c ^^^ x.by'
structure Two(w0 w:World)(bd rd:Nat)(A B:Dev)(F G:Nat->Prop):Prop where
 ext:Ext [] w0 w
 dev:DevAt w bd A F
 ref:RefAt w rd B G
 f:∀x,F x->w0.heap.size<=x/\x<w.heap.size
 g:∀x,G x->w0.heap.size<=x/\x<w.heap.size
 fg:∀x,F x->¬G x
structure Still(F G F' G':Nat->Prop)(w w':World):Prop where
 blk:∀b,b<w.heap.size->¬F b->¬G b->w'.heap[b]?=w.heap[b]?
 fg:∀b,b<w.heap.size->¬F b->¬G b->¬F' b/\¬G' b
 size:w.heap.size<=w'.heap.size
def Free(w:World)(F G:Nat->Prop)(b:Nat):Prop:=b<w.heap.size/\¬F b/\¬G b
theorem Free.go{w w':World}{F G F' G':Nat->Prop}{b:Nat}(h:Free w F G b)(s:Still F G F' G' w w'):Free w' F' G' b :=
 ⟨qau h.1 s.size,s.fg b h.1 h.2.1 h.2.2⟩
theorem Rd.same{w w':World}{α:Type}{a:Option Addr}{s:Nat}{enc:α->List Value}{l:List α}(R:Rd w a s enc l)(h:w'.heap[(adr a).block]?=w.heap[(adr a).block]?):Rd w' a s enc l :=
 ⟨R.some',fun i x hx j v hv hj=>by
  have h1:=R.cell i x hx j v hv hj;unfold World.cell? at h1 |-
  rw[h];exact h1⟩
def RdF{α:Type}(w:World)(F G:Nat->Prop)(a:Option Addr)(s:Nat)(enc:α->List Value)(l:List α):Prop:=Rd w a s enc l/\(l=[]\/Free w F G (adr a).block)
theorem RdF.go{α:Type}{w w':World}{F G F' G':Nat->Prop}{a:Option Addr}{s:Nat}{enc:α->List Value}{l:List α}(h:RdF w F G a s enc l)(t:Still F G F' G' w w'):RdF w' F' G' a s enc l:=by
 obtain⟨R,hn⟩:=h
 rcases hn with rfl|hn
 .exact⟨Rd.nil,.inl rfl⟩
 .exact⟨Rd.same R (t.blk _ hn.1 hn.2.1 hn.2.2),.inr (hn.go t)⟩
def BlF(w:World)(F G:Nat->Prop)(b:Nat)(o:Obj):Prop:=w.heap[b]?=some o/\Free w F G b
theorem BlF.go{w w':World}{F G F' G':Nat->Prop}{b:Nat}{o:Obj}(h:BlF w F G b o)(t:Still F G F' G' w w'):BlF w' F' G' b o :=
 ⟨by rw[t.blk _ h.2.1 h.2.2.1 h.2.2.2];exact h.1,h.2.go t⟩
theorem Still.call{w w':World}{F G:Nat->Prop}(hx:Ext [] w w'):Still F G F G w w':=⟨fun b hb _ _=>hx.block b hb (by simp),fun _ _ h1 h2=>⟨h1,h2⟩,hx.size⟩
theorem rd_lt{w:World}{α:Type}{a:Option Addr}{s:Nat}{enc:α->List Value}{l:List α}(R:Rd w a s enc l)(hs:0<s)(he:∀x∈l,(enc x).length=s):l=[]\/(adr a).block<w.heap.size:=by
 cases l with
 |nil=>exact .inl rfl
 |cons x l =>
  obtain⟨v,hv⟩:=AP (l:=enc x) (i:=0) (h:=by have:=he x (qaf ..);omega);have h9:=World.block_lt_of_cell? w ⟨(adr a).block,_,none⟩ (R.cell 0 x rfl 0 _ hv hs);exact .inr h9
section
variable {w0 w w':World}{bd rd:Nat}{A B A' B':Dev}{F G:Nat->Prop}
theorem Two.call(T:Two w0 w bd rd A B F G)(hx:Ext [] w w'):Two w0 w' bd rd A B F G :=
 ⟨T.ext.trans hx,T.dev.keep0 hx,T.ref.keep0 hx,fun x h=>by have:=T.f x h;have:=hx.size;omega,fun x h=>by have:=T.g x h;have:=hx.size;omega,T.fg⟩
theorem Two.devs(T:Two w0 w bd rd A B F G)(h:DevAt w' bd A' F)(t:Turn F w w'):Two w0 w' bd rd A' B F G/\Still F G F G w w':=by
 have h1:=t.size;have hx0:=t.new T.ext fun x h=>(T.f x h).1;obtain⟨S,hS,hx⟩:=t;exact⟨⟨hx0,h,T.ref.keep hx fun x h=>T.fg x (hS x h),fun x h=>by have:=T.f x h;omega,fun x h=>by have:=T.g x h;omega,T.fg⟩,⟨fun b hb hF _=>hx.block b hb fun h=>hF (hS b h),fun b _ hF hG=>⟨hF,hG⟩,h1⟩⟩
theorem Two.old{α:Type}{a:Option Addr}{s:Nat}{enc:α->List Value}{l:List α}(T:Two w0 w bd rd A B F G)(R:Rd w0 a s enc l)(hs:0<s)(he:∀x∈l,(enc x).length=s):RdF w F G a s enc l :=
 ⟨R.ext0 T.ext,(rd_lt R hs he).imp id fun h=>⟨qau h T.ext.size,fun h'=>by have:=T.f _ h';omega,fun h'=>by have:=T.g _ h';omega⟩⟩
theorem Two.newer(T:Two w0 w bd rd A B F G){b:Nat}(h1:w.heap.size<=b)(h2:b<w'.heap.size):Free w' F G b :=
 ⟨h2,fun h=>by have:=T.f _ h;omega,fun h=>by have:=T.g _ h;omega⟩
end
theorem Stp.one(x:Stp):∀v∈x.enc,Bh v=true:=fun v hv=>by
 simp only[Stp.enc,bv,qac,qam,or_false]at hv
 rcases hv with rfl|rfl|rfl|rfl|rfl|rfl|rfl <;> rfl
theorem Stp.Ok.ext{w w':World}{x:Stp}(h:x.Ok w)(hx:Ext [] w w'):x.Ok w':=⟨h.rb.ext0 hx,h.rp.ext0 hx,h.cb,h.cp,h.mb,h.mp,h.gen,h.n1,h.n2,h.pos,h.picks⟩
def Cz(b:Byt)(i:Nat):Byt:=(b.drop (480*i)).take 480
theorem Nm(b:Byt)(i:Nat):(Cz b i).length=min 480 (b.length - 480*i):=by rw[Cz,qa0,qbg]
theorem Rd.boxX{w w':World}{a a2:Option Addr}{l:Byt}{b t n c:Nat}(R:Rd w a 1 B8 l)(hb:w.heap[b]?=some (Bl t [.slice a2 n c]))(he:Ext [b] w w'):Rd w' a 1 B8 l:=by
 cases l with
 |nil=>exact Rd.nil
 |cons x l =>
  refine R.ext he fun h=>?_;have h1:=R.cell 0 x rfl 0 (bv x) rfl (by decide);rw[qaa.1 h,Aq hb]at h1;have h2:=qad h1;simp[bv]at h2
theorem Al9(a:Option Addr)(c i s:Nat):(adr (EH a c i s)).block=(adr a).block:=by
 unfold EH;split
 .rfl
 .cases a with
  |none=>rfl
  |some p =>
   obtain⟨b,o,sp⟩:=p;show(adr (some (Addr.add ⟨b,o,sp⟩ (i*s)))).block=b;unfold Addr.add
   by_cases h:i*s=0 <;> simp[h,adr]
theorem ZN{w:World}{l bx c:Nat}{a:Option Addr}{b:Byt}(hx:w.heap[bx]?=some (Bl 24 [.slice a b.length c]))(R:Rd w a 1 B8 b)(hc:b.length<=c)(hm:b.length<=100000000)(J:Nat->World->Prop)(K:World->Prop)(hJ0:J 0 w)(hst:∀i w' w'',J i w'->Ext [bx] w' w''->J i w'')(hround:∀i ai ci w',i<blk b.length - 1->J i w'->Rd w' ai 1 B8 (Cz b i)->(adr ai).block=(adr a).block->(∃a' n' c',w'.heap[bx]?=some (Bl 24 [.slice a' n' c'])) ->
   Go.GV.YieldAt prog l [.int .i64 (i:Int),.slice ai (Cz b i).length ci] w' fun u w''=>w''.heap[bx]?=w'.heap[bx]? /\ (b=[]\/w''.heap[(adr a).block]?=w'.heap[(adr a).block]?)/\∃t,u=.bool t/\(t=true->J (i+1) w'')/\(t=false->K w'')) :
  Ret prog 142 #[.func (.yield l) #[] #[],ptr bx] w fun _ w'=>J (blk b.length - 1) w'\/K w':=by
 obtain⟨w0,rfl⟩:=qD w;have hb2:=Er b.length;have hb3:=Pn b.length;refine A8 (fn:=f142) func142 U [.func (.yield l) #[] #[],.pointer (some ⟨bx,0,none⟩)] U ?_;refine Ad (Bd B1 U (Aq hx _) ?_);refine AO AX U (Aj qB (Gx (b.length:Int) _) U ?_);rintro v w ⟨rfl,rfl⟩;rw[Ja];refine BD U U ?_;refine Ae U (qA (AB (B6 67108376 (α:=Nat × Option Addr × Nat) (fun s=>[(9,.int .i64 s.1)]) (fun s w'=>s.1<=blk b.length - 1/\J s.1 w'/\w'.heap[bx]?=some (Bl 24 [.slice s.2.1 (b.drop (480*s.1)).length s.2.2])/\Rd w' s.2.1 1 B8 (b.drop (480*s.1))/\(b.drop (480*s.1)).length<=s.2.2/\(adr s.2.1).block=(adr a).block) (fun s=>blk b.length - 1 - s.1) (0,a,c) U ?_ ?_ ?_)))
 .exact⟨rfl,trivial⟩
 .exact⟨qak _,hJ0,hx,R,hc,rfl⟩
 .rintro⟨i,ai,ci⟩ j w ⟨hi,hJ,hx,R,hc,ha⟩;dsimp only at hi hJ hx R hc ha;dsimp only;refine Ad (Bj U U (qA (Ar (Av _ U ?_ ?_))))
  .intro h1;replace h1:=AR h1;have hcl:=Nm b i;have hdl:(b.drop (480*i)).length=b.length - 480*i:=qbg;refine Ap (Aa (Ar (AB (Ad (Ae U (Ac U (qA (Ad (Bd B1 U (Aq hx _) ?_)))))))));refine AO AX U (V8 U U U ?_);rw[show min (480:Int) ((b.drop (480*i)).length:Int)=((Cz b i).length:Int)by omega];refine Ac U (qA (Ar (Ad (DY U (.func _ _ _) U ?_))));refine Ae U (Bd B1 U (Aq hx _) ?_);refine Ae U (Eg AX CJ U U ?_);refine RE U U (hround i ai ci w (by omega) hJ (R.take 480) ha ⟨_,_,_,hx⟩) U ?_;rintro _ w5 ⟨hbx5,hba5,t,rfl,hT,hF⟩;refine Cl U (qA (Av _ U ?_ ?_))
   .intro h2;replace h2:=C8 h2;refine A6 (Ao (AK (Ao (Ao (AK (Af0 U U ?_))))));exact .inr (hF (by simpa using h2))
   .intro h2;replace h2:=CA h2;have hx5:w5.heap[bx]?=some (Bl 24 [.slice ai (b.drop (480*i)).length ci]):=hbx5.trans hx
    have R5:Rd w5 ai 1 B8 (b.drop (480*i)):=by
     rcases hba5 with h0|h0
     .rw[h0];simp only[List.drop_nil];exact Rd.nil
     .exact Rd.same R (by rw[ha];exact h0)
    have H:=Ctx.start1 hx5;refine Ap (Aa (Au (AH B1 U H at0 U (Ae U (FB AX CJ U U ?_)))));refine Bf (.slice _ _ _) Gg U U U H at0 (by(simp;done)) ?_;rintro w H;refine Ab (AE (Aa (Au (Ay U U ?_))));refine Ae U (qA ?_);have hnl:(b.drop (480*(i+1))).length=b.length - 480*(i+1):=qbg;have Rc:=R5.cut (Cz b i).length ci hc
    have hde:(b.drop (480*i)).drop (Cz b i).length=b.drop (480*(i+1)):=by
     rw[qdq]
     by_cases h480:480<=b.length - 480*i
     .congr 1;omega
     .rw[qd1 (by omega),qd1 (by omega)]
    rw[hde]at Rc;refine⟨(i+1,EH ai ci (Cz b i).length 1,ci - (Cz b i).length),rfl,⟨rfl,trivial⟩,⟨by dsimp only;omega,hst _ _ _ (hT (by simpa using h2)) H.ext,?_,Rd.boxX Rc hx5 H.ext,by dsimp only;omega,(Al9 ..).trans ha⟩,by dsimp only;omega⟩;dsimp only;rw[H.get at0,show(b.drop (480*(i+1))).length=(b.drop (480*i)).length - (Cz b i).length by omega];rfl
  .intro h1;replace h1:=AU h1;have hib:i=blk b.length - 1:=by omega
   subst hib;refine B2 (Aw (Aw (AZ (HC U U ?_))));exact .inl hJ
theorem Aen(a:Option Addr)(n c:Nat)(w:World):Ret prog 117 #[.slice a n c] w fun v w'=>∃bx,v=.func (.func 142) #[] #[ptr bx]/\w'.heap[bx]?=some (Bl 24 [.slice a n c])/\w.heap.size<=bx/\Ext [] w w':=by
 obtain⟨w0,rfl,H⟩:=qE w;refine A8 (fn:=f117) func117 U [.slice a n c] U (Ad (Cu _ (.slice _ _ _) U U H ?_));rintro b1 w - H;refine Ei U .nilFunc U (qA (Ad (CG [.pointer _] U (Ei U (.func _ _ _) U ?_))));refine qA (A6 (AG (v:=(.func _ _ _)) U U U ?_));exact⟨b1,rfl,H.get at0,(H.own _ (qaf ..)).elim (fun h=>by cases h) id,H.ext⟩
theorem Ow{P:Program}{e:Env}{w:World}{fn:Func}{R:Value->World->Prop}{a:Tmp}{t:TypeId}{p:Addr}(hr:fn.results=#[.cell a t])(ha:e.g a=.pointer (some p))(h:Marks e.ds w fun w'=>∃v,(loadVar t p).run P w'=.ok v w'/\R v w'):Aa3 P fn R .ret e w :=
 Marks.mono (fun w ⟨v,hv,h⟩ tmps ht=>by
  have h1:=(ht a).trans ha;rw[qbt]at h1
  exact⟨v,by simp[results,hr,h1,asAddr,hv],h⟩) h
def wrP(A:Dev)(J:Jr)(b:Byt):Nat->Int × Dev
 |0=>(0,A)
 |i+1=>if(wrP A J b i).1=0 then(Oh (wrP A J b i).2 J i 1 (CY J.seq i (Cz b i)),Ku (wrP A J b i).2 J i 1 (CY J.seq i (Cz b i)))else wrP A J b i
theorem XV{A:Dev}{J:Jr}{b:Byt}{i:Nat}(h:(wrP A J b i).1≠0):∀n,i<=n->wrP A J b n=wrP A J b i
 |0,hn=>by rw[show i=0 by omega]
 |n+1,hn=>by
  by_cases hi:i=n+1
  .rw[hi]
  .have ih:=XV h n (by omega);have h9:wrP A J b (n+1)=if(wrP A J b n).1=0 then(Oh (wrP A J b n).2 J n 1 (CY J.seq n (Cz b n)),Ku (wrP A J b n).2 J n 1 (CY J.seq n (Cz b n)))else wrP A J b n:=rfl;rw[h9,if_neg (by rw[ih];exact h),ih]
theorem Ox{A:Dev}{J:Jr}{b:Byt}{m:Nat}(h:Few A m):∀i,Few (wrP A J b i).2 (m+i)
 |0=>h
 |i+1=>by
  unfold wrP
  split
  .exact Hv (Ox h i) _ _
  .exact(Ox h i).mono (by omega)
def CZ(A:Dev)(J:Jr)(b:Byt):Int × Dev :=
 if(wrP A J b (blk b.length - 1)).1=0 then
  (if Ds (wrP A J b (blk b.length - 1)).2=0 then
   (if Oh (Cq (wrP A J b (blk b.length - 1)).2) J (blk b.length - 1) 2 (Hh J.seq b)=0 then
    (Ds (Ku (Cq (wrP A J b (blk b.length - 1)).2) J (blk b.length - 1) 2 (Hh J.seq b)),Cq (Ku (Cq (wrP A J b (blk b.length - 1)).2) J (blk b.length - 1) 2 (Hh J.seq b)))
   else(Oh (Cq (wrP A J b (blk b.length - 1)).2) J (blk b.length - 1) 2 (Hh J.seq b),Ku (Cq (wrP A J b (blk b.length - 1)).2) J (blk b.length - 1) 2 (Hh J.seq b)))
  else(Ds (wrP A J b (blk b.length - 1)).2,Cq (wrP A J b (blk b.length - 1)).2))
 else wrP A J b (blk b.length - 1)
structure Dv(w0 w:World)(bd:Nat)(A:Dev)(F F':Nat->Prop)(L:List (Nat × Obj)):Prop where
 dev:DevAt w bd A F'
 turn:Turn F w0 w
 own:∀x,F' x->F x\/(w0.heap.size<=x/\x<w.heap.size)
 lt:∀x,F' x->x<w.heap.size
 blk:∀x∈L,w.heap[x.1]?=some x.2
 off:∀x∈L,¬F' x.1
theorem Dv.step{w0 w w':World}{bd:Nat}{A A':Dev}{F F':Nat->Prop}{L:List (Nat × Obj)}(D:Dv w0 w bd A F F' L)(h:DevAt w' bd A' (grow F' w w'))(t:Turn F' w w'):Dv w0 w' bd A' F (grow F' w w') L:=by
 have h1:=t.size;have h0:=D.turn.size;have ht:Turn F w0 w':=D.turn.trans t fun x h=>(D.own x h).elim .inl fun h => .inr h.1;obtain⟨S,hS,hx⟩:=t;refine⟨h,ht,fun x hx=>?_,fun x hx=>?_,fun x hx'=>?_,fun x hx' hg=>?_⟩
 .rcases hx with hx|hx
  .rcases D.own x hx with h|h
   .exact .inl h
   .exact .inr ⟨h.1,by omega⟩
  .exact .inr ⟨by omega,hx.2⟩
 .rcases hx with hx|hx
  .have:=D.lt x hx;omega
  .exact hx.2
 .rw[hx.block x.1 (Al (D.blk x hx')) fun h=>D.off x hx' (hS _ h)];exact D.blk x hx'
 .rcases hg with hg|hg
  .exact D.off x hx' hg
  .have:=Al (D.blk x hx');omega
theorem Dv.same{w0 w w':World}{bd:Nat}{A A':Dev}{F F':Nat->Prop}{L:List (Nat × Obj)}(D:Dv w0 w bd A F F' L)(h:DevAt w' bd A' F')(t:Turn F' w w'):Dv w0 w' bd A' F F' L:=by
 have h1:=t.size;have ht:Turn F w0 w':=D.turn.trans t fun x h=>(D.own x h).elim .inl fun h => .inr h.1;obtain⟨S,hS,hx⟩:=t
 exact⟨h,ht,fun x hx=>(D.own x hx).elim .inl fun h => .inr ⟨h.1,by omega⟩,fun x hx=>by have:=D.lt x hx;omega,fun x hx'=>by
  rw[hx.block x.1 (Al (D.blk x hx')) fun h=>D.off x hx' (hS _ h)];exact D.blk x hx',D.off⟩
theorem Dv.call{w0 w w':World}{bd:Nat}{A:Dev}{F F':Nat->Prop}{L:List (Nat × Obj)}(D:Dv w0 w bd A F F' L)(hx:Ext [] w w'):Dv w0 w' bd A F F' L:=D.same (D.dev.keep0 hx) (.of0 hx)
theorem Dv.other{w0 w w':World}{bd:Nat}{A:Dev}{F F':Nat->Prop}{L L':List (Nat × Obj)}(D:Dv w0 w bd A F F' L){b:Nat}(hx:Ext [b] w w')(hb:w0.heap.size<=b)(hn:¬F' b)(hL:∀x∈L',w'.heap[x.1]?=some x.2/\¬F' x.1):Dv w0 w' bd A F F' L':=by
 have h1:=hx.size;refine⟨D.dev.keep hx fun x h=>by rw[qaa.1 h];exact hn,D.turn.trans (.of hx (S:=[b]) (F:=fun x=>x=b) fun x h=>qaa.1 h) fun x h => .inr (by rw[h];exact hb),fun x hx=>(D.own x hx).elim .inl fun h => .inr ⟨h.1,by omega⟩,fun x hx=>by have:=D.lt x hx;omega,fun x h=>(hL x h).1,fun x h=>(hL x h).2⟩
theorem Dv.sub{w0 w:World}{bd:Nat}{A:Dev}{F F':Nat->Prop}{L L':List (Nat × Obj)}(D:Dv w0 w bd A F F' L)(h:∀x∈L',x∈L):Dv w0 w bd A F F' L':=⟨D.dev,D.turn,D.own,D.lt,fun x hx=>D.blk x (h x hx),fun x hx=>D.off x (h x hx)⟩
theorem ZO{Q:Exit->Env->World->Prop}{e:Env}{w:World}{j:Option Code}(hj:j=some .ret)(h:Q .ret e w):OK Q e w j:=by subst hj;exact h
theorem Kv{w0 w:World}{bd bj b4 Db:Nat}{A:Dev}{F F':Nat->Prop}{L:List (Nat × Obj)}{e:Int}{oj:Obj}{d:Deferred}(D:Dv w0 w bd A F F' ((b4,Bl 28 [.int .i64 e])::L))(hd:d.target=.collected Db)(hDm:(Db,.deferred (some []))∈L)(hDb:w0.heap.size<=Db)(hjm:(bj,oj)∈L)(hjD:bj≠Db)(h4D:b4≠Db) :
  Marks [d] w fun w'=>∃v,(loadVar 28 ⟨b4,0,none⟩).run prog w'=.ok v w'/\(v=.int .i64 e/\∃F',Dv w0 w' bd A F F' [(bj,oj)]):=by
 refine⟨Db,hd,D.blk _ (qaj _ hDm),?_⟩;have hx:=Ext.setB w Db (.deferred none)
 have h4:(w.putObj Db (.deferred none)).heap[b4]?=some (Bl 28 [.int .i64 e]):=by
  rw[hx.block b4 (Al (D.blk _ (qaf ..))) (by simpa using h4D)];exact D.blk _ (qaf ..)
 refine⟨_,Hp EY (Aq h4 0),rfl,F',D.other hx hDb (D.off _ (qaj _ hDm)) fun x hx'=>?_⟩;rw[qaa.1 hx'];exact⟨by rw[hx.block bj (Al (D.blk _ (qaj _ hjm))) (by simpa using hjD)];exact D.blk _ (qaj _ hjm),D.off _ (qaj _ hjm)⟩
theorem Aeo{w:World}{bj bd:Nat}{J:Jr}{A:Dev}{F:Nat->Prop}(h:w.heap[bj]?=some (Bl TJ (JB bd J)))(hJ:J.Ok)(a:Option Addr)(c n:Nat)(b:Byt)(R:Rd w a 1 B8 b)(hn:b.length=n)(hm:n<=900000)(hc:n<=c)(hlt:∀x,F x->x<w.heap.size)(hFj:¬F bj)(hFa:b=[]\/¬F (adr a).block){mx:Nat}(hfew:Few A mx)(hmx:mx<=1000000000)(DA:DevAt w bd A F) :
  Ret prog 87 #[ptr bj,.slice a n c] w fun v w'=>v=.int .i64 (CZ A J b).1/\∃F',Dv w w' bd (CZ A J b).2 F F' [(bj,Bl TJ (JB bd J))]:=by
 subst hn;obtain⟨w0,rfl,H⟩:=qE w;have hjl:=Al h;have hbl:=Rd.lt8 R;have hb2:=Er b.length;have hb3:=Pn b.length;refine JK (fn:=Tryz.f87) func87 U [.pointer (some ⟨bj,0,none⟩),.slice a b.length c] U ?_;refine Ad (Cu _ (.pointer _) U U H ?_);rintro b2 w - H;refine Bi WW H ?_;rintro b4 w - H;refine qA (Ar (Ad (Ah U (Aj qB (Aen a b.length c _) U ?_))));rintro v w ⟨bx,rfl,hbx,hbxn,hx11⟩;refine qA (AB ?_);have ho2:w0.heap.size<=b2:=(H.own _ (qaj _ (qaf ..))).elim (fun h=>by cases h) id;have ho4:w0.heap.size<=b4:=(H.own _ (qaf ..)).elim (fun h=>by cases h) id;have hl2:=H.lt at1;have hl4:=H.lt at0;have hb24:=H.ne at0 at1 (by decide);replace H:=H.call hx11;have hbxL:=Al hbx;refine HM U qB ?_;intro fn tmps hts htm Db l w2 hDb hl hx2 hD hrec
 obtain⟨lo,hlo,hrec'⟩:∃lo,lo=_/\w2.heap[l]?=some (.loop lo):=⟨_,rfl,hrec⟩;have H2:=H.call hx2;have hbx2:w2.heap[bx]?=some (Bl 24 [.slice a b.length c]):=by rw[hx2.block bx hbxL (by simp)];exact hbx
 have hx02:Ext [] w0 w2:=H2.ext;have hnew:∀x,w0.heap.size<=x->¬F x:=fun x hx hF=>by have:=hlt x hF;omega
 have hj2:w2.heap[bj]?=some (Bl TJ (JB bd J)):=by rw[hx02.block bj hjl (by simp)];exact h
 obtain⟨L,hL⟩:=qD ([(bj,Bl TJ (JB bd J)),(b2,Bl 81 [ptr bj]),(Db,.deferred (some []))]:List (Nat × Obj))
 have D2:Dv w0 w2 bd A F F ((l,.loop lo)::(b4,Bl 28 [.int .i64 0])::L):=by
  refine⟨DA.keep0 hx02,.of0 hx02,fun x h => .inl h,fun x hx=>by have:=hlt x hx;have:=hx02.size;omega,fun x hx=>?_,fun x hx=>?_⟩
  .rw[hL]at hx;simp only[qac,qam,or_false]at hx
   rcases hx with rfl|rfl|rfl|rfl|rfl
   .exact hrec'
   .exact H2.get at0
   .exact hj2
   .exact H2.get at1
   .exact hD
  .rw[hL]at hx;simp only[qac,qam,or_false]at hx;have h1:=hx11.size;have h2:=H.ext.size
   rcases hx with rfl|rfl|rfl|rfl|rfl
   .exact hnew _ (by dsimp only;omega)
   .exact hnew _ ho4
   .exact hFj
   .exact hnew _ ho2
   .exact hnew _ (by dsimp only;omega)
 have hsz11:=hx11.size;have hszH:=H.ext.size
 have hneX:∀(o1 o2:Obj),∀x∈(l,o1)::(b4,o2)::L,x.1≠bx:=by
  intro o1 o2 x hx;rw[hL]at hx;simp only[qac,qam,or_false]at hx
  rcases hx with rfl|rfl|rfl|rfl|rfl <;> (dsimp only;omega)
 refine Ret.mono (ZN (l:=l) hbx2 (R.ext0 hx02) hc (by omega)
  (fun i w'=>(wrP A J b i).1=0/\∃F',Dv w0 w' bd (wrP A J b i).2 F F' ((l,.loop lo)::(b4,Bl 28 [.int .i64 0])::L)/\¬F' bx/\bx<w'.heap.size)
  (fun w'=>(wrP A J b (blk b.length - 1)).1≠0/\∃F',Dv w0 w' bd (wrP A J b (blk b.length - 1)).2 F F' ((l,.loop { lo with state := .done,pending:=some .ret })::(b4,Bl 28 [.int .i64 (wrP A J b (blk b.length - 1)).1])::L)) ?_ ?_ ?_) ?_
 .exact⟨rfl,F,D2,hnew _ (by have h1:=hx11.size;have h2:=H.ext.size;omega),Al hbx2⟩
 .rintro i w' w'' ⟨he,F',D,hnb,hlb⟩ hx;refine⟨he,F',D.other hx (by omega) hnb fun x hx'=>⟨?_,D.off x hx'⟩,hnb,by have:=hx.size;omega⟩;rw[hx.block x.1 (Al (D.blk x hx')) (by simpa using hneX _ _ x hx')];exact D.blk x hx'
 .rintro i ai ci w' hi ⟨he,F',D,hnb,hlb⟩ Rc hai ⟨a9,n9,c9,hbx9⟩;have hcl:=Nm b i;have hw0':=D.turn.size
  obtain⟨Lb,hLb,hLa⟩:∃Lb:List (Nat × Obj),(∀x∈Lb,w'.heap[x.1]?=some x.2/\¬F' x.1/\x.1<w0.heap.size)/\(b=[]\/∃o,((adr a).block,o)∈Lb):=by
   rcases hbl with h0|h0
   .exact⟨[],by simp,.inl h0⟩
   .by_cases hbe:b=[]
    .exact⟨[],by simp,.inl hbe⟩
    .obtain⟨o,ho⟩:∃o,w'.heap[(adr a).block]?=some o:=⟨_,Array.getElem?_eq_getElem (by omega)⟩;refine⟨[((adr a).block,o)],fun x hx=>?_,.inr ⟨o,qaf ..⟩⟩;rw[qaa.1 hx];exact⟨ho,fun hF=>(D.own _ hF).elim (hFa.resolve_left hbe) fun h=>by omega,h0⟩
  have hneL:∀(o2:Obj),∀x∈(b4,o2)::(bx,Bl 24 [.slice a9 n9 c9])::(Lb++L),x.1≠l:=by
   intro o2 x hx;rw[hL]at hx;simp only[qac,qat,qam,or_false]at hx
   rcases hx with rfl|rfl|hx|rfl|rfl|rfl
   .dsimp only;omega
   .dsimp only;omega
   .have:=(hLb x hx).2.2;omega
   .dsimp only;omega
   .dsimp only;omega
   .dsimp only;omega
  have hneL4:∀(o1:Obj),∀x∈(l,o1)::(bx,Bl 24 [.slice a9 n9 c9])::(Lb++L),x.1≠b4:=by
   intro o2 x hx;rw[hL]at hx;simp only[qac,qat,qam,or_false]at hx
   rcases hx with rfl|rfl|hx|rfl|rfl|rfl
   .dsimp only;omega
   .dsimp only;omega
   .have:=(hLb x hx).2.2;omega
   .dsimp only;omega
   .dsimp only;omega
   .dsimp only;omega
  have DL:Dv w0 w' bd (wrP A J b i).2 F F' ((l,.loop lo)::(b4,Bl 28 [.int .i64 0])::(bx,Bl 24 [.slice a9 n9 c9])::(Lb++L)):=by
   refine⟨D.dev,D.turn,D.own,D.lt,fun x hx=>?_,fun x hx=>?_⟩
   .simp only[qac,qat]at hx
    rcases hx with rfl|rfl|rfl|hx|hx
    .exact D.blk _ (qaf ..)
    .exact D.blk _ (qaj _ (qaf ..))
    .exact hbx9
    .exact(hLb x hx).1
    .exact D.blk _ (qaj _ (qaj _ hx))
   .simp only[qac,qat]at hx
    rcases hx with rfl|rfl|rfl|hx|hx
    .exact D.off _ (qaf ..)
    .exact D.off _ (qaj _ (qaf ..))
    .exact hnb
    .exact(hLb x hx).2.1
    .exact D.off _ (qaj _ (qaj _ hx))
  have hout:∀(o1 o2:Obj) {wz:World} {Az:Dev} {Fz:Nat->Prop},Dv w0 wz bd Az F Fz ((l,o1)::(b4,o2)::(bx,Bl 24 [.slice a9 n9 c9])::(Lb++L))->wz.heap[bx]?=w'.heap[bx]? /\ (b=[]\/wz.heap[(adr a).block]?=w'.heap[(adr a).block]?)/\Dv w0 wz bd Az F Fz ((l,o1)::(b4,o2)::L)/\¬Fz bx/\bx<wz.heap.size:=by
   intro o1 o2 wz Az Fz Dz;have hm:(bx,Bl 24 [.slice a9 n9 c9])∈(l,o1)::(b4,o2)::(bx,Bl 24 [.slice a9 n9 c9])::(Lb++L):=by simp
   refine⟨(Dz.blk _ hm).trans hbx9.symm,?_,Dz.sub ?_,Dz.off _ hm,Al (Dz.blk _ hm)⟩
   .rcases hLa with h0|⟨o,ho⟩
    .exact .inl h0
    right;rw[(hLb _ ho).1];exact Dz.blk ((adr a).block,o) (qaj _ (qaj _ (qaj _ (qa5 _ ho))))
   .intro x hx;simp only[qac,qat]at hx |-
    rcases hx with h|h|h
    .exact .inl h
    .exact .inr (.inl h)
    .exact .inr (.inr (.inr (.inr h)))
  have hlo1:lo.state=.ready:=by rw[hlo]
  have hlo3:lo.pending=none:=by rw[hlo]
  have hll:¬F' l:=D.off _ (qaf ..);have hl0:w0.heap.size<=l:=by omega
  have hDL:∀x∈(b4,Bl 28 [.int .i64 0])::(bx,Bl 24 [.slice a9 n9 c9])::(Lb++L),w'.heap[x.1]?=some x.2/\¬F' x.1:=fun x hx=>⟨DL.blk x (qaj _ hx),DL.off x (qaj _ hx)⟩;subst hlo;refine KW (DL.blk _ (qaf ..)) U (IP _ (NQ hts htm) ?_);refine Ad (Ac U (qA (Au (Ak U (Ab (Li (DL.blk _ (qaf ..)) U ?_))))));intro wR lo2 hxR hlR hlo2
  have D1:Dv w0 wR bd (wrP A J b i).2 F F' ((l,.loop lo2)::(b4,Bl 28 [.int .i64 0])::(bx,Bl 24 [.slice a9 n9 c9])::(Lb++L)):=DL.other hxR hl0 hll fun x hx=>by
   rcases qac.1 hx with rfl|hx
   .exact⟨hlR,hll⟩
   .exact⟨by rw[hxR.block x.1 (Al (hDL x hx).1) (by simpa using hneL _ x hx)];exact(hDL x hx).1,(hDL x hx).2⟩
  have RR:Rd wR ai 1 B8 (Cz b i):=by
   rcases hbl with h0|h0
   .rw[Cz,h0];simp only[List.drop_nil,List.take_nil];exact Rd.nil
   .exact Rc.ext hxR (by rw[hai];simp;omega)
  have hmj:∀(o1 o2:Obj),(bj,Bl TJ (JB bd J))∈(l,o1)::(b4,o2)::(bx,Bl 24 [.slice a9 n9 c9])::(Lb++L):=fun o1 o2=>by simp[hL]
  have hm2:∀(o1 o2:Obj),(b2,Bl 81 [ptr bj])∈(l,o1)::(b4,o2)::(bx,Bl 24 [.slice a9 n9 c9])::(Lb++L):=fun o1 o2=>by simp[hL]
  have hm4:∀(o1 o2:Obj),(b4,o2)∈(l,o1)::(b4,o2)::(bx,Bl 24 [.slice a9 n9 c9])::(Lb++L):=fun o1 o2=>by simp
  have hjR:=D1.blk _ (hmj _ _)
  have hnx:wrP A J b (i+1)=(Oh (wrP A J b i).2 J i 1 (CY J.seq i (Cz b i)),Ku (wrP A J b i).2 J i 1 (CY J.seq i (Cz b i))):=by
   have h9:wrP A J b (i+1)=if(wrP A J b i).1=0 then(Oh (wrP A J b i).2 J i 1 (CY J.seq i (Cz b i)),Ku (wrP A J b i).2 J i 1 (CY J.seq i (Cz b i)))else wrP A J b i:=rfl;rw[h9,if_pos he]
  refine AB (BV [([0,1,2,3,4],5),([],6),([],7)] (fun z=>z.heap[b2]?=some (Bl 81 [ptr bj])) [] mixed (D1.blk _ (hm2 _ _)) ?_);refine AD U U (BC MI U (fun _ hx=>Aq hx 0) ?_);refine B0 U (BC MI U (fun _ hx=>Aq hx 0) ?_);refine B0 U (B9 U (AV ?_))
  skip
  refine Aj qB (SL (show(World.drew wR).heap[bj]?=_ from hjR) hJ i ai ci _ (Cz b i) (RR.ext0 (Ext.drew [] wR)) U (hm:=by omega)) U ?_;rintro v w5 F19;obtain⟨a19,c19,rfl,R19,hc19⟩:=Fresh.rdB F19;have D5:=(D1.call (Ext.drew [] wR)).call F19.ext;refine Ab (Bb (D5.blk _ (hm2 _ _)) (AD U U ?_));refine AV (Aj qB (Abv (D5.blk _ (hmj _ _)) hJ i 1 a19 c19 _ (CY J.seq i (Cz b i)) R19 U (by rw[Nj];omega) D5.lt (D5.off _ (hmj _ _)) (Ox hfew i) D5.dev) U ?_);rintro v w6 ⟨rfl,DA6,hT6⟩;have D6:=D5.step DA6 hT6;refine Ab (Bb (D6.blk _ (hm2 _ _)) (AD U U ?_));refine AV (Ac U (Ab (Bb (D6.blk _ (hm2 _ _)) (B4 (Ad (Ae U (Be U U (qA (Av _ U ?_ ?_)))))))))
  .intro g;replace g:=Bv g;replace H:=Ctx.start1 (D6.blk _ (hm4 _ _));refine Ad (Ae U (Bf (.int _ _) FZ U U U H at0 (by decide) ?_));rintro w H;refine qA (A6 (AK ?_));have hx8:=H.ext;have h4o:=D6.off _ (hm4 _ _)
   have D8:Dv w0 w bd (Ku (wrP A J b i).2 J i 1 (CY J.seq i (Cz b i))) F _ ((l,.loop lo2)::(b4,Bl 28 [.int .i64 (Oh (wrP A J b i).2 J i 1 (CY J.seq i (Cz b i)))])::(bx,Bl 24 [.slice a9 n9 c9])::(Lb++L)):=D6.other hx8 ho4 h4o fun x hx=>by
    have hx0:x=(b4,Bl 28 [.int .i64 (Oh (wrP A J b i).2 J i 1 (CY J.seq i (Cz b i)))])\/x∈(l,Obj.loop lo2)::(bx,Bl 24 [.slice a9 n9 c9])::(Lb++L):=by
     simp only[qac]at hx |-
     rcases hx with h|h|h
     .exact .inr (.inl h)
     .exact .inl h
     .exact .inr (.inr h)
    rcases hx0 with rfl|hx0
    .exact⟨H.get at0,h4o⟩
    .have hx1:x∈(l,Obj.loop lo2)::(b4,Bl 28 [.int .i64 0])::(bx,Bl 24 [.slice a9 n9 c9])::(Lb++L):=by
      simp only[qac]at hx0 |-
      rcases hx0 with h|h
      .exact .inl h
      .exact .inr (.inr h)
     exact⟨by rw[hx8.block x.1 (Al (D6.blk x hx1)) (by simpa using hneL4 _ x hx0)];exact D6.blk x hx1,D6.off x hx1⟩
   refine⟨lo2,D8.blk _ (qaf ..),?_⟩;have hx9:=Ext.setB w l (.loop { lo2 with state := .done,pending:=some .ret })
   have D9:Dv w0 (w.putObj l (.loop { lo2 with state := .done,pending:=some .ret })) bd (Ku (wrP A J b i).2 J i 1 (CY J.seq i (Cz b i))) F _ ((l,.loop { lo2 with state := .done,pending:=some .ret })::(b4,Bl 28 [.int .i64 (Oh (wrP A J b i).2 J i 1 (CY J.seq i (Cz b i)))])::(bx,Bl 24 [.slice a9 n9 c9])::(Lb++L)):=D8.other hx9 hl0 (D8.off _ (qaf ..)) fun x hx=>by
    rcases qac.1 hx with rfl|hx
    .exact⟨IA (D8.blk _ (qaf ..)),D8.off (l,.loop lo2) (qaf ..)⟩
    .have hx1:=qaj (l,Obj.loop lo2) hx;exact⟨by rw[hx9.block x.1 (Al (D8.blk x hx1)) (by simpa using hneL _ x hx)];exact D8.blk x hx1,D8.off x hx1⟩
   obtain⟨g1,g2,g3,_,_⟩:=hout _ _ D9;have hst:wrP A J b (blk b.length - 1)=wrP A J b (i+1):=XV (by rw[hnx];exact g) _ (by omega);rw[hst,hnx];subst hlo2;exact⟨g1,g2,false,rfl,(fun h=>by cases h),fun _=>⟨g,_,g3⟩⟩
  .intro g;replace g:=Bw g;refine Ap (AE (IG (D6.blk _ (qaf ..)) hlo2 U U ?_));intro wF hxF hlF
   have D9:=D6.other (L':=(l,_)::(b4,Bl 28 [.int .i64 0])::(bx,Bl 24 [.slice a9 n9 c9])::(Lb++L)) hxF hl0 (D6.off _ (qaf ..)) fun x hx=>by
    rcases qac.1 hx with rfl|hx
    .exact⟨hlF,D6.off (l,.loop lo2) (qaf ..)⟩
    .have hx1:=qaj (l,Obj.loop lo2) hx;exact⟨by rw[hxF.block x.1 (Al (D6.blk x hx1)) (by simpa using hneL _ x hx)];exact D6.blk x hx1,D6.off x hx1⟩
   obtain⟨g1,g2,g3,g4,g5⟩:=hout _ _ D9;refine⟨g1,g2,true,rfl,fun _=>⟨by rw[hnx];exact g,_,by rw[hnx];exact g3,g4,g5⟩,fun h=>by cases h⟩
 .have hmD:(Db,Obj.deferred (some []))∈L:=by simp[hL]
  have hmJ:(bj,Bl TJ (JB bd J))∈L:=by simp[hL]
  have hm2:(b2,Bl 81 [ptr bj])∈L:=by simp[hL]
  have hneL:∀(o2:Obj),∀x∈(b4,o2)::L,x.1≠l:=by
   intro o2 x hx;rw[hL]at hx;simp only[qac,qam,or_false]at hx
   rcases hx with rfl|rfl|rfl|rfl <;> (dsimp only;omega)
  have hneL4:∀x∈L,x.1≠b4:=by
   intro x hx;rw[hL]at hx;simp only[qac,qam,or_false]at hx
   rcases hx with rfl|rfl|rfl <;> (dsimp only;omega)
  have hl0:w0.heap.size<=l:=by omega
  have hD0:w0.heap.size<=Db:=by omega
  have hjD:bj≠Db:=by omega
  have h4D:b4≠Db:=by omega
  have hswap:∀{w3 w4:World} {A':Dev} {F':Nat->Prop} {o1 o2:Obj},Dv w0 w3 bd A' F F' ((l,o1)::(b4,o2)::L)->Ext [l] w3 w4->Dv w0 w4 bd A' F F' ((b4,o2)::L):=fun{w3 w4 A' F' o1 o2} D hx =>
   D.other hx hl0 (D.off (l,o1) (qaf ..)) fun x hx'=>⟨by rw[hx.block x.1 (Al (D.blk x (qaj _ hx'))) (by simpa using hneL _ x hx')];exact D.blk x (qaj _ hx'),D.off x (qaj _ hx')⟩
  rintro v w3 (⟨he,F',D,hnb,hlb⟩|⟨he,F',D⟩)
  .refine⟨_,D.blk _ (qaf ..),by rw[hlo];exact(fun h=>by cases h),HR (by rw[hlo]) ?_⟩;have hx4:=Ext.setB w3 l (.loop { lo with state := .exhausted });generalize w3.putObj l (.loop { lo with state := .exhausted })=w4 at hx4 |-;replace D:=hswap D hx4;refine AE (Aa ?_);have hfP:=Ox (J:=J) (b:=b) hfew (blk b.length - 1);have hmc:∀{x:Nat × Obj} {o2:Obj},x∈L->x∈(b4,o2)::L:=fun h=>qaj _ h
   have hset:∀{w5 w6:World} {A':Dev} {F':Nat->Prop} {o1 o2:Obj},Dv w0 w5 bd A' F F' ((b4,o1)::L)->Ext [b4] w5 w6->w6.heap[b4]?=some o2->Dv w0 w6 bd A' F F' ((b4,o2)::L):=fun{w5 w6 A' F' o1 o2} D hx h4 =>
    D.other hx ho4 (D.off (b4,o1) (qaf ..)) fun x hx'=>by
     rcases qac.1 hx' with rfl|hx'
     .exact⟨h4,D.off (b4,o1) (qaf ..)⟩
     .exact⟨by rw[hx.block x.1 (Al (D.blk x (hmc hx'))) (by simpa using hneL4 x hx')];exact D.blk x (hmc hx'),D.off x (hmc hx')⟩
   refine Ar (Ad (Bd MI U (Aq (D.blk _ (hmc hm2)) 0) ?_));refine A7 U (Af NF U (Bd Dm U (Aq (D.blk _ (hmc hmJ)) (0+0)) ?_));refine Aj qB (Me hfP D.dev) U ?_;rintro v w5 ⟨rfl,DA5,hT5⟩;have D5:=D.same DA5 hT5;refine Ac U (qA (Ad (Ae U (Be U U (qA (Av _ U ?_ ?_))))))
   .intro g2;replace g2:=Bv g2;replace H:=Ctx.start1 (D5.blk _ (qaf ..));refine Ad (Ae U (Bf (.int _ _) FZ U U U H at0 (by decide) ?_));rintro w H;refine qA (A6 (Ao (Ow U U (Marks.mono ?_ (Kv (hset D5 H.ext (H.get at0)) U hmD hD0 hmJ hjD h4D)))));rintro w6 ⟨v,hv,rfl,hF⟩;refine⟨_,hv,?_,?_⟩
    .rw[CZ,if_pos he,if_neg g2]
    .rw[CZ,if_pos he,if_neg g2];exact hF
   .intro g2;replace g2:=Bw g2;refine Ap (Aa (Ar (BV [([0,1,2,5,6],3),([4],7),([],8),([],9)] (fun z=>z.heap[b2]?=some (Bl 81 [ptr bj])) [] mixed (D5.blk _ (hmc hm2)) ?_)));refine AD U U (BC MI U (fun _ hx=>Aq hx 0) ?_);refine B9 U (PO AX U (BC MI U (fun _ hx=>Aq hx 0) ?_));refine B9 U (AV ?_)
    skip
    refine Aj qB (Gx (b.length:Int) _) U ?_;rintro v wB ⟨rfl,rfl⟩;rw[Ja];refine Ab (Bb (D5.blk _ (hmc hm2)) (AD U U ?_));refine IB U U U ?_;rw[show((blk b.length:Int) - 1)=((blk b.length - 1:Nat):Int)by omega];refine AV (Aj qB (Ai5 (show(World.drew w5).heap[bj]?=_ from D5.blk _ (hmc hmJ)) hJ a c _ b U) U ?_);rintro v w6 F39;obtain⟨a39,c39,rfl,R39,hc39⟩:=Fresh.rdB F39;have D6:=(D5.call (Ext.drew [] w5)).call F39.ext;refine Ab (Bb (D6.blk _ (hmc hm2)) (AD U U ?_));refine AV (Aj qB (Abv (D6.blk _ (hmc hmJ)) hJ (blk b.length - 1) 2 a39 c39 _ (Hh J.seq b) R39 U (by rw[Xw];decide) D6.lt (D6.off _ (hmc hmJ)) (IF hfP) D6.dev) U ?_);rintro v w7 ⟨rfl,DA7,hT7⟩;have D7:=D6.step DA7 hT7;refine Ab (Bb (D7.blk _ (hmc hm2)) (AD U U ?_))
    refine AV (Ac U (Ab (Bb (D7.blk _ (hmc hm2)) (B4 (Ad (Ae U (Be U U (qA (Av _ U ?_ ?_)))))))))
    .intro g3;replace g3:=Bv g3;replace H:=Ctx.start1 (D7.blk _ (qaf ..));refine Ad (Ae U (Bf (.int _ _) FZ U U U H at0 (by decide) ?_));rintro w H;refine qA (A6 (Ao (Ow U U (Marks.mono ?_ (Kv (hset D7 H.ext (H.get at0)) U hmD hD0 hmJ hjD h4D)))));rintro w8 ⟨v,hv,rfl,hF⟩;refine⟨_,hv,?_,?_⟩
     .rw[CZ,if_pos he,if_pos g2,if_neg g3]
     .rw[CZ,if_pos he,if_pos g2,if_neg g3];exact hF
    .intro g3;replace g3:=Bw g3;refine Ap (Aa (Ad (Bd MI U (Aq (D7.blk _ (hmc hm2)) 0) ?_)));refine A7 U (Af NF U (Bd Dm U (Aq (D7.blk _ (hmc hmJ)) (0+0)) ?_));refine Aj qB (Me (Hv (IF hfP) _ _) D7.dev) U ?_;rintro v w8 ⟨rfl,DA8,hT8⟩;have D8:=D7.same DA8 hT8;replace H:=Ctx.start1 (D8.blk _ (qaf ..));refine Bf (.int _ _) FZ U U U H at0 (by decide) ?_;rintro w H;refine qA (A6 (Ow U U (Marks.mono ?_ (Kv (hset D8 H.ext (H.get at0)) U hmD hD0 hmJ hjD h4D))));rintro w9 ⟨v,hv,rfl,hF⟩;refine⟨_,hv,?_,?_⟩
     .rw[CZ,if_pos he,if_pos g2,if_pos g3];rfl
     .rw[CZ,if_pos he,if_pos g2,if_pos g3];exact hF
  .refine⟨_,D.blk _ (qaf ..),(fun h=>by cases h),ZO U ?_⟩;have hx4:=Ext.setB w3 l (.loop { lo with state := .exhausted,pending:=some .ret });generalize w3.putObj l (.loop { lo with state := .exhausted,pending:=some .ret })=w4 at hx4 |-;replace D:=hswap D hx4;refine AK (Ao (Ow U U (Marks.mono ?_ (Kv D U hmD hD0 hmJ hjD h4D))));rintro w6 ⟨v,hv,rfl,hF⟩;refine⟨_,hv,?_,?_⟩
   .rw[CZ,if_neg he]
   .rw[CZ,if_neg he];exact hF
theorem Ajs{w:World}{bj bd:Nat}{J:Jr}(h:w.heap[bj]?=some (Bl TJ (JB bd J))) :
  Ret prog 86 #[ptr bj] w fun v w'=>v=.int .i64 (bif J.dead then 3 else 0)/\w=w':=by
 obtain⟨w0,rfl⟩:=qD w;unfold JB at h;have H:=Ctx.start1 h;refine A8 (fn:=f86) func86 U [.pointer (some ⟨bj,0,none⟩)] U ?_;refine Ad (Ac U (qA (Ar (AB (Ad (An U (BU Abj U ?_)))))));refine Am U (qA (Bz U (Ad (An U (A7 U (Af WR U (AH Ge U H at0 U (Am U (qA ?_)))))))));refine Av _ U ?_ ?_
 .intro h1;refine Ad (Ac U (qA (A6 (AK (Ao (AG (v:=(.int _ _)) U U U ?_))))));exact⟨by simp[h1],rfl⟩
 .intro h1;refine Ap (AE (Aa (Ad (Ac U (qA (A6 (AG (v:=(.int _ _)) U U U ?_)))))));exact⟨by simp[h1],rfl⟩
theorem Ama(w:World):Ret prog 86 #[.pointer none] w fun v w'=>v=.int .i64 2/\w=w':=by
 refine A8 (fn:=f86) func86 U [.pointer none] U (Ad (Ac U (qA (Ar (AB (Ad (An U (BU Abj U ?_))))))));refine Am U (qA (EI U (Ad (Ac U (qA (A6 (AK (Ao (AG (v:=(.int _ _)) U U U ?_)))))))));exact⟨rfl,rfl⟩
theorem Acb{w:World}{bj bd:Nat}{J:Jr}(h:w.heap[bj]?=some (Bl TJ (JB bd J)))(hJ:J.Ok) :
  Ret prog 46 #[ptr bj] w fun v w'=>v=.int .i64 ((J.size - J.taken:Nat):Int)/\Ext [] w w':=by
 obtain⟨w0,rfl,H⟩:=qE w;have h1:=hJ.s2;have h2:=hJ.t;refine A8 (fn:=Tryz.f46) func46 U [.pointer (some ⟨bj,0,none⟩)] U ?_;refine Ad (Ac U (qA (Ar (Ad (An U (BU Abj U ?_))))));refine qA (Bz U (Ap (Aa (J9 (fun x=>x=_) mixed U ?_))));refine Ha U (El U (BP NG U (Ig DV U (by rintro _ rfl;exact(Ctx.old0 H.drew (Aq h _))) ?_)));refine Ha U (El U (BP KZ U (Ig DV U (by rintro _ rfl;exact(Ctx.old0 H.drew (Aq h _))) ?_)));refine Uh U U U (EO U (Js ?_));rintro _ rfl;replace H:=H.drew;refine A6 (AG (v:=(.int _ _)) U U U ?_);exact⟨qab (Value.int .i64) (by omega),H.ext⟩
theorem Acc{w:World}{bj bd:Nat}{J:Jr}(h:w.heap[bj]?=some (Bl TJ (JB bd J))) :
  Ret prog 35 #[ptr bj] w fun v w'=>v=.tuple #[.int .i64 (J.at':Int),.int .u64 (J.seq:Int)]/\Ext [] w w':=by
 obtain⟨w0,rfl,H⟩:=qE w;refine A8 (fn:=f35) func35 U [.pointer (some ⟨bj,0,none⟩)] U ?_;refine Ad (Ac U (Ac U (qA (Ar (Ad (An U (BU Abj U ?_)))))));refine qA (Bz U (Ap (Aa (J9 (fun x=>x=_) mixed U ?_))));refine Ha U (El U (BP NH U (Ig DV U (by rintro _ rfl;exact(Ctx.old0 H.drew (Aq h _))) ?_)));refine Ha U (El U (BP KY U (Ig GH U (by rintro _ rfl;exact(Ctx.old0 H.drew (Aq h _))) ?_)));refine EO U (EO U (Js ?_));rintro _ rfl;replace H:=H.drew;refine A6 (Cs (v1:=(.int _ _)) (v2:=(.int _ _)) U U U U ?_);exact⟨rfl,H.ext⟩
def Jr.passes(J:Jr)(n:Nat):Jr:={ J with at':=(J.at'+blk n) % J.size,seq:=J.seq+1,taken:=J.taken+blk n }
theorem UZ{w:World}{bj bd:Nat}{J:Jr}(h:w.heap[bj]?=some (Bl TJ (JB bd J)))(hJ:J.Ok)(n:Nat)(ht:J.taken+blk n<=J.size)(hn:n<=100000000:=by omega):
  Ret prog 76 #[ptr bj,.int .i64 (n:Int)] w fun v w'=>v=.tuple #[]/\w'.heap[bj]?=some (Bl TJ (JB bd (J.passes n)))/\Ext [bj] w w':=by
 obtain⟨w0,rfl⟩:=qD w;unfold JB at h;have H:=Ctx.start1 h;have h1:=hJ.s1;have h2:=hJ.s2;have h3:=hJ.a;have h4:=hJ.q;have hm:=qbm (J.at'+blk n) (show 0<J.size by omega);refine A8 (fn:=f76) func76 U [.pointer (some ⟨bj,0,none⟩),.int .i64 (n:Int)] U ?_;refine Ad (Ae U (Aj qB (Gx (n:Int) _) U ?_));rintro v w ⟨rfl,rfl⟩;rw[Ja];refine Ac U (qA (IK [([0,1,2,3,4,5,6,7,8,9,10,11,12,13,14,15,16,17,18,19,20,21,22,23,24,25,26],27),([28,29],30),([31,32],33)] (fun x=>x=World.drew w0) [27,30,33] mixed (rfl) ?_));refine AD U U (C1 U (C1 U (C1 U (C1 U (Bm U (AC NH U (Ul U DV U (by rintro _ rfl;exact H.drew) at0 U ?_)))))));refine B0 U (Fl U U ?_);refine C1 U (Bm U (AC NG U (Ul U DV U (by rintro _ rfl;exact H.drew) at0 U ?_)))
 refine Am8 U U U ?_;rw[show((J.at':Int)+(blk n:Int)) % (J.size:Int)=(((J.at'+blk n) % J.size:Nat):Int)by rw[Int.natCast_emod,Int.natCast_add]];refine C1 U (Bm U (AC KY U (Ul U GH U (by rintro _ rfl;exact H.drew) at0 U ?_)));refine Um U U U (C1 U (Bm U (AC KZ U (Ul U DV U (by rintro _ rfl;exact H.drew) at0 U ?_))));refine B0 U (Fl U U ?_);refine Bm U (AC NH U (AV ?_));replace H:=H.drew;refine Bf (.int _ _) HN U U U H at0 (by(simp;done)) ?_;rintro w H;refine Ab (CQ U (AD U U ?_));refine Bm U (AC KY U (AV (Bf (.int _ _) WV U U U H at0 (by(simp;done)) ?_)));rintro w H;refine Ab (CQ U (AD U U ?_));refine Bm U (AC KZ U (AV (Bf (.int _ _) HN U U U H at0 (by(simp;done)) ?_)));rintro w H;refine Ab (CQ U (B4 (HC U U ?_)));exact⟨rfl,H.get at0,H.ext⟩
theorem ZP{w:World}{bj bd:Nat}{J:Jr}(h:w.heap[bj]?=some (Bl TJ (JB bd J))) :
  Ret prog 57 #[ptr bj] w fun v w'=>v=.int .i64 (bif J.dead then 3 else 0)/\w'.heap[bj]?=some (Bl TJ (JB bd (if J.dead then J else{ J with taken:=0 })))/\Ext [bj] w w':=by
 obtain⟨w0,rfl⟩:=qD w;unfold JB at h;have H:=Ctx.start1 h;refine A8 (fn:=f57) func57 U [.pointer (some ⟨bj,0,none⟩)] U ?_;refine Ad (Ac U (qA (Ad (An U (Aj qB (Ajs h) U ?_)))));rintro v w ⟨rfl,rfl⟩;refine Ac U (qA (Ar (Ad (Ae U (BA U U (qA (Av _ U ?_ ?_)))))))
 .intro h1;replace h1:=AR h1;have hd:J.dead=false:=by cases hd:J.dead <;> simp_all
  refine Au (An U (A7 U (Af KZ U (Bf (.int _ _) HN U U U H at0 (by(simp;done)) ?_))));rintro w H;refine qA (Ad (Ae U (Ac U (qA (A6 (AG (v:=(.int _ _)) U U U ?_))))));exact⟨rfl,by rw[if_neg (by simp[hd])];exact H.get at0,H.ext⟩
 .intro h1;replace h1:=AU h1;have hd:J.dead=true:=by cases hd:J.dead <;> simp_all
  refine Ap (Aa (Ad (Ae U (Ac U (qA (A6 (AG (v:=(.int _ _)) U U U ?_)))))));exact⟨rfl,by rw[if_pos hd];exact H.get at0,H.ext⟩
def Oy(A:Dev)(J:Jr)(b:Byt):Int:=if J.dead then 3 else if J.size - J.taken<blk b.length then 7 else(CZ A J b).1
def I0(A:Dev)(J:Jr)(b:Byt):Dev:=if J.dead then A else if J.size - J.taken<blk b.length then A else(CZ A J b).2
def Oz(A:Dev)(J:Jr)(b:Byt):Jr:=if J.dead then J else if J.size - J.taken<blk b.length then J else if(CZ A J b).1=0 then J.passes b.length else{ J with dead:=true }
theorem Dv.base{w0 w:World}{bd:Nat}{A:Dev}{F F0 F':Nat->Prop}{L:List (Nat × Obj)}(D:Dv w0 w bd A F F' L)(h:∀x,F x->F0 x):Dv w0 w bd A F0 F' L :=
 ⟨D.dev,let ⟨S,hS,hx⟩:=D.turn;⟨S,fun x hx=>h x (hS x hx),hx⟩,fun x hx=>(D.own x hx).imp (h x) id,D.lt,D.blk,D.off⟩
theorem Dv.mine{w0 w w':World}{bd:Nat}{A:Dev}{F F':Nat->Prop}{b:Nat}{o o':Obj}(D:Dv w0 w bd A F F' [(b,o)])(hb:F b)(hx:Ext [b] w w')(h:w'.heap[b]?=some o'):Dv w0 w' bd A F F' [(b,o')]:=by
 have h1:=hx.size;have hn:¬F' b:=D.off (b,o) (qaf ..);exact⟨D.dev.keep hx fun x h=>by rw[qaa.1 h];exact hn,D.turn.trans (.of hx (S:=[b]) (F:=fun x=>x=b) fun x h=>qaa.1 h) fun x h => .inl (by rw[h];exact hb),fun x hx=>(D.own x hx).imp id fun h=>⟨h.1,by omega⟩,fun x hx=>by have:=D.lt x hx;omega,fun x hx=>by rw[qaa.1 hx];exact h,fun x hx=>by rw[qaa.1 hx];exact hn⟩
theorem Dv.from{w0 w1 w:World}{bd:Nat}{A:Dev}{F F0 F':Nat->Prop}{L:List (Nat × Obj)}(D:Dv w1 w bd A F F' L)(hx:Ext [] w0 w1)(h:∀x,F x->F0 x):Dv w0 w bd A F0 F' L:=by
 have D':=D.base h;have h1:=hx.size;exact⟨D'.dev,Turn.trans (.of0 hx) D'.turn fun x h => .inl h,fun x hx=>(D'.own x hx).imp id fun h=>⟨by omega,h.2⟩,D'.lt,D'.blk,D'.off⟩
theorem Dv.start{w:World}{bd:Nat}{A:Dev}{F F0:Nat->Prop}{L:List (Nat × Obj)}(D:DevAt w bd A F)(hlt:∀x,F x->x<w.heap.size)(h:∀x,F x->F0 x)(hL:∀x∈L,w.heap[x.1]?=some x.2/\¬F x.1):Dv w w bd A F0 F L :=
 ⟨D,.of0 (.refl _ _),fun x hx => .inl (h x hx),hlt,fun x hx=>(hL x hx).1,fun x hx=>(hL x hx).2⟩
theorem Aep{w:World}{bj bd:Nat}{J:Jr}{A:Dev}{F:Nat->Prop}(h:w.heap[bj]?=some (Bl TJ (JB bd J)))(hJ:J.Ok)(a:Option Addr)(c n:Nat)(b:Byt)(R:Rd w a 1 B8 b)(hn:b.length=n)(hm:n<=900000)(hc:n<=c)(hlt:∀x,F x->x<w.heap.size)(hFj:¬F bj)(hFa:b=[]\/¬F (adr a).block){mx:Nat}(hfew:Few A mx)(hmx:mx<=1000000000)(DA:DevAt w bd A F) :
  Ret prog 48 #[ptr bj,.slice a n c] w fun v w'=>v=.int .i64 (Oy A J b)/\∃F',Dv w w' bd (I0 A J b) (fun x=>F x\/x=bj) F' [(bj,Bl TJ (JB bd (Oz A J b)))]:=by
 subst hn;obtain⟨w0,rfl⟩:=qD w;have D0:Dv w0 w0 bd A (fun x=>F x\/x=bj) F [(bj,Bl TJ (JB bd J))]:=Dv.start DA hlt (fun x h => .inl h) fun x hx=>by rw[qaa.1 hx];exact⟨h,hFj⟩
 have hbl:=Pn b.length;refine A8 (fn:=f48) func48 U [.pointer (some ⟨bj,0,none⟩),.slice a b.length c] U ?_;refine Ad (Ac U (qA (Ar (Ad (An U (Aj qB (Ajs h) U ?_))))));rintro v w ⟨rfl,rfl⟩;refine Ac U (qA (Ad (Ae U (Be U U (qA (Av _ U ?_ ?_))))))
 .intro h1;replace h1:=Bv h1;have hd:J.dead=true:=by cases hd:J.dead <;> simp_all
  refine Ad (Ae U (Ac U (qA (A6 (Ao (AG (v:=(.int _ _)) U U U ?_))))));exact⟨by rw[Oy,hd];rfl,F,by rw[I0,Oz,hd];exact D0⟩
 .intro h1;replace h1:=Bw h1;have hd:J.dead=false:=by cases hd:J.dead <;> simp_all
  refine Ap (Aa (Ar (Ad (Ah U (AO AX U (Aj qB (Gx (b.length:Int) _) U ?_))))));rintro v w ⟨rfl,rfl⟩;rw[Ja];refine An U (Aj qB (Acb h hJ) U ?_);rintro v w ⟨rfl,hx⟩;have D1:=D0.call hx;refine BZ U U (qA (Av _ U ?_ ?_))
  .intro h2;replace h2:=AR h2;have hf:J.size - J.taken<blk b.length:=by omega
   refine Ad (Ac U (qA (A6 (Ao (AG (v:=(.int _ _)) U U U ?_)))));exact⟨by rw[Oy,hd,if_pos hf];rfl,F,by rw[I0,Oz,hd,if_pos hf,if_pos hf];exact D1⟩
  .intro h2;replace h2:=AU h2;have hf:¬J.size - J.taken<blk b.length:=by omega
   refine Ap (Aa (Ar (Ad (An U (Ah U (Aj qB (Aeo (D1.blk _ (qaf ..)) hJ a c _ b (R.ext0 hx) U hm hc D1.lt hFj hFa hfew hmx D1.dev) U ?_))))));rintro v w2 ⟨rfl,F2,D2⟩;have D2':Dv w0 w2 bd (CZ A J b).2 (fun x=>F x\/x=bj) F2 [(bj,Bl TJ (JB bd J))]:=Dv.from D2 hx fun x h => .inl h;refine Ac U (qA (Ad (Ae U (Be U U (qA (Av _ U ?_ ?_))))))
   .intro h3;replace h3:=Bv h3;have hJ2:=D2'.blk _ (qaf ..);unfold JB at hJ2;have H:=Ctx.start1 hJ2;refine Ad (An U (A7 U (Af WR U (Bf (.bool _) Ahq U U U H at0 (by(simp;done)) ?_))));rintro w H;refine qA (Ad (Ae U (Ac U (qA (A6 (Ao (AG (v:=(.int _ _)) U U U ?_)))))));have hd':(false=true)=False:=by simp
    refine⟨by rw[Oy,hd,if_neg hf];rfl,F2,?_⟩;rw[I0,Oz,hd,if_neg hf,if_neg hf,if_neg h3];exact D2'.mine (.inr U) H.ext (H.get at0)
   .intro h3;replace h3:=Bw h3;have hbt:=Er b.length;refine Ap (Aa (Ad (An U (Ah U (AO AX U (Aj qB (UZ (D2'.blk _ (qaf ..)) hJ b.length (by have:=hJ.t;omega)) U ?_))))));rintro v w3 ⟨rfl,hj3,hx3⟩;refine qA (Ad (Ac U (qA (A6 (AG (v:=(.int _ _)) U U U ?_)))));refine⟨by rw[Oy,hd,if_neg hf,h3];rfl,F2,?_⟩;rw[I0,Oz,hd,if_neg hf,if_neg hf,if_pos h3];exact D2'.mine (.inr U) hx3 hj3
theorem append_nil(w:World)(v:Value):Ret prog 48 #[.pointer none,v] w fun v w'=>v=.int .i64 2/\w=w':=by
 refine A8 (fn:=f48) func48 U [.pointer none,v] U (Ad (Ac U (qA (Ar (Ad (An U (Aj qB (Ama w) U ?_)))))));rintro v w ⟨rfl,rfl⟩;refine Ac U (qA (Ad (Ae U (Be U U (qA (EI U (Ad (Ae U (Ac U ?_)))))))));refine qA (A6 (Ao (AG (v:=(.int _ _)) U U U ?_)));exact⟨rfl,rfl⟩
def J3(J:Jr)(i:Nat)(b:Byt):Bool:=decide ((Dt b).toNat=1) && SM (BE b) (CY J.seq i [])
def L6(J:Jr)(i:Nat)(s b:Byt):Bool:=decide ((Dt b).toNat=2) && (decide (0<i) && (decide (i=blk s.length - 1) && decide (BE b=Hh J.seq s)))
def Qg(A:Dev)(J:Jr):Nat->Nat->Byt->Option Byt
 |0,_,_=>none
 |n+1,i,s=>if J3 J i (at' A (J.place i))then Qg A J n (i+1) (s++(BE (at' A (J.place i))).drop 12)else if L6 J i s (at' A (J.place i))then some s else none
def HZ(A:Dev)(J:Jr):Option Byt:=Qg A J (J.size - J.taken) 0 []
def An3(s:Option Byt)(v:Value)(w w':World):Prop :=
 match s with
 |some s=>∃a c,v=.tuple #[.slice a s.length c,.bool true,.int .i64 0]/\Rd w' a 1 B8 s/\s.length<=c/\(s=[]\/w.heap.size<=(adr a).block)/\s.length<=3000000
 |none=>v=.tuple #[.slice none 0 0,.bool false,.int .i64 0]
theorem Amb{w:World}{bj bd:Nat}{J:Jr}{A:Dev}{F:Nat->Prop}(h:w.heap[bj]?=some (Bl TJ (JB bd J)))(hJ:J.Ok)(ho:A.on=true){mx:Nat}(hfew:Few A mx)(hmx:mx<=1000000000)(DA:DevAt w bd A F)(hl:J.frm+J.size<=A.B.length:=by omega):
  Ret prog 75 #[ptr bj] w fun v w'=>An3 (HZ A J) v w w'/\Ext [] w w':=by
 obtain⟨w0,rfl,H⟩:=qE w;have hs2:=hJ.s2;have ht:=hJ.t;refine A8 (fn:=f75) func75 U [.pointer (some ⟨bj,0,none⟩)] U ?_;refine Ad (Ak U (Am U (Ac U (qA (Ar (J9 (fun x=>x=_) mixed U ?_))))));refine Ha U (El U (BP NG U (Ig DV U (by rintro _ rfl;exact(Ctx.old0 H.drew (Aq h _))) ?_)));refine Ha U (El U (BP KZ U (Ig DV U (by rintro _ rfl;exact(Ctx.old0 H.drew (Aq h _))) ?_)));refine Uh U U U (DK U (Js ?_));rintro _ rfl;replace H:=H.drew
 refine AB (B6 38685626227668133589551100 (α:=Nat × Byt × Option Addr × Nat × List Value) (fun s=>[(20,.int .i64 s.1),(2,.slice s.2.2.1 s.2.1.length s.2.2.2.1)]) (fun s w'=>s.1<=J.size - J.taken/\s.2.1.length<=505*s.1/\Ctx w0 [] w' (ent s.2.2.1 5 s.2.2.2.2)/\OS s.2.2.1 s.2.1.length s.2.2.2.1 1 s.2.2.2.2 (s.2.1.map bv)/\Qg A J (J.size - J.taken - s.1) s.1 s.2.1=HZ A J) (fun s=>J.size - J.taken - s.1) (0,[],none,0,[]) U ?_ ?_ ?_)
 .exact⟨rfl,rfl,trivial⟩
 .exact⟨qak _,qak _,H,OS.nil,rfl⟩
 .rintro⟨i,s,a,c,full⟩ j w ⟨hi,hsl,H,O,hN⟩;dsimp only at hi hsl H O hN;dsimp only;refine Ad (Bj U U (qA (Ar (Av _ U ?_ ?_))))
  .intro h1;replace h1:=AR h1;obtain⟨n,hn⟩:∃n,J.size - J.taken - i=n+1:=⟨J.size - J.taken - i - 1,by omega⟩;have hpl:=hJ.place i
   have hrE:GL A (J.place i:Int)=0:=by
    unfold GL Dev.has;rw[ho,qal (show(0:Int)<=J.place i by omega),qal (show(J.place i:Int)<A.B.length by omega)];rfl
   have hrB:GM A (J.place i:Int)=at' A (J.place i):=by
    unfold GM at';rw[hrE];rfl
   have hrl:(at' A (J.place i)).length=512:=Ks DA.wf (NO);obtain⟨raw,hraw⟩:=qD (at' A (J.place i));rw[<-hraw]at hrB hrl
   have hNx:HZ A J=if J3 J i raw then Qg A J n (i+1) (s++(BE raw).drop 12)else if L6 J i s raw then some s else none:=by
    rw[<-hN,hn,hraw];rfl
   have hjw:w.heap[bj]?=some (Bl TJ (JB bd J)):=by rw[H.ext.block bj (Al h) (by simp)];exact h
   refine Ap (Aa (Ar (AB (Ad (Ae U (Ac U (qA (BV [([0,1,2,3,4,5],6),([],7),([8,9,10,11],12)] (fun z=>z.heap[bj]?=some (Bl TJ (JB bd J))) [] mixed (hjw) ?_))))))));refine AD U U (C1 U (Bm U (AC NF U (BC Dm U (fun _ hx=>Aq hx (0+0)) ?_))));refine C1 U (B0 U (AV ?_))
   skip
   refine Aj qB (UL (show(World.drew w).heap[bj]?=_ from hjw) hJ i (by omega)) U ?_;rintro v w3 ⟨rfl,hx3⟩;replace H:=H.drew.call hx3;have hj3:w3.heap[bj]?=some (Bl TJ (JB bd J)):=by rw[hx3.block bj (Al hjw) (by simp)];exact hjw
   refine Ab (Bb (hj3) (AD U U ?_));refine AV (Aj qB (Ss (J.place i:Int) hfew (DA.keep0 H.ext)) U ?_);rintro v w4 ⟨s31,rfl,F31⟩;rw[hrB]at F31;rw[hrE];obtain⟨a31,c31,rfl,R31,hc31⟩:=Fresh.rdB F31;replace H:=H.call F31.ext;have hj4:w4.heap[bj]?=some (Bl TJ (JB bd J)):=by rw[F31.ext.block bj (Al hj3) (by simp)];exact hj3
   refine Ab (Bb (hj4) (AD U U ?_));refine Iv U (C4 U U (C4 U U (IC U U (AV (Ac U (Ab (Bb (hj4) (B4 (Ar (Ad ?_))))))))));refine Ae U (Be U U (qA (Bz U (Ap (Aa (Ad (Ah U (Aj qB (VR a31 c31 _ raw _ R31 U hc31) U ?_))))))));rintro v w5 P39;obtain⟨a39,c39,rfl,hx39,R39,hc39⟩:=Alw P39;replace H:=H.call hx39;have hj5:w5.heap[bj]?=some (Bl TJ (JB bd J)):=by rw[hx39.block bj (Al hj4) (by simp)];exact hj4
   refine AW U (Ai U U (Ai U U (Ai U U (Ac U (Ak U (Ac U (qA (AB ?_))))))));have hxj:Ext [] w5 w5 := .refl _ _;have hbo:=Pj raw;have hb2:=Er s.length;have hb3:=Pn s.length;have hp12:(CY J.seq i []).length=12:=by rw[Nj];rfl
   refine Ad (BG (α:=Unit) 8998403161718784 (fun _=>[(43,.bool (J3 J i raw))]) (fun _ w'=>Ctx w0 [] w' (ent a 5 full)/\Ext [] w5 w') U ?_ ?_)
   .refine Ae U (BA U U (AF U (AQ 46 U ?_ ?_)))
    .intro h1;replace h1:=AR h1;refine Ah U (An U (Ae U (Aj qB (SL hj5 hJ i none 0 0 [] Rd.nil U) U ?_)));rintro v w6 F50;obtain⟨a50,c50,rfl,R50,hc50⟩:=Fresh.rdB F50;replace H:=H.call F50.ext;replace hxj:=F50.ext;refine Aj qB (Ad3 a39 a50 c39 c50 _ _ (BE raw) (CY J.seq i []) (R39.ext0 F50.ext) R50 U U hc39) U ?_;rintro v w7 ⟨rfl,rfl⟩;refine AN U (.bool _) U (Am U (Ab ?_));exact⟨rfl,(),rfl,⟨qab Value.bool (by rw[qar];simp_all[J3];try omega),trivial⟩,⟨H,hxj⟩⟩
    .intro h2;replace h2:=AU h2;refine Ag U (Ag U (Ag U (Ag U (Ag U (AM U (.bool _) U (Am U (Ab ?_)))))));exact⟨rfl,(),rfl,⟨qab Value.bool (by rw[qar];simp_all[J3];try omega),trivial⟩,⟨H,hxj⟩⟩
   rintro - j43 w ⟨H,hx9⟩;have hj6:w.heap[bj]?=some (Bl TJ (JB bd J)):=by rw[hx9.block bj (Al hj5) (by simp)];exact hj5
   have R9:=R39.ext0 hx9;refine Av _ U ?_ ?_
   .intro h2
    have hpl12:12<=(BE raw).length:=by
     have h3:=h2;simp only[J3,SM,qao,qaq]at h3;omega
    have hl60:(s++(BE raw).drop 12).length=s.length+((BE raw).length - ((12:Nat):Int).toNat):=by rw[qan,qbg];rfl
    refine Au (Ah U (Ah U (An U (Ae U (Aj qB (SL hj6 hJ i none 0 0 [] Rd.nil U) U ?_)))));rintro v w7 F57;obtain⟨a57,c57,rfl,R57,hc57⟩:=Fresh.rdB F57;replace H:=H.call F57.ext;rw[hp12];refine AO AX U (FB AX CJ U U ?_);refine DQ (L:=[]) U AX AX CJ OZ IW U (((BE raw).drop 12).map bv) U U H O (by simp) (Ht _) (Rd.appB ((R9.cut 12 c39 hc39).ext0 F57.ext)) ?_;rintro a60 c60 full60 w8 H O;rw[<-qay,<-hl60]at O;rw[<-hl60];refine Ak U (Ab (AE (AE (Aa (Au (Ay U U ?_))))));refine Ae U (qA ?_);refine⟨(i+1,s++(BE raw).drop 12,a60,c60,full60),rfl,⟨rfl,rfl,trivial⟩,⟨by dsimp only;omega,by dsimp only;omega,H,O,?_⟩,by dsimp only;omega⟩;dsimp only;rw[hNx,if_pos h2,show J.size - J.taken - (i+1)=n by omega]
   .intro h2;have hxk:Ext [] w w := .refl _ _;refine Ad (BG (α:=Unit) 9671404251074024183955456 (fun _=>[(61,.bool (L6 J i s raw))]) (fun _ w'=>Ctx w0 [] w' (ent a 5 full)) U ?_ ?_)
    .refine Ae U (BA U U (AF U (AQ 64 U ?_ ?_)))
     .intro h3;replace h3:=AR h3;refine Ae U (BZ U U (AN U (.bool _) U (AF U (AQ 68 U ?_ ?_))))
      .intro h4;replace h4:=AR h4;refine Ae U (Ah U (AO AX U (Aj qB (Gx (s.length:Int) _) U ?_)));rintro v w7 ⟨rfl,rfl⟩;rw[Ja];refine BD U U ?_;refine BA U U (AN U (.bool _) U (AF U (AQ 76 U ?_ ?_)))
       .intro h5;replace h5:=AR h5;refine Ah U (An U (Ah U (Aj qB (Ai5 hj6 hJ a c _ s U) U ?_)));rintro v w8 F80;obtain⟨a80,c80,rfl,R80,hc80⟩:=Fresh.rdB F80;replace H:=H.call F80.ext;refine Aj qB (Xy a39 a80 c39 c80 _ _ (BE raw) (Hh J.seq s) (R9.ext0 F80.ext) R80 U U) U ?_;rintro v w9 ⟨rfl,rfl⟩;refine AN U (.bool _) U (Am U (Ab ?_));exact⟨rfl,(),rfl,⟨qab Value.bool (by rw[qar];simp_all[L6];try exact⟨fun hh=>⟨by omega,by omega,by omega,hh⟩,fun hh=>hh.2.2.2⟩),trivial⟩,H⟩
       .intro h6;replace h6:=AU h6;refine Ag U (Ag U (Ag U (Ag U (Ag U (AM U (.bool _) U (Am U (Ab ?_)))))));exact⟨rfl,(),rfl,⟨qab Value.bool (by rw[qar];simp_all[L6];try omega),trivial⟩,H⟩
      .intro h7;replace h7:=AU h7;refine Ag U (Ag U (Ag U (Ag U (Ag U (Ag U (AM U (.bool _) U (AF U (Ag U (Ag U ?_)))))))));refine Ag U (Ag U (Ag U (AM U (.bool _) U (Am U (Ab ?_)))));exact⟨rfl,(),rfl,⟨qab Value.bool (by rw[qar];simp_all[L6];try first|omega|exact⟨fun hh=>⟨by omega,by omega,by omega,hh⟩,fun hh=>hh.2.2.2⟩),trivial⟩,H⟩
     .intro h8;replace h8:=AU h8;refine Ag U (Ag U (AM U (.bool _) U (AF U (Ag U (Ag U (Ag U (Ag U (Ag U (Ag U ?_)))))))));refine AM U (.bool _) U (AF U (Ag U (Ag U (Ag U (Ag U (Ag U (AM U (.bool _) U (Am U (Ab ?_)))))))));exact⟨rfl,(),rfl,⟨qab Value.bool (by rw[qar];simp_all[L6];try omega),trivial⟩,H⟩
    rintro - j61 w H;refine Av _ U ?_ ?_
    .intro h3;obtain⟨a',c',he,R',hc',hb'⟩:=Fresh.newB (Ctx.fresh (L:=[]) H O)
     injection he with e1 _ e2
     subst e1 e2;refine Ad (Ah U (Ak U (Am U (Ac U (qA (A6 (AK (AK (Ao (Ao (AK (Ao (CX (v1:=(.slice _ _ _)) (v2:=(.bool _)) (v3:=(.int _ _)) U U U U U ?_)))))))))))));exact⟨by rw[hNx,if_neg (by rw[h2];simp),if_pos h3];exact⟨a,c,rfl,R',hc',hb',by omega⟩,H.ext⟩
    .intro h3;refine Ad (Ak U (Am U (Ac U (qA (A6 (AK (AK (Ao (Ao (AK (Ao (CX (v1:=(.slice _ _ _)) (v2:=(.bool _)) (v3:=(.int _ _)) U U U U U ?_))))))))))));exact⟨by rw[hNx,if_neg (by rw[h2];simp),if_neg (by rw[h3];simp)];exact rfl,H.ext⟩
  .intro h1;replace h1:=AU h1;have hi2:J.size - J.taken - i=0:=by omega
   rw[hi2]at hN;refine B2 (Aw (Aw (AZ (Aa (Ad (Ak U (Am U (Ac U (qA (A6 (CX (v1:=(.slice _ _ _)) (v2:=(.bool _)) (v3:=(.int _ _)) U U U U U ?_)))))))))));exact⟨by rw[<-hN];exact rfl,H.ext⟩
end Go.Proofs.YtcpgbcabmcbclaaGreatDoor
