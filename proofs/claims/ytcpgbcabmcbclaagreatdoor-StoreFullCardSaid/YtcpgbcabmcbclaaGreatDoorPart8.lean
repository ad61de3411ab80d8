/- Part 8 of the proof. -/
import Derived.Test.YtcpgbcabmcbclaaGreatDoorPart7
import Derived.Ground.GgzProg
import Derived.Ground.SlgmProg
set_option maxRecDepth 20000
set_option maxHeartbeats 4000000
namespace Go.Proofs.YtcpgbcabmcbclaaGreatDoor
open Go.GV Go.Proofs.Tryz
theorem Abp(h:Nat):2 ^ (h+1)=2 ^ h+2 ^ h:=by rw[qd6];omega
theorem Kids.count{R:Nat->Option (Bool × List It)}{h:Nat}(ih:∀p L S,Lies R h p L S->2 ^ (h+1)<=S.length+1/\S.length+1<=2*L.length):∀{l:List It} {L:List Pr} {S:List Nat},Kids (Lies R h) l L S->l.length*2 ^ (h+1)<=S.length+l.length/\S.length+l.length<=2*L.length
 | [],_,_,⟨rfl,rfl⟩=>by simp
 |x::l,_,_,⟨L1,L2,S1,S2,rfl,rfl,h1,_,_,h4⟩=>by
  have a:=ih _ _ _ h1;have b:=Kids.count ih h4;simp only[qaw,qan,Nat.succ_mul,Nat.mul_add];omega
theorem Lies.count{R:Nat->Option (Bool × List It)}:∀{h p:Nat} {L:List Pr} {S:List Nat},Lies R h p L S->2 ^ (h+1)<=S.length+1/\S.length+1<=2*L.length
 |0,p,L,S,hL=>by
  have hne:=qbv.2 hL.ne;obtain⟨i,M,S',⟨_,_,rfl⟩,h2,rfl,h4,h5⟩:=hL;simp;omega
 |h+1,p,L,S,⟨i,M,S',h1,h2,h3,h4,h5⟩=>by
  obtain⟨rfl,hk⟩:=h1;subst h3;have hm:2<=M.length:=h4;obtain⟨a,b⟩:=Kids.count (fun p L S h=>Lies.count h) hk;have hp:=Abp (h+1);have h1:0<2 ^ (h+1):=Nat.pow_pos (by omega);have h6:(M.length - 2)*1<=(M.length - 2)*2 ^ (h+1):=qb7 _ h1;have h7:M.length*2 ^ (h+1)=(M.length - 2)*2 ^ (h+1)+2*2 ^ (h+1):=by rw[<-qcv];congr 1;omega
  rw[qaw];omega
def Root(R:Nat->Option (Bool × List It))(root:Int)(L:List Pr)(S:List Nat):Prop:=(root = -1/\L=[]/\S=[])\/∃(h p:Nat),root=(p:Int)/\Lies R h p L S
theorem Root.frame{R R':Nat->Option (Bool × List It)}{root:Int}{L:List Pr}{S:List Nat}(hr:Root R root L S)(he:∀x∈S,R' x=R x):Root R' root L S :=
 hr.imp id fun⟨h,p,h1,h2⟩=>⟨h,p,h1,h2.frame he⟩
structure TreeAt(fr:Nat)(A:Dev)(P:List Nat)(root:Int)(L:List Pr):Prop where
 lies:∃S,Root (RD A fr) root L S/\S.Nodup/\∀x:Nat,(x∈S↔P[x]?=some 1\/P[x]?=some 2)
 rise:Rising L
 ok:OkP L
def N0(s:Nat):Nat:=if s=1 then 3 else if s=2 then 0 else s
theorem Abq(P:List Nat)(k x:Nat):(Ef P k)[x]?=if x=k then P[x]?.map N0 else P[x]? := by
 unfold Ef
 by_cases hx:x=k
 .subst hx;rw[if_pos rfl]
  by_cases h1:P[x]?=some 1
  .rw[if_pos h1,qer (qaq.1 h1).1,h1];rfl
  .rw[if_neg h1]
   by_cases h2:P[x]?=some 2
   .rw[if_pos h2,qer (qaq.1 h2).1,h2];rfl
   .rw[if_neg h2]
    cases h3:P[x]? with
    |none=>rfl
    |some s =>
     have hs1:s≠1:=fun e=>h1 (by rw[h3,e]);have hs2:s≠2:=fun e=>h2 (by rw[h3,e]);rw[qbd,N0,if_neg hs1,if_neg hs2]
 .rw[if_neg hx]
  split
  .rw[qes (fun e=>hx e.symm)]
  .split
   .rw[qes (fun e=>hx e.symm)]
   .rfl
theorem Ji:∀(g:List Nat) (P:List Nat),g.Nodup->∀x:Nat,(g.foldl Ef P)[x]?=if x∈g then P[x]?.map N0 else P[x]?
 | [],P,_,x=>by simp
 |k::g,P,hd,x=>by
  obtain⟨h1,h2⟩:=qci.1 hd;rw[qdi,Ji g _ h2 x,Abq]
  by_cases hx:x=k
  .subst hx;rw[if_neg h1,if_pos rfl,if_pos (qae ..)]
  .rw[if_neg hx]
   by_cases hg:x∈g
   .rw[if_pos hg,if_pos (qag _ hg)]
   .rw[if_neg hg,if_neg (by simp[hx,hg])]
theorem Oo:∀(g:List Nat) (P:List Nat),(g.foldl Ef P).length=P.length
 | [],P=>rfl
 |k::g,P=>by
  rw[qdi,Oo g];unfold Ef
  split
  .simp
  .split <;> simp
theorem Lt(s:Nat):N0 s≠1/\N0 s≠2:=by
 unfold N0
 split
 .decide
 .split
  .decide
  .omega
theorem TI(s:Nat):Dm (N0 s)=Dm s:=by
 unfold N0
 split
 .rename_i h;rw[h];rfl
 .split
  .rename_i h;rw[h];rfl
  .rfl
structure Tops(fr:Nat)(L:List Pr)(S t:List Nat)(r:Int × Ch × Int):Prop where
 ok:r.1=0
 on:On fr r.2.1
 root:∃S',Root (RD r.2.1.A fr) r.2.2 L S'/\S'.Perm (S++t)/\Held r.2.1.P S'
theorem Agp{fr h:Nat}{c:Ch}{i:Bool}{M:List It}{L:List Pr}{S:List Nat}(hp:Part (RD c.A fr) h i M L S)(ho:OkP L)(hh:Held c.P S)(hn:On fr c)(hne:0<h->M≠[])(hz:AY i M<=667) :
  ∃t,CI fr c (DM fr c i M).2.1 t []/\t.length<=3/\(Tops fr L S t (DM fr c i M)\/Bad c (DM fr c i M).1 3):=by
 by_cases hf:Ih i M=true
 .have hi:i=true:=by unfold Ih at hf;simp at hf;exact hf.1
  have hM:M.length=1:=by unfold Ih at hf;simp at hf;exact hf.2
  subst hi;have ht:DM fr c true M=(0,c,(Cd M 0:Int)):=by unfold DM;rw[if_pos hf]
  rw[ht];refine⟨[],CI.refl _ _,by simp,.inl ⟨rfl,hn,S,?_,by simp,hh⟩⟩
  cases h with
  |zero=>exact absurd hp.inner0 (by simp)
  |succ h =>
   obtain⟨_,hk⟩:=hp
   match M,hM with
   | [z],_ =>
    obtain⟨L1,L2,S1,S2,rfl,rfl,h1,h2,h3,rfl,rfl⟩:=hk;rw[qa2,qa2];exact .inr ⟨h,z.page,rfl,h1⟩
 .have hm:(M=[]/\h=0)\/Many i M:=by
   cases h with
   |zero =>
    by_cases hM:M=[]
    .exact .inl ⟨hM,rfl⟩
    .right;rw[hp.inner0];exact hM
   |succ h =>
    right;have hM:=hne (by omega);obtain⟨rfl,_⟩:=hp;show 2<=M.length
    have:¬M.length=1:=fun h=>hf (by unfold Ih;rw[qam h];rfl)
    have:=qbv.2 hM;omega
  obtain⟨t,u1,u2,u3⟩:=Wd hp ho hh hn hm hz;obtain⟨q,hq⟩:=qD (Ex fr c i M)
  have ht:DM fr c i M=if q.1≠0 then(q.1,q.2.1,-1)else if q.2.2=[]then(0,q.2.1,-1)else if 1<q.2.2.length then((wrC fr q.2.1 true q.2.2).1,(wrC fr q.2.1 true q.2.2).2,(Ca q.2.1.P:Int))else(0,q.2.1,(Cd q.2.2 0:Int)):=by
   unfold DM;rw[if_neg hf,hq]
  rw[<-hq]at u1 u3;rw[ht]
  rcases u3 with u3|u3
  .obtain⟨S',k1,k2,k3⟩:=u3.kids;have hnum:=u3.num;rw[if_neg (by rw[u3.ok];simp)]
   by_cases h0:q.2.2=[]
   .rw[if_pos h0];rw[h0]at k1;obtain⟨rfl,rfl⟩:=k1;exact⟨t,u1,by omega,.inl ⟨rfl,u3.on,[],.inl ⟨rfl,rfl,rfl⟩,k2,k3⟩⟩
   .rw[if_neg h0];have hpos:=qbv.2 h0
    by_cases h1:1<q.2.2.length
    .rw[if_pos h1];have hk38:=k1.total ho
     have:38*q.2.2.length<=38*2:=qb7 _ hnum
     obtain⟨t2,v1,v2,v3⟩:=Lp (h:=h+1) (i:=true) ⟨rfl,k1⟩ ho k3 u3.on (show Many true q.2.2 from h1) (by omega);have hci:=u1.trans v1;rw[qa2]at hci;refine⟨_,hci,by rw[qan];omega,?_⟩
     rcases v3 with⟨v3,rfl,v4,v5,v6⟩|v3
     .refine .inl ⟨v3,v4,Ca q.2.1.P::S',.inr ⟨h+1,_,rfl,v5⟩,?_,v1.held.app (k3.keep v1)⟩;rw[qej]at *;intro z;have e1:=k2 z;simp only[qek,qef,List.count_nil]at *;omega
     .exact .inr (v3.back u1 (by omega))
    .rw[if_neg h1];refine⟨t,u1,by omega,.inl ⟨rfl,u3.on,S',.inr ?_,k2,k3⟩⟩;have h2:q.2.2.length=1:=by omega
     match hq2:q.2.2,h2 with
     | [z],_ =>
      rw[hq2]at k1;obtain⟨L1,L2,S1,S2,rfl,rfl,h1,h2,h3,rfl,rfl⟩:=k1;rw[qa2,qa2];exact⟨h,z.page,rfl,h1⟩
  .rw[if_pos u3.ne];exact⟨t,u1,by omega,.inr (u3.mono (by omega))⟩
structure After(fr:Nat)(A:Dev)(P:List Nat)(A':Dev)(P':List Nat):Prop where
 blk:∀q,(∀x:Nat,P[x]?=some 0->q≠fr+x)->A'.B.getD q (zeros,[])=A.B.getD q (zeros,[])
 blen:A'.B.length=A.B.length
 left:A.left = -1->A'.left = -1
 len:P'.length=P.length
 back:P'.map Dm=P.map Dm
def Worse(A:Dev)(P:List Nat)(e:Int)(m:Nat):Prop:=(e=8/\A.left ≠ -1)\/(e=7/\Dn P<m)
theorem Aix{fr:Nat}{c0 c:Ch}{t g:List Nat}{S S':List Nat}(h:CI fr c0 c t g)(h0:c0.tk=[]/\c0.gn=[])(hS:∀x:Nat,(x∈S↔c0.P[x]?=some 1\/c0.P[x]?=some 2))(hd:S.Nodup)(hp:(S'++g).Perm (S++t)) :
  After fr c0.A c0.P (Dq c 0).A (Dq c 0).P/\S'.Nodup/\∀x:Nat,(x∈S'↔(Dq c 0).P[x]?=some 1\/(Dq c 0).P[x]?=some 2):=by
 have hgn:c.gn=g:=by rw[h.gn,h0.2];rfl
 have hH:Held c0.P S:=fun x hx=>((hS x).1 hx).elim (fun h=>⟨1,h,by decide⟩) fun h=>⟨2,h,by decide⟩
 have hnd:(S++t).Nodup:=by
  rw[qdj];exact⟨hd,h.nd,fun a ha b hb e=>h.apart hH a ha (e ▸ hb)⟩
 have hnd2:=hp.nodup_iff.2 hnd;rw[qdj]at hnd2;obtain⟨n1,n2,n3⟩:=hnd2
 have hget:∀x:Nat,(Dq c 0).P[x]?=if x∈g then c.P[x]?.map N0 else c.P[x]? := fun x=>by
  show(List.foldl Ef c.P (if(0:Int)≠0 then c.tk else c.gn))[x]?=_;rw[if_neg (by simp),hgn,Ji g _ n2 x]
 have hlen:(Dq c 0).P.length=c0.P.length:=by
  show(List.foldl Ef c.P _).length=_;rw[Oo,h.len]
 refine⟨⟨fun q hq=>h.blk q fun x hx=>hq x (h.was x hx),h.blen,h.left,hlen,?_⟩,n1,fun x=>?_⟩
 .refine qcg fun x=>?_;rw[qav,qav,hget x,h.now x]
  by_cases ht:x∈t
  .rw[if_pos ht,h.was x ht]
   split <;> rfl
  .rw[if_neg ht]
   split
   .cases c0.P[x]? with
    |none=>rfl
    |some s=>simp only[qbd,TI]
   .rfl
 .rw[hget x];have hm:=hp.mem_iff (a:=x);simp only[qau]at hm;constructor
  .intro hx;have hxg:x∉g:=fun h2=>n3 x hx x h2 rfl;rw[if_neg hxg,h.now x]
   rcases hm.1 (.inl hx)with h2|h2
   .rw[if_neg (h.apart hH x h2)];exact(hS x).1 h2
   .rw[if_pos h2];exact .inr rfl
  .intro hx
   by_cases hxg:x∈g
   .rw[if_pos hxg]at hx;exfalso
    cases hc:c.P[x]? with
    |none=>rw[hc]at hx;simp at hx
    |some s =>
     rw[hc]at hx;simp only[qbd,qbc]at hx;exact hx.elim (Lt s).1 (Lt s).2
   .rw[if_neg hxg,h.now x]at hx
    have:x∈S\/x∈t:=by
     by_cases ht:x∈t
     .exact .inr ht
     .rw[if_neg ht]at hx;exact .inl ((hS x).2 hx)
    exact(hm.2 this).elim id fun h2=>absurd h2 hxg
theorem QY{fr:Nat}{c0 c:Ch}{t g:List Nat}{e:Int}(h:CI fr c0 c t g)(h0:c0.tk=[]/\c0.gn=[])(he:e≠0):After fr c0.A c0.P (Dq c e).A (Dq c e).P/\(Dq c e).P=c0.P:=by
 have htk:c.tk=t:=by rw[h.tk,h0.1];rfl
 have hP:(Dq c e).P=c0.P:=by
  refine qcg fun x=>?_;show(List.foldl Ef c.P (if e≠0 then c.tk else c.gn))[x]?=_;rw[if_pos he,htk,Ji t _ h.nd x,h.now x]
  by_cases ht:x∈t
  .rw[if_pos ht,if_pos ht,h.was x ht];rfl
  .rw[if_neg ht,if_neg ht]
 exact⟨⟨fun q hq=>h.blk q fun x hx=>hq x (h.was x hx),h.blen,h.left,by rw[hP],by rw[hP]⟩,hP⟩
structure Turned(fr:Nat)(A:Dev)(P:List Nat)(root:Int)(L:List Pr)(m:Nat)(r:Int × Int × Ch):Prop where
 aft:After fr A P r.2.2.A r.2.2.P
 out:(r.1=0/\r.2.2.A.on=true/\TreeAt fr r.2.2.A r.2.2.P r.2.1 L)\/(r.2.1=root/\r.2.2.P=P/\Worse A P r.1 m)
theorem Agq{R:Nat->Option (Bool × List It)}{h p n:Nat}{L:List Pr}{S:List Nat}(hL:Lies R h p L S)(hd:S.Nodup)(hlt:∀x∈S,x<n)(hn:n<=2000):h<=9:=by
 have h1:=hL.count.1;have h2:=UN n S hd hlt
 rcases qbk h 10 with h3|h3
 .omega
 .have:2 ^ 11<=2 ^ (h+1):=qcx (by omega) (by omega)
  omega
theorem TK{fr:Nat}{A:Dev}{P:List Nat}{root:Int}{L:List Pr}{key:Byt}{G:List It->List It}{g:List Pr->List Pr}(act:Acts key G g)(hr:∀L,Rising L->Rising (g L))(T:TreeAt fr A P root L)(hon:A.on=true)(hl:fr+P.length<=A.B.length)(hP:P.length<=2000){m:Nat}(hm:∀h,h=0\/2 ^ (h+1)<=P.length+1->2*h+3<=m) :
  Turned fr A P root (g L) m (Dp fr A P root key G):=by
 obtain⟨S,hroot,hnd,hS⟩:=T.lies;have hH:Held P S:=fun x hx=>((hS x).1 hx).elim (fun h=>⟨1,h,by decide⟩) fun h=>⟨2,h,by decide⟩;obtain⟨ed,hed⟩:=qD (if root = -1 then(0,⟨A,P,[],[]⟩,false,G [])else C2 fr G key 18 ⟨A,P,[],[]⟩ root.toNat 0:Int × Ch × Bool × List It);have hn:On fr (⟨A,P,[],[]⟩:Ch):=⟨hon,hl,by show P.length<=4096;omega⟩
 have he:∃(h:Nat) (t g':List Nat),2*h+3<=m/\CI fr ⟨A,P,[],[]⟩ ed.2.1 t g'/\t.length<=2*h/\(Eds fr h (g L) S t g' ed\/Bad ⟨A,P,[],[]⟩ ed.1 (2*h)):=by
  rcases hroot with⟨rfl,rfl,rfl⟩|⟨h,p,rfl,hLies⟩
  .rw[if_pos rfl]at hed;have h0:=act.leaf [] List.Pairwise.nil (fun p hp=>by cases hp);rw[qbr]at h0;have hsz:=act.size [] List.Pairwise.nil (fun p hp=>by cases hp);rw[hed,h0];exact⟨0,[],[],hm 0 (.inl U),CI.refl _ _,by simp,.inl ⟨rfl,hn,⟨[],⟨rfl,rfl,rfl⟩,by simp,fun x hx=>by cases hx⟩,fun h=>absurd h (Nat.lt_irrefl 0),by show AY false (List.map BC (g []))<=667;have:AY false (List.map BC [])=0:=rfl;omega⟩⟩
  .rw[if_neg (by omega),qbm]at hed;have hh:=Agq hLies hnd (fun x hx=>hH.lt hx) hP;obtain⟨t,g',e1,e2,e3⟩:=TH act h 18 ⟨A,P,[],[]⟩ p 0 L S hLies T.rise T.ok hH hn (by omega) (by omega);rw[hed];have h1:=hLies.count.1;have h2:=UN P.length S hnd fun x hx=>hH.lt hx;exact⟨h,t,g',hm h (.inr (by omega)),e1,e2,e3⟩
 obtain⟨h,t,g',hh,e1,e2,e3⟩:=he
 have hturn:Dp fr A P root key G=if ed.1≠0 then(ed.1,root,Dq ed.2.1 ed.1)else if(DM fr ed.2.1 ed.2.2.1 ed.2.2.2).1≠0 then((DM fr ed.2.1 ed.2.2.1 ed.2.2.2).1,root,Dq (DM fr ed.2.1 ed.2.2.1 ed.2.2.2).2.1 (DM fr ed.2.1 ed.2.2.1 ed.2.2.2).1)else(0,(DM fr ed.2.1 ed.2.2.1 ed.2.2.2).2.2,Dq (DM fr ed.2.1 ed.2.2.1 ed.2.2.2).2.1 0):=by
  unfold Dp;rw[hed]
 rw[hturn]
 rcases e3 with e3|e3
 .obtain⟨S1,p1,p2,p3⟩:=e3.part;rw[if_neg (by rw[e3.ok];simp)];obtain⟨t2,v1,v2,v3⟩:=Agp p1 (act.ok _ T.ok) p3 e3.on e3.ne e3.sz;have hci:=e1.trans v1;rw[qa2]at hci
  rcases v3 with v3|v3
  .obtain⟨S2,k1,k2,k3⟩:=v3.root;rw[if_neg (by rw[v3.ok];simp)]
   obtain⟨o1,o2,o3⟩:=Aix (S:=S) (S':=S2) hci ⟨rfl,rfl⟩ hS hnd (by
    rw[qej]at *;intro z;have e1:=p2 z;have e2:=k2 z;simp only[qek]at *
    omega)
   exact⟨o1,.inl ⟨rfl,v3.on.on,⟨⟨S2,k1,o2,o3⟩,hr _ T.rise,act.ok _ T.ok⟩⟩⟩
  .rw[if_pos v3.ne];obtain⟨o1,o2⟩:=QY (e:=(DM fr ed.2.1 ed.2.2.1 ed.2.2.2).1) hci ⟨rfl,rfl⟩ v3.ne;exact⟨o1,.inr ⟨rfl,o2,(v3.back e1 (show 3+t.length<=m by omega))⟩⟩
 .rw[if_pos e3.ne];obtain⟨o1,o2⟩:=QY (e:=ed.1) e1 ⟨rfl,rfl⟩ e3.ne;exact⟨o1,.inr ⟨rfl,o2,e3.mono (by omega)⟩⟩
def ZA(M:List It):Prop:=M.Pairwise fun x y=>ltB x.key y.key
theorem ZB{M:List It}(hr:ZA M){i j:Nat}{x y:It}(hx:M[i]?=some x)(hy:M[j]?=some y)(h:i<j):ltB x.key y.key:=by
 obtain⟨h1,h2⟩:=qaq.1 hx;obtain⟨h3,h4⟩:=qaq.1 hy;have:=qb5.1 hr i j h1 h3 h
 rwa [h2,h4]at this
theorem UU{M:List It}(hr:ZA M)(key:Byt):∀(n i j:Nat),j - i<=n->i<=j->j<=M.length->(∀(k:Nat) (x:It),k<i->M[k]?=some x->ltB x.key key)->(∀(k:Nat) (x:It),j<=k->M[k]?=some x->¬ltB x.key key) ->
  (∀(k:Nat) (x:It),k<bsN M key i j->M[k]?=some x->ltB x.key key)/\(∀(k:Nat) (x:It),bsN M key i j<=k->M[k]?=some x->¬ltB x.key key)
 |0,i,j,h,hij,hj,h1,h2=>by
  rw[Nq];exact⟨h1,fun k x hk=>h2 k x (by omega)⟩
 |n+1,i,j,h,hij,hj,h1,h2=>by
  by_cases hlt:i<j
  .rw[Yl hlt];obtain⟨x,hx⟩:=AR (l:=M) (i:=(i+j) / 2);rw[hx];simp only[qbd,qdp]
   by_cases hc:DE x.key key<0
   .rw[if_pos hc];have hlx:=JF.1 hc;refine UU hr key n _ j (by omega) (by omega) hj (fun k y hk hy=>?_) h2
    rcases qbk k ((i+j) / 2)with h3|h3
    .exact Ga (ZB hr hy hx h3) hlx
    .obtain rfl:k=(i+j) / 2:=by omega
     rw[hx]at hy;cases hy;exact hlx
   .rw[if_neg hc];have hlx:¬ltB x.key key:=fun h=>hc (JF.2 h);refine UU hr key n i _ (by omega) (by omega) (by omega) h1 fun k y hk hy=>?_
    rcases Nat.eq_or_lt_of_le hk with h3|h3
    .subst h3;rw[hx]at hy;cases hy;exact hlx
    .exact fun h4=>hlx (Ga (ZB hr hx hy h3) h4)
  .rw[Nq];exact⟨h1,fun k x hk=>h2 k x (by omega)⟩
theorem Yx{M:List It}(hr:ZA M)(key:Byt):(∀x∈M.take (C0 M key),ltB x.key key)/\(∀x∈M.drop (C0 M key),¬ltB x.key key):=by
 obtain⟨h1,h2⟩:=UU hr key _ 0 M.length (qaf _) (qak _) (qaf _) (fun k x hk=>absurd hk (qcp _)) (fun k x hk hx=>by have:=(qaq.1 hx).1;omega);constructor
 .intro x hx;obtain⟨k,hk⟩:=List.getElem?_of_mem hx;have:=(qaq.1 hk).1;rw[qa1]at this;rw[List.getElem?_take_of_lt (by omega)]at hk;exact h1 k x (by show k<C0 M key;omega) hk
 .intro x hx;obtain⟨k,hk⟩:=List.getElem?_of_mem hx;rw[qct]at hk;exact h2 _ x (by show C0 M key<=_;omega) hk
theorem Abr{L:List Pr}(h:Rising L):ZA (L.map BC):=qbn.2 h
theorem KG{L:List Pr}(hr:Rising L)(key:Byt):∃A B:List Pr,(∀p∈A,ltB p.1 key)/\(∀p∈B,ltB key p.1)/\(L.map BC).take (C0 (L.map BC) key)=A.map BC /\
  ((EO (L.map BC) key=true/\∃v,L=A++(key,v)::B/\(L.map BC).drop (C0 (L.map BC) key+1)=B.map BC/\(L.map BC)[C0 (L.map BC) key]?=some (BC (key,v))) \/
   (EO (L.map BC) key=false/\L=A++B/\(L.map BC).drop (C0 (L.map BC) key)=B.map BC)):=by
 obtain⟨h1,h2⟩:=Yx (Abr hr) key;obtain⟨k,hk⟩:=qD (C0 (L.map BC) key);have hle:k<=L.length:=by have:=Oi (L.map BC) key;rw[qal]at this;omega
 rw[<-hk]at h1 h2 |-;rw[<-List.map_take]at h1 |-;rw[<-qeg]at h2;have hA:∀p∈L.take k,ltB p.1 key:=fun p hp=>h1 _ (qah.2 ⟨p,hp,rfl⟩);have hB:∀p∈L.drop k,¬ltB p.1 key:=fun p hp=>h2 _ (qah.2 ⟨p,hp,rfl⟩);have hsp:=(qbl k L).symm
 cases hd:L.drop k with
 |nil =>
  rw[hd]at hsp;have hlen:L.length<=k:=by have:=qac List.length hd;simp at this;omega
  refine⟨L.take k,[],hA,(fun p hp=>by cases hp),rfl,.inr ⟨?_,hsp,?_⟩⟩
  .unfold EO;rw[<-hk,qb0 (by rw[qal];exact hlen)]
  .rw[<-qeg,hd]
 |cons q B =>
  rw[hd]at hsp hB
  have hq0:L[k]?=some q:=by
   have:(L.drop k)[0]?=some q:=by rw[hd];rfl
   rw[qct]at this;exact this
  have hg:(L.map BC)[k]?=some (BC q):=by rw[qav,hq0];rfl
  have hrB:Rising (q::B):=by rw[hsp]at hr;exact(Rising.append.1 hr).2.1
  have hqB:=(qbj.1 hrB).1;have hdr:L.drop (k+1)=B:=by rw[<-qdn,hd];rfl
  rcases Nh q.1 key with h3|h3|h3
  .exact absurd h3 (hB q (qae ..))
  .refine⟨L.take k,B,hA,fun p hp=>h3 ▸ hqB p hp,rfl,.inl ⟨?_,q.2,?_,?_,?_⟩⟩
   .unfold EO;rw[<-hk,hg];exact qam (by show DE q.1 key=0;rw[h3];exact Lj _)
   .rw[<-h3];exact hsp
   .rw[<-qeg,hdr]
   .rw[hg,<-h3]
  .refine⟨L.take k,q::B,hA,fun p hp=>?_,rfl,.inr ⟨?_,hsp,?_⟩⟩
   .rcases qab.1 hp with rfl|hp
    .exact h3
    .exact Ga h3 (hqB p hp)
   .unfold EO;rw[<-hk,hg];exact qai fun h=>GH h3 (Ng h).symm
   .rw[<-qeg,hd]
theorem UV{A B:List Pr}{k v:Byt}{L:List Pr}(hA:∀p∈A,ltB p.1 k)(hB:∀p∈B,ltB k p.1)(hL:L=A++B\/∃u,L=A++(k,u)::B):Hp L k v=A++((k,v)::B):=by
 have f1:A.filter (fun p=>decide (ltB p.1 k))=A:=Ek fun p hp=>qam (hA p hp);have f2:B.filter (fun p=>decide (ltB p.1 k))=[]:=Hf fun p hp=>qai (Fs (hB p hp));have f3:A.filter (fun p=>decide (ltB k p.1))=[]:=Hf fun p hp=>qai (Fs (hA p hp));have f4:B.filter (fun p=>decide (ltB k p.1))=B:=Ek fun p hp=>qam (hB p hp);unfold Hp
 rcases hL with rfl|⟨u,rfl⟩
 .rw[qbo,qbo,f1,f2,f3,f4];simp
 .have hkk:decide (ltB k k)=false:=qai (GF k);rw[qbo,qbo,qbt,qbt,f1,f2,f3,f4];simp[hkk]
theorem ZC{A B:List Pr}{k:Byt}{L:List Pr}(hA:∀p∈A,ltB p.1 k)(hB:∀p∈B,ltB k p.1)(hL:L=A++B\/∃u,L=A++(k,u)::B):IQ L k=A++B:=by
 have f1:A.filter (fun p => !decide (p.1=k))=A:=Ek fun p hp=>by rw[qai (GH (hA p hp))];rfl
 have f2:B.filter (fun p => !decide (p.1=k))=B:=Ek fun p hp=>by rw[qai (fun e=>GH (hB p hp) e.symm)];rfl
 unfold IQ
 rcases hL with rfl|⟨u,rfl⟩
 .rw[qbo,f1,f2]
 .rw[qbo,qbt,f1,f2];simp
theorem ZD{A B:List Pr}{k:Byt}(hA:∀p∈A,ltB p.1 k)(hB:∀p∈B,ltB k p.1):DK (A++B) k=none/\∀u,DK (A++(k,u)::B) k=some u:=by
 have f1:A.find? (fun p=>decide (p.1=k))=none:=qd9.2 fun p hp=>by simpa using GH (hA p hp)
 have f2:B.find? (fun p=>decide (p.1=k))=none:=qd9.2 fun p hp=>by simpa using fun e=>GH (hB p hp) e.symm
 unfold DK;refine⟨by rw[qea,f1,f2];rfl,fun u=>?_⟩;rw[qea,f1,qc4,qam rfl];rfl
theorem Wo{L:List Pr}(hr:Rising L)(key val:Byt):KA key val (L.map BC)=(Hp L key val).map BC:=by
 obtain⟨A,B,hA,hB,ht,h|h⟩:=KG hr key
 .obtain⟨h1,v,h2,h3,_⟩:=h;unfold KA;rw[if_pos h1,ht,h3,UV hA hB (.inr ⟨v,h2⟩),qaz,qay];rfl
 .obtain⟨h1,h2,h3⟩:=h;unfold KA;rw[if_neg (by rw[h1];simp),ht,h3,UV hA hB (.inl h2),qaz,qay];rfl
theorem Wp{L:List Pr}(hr:Rising L)(key:Byt):JW key (L.map BC)=(IQ L key).map BC:=by
 obtain⟨A,B,hA,hB,ht,h|h⟩:=KG hr key
 .obtain⟨h1,v,h2,h3,_⟩:=h;unfold JW;rw[if_pos h1,ht,h3,ZC hA hB (.inr ⟨v,h2⟩),qaz]
 .obtain⟨h1,h2,h3⟩:=h;unfold JW;rw[if_neg (by rw[h1];simp),ZC hA hB (.inl h2),<-h2]
theorem Oq(i:Bool)(l:List It)(k m:Nat)(hk:k<=m:=by omega):AY i (l.take k)+AY i (l.drop m)<=AY i l:=by
 have h1:=B2 i (l.take k) (l.drop k);rw[qbl]at h1;have h2:=B2 i ((l.drop k).take (m - k)) ((l.drop k).drop (m - k));rw[qbl,qdn,show k+(m - k)=m by omega]at h2;omega
theorem Wu{key val:Byt}(hk:1<=key.length)(hk2:key.length<=32)(hv:val.length<=128):Acts key (KA key val) (fun L=>Hp L key val):=by
 refine⟨fun L hr _=>Wo hr key val,fun A L B hA hB=>Afm hA hB,fun L ho p hp=>?_,fun L hr ho=>?_⟩
 .rcases VP hp with rfl|h
  .exact⟨hk,hk2,hv⟩
  .exact ho p h
 .rw[<-Wo hr key val];have h5:AY false [(⟨key,val,0⟩:It)]<=164:=by show 4+key.length+val.length+0<=164;omega
  unfold KA
  split
  .have:=Oq false (L.map BC) (C0 (L.map BC) key) (C0 (L.map BC) key+1);rw[B2,B2];omega
  .have:=Oq false (L.map BC) (C0 (L.map BC) key) (C0 (L.map BC) key);rw[B2,B2];omega
theorem Wv(key:Byt):Acts key (JW key) (fun L=>IQ L key):=by
 refine⟨fun L hr _=>Wp hr key,fun A L B hA hB=>Afn hA hB,fun L ho p hp=>ho p (VQ hp),fun L hr ho=>?_⟩;rw[<-Wp hr key];unfold JW
 split
 .have:=Oq false (L.map BC) (C0 (L.map BC) key) (C0 (L.map BC) key+1);rw[B2];omega
 .omega
theorem Ww{fr sz:Nat}{A:Dev}(key:Byt)(hon:A.on=true)(hl:fr+sz<=A.B.length):∀(h n p d:Nat) (L:List Pr) (S:List Nat),Lies (RD A fr) h p L S->Rising L->(∀x∈S,x<sz)->d+h<=16->h<n ->
  VZ A fr sz key n (p:Int) (d:Int)=(0,DK L key)
 |0,n+1,p,d,L,S,hL,hr,hs,hd,hn=>by
  have hp:=hs p hL.page;obtain⟨i,M,S',⟨rfl,rfl,rfl⟩,h2,rfl,h4,h5⟩:=hL;have hrd:=K3 hon hp hl (show d<=16 by omega) h2;rw[UQ,if_neg (by omega),hrd];dsimp only;obtain⟨A',B',hA,hB,ht,h|h⟩:=KG hr key
  .obtain⟨h1,v,h2,h3,h6⟩:=h;rw[if_pos h1,h6,h2,(ZD hA hB).2 v];rfl
  .obtain⟨h1,h2,h3⟩:=h;rw[if_neg (by rw[h1];simp),h2,(ZD hA hB).1]
 |h+1,n+1,p,d,L,S,hL,hr,hs,hd,hn=>by
  have hp:=hs p hL.page;obtain⟨i,l,S',⟨rfl,hk⟩,h2,rfl,h4,h5⟩:=hL;have hrd:=K3 hon hp hl (show d<=16 by omega) h2;rw[UQ,if_neg (by omega),hrd];dsimp only;obtain⟨a,x,b,La,Lx,Lb,Sa,Sx,Sb,rfl,hal,rfl,rfl,ka,q1,q2,q3,kb,hlo,hhi⟩:=Pc hk hr h4.ne key;have hpg:((a++x::b)[BX (a++x::b) key]?.map (·.page)).getD 0=x.page:=Mm hal;rw[hpg,Afo hlo hhi];exact Ww key hon hl h n x.page (d+1) Lx Sx q1 (Rising.append.1 (Rising.append.1 hr).2.1).1 (fun x hx=>hs x (by simp[hx])) (by omega) (by omega)
attribute [local irreducible] A7 W Wq Wt
theorem Prs.of{w0 w:World}{M:Mut}(hM:∀x,M x->x<w0.heap.size){a:Option Addr}{n c:Nat}{full:List Value}{ps:List Im}(H:Ctx w0 [] w (ent a 68 full))(O:OS a n c 2 full (ps.flatMap LD))(hok:∀m∈ps,m.Ok w0 M){L:List Pr}(hl:ps.map (fun m=>prI m.it)=L):Prs w M a L.length c L:=by
 have hn:n=ps.length:=O.numN (fun _ _=>rfl) (by decide);have hL:L.length=n:=by rw[<-hl,qal,hn]
 refine⟨⟨ps,OS.rd O H.blk (fun _ _=>rfl) (by decide),?_,hl,fun m hm=>(hok m hm).call H.ext⟩,rfl,by rw[hL];exact O.le⟩
 cases ha:a with
 |none =>
  left;have h8:=O.none' ha;have h9:=O.le;exact qa9 (by omega)
 |some q =>
  right;have h8:=(H.own (q.block,Bl 68 full) (by rw[ha];exact qaa.2 rfl)).elim (fun h=>by cases h) id;obtain⟨qb,qo,qs⟩:=q;exact fun h=>by have:=hM _ h;dsimp only[adr]at this h8;omega
def inR(kf kt:Byt)(k:Byt):Bool := !decide (ltB k kf) && (decide (kt.length=0) || decide (ltB k kt))
def LV(kf kt:Byt)(L:List Pr):List Pr:=L.filter fun p=>inR kf kt p.1
theorem Aiy{w:World}{bd bp ba:Nat}{A:Dev}{F:Nat->Prop}{P:List Nat}(hD:DevAt w bd A F)(hP:PgAt w bp ba P)(frm:Int)(_ : -9223372036854775808<=frm)(_:frm<=9223372036854775807) :
  Ret prog 80 #[ptr bd,ptr bp,.int .i64 frm] w fun v w'=>Ext [] w w'/\((frm<0\/(A.B.length:Int) - (P.length:Int)<frm)/\v=.tuple #[.pointer none,.int .i64 1]\/(¬(frm<0\/(A.B.length:Int) - (P.length:Int)<frm)/\∃bt,v=.tuple #[ptr bt,.int .i64 0]/\w'.heap[bt]?=some (Bl TT [ptr bd,ptr bp,.int .i64 frm])/\w.heap.size<=bt)):=by
 obtain⟨w0,rfl⟩:=qD w;have hlen:=hP.len;obtain⟨role,bs,bm,sv,m,o,D,hF⟩:=hD;have hwf:=D.wf.hi;have H:=Ctx.start w0 [];refine A6 (fn:=f80) func80 U [.pointer (some ⟨bd,0,none⟩),.pointer (some ⟨bp,0,none⟩),.int .i64 frm] U ?_;refine Ad (B5 U (Ac U (qA (Ar (AD (Ad (An U (BN LO U ?_))))))));refine AC U (An U (BN Q6 U ?_));refine AN U (.bool _) U (Am U (qA (Bw U (Ad (BB (α:=Unit) 134184960 (fun _=>[(15,.bool (decide (frm<0) || decide ((A.B.length:Int) - (P.length:Int)<frm)))]) (fun _ w'=>w0=w') U ?_ ?_)))))
 .refine Ae U (Bt U U (AC U (AX 18 U ?_ ?_)))
  .intro h1;replace h1:=AU h1;refine Ak U (Ak U (Ak U (Ak U (Ak U (Ak U (Ak U (AQ U (.bool _) U (Am U (Ab ?_)))))))));exact⟨rfl,(),rfl,⟨qac Value.bool (by(rw[qam h1]);rfl),trivial⟩,rfl⟩
  .intro h2;replace h2:=AV h2;refine Ae U (An U (Ah qB (Gr D.hd) U ?_));rintro v w ⟨rfl,rfl⟩;refine An U (Ah qB (Nv hP) U ?_);rintro v w ⟨rfl,rfl⟩;refine B4 U U (Ci U U (AN U (.bool _) U (Am U (Ab ?_))));exact⟨rfl,(),rfl,⟨qac Value.bool (by(rw[qai h2]);rfl),trivial⟩,rfl⟩
 rintro - j15 w rfl;refine Au _ U ?_ ?_
 .intro hA;refine Ad (B5 U (Ac U (qA (Ax (AL (Ao (Ce (v1:=(.pointer _)) (v2:=(.int _ _)) U U U U ?_)))))));exact⟨.refl _ _,.inl ⟨by simpa using hA,rfl⟩⟩
 .intro hA;refine Aq (AF (Aa (Ad (An U (An U (Ae U (B0 [ptr bd,ptr bp,.int .i64 frm] Alw Al1 ?_)))))));refine Co [ptr bd,ptr bp,.int .i64 frm] (.agg _) U U H ?_;rintro bt w - H;refine B5 U (Ac U (qA (Ax (Ce (v1:=(.pointer _)) (v2:=(.int _ _)) U U U U ?_))));refine⟨H.ext,.inr ⟨fun h=>?_,bt,rfl,H.get at0,(H.own _ (qae ..)).elim (fun h=>by cases h) id⟩⟩;have h6:(decide (frm<0) || decide ((A.B.length:Int) - (P.length:Int)<frm))=true:=by simpa using h
  rw[hA]at h6;cases h6
structure Dk(w:World)(bx bt bd bp ba:Nat)(A:Dev)(P:List Nat)(F:Mut):Prop where
 dk:w.heap[bx]?=some (Bl 0 [ptr bd,ptr bp,ptr bt])
 T:Tx w bt bd bp ba 10 A P F []
 nx:¬TM F ba bt bp [] bx
theorem Yy(kf:Byt)(L:List Pr):LU kf false (L.map BC)=L.filter fun p => !decide (ltB p.1 kf):=by
 unfold LU;rw[if_neg (by simp)]
 induction L with
 |nil=>rfl
 |cons p L ih =>
  have hd:decide (0<=DE p.1 kf) = !decide (ltB p.1 kf):=by
   by_cases h:ltB p.1 kf
   .rw[qam h,qai (fun h2=>Zt.1 h2 h)];rfl
   .rw[qai h,qam (Zt.2 h)];rfl
  rw[qay,qbt,qbt,show(BC p).key=p.1 from rfl,hd]
  by_cases h:(!decide (ltB p.1 kf))=true
  .rw[if_pos h,if_pos h,qay,ih];rfl
  .rw[if_neg h,if_neg h,ih]
theorem Abs(kf:Byt)(a b:List Nd):KE kf (a++b)=KE kf a++KE kf b:=qbp
theorem TL{fr sz:Nat}{A:Dev}(hon:A.on=true)(hl:fr+sz<=A.B.length):∀(h n p d:Nat) (L:List Pr) (S:List Nat),Lies (RD A fr) h p L S->(∀x∈S,x<sz)->sz<=4096->d+h<=16->h<n ->
  (EC A fr sz n (p:Int) d).1=0/\(EC A fr sz n (p:Int) d).2.map (·.1)=S.map (fun x:Nat=>(x:Int))/\∀kf,KE kf (EC A fr sz n (p:Int) d).2=L.filter fun p => !decide (ltB p.1 kf)
 |0,n+1,p,d,L,S,hL,hs,hz,hd,hn=>by
  have hp:=hs p hL.page;obtain⟨i,M,S',⟨rfl,rfl,rfl⟩,h2,rfl,h4,h5⟩:=hL;have hrd:=K3 hon hp hl (show d<=16 by omega) h2;unfold EC;rw[hrd];refine⟨rfl,rfl,fun kf=>?_⟩;show LU kf false (L.map BC)++[]=_;rw[qa2,Yy]
 |h+1,n+1,p,d,L,S,hL,hs,hz,hd,hn=>by
  have hp:=hs p hL.page;obtain⟨i,l,S',⟨rfl,hk'⟩,h2,rfl,h4,h5⟩:=hL;have hk:Kids (Lies (RD A fr) h) l L S':=hk';have hrd:=K3 hon hp hl (show d<=16 by omega) h2;have hs':∀x∈S',x<sz:=fun x hx=>hs x (qag _ hx);have hkid:Kids (fun p L S=>Lies (RD A fr) h p L S/\∀x∈S,x<sz) l L S':=hk.mono fun p L S hsub hq=>⟨hq,fun x hx=>hs' x (hsub x hx)⟩
  obtain⟨b1,b2,b3⟩:(Ij (fun p=>EC A fr sz n p (d+1)) l).1=0/\(Ij (fun p=>EC A fr sz n p (d+1)) l).2.map (·.1)=S'.map (fun x:Nat=>(x:Int))/\∀kf,KE kf (Ij (fun p=>EC A fr sz n p (d+1)) l).2=L.filter fun p => !decide (ltB p.1 kf):=by
   clear h2 h4 h5 hrd hp hs hk hk'
   induction l generalizing L S' with
   |nil=>obtain⟨rfl,rfl⟩:=hkid;exact⟨rfl,rfl,fun _=>rfl⟩
   |cons x l ih =>
    obtain⟨L1,L2,S1,S2,rfl,rfl,⟨h3,h3s⟩,_,_,h6⟩:=hkid;obtain⟨a1,a2,a3⟩:=TL hon hl h n x.page (d+1) L1 S1 h3 h3s hz (by omega) (by omega);obtain⟨b1,b2,b3⟩:=ih L2 S2 (fun x hx=>hs' x (qax _ hx)) h6;unfold Ij;rw[if_neg (by rw[a1];simp)];exact⟨b1,by rw[qaz,qaz,a2,b2],fun kf=>by rw[Abs,a3,b3,qbo]⟩
  unfold EC;rw[hrd];dsimp only;refine⟨b1,by rw[qay,qay,b2],fun kf=>?_⟩;show LU kf true l++KE kf _=_;rw[b3];rfl
theorem Abt{L:List Pr}(hr:Rising L)(kt:Byt):L.takeWhile (fun p=>decide (DE p.1 kt<0))=L.filter fun p=>decide (ltB p.1 kt):=by
 induction L with
 |nil=>rfl
 |cons p L ih =>
  obtain⟨h1,h2⟩:=qbj.1 hr
  have hd:decide (DE p.1 kt<0)=decide (ltB p.1 kt):=by
   by_cases h:ltB p.1 kt
   .rw[qam h,qam (JF.2 h)]
   .rw[qai h,qai (fun h2=>h (JF.1 h2))]
  rw[qcy,qbt,hd]
  by_cases h:ltB p.1 kt
  .rw[qam h];simp only[if_true];rw[ih h2]
  .rw[qai h];simp only[qdk,if_false];refine(Hf fun q hq=>qai fun h3=>h (Ga (h1 q hq) h3)).symm
theorem Abu{L:List Pr}(hr:Rising L)(kf kt:Byt):Wn kt (L.filter fun p => !decide (ltB p.1 kf))=LV kf kt L:=by
 unfold Wn LV inR
 by_cases hk:kt=[]
 .rw[if_pos hk,hk];simp
 .rw[if_neg hk,Abt (hr.sublist qeq),List.filter_filter]
  congr 1
  funext p
  rw[qai (show ¬kt.length=0 from fun h=>hk (qa9 h)),Bool.false_or,Bool.and_comm]
structure Told(fr:Nat)(A:Dev)(P:List Nat)(root:Int)(L:List Pr)(S:List Nat):Prop where
 may:Hr P.length root=0
 rlo : -1<=root
 rhi:root<P.length
 none:root = -1↔L=[]
 scan:∀kf kt,Nz A fr P.length root kf kt=(0,LV kf kt L)
 walk:KD A fr P.length root=(0,Ik (S.map fun x:Nat=>(x:Int)))
 num:(Ea A fr P.length root).2.length=S.length
 get:∀key,VZ A fr P.length key 18 root 0=(0,DK L key)
 len:S.length<=2*L.length
theorem told{fr:Nat}{A:Dev}{P:List Nat}{root:Int}{L:List Pr}{S:List Nat}(hR:Root (RD A fr) root L S)(hon:A.on=true)(hl:fr+P.length<=A.B.length)(hP:P.length<=2000)(hnd:S.Nodup)(hS:∀x∈S,x<P.length)(hr:Rising L):Told fr A P root L S:=by
 rcases hR with⟨rfl,rfl,rfl⟩|⟨h,p,rfl,hL⟩
 .have hm:Hr P.length (-1)=0:=by unfold Hr;rw[if_neg (by omega)]
  have hn:Ea A fr P.length (-1)=(0,[]):=by unfold Ea;rw[if_pos rfl]
  refine⟨hm,by omega,by omega,by simp,fun kf kt=>?_,?_,by rw[hn];rfl,fun key=>?_,qak _⟩
  .unfold Nz;rw[if_neg (by rw[hm];simp),hn,if_neg (by simp)];unfold Wn KE LV
   split <;> rfl
  .unfold KD;rw[if_neg (by rw[hm];simp),hn,if_neg (by simp)];rfl
  .rw[UQ,if_pos rfl];rfl
 .have hp:=hS p hL.page;have hm:Hr P.length (p:Int)=0:=by unfold Hr;rw[if_neg (by omega)]
  have hh:=Agq hL hnd hS hP;obtain⟨e1,e2,e3⟩:=TL hon hl h 18 p 0 L S hL hS (by omega) (by omega) (by omega);have hn:Ea A fr P.length (p:Int)=EC A fr P.length 18 (p:Int) 0:=by unfold Ea;rw[if_neg (by omega)]
  rw[<-hn]at e1 e2 e3;refine⟨hm,by omega,by omega,⟨fun h=>by omega,fun h=>absurd h hL.ne⟩,fun kf kt=>?_,?_,?_,fun key=>?_,?_⟩
  .unfold Nz;rw[if_neg (by rw[hm];simp),if_neg (by rw[e1];simp),e3,Abu hr]
  .unfold KD;rw[if_neg (by rw[hm];simp),if_neg (by rw[e1];simp),e2]
  .have:=qac List.length e2
   rwa [qal,qal]at this
  .exact Ww key hon hl h 18 p 0 L S hL hr hS (by omega) (by omega)
  .have:=hL.count.2;omega
theorem Lu(L:List Pr):LV [] [] L=L:=Ek fun p _=>by
 unfold inR
 have:¬ltB p.1 []:=by
  cases p.1 with
  |nil=>exact GF _
  |cons x l=>intro h;cases h
 rw[qai this];rfl
theorem TreeAt.told{fr:Nat}{A:Dev}{P:List Nat}{root:Int}{L:List Pr}(T:TreeAt fr A P root L)(hon:A.on=true)(hl:fr+P.length<=A.B.length)(hP:P.length<=2000):∃S,Told fr A P root L S/\S.Nodup/\(∀x:Nat,x∈S↔P[x]?=some 1\/P[x]?=some 2):=by
 obtain⟨S,hR,hnd,hS⟩:=T.lies;exact⟨S,Go.Proofs.YtcpgbcabmcbclaaGreatDoor.told hR hon hl hP hnd (fun x hx=>((hS x).1 hx).elim (fun h=>(qaq.1 h).1) fun h=>(qaq.1 h).1) T.rise,hnd,hS⟩
theorem Agr{fr:Nat}{c:Ch}{i:Bool}{M:List It}{m:Nat}(h:Few c.A m):Few (DM fr c i M).2.1.A (m+3):=by
 obtain⟨-,-,q3,-⟩:=KB (fr:=fr) (c:=c) (i:=i) (M:=M) (m:=m);have q3:=q3 h;unfold DM
 split
 .exact h.mono (by omega)
 .split
  .exact q3.mono (by omega)
  .split
   .exact q3.mono (by omega)
   .split
    .exact(PC q3).mono (by omega)
    .exact q3.mono (by omega)
theorem TN{fr:Nat}{A:Dev}{P:List Nat}{root:Int}{key:Byt}{G:List It->List It}{m:Nat}(h:Few A m):Few (Dp fr A P root key G).2.2.A (m+40):=by
 obtain⟨ed,hed⟩:=qD (if root = -1 then(0,⟨A,P,[],[]⟩,false,G [])else C2 fr G key 18 ⟨A,P,[],[]⟩ root.toNat 0:Int × Ch × Bool × List It)
 have hb:Few ed.2.1.A (m+36):=by
  rw[hed]
  split
  .exact h.mono (by omega)
  .obtain⟨x1,x2,x3⟩:=Lq (fr:=fr) (G:=G) (key:=key) (m:=m) (n:=18) (c:=⟨A,P,[],[]⟩) (p:=root.toNat) (d:=0);exact x3 h
 have hturn:Dp fr A P root key G=if ed.1≠0 then(ed.1,root,Dq ed.2.1 ed.1)else if(DM fr ed.2.1 ed.2.2.1 ed.2.2.2).1≠0 then((DM fr ed.2.1 ed.2.2.1 ed.2.2.2).1,root,Dq (DM fr ed.2.1 ed.2.2.1 ed.2.2.2).2.1 (DM fr ed.2.1 ed.2.2.1 ed.2.2.2).1)else(0,(DM fr ed.2.1 ed.2.2.1 ed.2.2.2).2.2,Dq (DM fr ed.2.1 ed.2.2.1 ed.2.2.2).2.1 0):=by
  unfold Dp;rw[hed]
 rw[hturn];have ht:=Agr (fr:=fr) (i:=ed.2.2.1) (M:=ed.2.2.2) hb
 split
 .exact hb.mono (by omega)
 .split
  .exact ht.mono (by omega)
  .exact ht.mono (by omega)
theorem hm24{P:List Nat}(hP:P.length<=2000):∀h,h=0\/2 ^ (h+1)<=P.length+1->2*h+3<=24:=fun h hh=>by
 rcases hh with rfl|hh
 .omega
 .rcases qbk h 10 with h3|h3
  .omega
  .have:2 ^ 11<=2 ^ (h+1):=qcx (by omega) (by omega)
   omega
structure Stepped(fr:Nat)(A:Dev)(P:List Nat)(root':Int)(L':List Pr)(A':Dev)(P':List Nat)(mx:Nat):Prop where
 tree:TreeAt fr A' P' root' L'
 aft:After fr A P A' P'
 on:A'.on=true
 few:Few A' mx
theorem After.refl(fr:Nat)(A:Dev)(P:List Nat):After fr A P A P:=⟨fun _ _=>rfl,rfl,fun h=>h,rfl,rfl⟩
theorem TO{fr:Nat}{A:Dev}{P:List Nat}{root:Int}{L:List Pr}{key:Byt}{G:List It->List It}{g:List Pr->List Pr}(act:Acts key G g)(hr:∀L,Rising L->Rising (g L))(T:TreeAt fr A P root L)(hon:A.on=true)(hl:fr+P.length<=A.B.length)(hP:P.length<=2000)(hleft:A.left = -1)(hfree:24<=Dn P){mx:Nat}(hfew:Few A mx) :
  (Dp fr A P root key G).1=0/\Stepped fr A P (Dp fr A P root key G).2.1 (g L) (Dp fr A P root key G).2.2.A (Dp fr A P root key G).2.2.P (mx+40):=by
 obtain⟨h1,h2⟩:=TK act hr T hon hl hP (hm24 hP)
 rcases h2 with⟨h3,h4,h5⟩|⟨_,_,h3⟩
 .exact⟨h3,h5,h1,h4,TN hfew⟩
 .rcases h3 with⟨_,h3⟩|⟨_,h3⟩
  .exact absurd hleft h3
  .omega
theorem Ags{fr:Nat}{A:Dev}{P:List Nat}{root:Int}{L:List Pr}{key val:Byt}(T:TreeAt fr A P root L)(hon:A.on=true)(hl:fr+P.length<=A.B.length)(hleft:A.left = -1)(hfree:24<=Dn P){mx:Nat}(hfew:Few A mx)(hP:P.length<=2000:=by omega):
  (CU key.length val.length=false/\Jh fr A P root key val=(1,root,A,P))\/(CU key.length val.length=true/\(Jh fr A P root key val).1=0/\Stepped fr A P (Jh fr A P root key val).2.1 (Hp L key val) (Jh fr A P root key val).2.2.1 (Jh fr A P root key val).2.2.2 (mx+40)):=by
 obtain⟨S,td,-,-⟩:=T.told hon hl hP;unfold Jh;rw[if_neg (by rw[td.may];simp)]
 by_cases hk:CU key.length val.length=true
 .right;rw[if_pos hk];have hk2:=hk;unfold CU at hk2;simp only[qao,qap]at hk2;obtain⟨h1,h2⟩:=TO (Wu hk2.1 hk2.2.1 hk2.2.2) (fun L h=>Gb h key val) T hon hl hP hleft hfree hfew;exact⟨hk,h1,h2⟩
 .left;rw[if_neg hk];exact⟨by simpa using hk,rfl⟩
theorem Agt{fr:Nat}{A:Dev}{P:List Nat}{root:Int}{L:List Pr}{key:Byt}(T:TreeAt fr A P root L)(hon:A.on=true)(hl:fr+P.length<=A.B.length)(hleft:A.left = -1)(hfree:24<=Dn P){mx:Nat}(hfew:Few A mx)(hP:P.length<=2000:=by omega):
  (CU key.length 0=false/\Gt fr A P root key=(1,root,false,A,P))\/(CU key.length 0=true/\(Gt fr A P root key).1=0/\(Gt fr A P root key).2.2.1=(DK L key).isSome/\((DK L key).isSome=false->(Gt fr A P root key).2.1=root) /\
   Stepped fr A P (Gt fr A P root key).2.1 (IQ L key) (Gt fr A P root key).2.2.2.1 (Gt fr A P root key).2.2.2.2 (mx+40)):=by
 obtain⟨S,td,-,-⟩:=T.told hon hl hP
 have hget:Nx A fr P.length root key=if CU key.length 0=true then(0,DK L key)else(1,none):=by
  unfold Nx;rw[if_neg (by rw[td.may];simp),td.get]
 unfold Gt;rw[hget]
 by_cases hk:CU key.length 0=true
 .right;rw[if_pos hk,if_neg (by simp)]
  cases hg:DK L key with
  |none =>
   rw[if_pos (show((0,(none:Option Byt)):Int × Option Byt).2.isSome=false from rfl),Tm hg];exact⟨hk,rfl,rfl,fun _=>rfl,T,After.refl _ _ _,hon,hfew.mono (by omega)⟩
  |some u =>
   rw[if_neg (by simp)];obtain⟨h1,h2⟩:=TO (Wv key) (fun L h=>Hg h key) T hon hl hP hleft hfree hfew;exact⟨hk,h1,by dsimp only;rw[qam h1];rfl,(fun h=>by cases h),h2⟩
 .left;rw[if_neg hk,if_pos (by simp)];exact⟨by simpa using hk,rfl⟩
theorem Wx{fr:Nat}{A:Dev}{P:List Nat}{root:Int}{L:List Pr}{key:Byt}(T:TreeAt fr A P root L)(hon:A.on=true)(hl:fr+P.length<=A.B.length)(hP:P.length<=2000):Nx A fr P.length root key=if CU key.length 0=true then(0,DK L key)else(1,none):=by
 obtain⟨S,td,-,-⟩:=T.told hon hl hP;unfold Nx;rw[if_neg (by rw[td.may];simp),td.get]
def II(P:List Nat)(k:Nat):Bool:=decide (P[k]?=some 1) || decide (P[k]?=some 2)
def Gu(P:List Nat)(k:Nat):List Nat:=(List.range k).filter (II P)
theorem QZ(P:List Nat)(k:Nat):Gu P (k+1)=Gu P k++if II P k=true then[k]else[]:=by
 unfold Gu;rw[List.range_succ,qbo]
 congr 1
 by_cases h:II P k=true
 .rw[if_pos h,qbt,h];rfl
 .rw[if_neg h,qbt,show II P k=false by simpa using h];rfl
section
variable {ops rest:List Oper}{Q:Exit->Env->World->Prop}{e:Env}{w:World}{dst:Option Tmp}{ty:TypeId}{pos:String}{af:Array Edge}{g:Option (Nat × Bool)}{r:Option Nat}
end
structure St7 where
 cut:Bool
 key:Byt
 val:Byt
 settle:Bool
structure Sm where
 ka:Option Addr
 kc:Nat
 va:Option Addr
 vc:Nat
 s:St7
def Sm.enc(m:Sm):List Value:=[.bool m.s.cut,.slice m.ka m.s.key.length m.kc,.slice m.va m.s.val.length m.vc,.bool m.s.settle]
theorem Sm.oneE(m:Sm):∀v∈m.enc,Bg v=true:=fun v hv=>by
 simp only[Sm.enc,qab,qaj,or_false]at hv
 rcases hv with rfl|rfl|rfl|rfl <;> rfl
structure Sm.Ok(w:World)(M:Mut)(m:Sm):Prop where
 k:Rdx w M m.ka m.s.key
 v:Rdx w M m.va m.s.val
 kc:m.s.key.length<=m.kc
 vc:m.s.val.length<=m.vc
 kl:m.s.key.length<=200
 vl:m.s.val.length<=500
def Ra(s:St7)(L:List Pr):List Pr :=
 if s.cut=true then(if CU s.key.length 0=true then IQ L s.key else L)else if CU s.key.length s.val.length=true then Hp L s.key s.val else L
structure Does(w0:World)(bx bt bd bp ba:Nat)(A:Dev)(P:List Nat)(F:Mut)(L':List Pr)(mx:Nat)(v:Value)(w':World):Prop where
 ex:∃(root':Int) (a':Option Addr) (c':Nat) (A':Dev) (P':List Nat) (F':Mut),v=.tuple #[.int .i64 root',.slice a' L'.length c',.bool true]/\Dk w' bx bt bd bp ba A' P' F'/\Grown (TM F ba bt bp []) (TM F' ba bt bp []) w0 w'/\Stepped 10 A P root' L' A' P' (mx+40)/\Prs w' (TM F' ba bt bp []) a' L'.length c' L'
theorem Dk.step{w w':World}{bx bt bd bp ba:Nat}{A A':Dev}{P P':List Nat}{F F':Mut}(D:Dk w bx bt bd bp ba A P F)(T:Tx w' bt bd bp ba 10 A' P' F' [])(t:Grown (TM F ba bt bp []) (TM F' ba bt bp []) w w'):Dk w' bx bt bd bp ba A' P' F' :=
 ⟨t.keep D.dk D.nx,T,fun h=>(t.2 bx h).elim D.nx fun h=>by have:=Al D.dk;omega⟩
theorem Dk.call{w w':World}{bx bt bd bp ba:Nat}{A:Dev}{P:List Nat}{F:Mut}(D:Dk w bx bt bd bp ba A P F)(hx:Ext [] w w'):Dk w' bx bt bd bp ba A P F:=D.step (D.T.call hx) (.call0 hx)
theorem Pd(P:List Nat)(x:Nat):((P.map BD)[x]?=some 1\/(P.map BD)[x]?=some 2)↔(P[x]?=some 1\/P[x]?=some 2):=by
 rw[qav]
 cases P[x]? with
 |none=>simp
 |some s =>
  simp only[qbd,qbc];unfold BD
  split
  .omega
  .split
   .omega
   .exact Iff.rfl
theorem TreeAt.settle{fr:Nat}{A:Dev}{P:List Nat}{root:Int}{L:List Pr}(T:TreeAt fr A P root L):TreeAt fr A (P.map BD) root L:=by
 obtain⟨S,h1,h2,h3⟩:=T.lies;exact⟨⟨S,h1,h2,fun x=>(h3 x).trans (Pd P x).symm⟩,T.rise,T.ok⟩
theorem JH{P:List Nat}(hok:∀s∈P,s<=3):∀k,k<=P.length->(Gu P k).length+Dn ((P.map BD).take k)=k
 |0,_=>rfl
 |k+1,hk=>by
  have ih:=JH hok k (by omega);obtain⟨s,hs⟩:=AR (l:=P) (i:=k);have hs3:=hok s (qad hs);have hq:(P.map BD)[k]?=some (BD s):=by rw[qav,hs];rfl
  rw[QZ,qan,VY hq];have hb:II P k=(decide (s=1) || decide (s=2)):=by unfold II;rw[hs];simp
  rw[hb];have h4:s=0\/s=1\/s=2\/s=3:=by omega
  rcases h4 with rfl|rfl|rfl|rfl
  .rw[if_neg (by decide),if_pos (by decide)];simp only[qbw];omega
  .rw[if_pos (by decide),if_neg (by decide)];simp only[qaw,qbw];omega
  .rw[if_pos (by decide),if_neg (by decide)];simp only[qaw,qbw];omega
  .rw[if_neg (by decide),if_pos (by decide)];simp only[qbw];omega
theorem Wy{P S:List Nat}(hok:∀s∈P,s<=3)(hnd:S.Nodup)(hS:∀x:Nat,x∈S↔P[x]?=some 1\/P[x]?=some 2):S.length+Dn (P.map BD)=P.length:=by
 have h1:=JH hok P.length (qaf _);rw[qa5 (by rw[qal];omega)]at h1
 have hperm:S.Perm (Gu P P.length):=by
  refine(qdw hnd (List.nodup_range.filter _)).2 fun x=>?_;rw[qbh,qdo,hS];unfold II;rw[qcd,qap,qap];refine⟨fun h=>⟨h.elim (fun h=>(qaq.1 h).1) fun h=>(qaq.1 h).1,h⟩,And.right⟩
 have h2:=hperm.length_eq;omega
theorem Abv{s:St7}{L:List Pr}(h:Rising L):(Ra s L).length<=L.length+1:=by
 unfold Ra
 split
 .split
  .exact Nat.le_succ_of_le (VS _ _)
  .omega
 .split
  .exact VR _ _ _ h
  .omega
structure Std(w0 w:World)(bx bt bd bp ba n:Nat)(root:Int)(L:List Pr)(i:Nat)(A:Dev)(P:List Nat)(F:Mut):Prop where
 D:Dk w bx bt bd bp ba A P F
 T:TreeAt 10 A P root L
 on:A.on=true
 left:A.left = -1
 num:P.length=n
 blen:A.B.length=10+n
 few:Few A (40*i)
 li:L.length<=i
 new:∀x,TM F ba bt bp [] x->w0.heap.size<=x
 hx:Ext [] w0 w
section
variable {w0 w w':World}{bx bt bd bp ba n:Nat}{root:Int}{L:List Pr}{i:Nat}{A:Dev}{P:List Nat}{F:Mut}
theorem Std.call(s:Std w0 w bx bt bd bp ba n root L i A P F)(hx:Ext [] w w'):Std w0 w' bx bt bd bp ba n root L i A P F :=
 ⟨s.D.call hx,s.T,s.on,s.left,s.num,s.blen,s.few,s.li,s.new,s.hx.trans hx⟩
theorem Std.hl(s:Std w0 w bx bt bd bp ba n root L i A P F):10+P.length<=A.B.length:=by rw[s.num,s.blen];exact qaf _
theorem Std.settle(s:Std w0 w bx bt bd bp ba n root L i A P F)(h:PgAt w' bp ba (P.map BD))(hx:Ext [ba] w w'):Std w0 w' bx bt bd bp ba n root L i A (P.map BD) F/\Grown (TM F ba bt bp []) (TM F ba bt bp []) w w':=by
 obtain⟨h1,h2⟩:=s.D.T.page h hx;exact⟨⟨s.D.step h1 h2,s.T.settle,s.on,s.left,by rw[qal];exact s.num,s.blen,s.few,s.li,s.new,h2.1.new s.hx s.new⟩,h2⟩
theorem Std.told(s:Std w0 w bx bt bd bp ba n root L i A P F)(hn:n<=2000):∃S,Told 10 A P root L S/\S.Nodup/\(∀x:Nat,x∈S↔P[x]?=some 1\/P[x]?=some 2):=s.T.told s.on s.hl (by rw[s.num];exact hn)
theorem Std.free(s:Std w0 w bx bt bd bp ba n root L i A P F)(hn:n<=2000):n<=Dn (P.map BD)+2*i:=by
 obtain⟨S,td,hnd,hS⟩:=s.told hn;have h1:=Wy s.D.T.pg.ok hnd hS;have h2:=td.len;have h3:=s.li;have h4:=s.num;omega
theorem Std.step{root':Int}{L':List Pr}{A':Dev}{P':List Nat}{F':Mut}(s:Std w0 w bx bt bd bp ba n root L i A P F)(D':Dk w' bx bt bd bp ba A' P' F')(g:Grown (TM F ba bt bp []) (TM F' ba bt bp []) w w')(h:Stepped 10 A P root' L' A' P' (40*i+40))(hl:L'.length<=L.length+1) :
  Std w0 w' bx bt bd bp ba n root' L' (i+1) A' P' F':=by
 obtain⟨T',af,on',few'⟩:=h;refine⟨D',T',on',af.left s.left,af.len.trans s.num,af.blen.trans s.blen,few'.mono (by omega),?_,fun x hx=>?_,g.1.new s.hx s.new⟩
 .have:=s.li;omega
 .exact(g.2 x hx).elim (s.new x) fun h=>qas s.hx.size h
theorem Std.does{t:St7}{v:Value}(s:Std w0 w bx bt bd bp ba n root L i A P F)(h:Does w bx bt bd bp ba A P F (Ra t L) (40*i) v w') :
  ∃root' a' c' A' P' F',v=.tuple #[.int .i64 root',.slice a' (Ra t L).length c',.bool true]/\Std w0 w' bx bt bd bp ba n root' (Ra t L) (i+1) A' P' F'/\Prs w' (TM F' ba bt bp []) a' (Ra t L).length c' (Ra t L)/\Grown (TM F ba bt bp []) (TM F' ba bt bp []) w w'/\After 10 A P A' P':=by
 obtain⟨root',a',c',A',P',F',hv,D',g,st,PL'⟩:=h.ex;exact⟨root',a',c',A',P',F',hv,s.step D' g st (Abv s.T.rise),PL',g,st.aft⟩
theorem Std.put(s:Std w0 w bx bt bd bp ba n root L i A P F)(hn:n<=2000)(hi:i<=1000)(hfree:24<=Dn P){ka va:Option Addr}{kc vc:Nat}{key val:Byt}(Rk:Rdx w (TM F ba bt bp []) ka key)(Rv:Rdx w (TM F ba bt bp []) va val)(hkc:key.length<=kc)(hvc:val.length<=vc)(hk:CU key.length val.length=true) :
  Ret prog 120 #[ptr bt,.int .i64 root,.slice ka key.length kc,.slice va val.length vc] w fun v w'=>∃root' A' P' F',v=.tuple #[.int .i64 root',.int .i64 0]/\Std w0 w' bx bt bd bp ba n root' (Hp L key val) (i+1) A' P' F'/\After 10 A P A' P'/\Grown (TM F ba bt bp []) (TM F' ba bt bp []) w w':=by
 obtain⟨S,td,-,-⟩:=s.told hn;have hlo:=td.rlo;have hhi:=td.rhi;have hnum:=s.num;have hkl:key.length<=32:=by unfold CU at hk;simp only[qao,qap]at hk;omega
 have hgood:=Ags (key:=key) (val:=val) s.T s.on s.hl s.left hfree s.few
 rcases hgood with⟨h,_⟩|⟨_,h1,h4⟩
 .rw[hk]at h;cases h
 .refine(Z8 (by omega) s.D.T root ka va kc vc _ _ key val Rk Rv U U hkc hvc s.few (by omega) (by rw[h1];decide)).mono fun v w' ⟨F',hv,T',g⟩=>?_;rw[h1]at hv;exact⟨_,_,_,F',hv,s.step (s.D.step T' g) g h4 (VR _ _ _ s.T.rise),h4.aft,g⟩
theorem Std.cut(s:Std w0 w bx bt bd bp ba n root L i A P F)(hn:n<=2000)(hi:i<=1000)(hfree:24<=Dn P){ka:Option Addr}{kc:Nat}{key:Byt}(Rk:Rdx w (TM F ba bt bp []) ka key)(hk:CU key.length 0=true) :
  Ret prog 121 #[ptr bt,.int .i64 root,.slice ka key.length kc] w fun v w'=>∃root' A' P' F',v=.tuple #[.int .i64 root',.bool (DK L key).isSome,.int .i64 0]/\Std w0 w' bx bt bd bp ba n root' (IQ L key) (i+1) A' P' F'/\After 10 A P A' P'/\((DK L key).isSome=false->root'=root)/\Grown (TM F ba bt bp []) (TM F' ba bt bp []) w w':=by
 obtain⟨S,td,-,-⟩:=s.told hn;have hlo:=td.rlo;have hhi:=td.rhi;have hnum:=s.num;have hkl:key.length<=32:=by unfold CU at hk;simp only[qao,qap]at hk;omega
 have hgood:=Agt (key:=key) s.T s.on s.hl s.left hfree s.few
 rcases hgood with⟨h,_⟩|⟨_,h1,h2,h3,h4⟩
 .rw[hk]at h;cases h
 .refine(Z9 (by omega) s.D.T root ka kc _ key Rk U s.few (by omega) (by rw[h1];decide)).mono fun v w' ⟨F',hv,T',g⟩=>?_;rw[h1,h2]at hv;exact⟨_,_,_,F',hv,s.step (s.D.step T' g) g h4 (Nat.le_succ_of_le (VS _ _)),h4.aft,h3,g⟩
theorem Std.get(s:Std w0 w bx bt bd bp ba n root L i A P F)(hn:n<=2000)(hi:i<=1000){ka:Option Addr}{kc:Nat}{key:Byt}(Rk:Rd w ka 1 B8 key) :
  Ret prog 148 #[ptr bt,.int .i64 root,.slice ka key.length kc] w fun v w'=>∃va vc u b e,v=.tuple #[.slice va (List.length u) vc,.bool b,.int .i64 e]/\Ext [] w w'/\Rdx w' (TM F ba bt bp []) va u/\(CU key.length 0=true->e=0/\b=(DK L key).isSome/\u=(DK L key).getD []):=by
 obtain⟨S,td,-,-⟩:=s.told hn;have hlo:=td.rlo;have hhi:=td.rhi;have hnum:=s.num;have hg:=Wx (key:=key) s.T s.on s.hl (by omega);refine(Z1 s.D.T (by omega) root ⟨by omega,by omega⟩ ka kc _ key Rk U s.few).mono fun v w' ⟨va,vc,u,hv,hx,X,hc,hu⟩=>?_;refine⟨va,vc,u,_,_,hv,hx,⟨X.1,X.2.imp id fun h hm=>h (s.D.T.mlt _ hm)⟩,fun hk=>?_⟩;rw[hu,hg,if_pos hk];exact⟨rfl,rfl,rfl⟩
end
structure Sm.In(w:World)(m:Sm):Prop where
 k:Rd w m.ka 1 B8 m.s.key
 v:Rd w m.va 1 B8 m.s.val
 kc:m.s.key.length<=m.kc
 vc:m.s.val.length<=m.vc
theorem Rdx.of0{w0 w:World}{M:Mut}{a:Option Addr}{l:Byt}(R:Rd w0 a 1 B8 l)(hx:Ext [] w0 w)(hM:∀x,M x->w0.heap.size<=x):Rdx w M a l:=by
 refine⟨R.ext0 hx,?_⟩
 rcases UO R (fun _ _=>rfl)with h|h
 .exact .inl h
 .exact .inr fun hm=>by have:=hM _ hm;omega
theorem Sm.In.ok{w0 w:World}{M:Mut}{m:Sm}(h:m.In w0)(hk:m.s.key.length<=200)(hv:m.s.val.length<=500)(hx:Ext [] w0 w)(hM:∀x,M x->w0.heap.size<=x):m.Ok w M :=
 ⟨.of0 h.k hx hM,.of0 h.v hx hM,h.kc,h.vc,hk,hv⟩
def smallS(m:Sm):Prop:=m.s.key.length<=200/\m.s.val.length<=500
def bigS(m:Sm):Bool:=decide (200<m.s.key.length) || decide (500<m.s.val.length)
def heavy7B(l:List Sm):Bool:=(l.take 500).any bigS || decide (300<l.length)
structure Sunk(A0:Dev)(P0:List Nat)(root:Int)(L:List Pr)(A:Dev)(P:List Nat):Prop where
 T:TreeAt 10 A0 P0 root L
 back:P.map Dm=P0
 blk:∀q,(∀x:Nat,P0[x]?=some 0->q≠10+x)->A.B.getD q (zeros,[])=A0.B.getD q (zeros,[])
 blen:A.B.length=A0.B.length
section
variable {A0 A A':Dev}{P0 P P':List Nat}{root:Int}{L:List Pr}
theorem Sunk.len(s:Sunk A0 P0 root L A P):P.length=P0.length:=by rw[<-s.back,qal]
theorem Sunk.pages(s:Sunk A0 P0 root L A P):∃S,Root (RD A0 10) root L S/\S.Nodup/\(∀x:Nat,x∈S↔P0[x]?=some 1\/P0[x]?=some 2)/\(∀x∈S,x<P0.length)/\∀x∈S,A.B.getD (10+x) (zeros,[])=A0.B.getD (10+x) (zeros,[]):=by
 obtain⟨S,h1,h2,h3⟩:=s.T.lies;refine⟨S,h1,h2,h3,fun x hx=>((h3 x).1 hx).elim (fun h=>(qaq.1 h).1) fun h=>(qaq.1 h).1,fun x hx=>s.blk _ fun y hy he=>?_⟩;obtain rfl:x=y:=by omega
 rcases(h3 x).1 hx with h|h
 .rw[hy]at h;cases h
 .rw[hy]at h;cases h
theorem Sunk.told(s:Sunk A0 P0 root L A P)(hon:A.on=true)(hl:10+P.length<=A.B.length)(hP:P.length<=2000):∃S,Told 10 A P root L S:=by
 obtain⟨S,h1,h2,h3,h4,h5⟩:=s.pages;exact⟨S,Go.Proofs.YtcpgbcabmcbclaaGreatDoor.told (h1.frame fun x hx=>by unfold RD;rw[h5 x hx]) hon hl hP h2 (fun x hx=>by rw[s.len];exact h4 x hx) s.T.rise⟩
theorem Sunk.after(s:Sunk A0 P0 root L A P)(af:After 10 A P A' P'):Sunk A0 P0 root L A' P' :=
 ⟨s.T,af.back.trans s.back,fun q hq=>(af.blk q fun x hx=>hq x (by rw[<-s.back,qav,hx];rfl)).trans (s.blk q hq),af.blen.trans s.blen⟩
theorem Sunk.start(T:TreeAt 10 A P root L)(h01:∀s∈P,s=0\/s=1):Sunk A P root L A P:=by
 refine⟨T,?_,fun q _=>rfl,rfl⟩
 have h:∀s∈P,Dm s=id s:=fun s hs=>by rcases h01 s hs with rfl|rfl <;> rfl
 rw[qcw h,List.map_id]
theorem Sunk.calm(s:Sunk A0 P0 root L A P):TreeAt 10 A P0 root L:=by
 obtain⟨S,h1,h2,h3,h4,h5⟩:=s.pages;exact⟨⟨S,h1.frame fun x hx=>by unfold RD;rw[h5 x hx],h2,h3⟩,s.T.rise,s.T.ok⟩
theorem Sunk.crash(s:Sunk A0 P0 root L A P)(hs:∀p∈A0.B,p.2=[])(hl:10+P0.length<=A0.B.length)(picks:List Int):TreeAt 10 (onD (LC A) picks) P0 root L:=by
 obtain⟨S,h1,h2,h3,h4,h5⟩:=s.pages;refine⟨⟨S,h1.frame fun x hx=>?_,h2,h3⟩,s.T.rise,s.T.ok⟩;have hx4:=h4 x hx;have hb:=s.blen;obtain⟨p,hp⟩:=AR (l:=A.B) (i:=10+x);have hp5:=h5 x hx;rw[qa6,hp]at hp5;have hp6:p=A0.B.getD (10+x) (zeros,[]):=hp5;have hp2:p.2=[]:=by rw[hp6];exact hs _ (Nl)
 have hk:=QI A.B picks hp;rw[if_pos hp2]at hk;unfold RD;rw[<-hp6,show(onD (LC A) picks).B=DW A.B picks from rfl,qa6,hk];obtain⟨p1,p2⟩:=p;obtain rfl:p2=[]:=hp2;rfl
end
def Tells(A:Dev)(e:Int):Prop:=A.on = !decide (e=8)
theorem Tells.ok{A:Dev}(h:A.on=true){e:Int}(he:e≠8):Tells A e:=by
 unfold Tells;rw[h,qai he];rfl
theorem Tells.on{A:Dev}{e:Int}(h:Tells A e)(he:e≠8):A.on=true:=by
 unfold Tells at h;rw[h,qai he];rfl
theorem Tells.off{A:Dev}(h:Tells A 8):A.on=false:=by
 unfold Tells at h;rw[h];rfl
theorem Wz{A:Dev}(h:A.on=true)(k:Int)(b:Byt):Tells (Cw A k b) (De A k b):=by
 unfold Tells Cw De;rw[h]
 cases A.has k && decide (b.length=512)with
 |false=>simpa using h
 |true =>
  cases hg:A.goes with
  |true =>
   have h0:A.left=0:=qde hg;show A.less.on=_;unfold Dev.less;rw[if_pos h0];rfl
  |false =>
   have h0:¬A.left=0:=qdf hg;show(NY A.less k.toNat b).on=_;unfold NY Dev.less;rw[if_neg h0]
   split
   .exact h
   .exact h
theorem TP{A:Dev}(h:A.on=true)(fr sz:Nat)(page depth:Int):(Dc A fr sz page depth).1≠8:=by
 have hr:Gc A ((fr:Int)+page)≠8:=by
  unfold Gc;rw[h];cases A.has ((fr:Int)+page) <;> decide
 unfold Dc
 split
 .exact(show(9:Int)≠8 by decide)
 .split
  .split
   .exact(show(9:Int)≠8 by decide)
   .exact(show(0:Int)≠8 by decide)
  .exact hr
theorem Abw(k:UInt8)(l:List UInt8):FW k l≠8:=by
 unfold FW
 cases decide (k.toNat=0)with
 |true=>exact(show(1:Int)≠8 by decide)
 |false=>cases decide (505<l.length) <;> decide
theorem TQ{fr:Nat}{c:Ch}{i:Bool}{M:List It}(h:c.A.on=true):Tells (wrC fr c i M).2.A (wrC fr c i M).1:=by
 unfold wrC
 split
 .refine .ok h ?_;show Ht c.P≠8;unfold Ht
  split <;> decide
 .split
  .exact .ok h (Abw _ _)
  .exact Wz h _ _
theorem Mn{fr:Nat}{i:Bool}:∀{Hs:List (List It)} {c:Ch} {acc:List It},c.A.on=true->Tells (Cs fr i Hs c acc).2.1.A (Cs fr i Hs c acc).1
 | [],c,acc,h => .ok h (show(0:Int)≠8 by decide)
 |x::Hs,c,acc,h=>by
  have h1:=TQ (fr:=fr) (i:=i) (M:=x) h;unfold Cs
  split
  .rename_i h0
   exact Mn (h1.on (by rw[h0];decide))
  .exact h1
theorem Re{fr:Nat}{c:Ch}{i:Bool}{M:List It}(h:c.A.on=true):Tells (Ex fr c i M).2.1.A (Ex fr c i M).1:=by
 unfold Ex
 cases okM i M with
 |false=>exact .ok h (show(99:Int)≠8 by decide)
 |true =>
  show Tells (IR fr c i M).2.1.A (IR fr c i M).1;unfold IR
  split
  .exact .ok h (show(0:Int)≠8 by decide)
  .exact Mn h
theorem Yz{fr:Nat}{c:Ch}{l:List It}{i d:Nat}{inner:Bool}{kid:List It}(h:c.A.on=true):(Eg fr c l i d inner kid).1≠8:=by
 unfold Eg
 split
 .split
  .exact(show(9:Int)≠8 by decide)
  .split
   .exact TP h _ _ _ _
   .exact(show(9:Int)≠8 by decide)
   .exact(show(0:Int)≠8 by decide)
 .exact(show(0:Int)≠8 by decide)
theorem Pe{fr:Nat}{G:List It->List It}{key:Byt}:∀{n:Nat} {c:Ch} {p d:Nat},c.A.on=true->Tells (C2 fr G key n c p d).2.1.A (C2 fr G key n c p d).1
 |0,c,p,d,h => .ok h (show(9:Int)≠8 by decide)
 |n+1,c,p,d,h=>by
  have hr:=(HA (fr:=fr) (c:=c) (p:=p) (d:=d)).2.2.1;unfold C2
  split
  .exact .ok h (TP h _ _ _ _)
  .exact .ok (show(rdC fr c p d).A.on=true by rw[hr];exact h) (show(0:Int)≠8 by decide)
  .rename_i l _
   have h1:=Pe (fr:=fr) (G:=G) (key:=key) (n:=n) (c:=rdC fr c p d) (p:=Cd l (BX l key)) (d:=d+1) (by rw[hr];exact h);dsimp only
   split
   .exact h1
   .rename_i h0
    have h2:=h1.on (by rw[Classical.not_not.1 h0];decide);obtain⟨b1,b2,b3⟩:=Om (fr:=fr) (c:=(C2 fr G key n (rdC fr c p d) (Cd l (BX l key)) (d+1)).2.1) (l:=l) (i:=BX l key) (d:=d) (inner:=(C2 fr G key n (rdC fr c p d) (Cd l (BX l key)) (d+1)).2.2.1) (kid:=(C2 fr G key n (rdC fr c p d) (Cd l (BX l key)) (d+1)).2.2.2)
    split
    .exact .ok (by dsimp only;rw[b3];exact h2) (Yz h2)
    .exact Re (by rw[b3];exact h2)
theorem Y3{fr:Nat}{c:Ch}{i:Bool}{M:List It}(h:c.A.on=true):Tells (DM fr c i M).2.1.A (DM fr c i M).1:=by
 have h1:=Re (fr:=fr) (i:=i) (M:=M) h;unfold DM
 split
 .exact .ok h (show(0:Int)≠8 by decide)
 .split
  .exact h1
  .rename_i h0
   have h2:=h1.on (by rw[Classical.not_not.1 h0];decide)
   split
   .exact .ok h2 (show(0:Int)≠8 by decide)
   .split
    .exact TQ h2
    .exact .ok h2 (show(0:Int)≠8 by decide)
theorem W0{fr:Nat}{A:Dev}{P:List Nat}{root:Int}{key:Byt}{G:List It->List It}(h:A.on=true):Tells (Dp fr A P root key G).2.2.A (Dp fr A P root key G).1:=by
 obtain⟨ed,hed⟩:=qD (if root = -1 then(0,⟨A,P,[],[]⟩,false,G [])else C2 fr G key 18 ⟨A,P,[],[]⟩ root.toNat 0:Int × Ch × Bool × List It)
 have hb:Tells ed.2.1.A ed.1:=by
  rw[hed]
  split
  .exact .ok h (show(0:Int)≠8 by decide)
  .exact Pe h
 have hturn:Dp fr A P root key G=if ed.1≠0 then(ed.1,root,Dq ed.2.1 ed.1)else if(DM fr ed.2.1 ed.2.2.1 ed.2.2.2).1≠0 then((DM fr ed.2.1 ed.2.2.1 ed.2.2.2).1,root,Dq (DM fr ed.2.1 ed.2.2.1 ed.2.2.2).2.1 (DM fr ed.2.1 ed.2.2.1 ed.2.2.2).1)else(0,(DM fr ed.2.1 ed.2.2.1 ed.2.2.2).2.2,Dq (DM fr ed.2.1 ed.2.2.1 ed.2.2.2).2.1 0):=by
  unfold Dp;rw[hed]
 rw[hturn]
 split
 .exact hb
 .rename_i h0
  have ht:=Y3 (fr:=fr) (i:=ed.2.2.1) (M:=ed.2.2.2) (hb.on (by rw[Classical.not_not.1 h0];decide))
  split
  .exact ht
  .rename_i h1
   exact .ok (ht.on (by rw[Classical.not_not.1 h1];decide)) (show(0:Int)≠8 by decide)
structure Res(A:Dev)(P:List Nat)(L':List Pr)(e r':Int)(A':Dev)(P':List Nat)(mx:Nat):Prop where
 aft:After 10 A P A' P'
 few:Few A' mx
 out:(e=0/\A'.on=true/\TreeAt 10 A' P' r' L')\/(e=8/\A.left ≠ -1/\A'.on=false/\P'=P)\/(e=7/\Dn P<17/\A'.on=true/\P'=P)
section
variable {A:Dev}{P:List Nat}{root:Int}{L:List Pr}{key val:Byt}{mx:Nat}
end
def ED(i:Bool):List It->List It->List (List It)->List (List It) × List It
 | [],part,l=>(l,part)
 |x::M,part,l=>if 503<AY i part+C1 i x then ED i M [x] (l++[part])else ED i M (part++[x]) l
def Rh(q:List It):List It:=q.drop (q.length - 1)
def Y4(i:Bool)(l:List (List It))(part:List It):List (List It) :=
 if i=true/\part.length=1/\l≠[]then l.take (l.length - 1)++[(l.getLastD []).take ((l.getLastD []).length - 1)]++[Rh (l.getLastD [])++part]else l++[part]
def CW(i:Bool)(M:List It):List (List It):=Y4 i (ED i M [] []).1 (ED i M [] []).2
def Mo(i:Bool):Nat:=if i=true then 38 else 164
structure Pk(i:Bool)(l:List (List It))(part:List It):Prop where
 full:∀q∈l,AY i q<=503/\503<AY i q+Mo i
 le:AY i part<=503
 ne:l≠[]->part≠[]
 num:503*l.length+AY i part<=2*(AY i l.flatten+AY i part)
 sz:∀q∈l,∀x∈q,C1 i x<=Mo i
section
variable {i:Bool}{l:List (List It)}{part M:List It}
theorem ZE(i:Bool):Mo i<=164:=by unfold Mo;split <;> omega
theorem UW(i:Bool)(x:It):AY i [x]=C1 i x:=by rw[CP];rfl
theorem Ama(i:Bool):Pk i [] []:=⟨(fun q h=>by cases h),qak _,(fun h=>absurd rfl h),qaf _,fun q h=>by cases h⟩
theorem Mp:∀{M:List It} {part:List It} {l:List (List It)},Pk i l part->(∀x∈part,C1 i x<=Mo i)->(∀x∈M,C1 i x<=Mo i) ->
  Pk i (ED i M part l).1 (ED i M part l).2/\(ED i M part l).1.flatten++(ED i M part l).2=l.flatten++(part++M)/\(M≠[]->(ED i M part l).2≠[])
 | [],part,l,h,hp,hM=>⟨h,by simp[ED],fun h=>absurd rfl h⟩
 |x::M,part,l,h,hp,hM=>by
  have hx:=hM x (qae ..);have hm:=ZE i;have hM2:∀y∈M,C1 i y<=Mo i:=fun y hy=>hM y (qag _ hy);unfold ED
  split
  .rename_i h1
   have hpk:Pk i (l++[part]) [x]:=by
    refine⟨fun q hq=>?_,by rw[UW];omega,fun _=>by simp,?_,fun q hq=>?_⟩
    .rcases qau.1 hq with hq|hq
     .exact h.full q hq
     .rw[qaa.1 hq];exact⟨h.le,by omega⟩
    .have:=h.num;rw[qan,qbu,qcq,B2,UW,qcr];omega
    .rcases qau.1 hq with hq|hq
     .exact h.sz q hq
     .rw[qaa.1 hq];exact hp
   obtain⟨a1,a2,a3⟩:=Mp (M:=M) hpk (fun y hy=>by rw[qaa.1 hy];exact hx) hM2;refine⟨a1,by rw[a2];simp,fun _=>?_⟩
   cases M with
   |nil=>simp[ED]
   |cons y M=>exact a3 (by simp)
  .rename_i h1
   have hpk:Pk i l (part++[x]):=by
    refine⟨h.full,by rw[B2,UW];omega,fun _=>by simp,?_,h.sz⟩;have:=h.num;rw[B2,UW];omega
   obtain⟨a1,a2,a3⟩:=Mp (M:=M) hpk (fun y hy=>by
    rcases qau.1 hy with hy|hy
    .exact hp y hy
    .rw[qaa.1 hy];exact hx) hM2
   refine⟨a1,by rw[a2];simp,fun _=>?_⟩
   cases M with
   |nil=>simp[ED]
   |cons y M=>exact a3 (by simp)
theorem LW(h:l≠[]):l=l.take (l.length - 1)++[l.getLastD []]:=by
 have h1:=qfa h;rw[List.dropLast_eq_take]at h1;rw[List.getLastD_eq_getLast?,List.getLast?_eq_some_getLast h,qdp];exact h1.symm
theorem KH(q:List It):q.take (q.length - 1)++Rh q=q:=qbl ..
theorem TS(hM:Many i M)(hs:∀x∈M,C1 i x<=Mo i) :
  (CW i M).flatten=M/\(∀a∈CW i M,Many i a/\AY i a<=503)/\1<=(CW i M).length/\503*((CW i M).length - 1)<2*AY i M:=by
 obtain⟨h1,h2,h3⟩:=Mp (M:=M) (Ama i) (fun x h=>by cases h) hs;replace h3:=h3 hM.ne;rw[List.flatten_nil,qba,qba]at h2;obtain⟨l,hl⟩:=qD ((ED i M [] []).1);obtain⟨part,hpt⟩:=qD ((ED i M [] []).2);unfold CW;rw[<-hl,<-hpt]at h1 h2 |-;rw[<-hpt]at h3;have hsp:∀x∈part,C1 i x<=Mo i:=fun x hx=>hs x (by rw[<-h2];exact qax _ hx);have htot:AY i M=AY i l.flatten+AY i part:=by rw[<-h2,B2]
 have hpp:4<=AY i part:=by have h5:=Ig i part;have h6:=qbv.2 h3;omega
 have hnum:=h1.num
 have hfat:∀q∈l,q≠[]:=fun q hq e=>by
  have h5:=(h1.full q hq).2;have h6:=ZE i;rw[e]at h5
  have:AY i []=0:=rfl
  omega
 unfold Y4
 split
 .rename_i hf
  obtain⟨hi,hp1,hl0⟩:=hf;subst hi;have hsl:=LW hl0;obtain⟨q,hq⟩:=qD (l.getLastD []);rw[<-hq]at hsl |-;have hqm:q∈l:=by rw[hsl];exact qax _ (qaa.2 rfl)
  have hqf:=(h1.full q hqm);have hqs:=EJ (inner:=true) (m:=38) (l:=q) (h1.sz q hqm);have h38:Mo true=38:=rfl
  have hql:13<=q.length:=by
   rcases qbk q.length 13 with h5|h5
   .have:38*q.length<=38*12:=qb7 _ (by omega)
    omega
   .exact h5
  have hla:(Rh q).length=1:=by unfold Rh;rw[qbe];omega
  have hls:∀x∈Rh q++part,C1 true x<=38:=fun x hx=>(qau.1 hx).elim (fun h=>h1.sz q hqm x (qc0 h)) (hsp x)
  have hlen:l.length=(l.take (l.length - 1)).length+1:=by
   have h5:=qac List.length hsl;rw[qan]at h5;exact h5
  refine⟨?_,fun a ha=>?_,?_,?_⟩
  .rw[<-h2]
   conv=>rhs;rw[hsl]
   rw[qcq,qcq,qcq,qcr,qcr,qcr,qa0,<-qa0 (q.take _),KH,qa0]
  .rcases qau.1 ha with ha|ha
   .rcases qau.1 ha with ha|ha
    .have ham:=qbs ha;have haf:=h1.full a ham;have has:=EJ (inner:=true) (m:=38) (l:=a) (h1.sz a ham);refine⟨?_,haf.1⟩;show 2<=a.length
     rcases qbk a.length 2 with h5|h5
     .have:38*a.length<=38*1:=qb7 _ (by omega)
      omega
     .exact h5
    .rw[qaa.1 ha];have h5:=B2 true (q.take (q.length - 1)) (Rh q);rw[KH]at h5;refine⟨?_,by omega⟩;show 2<=_;rw[qa1];omega
   .rw[qaa.1 ha];have h5:=EJ (inner:=true) (m:=38) hls;rw[qan,hla,hp1]at h5;refine⟨?_,by omega⟩;show 2<=_;rw[qan,hla,hp1];omega
  .simp
  .rw[qan,qan,qbu,qbu];omega
 .rename_i hf
  refine⟨by rw[qcq,qcr,h2],fun a ha=>?_,by simp,?_⟩
  .rcases qau.1 ha with ha|ha
   .have haf:=h1.full a ha;refine⟨?_,haf.1⟩;unfold Many
    split
    .rename_i hi
     subst hi;have has:=EJ (inner:=true) (m:=38) (l:=a) (h1.sz a ha);have h38:Mo true=38:=rfl
     rcases qbk a.length 2 with h5|h5
     .have:38*a.length<=38*1:=qb7 _ (by omega)
      omega
     .exact h5
    .exact hfat a ha
   .rw[qaa.1 ha];refine⟨?_,h1.le⟩;unfold Many at hM |-
    split
    .rename_i hi
     rw[if_pos hi]at hM;have h6:=qbv.2 h3
     rcases qbk part.length 2 with h5|h5
     .by_cases hl0:l=[]
      .rw[hl0]at h2;rw[<-h2]at hM;exact hM
      .exact absurd ⟨hi,by omega,hl0⟩ hf
     .exact h5
    .exact h3
  .rw[qan,qbu];omega
end
theorem TU{fr h:Nat}{i:Bool}:∀{Hs:List (List It)} {c:Ch} {acc:List It} {L:List Pr} {S:List Nat},Part (RD c.A fr) h i Hs.flatten L S->OkP L->Held c.P S->On fr c->(∀a∈Hs,Many i a/\AY i a<=503)->c.A.left = -1->Hs.length<=Dn c.P ->
  ∃t K S',CI fr c (Cs fr i Hs c acc).2.1 t []/\t.length=Hs.length/\(Cs fr i Hs c acc).1=0/\On fr (Cs fr i Hs c acc).2.1/\(Cs fr i Hs c acc).2.2=acc++K/\K.length=Hs.length/\Kids (Lies (RD (Cs fr i Hs c acc).2.1.A fr) h) K L S'/\S'.Perm (S++t)/\Held (Cs fr i Hs c acc).2.1.P S'
 | [],c,acc,L,S,hp,ho,hh,hn,hm,hl,hf=>by
  have hLS:L=[]/\S=[]:=by
   cases h with
   |zero =>
    obtain⟨_,he,rfl⟩:=hp
    cases L with
    |nil=>exact⟨rfl,rfl⟩
    |cons _ _=>cases he
   |succ h=>exact hp.2
  obtain⟨rfl,rfl⟩:=hLS;exact⟨[],[],[],CI.refl _ _,rfl,rfl,hn,by simp[Cs],rfl,⟨rfl,rfl⟩,by simp,fun x hx=>by cases hx⟩
 |a::Hs,c,acc,L,S,hp,ho,hh,hn,hm,hl,hf=>by
  rw[qey]at hp;obtain⟨La,Lb,Sa,Sb,rfl,rfl,pa,pb⟩:=hp.append;have hoa:OkP La:=fun p hp=>ho p (qa4 _ hp);have hob:OkP Lb:=fun p hp=>ho p (qax _ hp);have hha:Held c.P Sa:=hh.sub fun x hx=>qa4 _ hx;have hhb:Held c.P Sb:=hh.sub fun x hx=>qax _ hx;obtain⟨hma,hta⟩:=hm a (qae ..);rw[qaw]at hf;obtain⟨t,w1,w2,w3⟩:=Lp pa hoa hha hn hma hta
  rcases w3 with⟨h7,rfl,h8,h9,h10⟩|h7
  .have hfr:=w1.free;rw[qbu]at hfr;obtain⟨t',K,S',v1,v2,v3,v4,v5,v6,v7,v8,v9⟩:=TU (Hs:=Hs) (acc:=acc++[⟨FL a,[],Ca c.P⟩]) (pb.frame (w1.rd hhb)) hob (hhb.keep w1) h8 (fun b hb=>hm b (qag _ hb)) (w1.left hl) (by omega)
   have hput:Cs fr i (a::Hs) c acc=Cs fr i Hs (wrC fr c i a).2 (acc++[⟨FL a,[],Ca c.P⟩]):=by
    conv=>lhs;unfold Cs
    rw[if_pos h7]
   rw[hput];have hCI:=w1.trans v1;refine⟨[Ca c.P]++t',⟨FL a,[],Ca c.P⟩::K,(Ca c.P::Sa)++S',hCI,by rw[qan,v2];simp;omega,v3,v4,by rw[v5];simp,by simp[v6],?_,?_,?_⟩
   .exact⟨La,Lb,Ca c.P::Sa,S',rfl,rfl,h9.frame (v1.rd (w1.held.app (hha.keep w1))),h10,rfl,v7⟩
   .have h1:((Ca c.P::Sa)++S').Perm (([Ca c.P]++Sa)++(t'++Sb)):=qe9 _ (v8.trans qcj);exact h1.trans (perm_front.trans qcj)
   .exact((w1.held.app (hha.keep w1)).keep v1).app v9
  .exfalso
   rcases h7 with⟨_,h7⟩|⟨_,h7⟩
   .exact h7 hl
   .omega
def Fg:Nat->Nat->Nat
 |0,lv=>lv
 |n+1,lv=>lv+if 1<lv then Fg n (2*lv*38 / 503+1)else 0
def okF(c:Ch)(i:Bool)(M:List It):Bool :=
 decide (M.length<=100000) && (decide (c.tk.length+(CW i M).length<=50000) && ((M.all fun x=>decide (x.key.length<=65535) && (decide (x.val.length<=65535) && (decide (x.page<9223372036854775808) && decide (C1 i x<=503)))) && (CW i M).all fun h=>decide (h≠[]) && decide (h.length<=1000)))
def BZ(fr:Nat):Nat->Ch->Bool->List It->Int × Ch × Int
 |0,c,_,_=>(99,c,-1)
 |n+1,c,i,M =>
  if okF c i M=false then(99,c,-1)
  else if(Cs fr i (CW i M) c []).1≠0 then((Cs fr i (CW i M) c []).1,(Cs fr i (CW i M) c []).2.1,-1)
  else if(Cs fr i (CW i M) c []).2.2.length=1 then(0,(Cs fr i (CW i M) c []).2.1,(Cd (Cs fr i (CW i M) c []).2.2 0:Int))
  else BZ fr n (Cs fr i (CW i M) c []).2.1 true (Cs fr i (CW i M) c []).2.2
theorem Ri(n lv:Nat):lv<=Fg n lv:=by
 cases n with
 |zero=>exact qaf _
 |succ n=>unfold Fg;omega
theorem Ro{fr:Nat}:∀{n h:Nat} {c:Ch} {i:Bool} {M:List It} {L:List Pr} {S:List Nat} (lv:Nat),lv<=n->n<=1500->Part (RD c.A fr) h i M L S->OkP L->Held c.P S->On fr c->Many i M->c.A.left = -1->2*AY i M / 503+1<=lv->Fg n lv<=Dn c.P->c.tk.length+Dn c.P<=5000 ->
  ∃t,CI fr c (BZ fr n c i M).2.1 t []/\t.length<=Fg n lv/\(BZ fr n c i M).1=0/\On fr (BZ fr n c i M).2.1/\∃S',Root (RD (BZ fr n c i M).2.1.A fr) (BZ fr n c i M).2.2 L S'/\S'.Perm (S++t)/\Held (BZ fr n c i M).2.1.P S'
 |0,h,c,i,M,L,S,lv,hlv,hn15,hp,ho,hh,hn,hm,hl,h3,hf,htk=>by omega
 |n+1,h,c,i,M,L,S,lv,hlv,hn15,hp,ho,hh,hn,hm,hl,h3,hf,htk=>by
  have hx:=hp.ok ho hh hn.few
  have hsz:∀x∈M,C1 i x<=Mo i:=fun x hx'=>by
   obtain⟨_,h4,h5⟩:=hx x hx';unfold Mo
   split
   .rename_i hi;exact h5 hi
   .exact h4
  obtain⟨f1,f2,f3,f4⟩:=TS hm hsz;have hklv:(CW i M).length<=lv:=by omega
  have hfl:lv<=Fg (n+1) lv:=Ri _ _
  have hok:okF c i M=true:=by
   have hM:=Ig i M;unfold okF;simp only[qao,qap,qbz];refine⟨by omega,by omega,fun x hx'=>?_,fun a ha=>?_⟩
   .obtain⟨⟨h4,h5,h6,_⟩,h7,_⟩:=hx x hx';omega
   .have h4:=Ig i a;have h5:=(f2 a ha).2;exact⟨(f2 a ha).1.ne,by omega⟩
  obtain⟨t,K,S',p1,p2,p3,p4,p5,p6,p7,p8,p9⟩:=TU (Hs:=CW i M) (acc:=[]) (by rw[f1];exact hp) ho hh hn f2 hl (by omega);rw[qba]at p5;unfold BZ;rw[if_neg (by rw[hok];simp),if_neg (by rw[p3];simp)]
  split
  .rename_i h1
   refine⟨t,p1,by omega,rfl,p4,S',?_,p8,p9⟩;rw[p5]at h1 |-
   match K,h1 with
   | [z],_ =>
    obtain⟨L1,L2,S1,S2,rfl,rfl,k1,k2,k3,rfl,rfl⟩:=p7;rw[qa2,qa2];exact .inr ⟨h,z.page,rfl,k1⟩
  .rename_i h1
   rw[p5]at h1 |-;have hK2:2<=K.length:=by omega
   have hlv2:1<lv:=by omega
   have hmg:Fg (n+1) lv=lv+Fg n (2*lv*38 / 503+1):=by
    conv=>lhs;unfold Fg
    rw[if_pos hlv2]
   rw[hmg]at hf |-;have hfree:=p1.free;have htk2:(Cs fr i (CW i M) c []).2.1.tk.length=c.tk.length+t.length:=by rw[p1.tk,qan]
   have hP1:Part (RD (Cs fr i (CW i M) c []).2.1.A fr) (h+1) true K L S':=⟨rfl,p7⟩;have hKs:=EJ (inner:=true) (m:=38) (l:=K) fun x hx'=>((hP1.ok ho p9 p4.few) x hx').2.2 rfl
   have hle:2*AY true K / 503+1<=2*lv*38 / 503+1:=by
    have h5:2*AY true K<=2*lv*38:=by
     have:38*K.length<=38*lv:=qb7 _ (by omega)
     omega
    have:=Nat.div_le_div_right (c:=503) h5;omega
   obtain⟨t',b1,b2,b3,b4,S'',b5,b6,b7⟩:=Ro (n:=n) (2*lv*38 / 503+1) (by omega) (by omega) hP1 ho p9 p4 (show 2<=K.length from hK2) (p1.left hl) hle (by omega) (by omega);have hCI:=p1.trans b1;refine⟨t++t',hCI,by rw[qan];omega,b3,b4,S'',b5,?_,b7⟩;rw[<-qa0];exact b6.trans (p8.append_right _)
def Rr(L:List Pr)(i:Nat):Prop:=∃p,L[i]?=some p/\CU p.1.length p.2.length=true/\∀q,0<i->L[i - 1]?=some q->ltB q.1 p.1
def Bz(L:List Pr):Nat:=(L.map fun p=>4+p.1.length+p.2.length).sum
theorem Ru(L:List Pr):AY false (L.map BC)=Bz L:=by
 induction L with
 |nil=>rfl
 |cons p L ih =>
  rw[qay,CP,ih];unfold Bz;rw[qay,qcz];rfl
structure Built(A:Dev)(P:List Nat)(L:List Pr)(e root:Int)(A':Dev)(P':List Nat):Prop where
 ok:e=0
 tree:TreeAt 10 A' P' root L
 on:A'.on=true
 left:A'.left = -1
 blen:A'.B.length=A.B.length
 len:P'.length=P.length
 cnt:∃S,Root (RD A' 10) root L S/\S.Nodup/\(∀x:Nat,x∈S↔P'[x]?=some 1\/P'[x]?=some 2)/\S.length<=Fg 1500 (2*Bz L / 503+1)
def Pw(A:Dev)(P:List Nat)(L:List Pr):Int × Ch × Int:=BZ 10 1500 ⟨A,P,[],[]⟩ false (L.map BC)
theorem W1:∀{n m lv:Nat},lv<=m->Fg n lv<=2*m
 |0,m,lv,h=>by show lv<=_;omega
 |n+1,m,lv,h=>by
  unfold Fg
  split
  .have:=W1 (n:=n) (m:=lv / 2) (lv:=2*lv*38 / 503+1) (by omega);omega
  .omega
theorem built{n:Nat}{L:List Pr}(hn:n=1500)(hL:L.length<=1000)(ho:OkP L)(hr:Rising L)(hne:L≠[]) :
  Built (EB (10+n)) (List.replicate n 0) L (Pw (EB (10+n)) (List.replicate n 0) L).1 (Pw (EB (10+n)) (List.replicate n 0) L).2.2 (Pw (EB (10+n)) (List.replicate n 0) L).2.1.A (Dq (Pw (EB (10+n)) (List.replicate n 0) L).2.1 0).P/\(Pw (EB (10+n)) (List.replicate n 0) L).2.1.tk.length<=1400:=by
 have hb:Bz L<=164*L.length:=by
  have:∀L:List Pr,OkP L->Bz L<=164*L.length:=by
   intro L
   induction L with
   |nil=>intro _;exact qak _
   |cons p L ih =>
    intro ho;obtain⟨h1,h2,h3⟩:=ho p (qae ..);have:=ih fun q hq=>ho q (qag _ hq);unfold Bz at this |-;rw[qay,qcz,qaw];omega
  exact this L ho
 have hfree:Dn (List.replicate n 0)=n:=by
  unfold Dn;rw[List.countP_replicate];exact if_pos (by decide)
 have hblen:(EB (10+n)).B.length=10+n:=qa8 ..;have hplen:(List.replicate n 0:List Nat).length=n:=qa8 ..;have hmost:=W1 (n:=1500) (m:=653) (lv:=2*Bz L / 503+1) (by omega);obtain⟨t,b1,b2,b3,b4,S',b5,b6,b7⟩:=Ro (fr:=10) (n:=1500) (h:=0) (c:=⟨EB (10+n),List.replicate n 0,[],[]⟩) (i:=false) (M:=L.map BC) (L:=L) (S:=[]) (2*Bz L / 503+1) (by omega) (qaf _) ⟨rfl,rfl,rfl⟩ ho (fun x h=>by cases h) ⟨rfl,by dsimp only;omega,by dsimp only;omega⟩ (show L.map BC≠[]from fun e=>hne (List.map_eq_nil_iff.1 e)) rfl (by rw[Ru];exact qaf _) (by dsimp only;omega) (by dsimp only;rw[hfree];show 0+n<=5000;omega)
 have hP:(Dq (Pw (EB (10+n)) (List.replicate n 0) L).2.1 0).P=(Pw (EB (10+n)) (List.replicate n 0) L).2.1.P:=by
  have hg:(Pw (EB (10+n)) (List.replicate n 0) L).2.1.gn=[]:=by
   show(BZ 10 1500 ⟨EB (10+n),List.replicate n 0,[],[]⟩ false (L.map BC)).2.1.gn=[];rw[b1.gn];rfl
  show((if(0:Int)≠0 then _ else(Pw (EB (10+n)) (List.replicate n 0) L).2.1.gn).foldl Ef _)=_;rw[if_neg (by simp),hg];rfl
 rw[hP];rw[qba]at b6
 have hS:∀x:Nat,x∈S'↔(Pw (EB (10+n)) (List.replicate n 0) L).2.1.P[x]?=some 1\/(Pw (EB (10+n)) (List.replicate n 0) L).2.1.P[x]?=some 2:=fun x=>by
  have h1:=b1.now x;rw[b6.mem_iff];show _↔(BZ 10 1500 ⟨EB (10+n),List.replicate n 0,[],[]⟩ false (L.map BC)).2.1.P[x]?=some 1\/(BZ 10 1500 ⟨EB (10+n),List.replicate n 0,[],[]⟩ false (L.map BC)).2.1.P[x]?=some 2;rw[h1]
  by_cases hx:x∈t
  .rw[if_pos hx];exact⟨fun _ => .inr rfl,fun _=>hx⟩
  .rw[if_neg hx];refine⟨fun h=>absurd h hx,fun h=>?_⟩;have h0:∀{s:Nat},(List.replicate n 0)[x]?=some s->s=0:=fun h=>List.eq_of_mem_replicate (qad h)
   rcases h with h|h
   .have:=h0 h;omega
   .have:=h0 h;omega
 have htk:(Pw (EB (10+n)) (List.replicate n 0) L).2.1.tk.length<=1400:=by
  show(BZ 10 1500 ⟨EB (10+n),List.replicate n 0,[],[]⟩ false (L.map BC)).2.1.tk.length<=1400;rw[b1.tk];simp only[qba];omega
 exact⟨⟨b3,⟨⟨S',b5,b6.nodup_iff.2 b1.nd,hS⟩,hr,ho⟩,b4.on,b1.left rfl,b1.blen,b1.len,S',b5,b6.nodup_iff.2 b1.nd,hS,by rw[b6.length_eq];exact b2⟩,htk⟩
structure Res9(A:Dev)(P:List Nat)(L':List Pr)(e r':Int)(A':Dev)(P':List Nat)(mx:Nat):Prop where
 aft:After 362 A P A' P'
 few:Few A' mx
 out:(e=0/\A'.on=true/\TreeAt 362 A' P' r' L')\/(e=8/\A.left ≠ -1/\A'.on=false)\/(e=7/\A'.on=true)
section
variable {A:Dev}{P:List Nat}{root:Int}{L:List Pr}{key val:Byt}{mx:Nat}
theorem TV{G:List It->List It}{g:List Pr->List Pr}(act:Acts key G g)(hr:∀L,Rising L->Rising (g L))(T:TreeAt 362 A P root L)(hon:A.on=true)(hl:362+P.length<=A.B.length)(hP:P.length<=2000)(hfew:Few A mx) :
  Res9 A P (g L) (Dp 362 A P root key G).1 (Dp 362 A P root key G).2.1 (Dp 362 A P root key G).2.2.A (Dp 362 A P root key G).2.2.P (mx+40):=by
 have ht:=W0 (fr:=362) (P:=P) (root:=root) (key:=key) (G:=G) hon;obtain⟨h1,h2⟩:=TK act hr T hon hl hP (hm24 hP);refine⟨h1,TN hfew,?_⟩
 rcases h2 with⟨h3,h4,h5⟩|⟨_,h4,h3⟩
 .exact .inl ⟨h3,h4,h5⟩
 .rcases h3 with⟨h3,h5⟩|⟨h3,h5⟩
  .rw[h3]at ht;exact .inr (.inl ⟨h3,h5,ht.off⟩)
  .exact .inr (.inr ⟨h3,ht.on (by rw[h3];decide)⟩)
theorem Agu(T:TreeAt 362 A P root L)(hon:A.on=true)(hl:362+P.length<=A.B.length)(hP:P.length<=2000)(hfew:Few A mx)(hk:CU key.length val.length=true) :
  Res9 A P (Hp L key val) (Jh 362 A P root key val).1 (Jh 362 A P root key val).2.1 (Jh 362 A P root key val).2.2.1 (Jh 362 A P root key val).2.2.2 (mx+40):=by
 obtain⟨S,td,-,-⟩:=T.told hon hl hP;unfold Jh;rw[if_neg (by rw[td.may];simp),if_pos hk];unfold CU at hk;simp only[qao,qap]at hk;exact TV (g:=fun L=>Hp L key val) (Wu hk.1 hk.2.1 hk.2.2) (fun L h=>Gb h key val) T hon hl hP hfew
theorem Agv(T:TreeAt 362 A P root L)(hon:A.on=true)(hl:362+P.length<=A.B.length)(hP:P.length<=2000)(hfew:Few A mx)(hk:CU key.length 0=true) :
  Res9 A P (IQ L key) (Gt 362 A P root key).1 (Gt 362 A P root key).2.1 (Gt 362 A P root key).2.2.2.1 (Gt 362 A P root key).2.2.2.2 (mx+40):=by
 have hget:=Wx (key:=key) T hon hl hP;rw[if_pos hk]at hget;unfold Gt;rw[hget,if_neg (by simp)]
 cases hg:DK L key with
 |none =>
  rw[if_pos (show((0,(none:Option Byt)):Int × Option Byt).2.isSome=false from rfl),Tm hg];exact⟨After.refl _ _ _,hfew.mono (by omega),.inl ⟨rfl,hon,T⟩⟩
 |some u =>
  rw[if_neg (by simp)];exact TV (g:=fun L=>IQ L key) (Wv key) (fun L h=>Hg h key) T hon hl hP hfew
end
theorem RA{fr h:Nat}{i:Bool}:∀{Hs:List (List It)} {c:Ch} {acc:List It} {L:List Pr} {S:List Nat},Part (RD c.A fr) h i Hs.flatten L S->OkP L->Held c.P S->On fr c->(∀a∈Hs,Many i a/\AY i a<=503)->Hs.length<=Dn c.P ->
  ∃t,CI fr c (Cs fr i Hs c acc).2.1 t []/\(((Cs fr i Hs c acc).1=8/\c.A.left ≠ -1)\/∃K S',t.length=Hs.length/\(Cs fr i Hs c acc).1=0/\On fr (Cs fr i Hs c acc).2.1/\(Cs fr i Hs c acc).2.2=acc++K/\K.length=Hs.length/\Kids (Lies (RD (Cs fr i Hs c acc).2.1.A fr) h) K L S'/\S'.Perm (S++t)/\Held (Cs fr i Hs c acc).2.1.P S')
 | [],c,acc,L,S,hp,ho,hh,hn,hm,hf=>by
  have hLS:L=[]/\S=[]:=by
   cases h with
   |zero =>
    obtain⟨_,he,rfl⟩:=hp
    cases L with
    |nil=>exact⟨rfl,rfl⟩
    |cons _ _=>cases he
   |succ h=>exact hp.2
  obtain⟨rfl,rfl⟩:=hLS;exact⟨[],CI.refl _ _,.inr ⟨[],[],rfl,rfl,hn,by simp[Cs],rfl,⟨rfl,rfl⟩,by simp,fun x hx=>by cases hx⟩⟩
 |a::Hs,c,acc,L,S,hp,ho,hh,hn,hm,hf=>by
  rw[qey]at hp;obtain⟨La,Lb,Sa,Sb,rfl,rfl,pa,pb⟩:=hp.append;have hoa:OkP La:=fun p hp=>ho p (qa4 _ hp);have hob:OkP Lb:=fun p hp=>ho p (qax _ hp);have hha:Held c.P Sa:=hh.sub fun x hx=>qa4 _ hx;have hhb:Held c.P Sb:=hh.sub fun x hx=>qax _ hx;obtain⟨hma,hta⟩:=hm a (qae ..);rw[qaw]at hf;obtain⟨t,w1,w2,w3⟩:=Lp pa hoa hha hn hma hta
  rcases w3 with⟨h7,rfl,h8,h9,h10⟩|h7
  .have hfr:=w1.free;rw[qbu]at hfr
   have hput:Cs fr i (a::Hs) c acc=Cs fr i Hs (wrC fr c i a).2 (acc++[⟨FL a,[],Ca c.P⟩]):=by
    conv=>lhs;unfold Cs
    rw[if_pos h7]
   rw[hput];obtain⟨t',v1,v⟩:=RA (Hs:=Hs) (acc:=acc++[⟨FL a,[],Ca c.P⟩]) (pb.frame (w1.rd hhb)) hob (hhb.keep w1) h8 (fun b hb=>hm b (qag _ hb)) (by omega);have hCI:=w1.trans v1;refine⟨[Ca c.P]++t',hCI,?_⟩
   rcases v with⟨v,vl⟩|⟨K,S',v2,v3,v4,v5,v6,v7,v8,v9⟩
   .exact .inl ⟨v,fun h=>vl (w1.left h)⟩
   .refine .inr ⟨⟨FL a,[],Ca c.P⟩::K,(Ca c.P::Sa)++S',by rw[qan,v2];simp;omega,v3,v4,by rw[v5];simp,by simp[v6],?_,?_,?_⟩
    .exact⟨La,Lb,Ca c.P::Sa,S',rfl,rfl,h9.frame (v1.rd (w1.held.app (hha.keep w1))),h10,rfl,v7⟩
    .have h1:((Ca c.P::Sa)++S').Perm (([Ca c.P]++Sa)++(t'++Sb)):=qe9 _ (v8.trans qcj);exact h1.trans (perm_front.trans qcj)
    .exact((w1.held.app (hha.keep w1)).keep v1).app v9
  .rcases h7 with⟨h7,h8⟩|⟨_,h7⟩
   .have hput:Cs fr i (a::Hs) c acc=((wrC fr c i a).1,(wrC fr c i a).2,[]):=by
     conv=>lhs;unfold Cs
     rw[if_neg (by rw[h7];decide)]
    rw[hput];exact⟨t,w1,.inl ⟨h7,h8⟩⟩
   .omega
theorem Pf{fr:Nat}:∀{n h:Nat} {c:Ch} {i:Bool} {M:List It} {L:List Pr} {S:List Nat} (lv:Nat),lv<=n->n<=1500->Part (RD c.A fr) h i M L S->OkP L->Held c.P S->On fr c->Many i M->2*AY i M / 503+1<=lv->Fg n lv<=Dn c.P->c.tk.length+Dn c.P<=5000 ->
  ∃t,CI fr c (BZ fr n c i M).2.1 t []/\(((BZ fr n c i M).1=8/\c.A.left ≠ -1)\/(t.length<=Fg n lv/\(BZ fr n c i M).1=0/\On fr (BZ fr n c i M).2.1/\∃S',Root (RD (BZ fr n c i M).2.1.A fr) (BZ fr n c i M).2.2 L S'/\S'.Perm (S++t)/\Held (BZ fr n c i M).2.1.P S'))
 |0,h,c,i,M,L,S,lv,hlv,hn15,hp,ho,hh,hn,hm,h3,hf,htk=>by omega
 |n+1,h,c,i,M,L,S,lv,hlv,hn15,hp,ho,hh,hn,hm,h3,hf,htk=>by
  have hx:=hp.ok ho hh hn.few
  have hsz:∀x∈M,C1 i x<=Mo i:=fun x hx'=>by
   obtain⟨_,h4,h5⟩:=hx x hx';unfold Mo
   split
   .rename_i hi;exact h5 hi
   .exact h4
  obtain⟨f1,f2,f3,f4⟩:=TS hm hsz;have hklv:(CW i M).length<=lv:=by omega
  have hfl:lv<=Fg (n+1) lv:=Ri _ _
  have hok:okF c i M=true:=by
   have hM:=Ig i M;unfold okF;simp only[qao,qap,qbz];refine⟨by omega,by omega,fun x hx'=>?_,fun a ha=>?_⟩
   .obtain⟨⟨h4,h5,h6,_⟩,h7,_⟩:=hx x hx';omega
   .have h4:=Ig i a;have h5:=(f2 a ha).2;exact⟨(f2 a ha).1.ne,by omega⟩
  obtain⟨t,p1,p⟩:=RA (Hs:=CW i M) (acc:=[]) (by rw[f1];exact hp) ho hh hn f2 (by omega)
  rcases p with⟨p,pl⟩|⟨K,S',p2,p3,p4,p5,p6,p7,p8,p9⟩
  .refine⟨t,?_,.inl ⟨?_,pl⟩⟩ <;> unfold BZ <;> rw[if_neg (by rw[hok];simp),if_pos (by rw[p];decide)]
   .exact p1
   .exact p
  .rw[qba]at p5;unfold BZ;rw[if_neg (by rw[hok];simp),if_neg (by rw[p3];simp)]
   split
   .rename_i h1
    refine⟨t,p1,.inr ⟨by omega,rfl,p4,S',?_,p8,p9⟩⟩;rw[p5]at h1 |-
    match K,h1 with
    | [z],_ =>
     obtain⟨L1,L2,S1,S2,rfl,rfl,k1,k2,k3,rfl,rfl⟩:=p7;rw[qa2,qa2];exact .inr ⟨h,z.page,rfl,k1⟩
   .rename_i h1
    rw[p5]at h1 |-;have hK2:2<=K.length:=by omega
    have hlv2:1<lv:=by omega
    have hmg:Fg (n+1) lv=lv+Fg n (2*lv*38 / 503+1):=by
     conv=>lhs;unfold Fg
     rw[if_pos hlv2]
    rw[hmg]at hf |-;have hfree:=p1.free;have htk2:(Cs fr i (CW i M) c []).2.1.tk.length=c.tk.length+t.length:=by rw[p1.tk,qan]
    have hP1:Part (RD (Cs fr i (CW i M) c []).2.1.A fr) (h+1) true K L S':=⟨rfl,p7⟩;have hKs:=EJ (inner:=true) (m:=38) (l:=K) fun x hx'=>((hP1.ok ho p9 p4.few) x hx').2.2 rfl
    have hle:2*AY true K / 503+1<=2*lv*38 / 503+1:=by
     have h5:2*AY true K<=2*lv*38:=by
      have:38*K.length<=38*lv:=qb7 _ (by omega)
      omega
     have:=Nat.div_le_div_right (c:=503) h5;omega
    obtain⟨t',b1,b⟩:=Pf (n:=n) (2*lv*38 / 503+1) (by omega) (by omega) hP1 ho p9 p4 (show 2<=K.length from hK2) hle (by omega) (by omega);have hCI:=p1.trans b1;refine⟨t++t',hCI,?_⟩
    rcases b with⟨b,bl⟩|⟨b2,b3,b4,S'',b5,b6,b7⟩
    .exact .inl ⟨b,fun h=>bl (p1.left h)⟩
    .refine .inr ⟨by rw[qan];omega,b3,b4,S'',b5,?_,b7⟩;rw[<-qa0];exact b6.trans (p8.append_right _)
theorem N1{fr:Nat}:∀{n:Nat} {c:Ch} {i:Bool} {M:List It},c.A.on=true->Tells (BZ fr n c i M).2.1.A (BZ fr n c i M).1
 |0,c,i,M,h => .ok h (show(99:Int)≠8 by decide)
 |n+1,c,i,M,h=>by
  have h1:=Mn (fr:=fr) (i:=i) (Hs:=CW i M) (acc:=[]) h;unfold BZ
  split
  .exact .ok h (show(99:Int)≠8 by decide)
  .split
   .exact h1
   .rename_i h0
    have h2:=h1.on (by rw[Classical.not_not.1 h0];decide)
    split
    .exact .ok h2 (show(0:Int)≠8 by decide)
    .exact N1 h2
theorem W2{fr:Nat}{c:Ch}{inner:Bool}{M:List It}{m:Nat}(h:Few c.A (m+c.tk.length)):Few (wrC fr c inner M).2.A (m+(wrC fr c inner M).2.tk.length):=by
 unfold wrC
 split
 .exact h
 .split
  .rw[qan];exact h.mono (by rw[qbu];omega)
  .rw[qan];exact GI h _ _
theorem TW{fr:Nat}{i:Bool}{m:Nat}:∀{Hs:List (List It)} {c:Ch} {acc:List It},Few c.A (m+c.tk.length)->Few (Cs fr i Hs c acc).2.1.A (m+(Cs fr i Hs c acc).2.1.tk.length)
 | [],_,_,h=>h
 |x::Hs,c,acc,h=>by
  unfold Cs
  split
  .exact TW (W2 h)
  .exact W2 h
theorem Pg{fr m:Nat}:∀{n:Nat} {c:Ch} {i:Bool} {M:List It},Few c.A (m+c.tk.length)->Few (BZ fr n c i M).2.1.A (m+(BZ fr n c i M).2.1.tk.length)
 |0,_,_,_,h=>h
 |n+1,c,i,M,h=>by
  have h1:=TW (fr:=fr) (i:=i) (Hs:=CW i M) (acc:=[]) h;unfold BZ
  split
  .exact h
  .split
   .exact h1
   .split
    .exact h1
    .exact Pg h1
theorem Y5:∀lv,lv<200->Fg 1500 lv<=max 40 ((5*lv+3) / 4):=by decide +kernel
end Go.Proofs.YtcpgbcabmcbclaaGreatDoor
namespace Go.Proofs
open Go.RowKit Go.Maps Go.Sort Go.Shelf
def Tryz.keysS_ren : Go.Shelf.Ren := ⟨fun | 7 => 66 | 10 => 104 | n => n, fun | 23 => 91 | 26 => 9 | 3 => 24 | 28 => 110 | 0 => 0 | 27 => 109 | 33 => 156 | 4 => 4 | n => n, fun | n => n⟩
theorem Tryz.keysS : Go.Proofs.SlLaysZ.n7 Tryz.prog Tryz.keysS_ren := {
  mixed := by kernel_rfl
  f7 := ⟨Tryz.f66.name, by decide, Tryz.func66.trans (congrArg some (by kernel_rfl))⟩
  f10 := ⟨Tryz.f104.name, by decide, Tryz.func104.trans (congrArg some (by kernel_rfl))⟩
  t0 := Tryz.underlying0
  a0 := Tryz.isAgg0
  z0 := Tryz.sizeOf0
  v0 := Tryz.zeroValue0
  t4 := Tryz.underlying4
  a4 := Tryz.isAgg4
  z4 := Tryz.sizeOf4
  v4 := Tryz.zeroValue4
  t23 := Tryz.underlying91
  a23 := Tryz.isAgg91
  z23 := Tryz.sizeOf91
  v23 := Tryz.zeroValue91
  t26 := Tryz.underlying9
  a26 := Tryz.isAgg9
  z26 := Tryz.sizeOf9
  v26 := Tryz.zeroValue9
  t27 := Tryz.underlying109
  a27 := Tryz.isAgg109
  z27 := Tryz.sizeOf109
  v27 := Tryz.zeroValue109
  t28 := Tryz.underlying110
  a28 := Tryz.isAgg110
  z28 := Tryz.sizeOf110
  v28 := Tryz.zeroValue110
  t33 := Tryz.underlying156
  a33 := Tryz.isAgg156
  z33 := Tryz.sizeOf156
  v33 := Tryz.zeroValue156 }
def Tryz.keysT_ren : Go.Shelf.Ren := ⟨fun | 7 => 119 | 10 => 143 | n => n, fun | 23 => 92 | 26 => 9 | 3 => 3 | 28 => 110 | 0 => 0 | 27 => 109 | 33 => 156 | 4 => 4 | n => n, fun | n => n⟩
theorem Tryz.keysT : Go.Proofs.SlLaysZ.n7 Tryz.prog Tryz.keysT_ren := {
  mixed := by kernel_rfl
  f7 := ⟨Tryz.f119.name, by decide, Tryz.func119.trans (congrArg some (by kernel_rfl))⟩
  f10 := ⟨Tryz.f143.name, by decide, Tryz.func143.trans (congrArg some (by kernel_rfl))⟩
  t0 := Tryz.underlying0
  a0 := Tryz.isAgg0
  z0 := Tryz.sizeOf0
  v0 := Tryz.zeroValue0
  t4 := Tryz.underlying4
  a4 := Tryz.isAgg4
  z4 := Tryz.sizeOf4
  v4 := Tryz.zeroValue4
  t23 := Tryz.underlying92
  a23 := Tryz.isAgg92
  z23 := Tryz.sizeOf92
  v23 := Tryz.zeroValue92
  t26 := Tryz.underlying9
  a26 := Tryz.isAgg9
  z26 := Tryz.sizeOf9
  v26 := Tryz.zeroValue9
  t27 := Tryz.underlying109
  a27 := Tryz.isAgg109
  z27 := Tryz.sizeOf109
  v27 := Tryz.zeroValue109
  t28 := Tryz.underlying110
  a28 := Tryz.isAgg110
  z28 := Tryz.sizeOf110
  v28 := Tryz.zeroValue110
  t33 := Tryz.underlying156
  a33 := Tryz.isAgg156
  z33 := Tryz.sizeOf156
  v33 := Tryz.zeroValue156 }
def Tryz.sortedS_ren : Go.Shelf.Ren := ⟨fun | 6 => 65 | 8 => 102 | 9 => 103 | 11 => 135 | 13 => 137 | 12 => 136 | 23 => 169 | 24 => 170 | 14 => 160 | 15 => 161 | 16 => 162 | 17 => 163 | 18 => 164 | 19 => 165 | 20 => 166 | 21 => 167 | 22 => 168 | 25 => 192 | 26 => 193 | 27 => 194 | 28 => 195 | 29 => 196 | 30 => 197 | 31 => 208 | n => n, fun | 26 => 9 | 28 => 110 | 24 => 107 | 0 => 0 | 3 => 3 | 37 => 54 | 48 => 164 | 50 => 74 | 4 => 4 | 40 => 218 | 39 => 217 | 45 => 135 | 5 => 5 | 9 => 9 | 51 => 248 | 55 => 252 | 57 => 265 | 58 => 266 | 33 => 156 | n => n, fun | n => n⟩
theorem Tryz.sortedS : Go.Proofs.SlLaysZ.n6 Tryz.prog Tryz.sortedS_ren := {
  mixed := by kernel_rfl
  f6 := ⟨Tryz.f65.name, by decide, Tryz.func65.trans (congrArg some (by kernel_rfl))⟩
  f8 := ⟨Tryz.f102.name, by decide, Tryz.func102.trans (congrArg some (by kernel_rfl))⟩
  f11 := ⟨Tryz.f135.name, by decide, Tryz.func135.trans (congrArg some (by kernel_rfl))⟩
  t0 := Tryz.underlying0
  a0 := Tryz.isAgg0
  z0 := Tryz.sizeOf0
  v0 := Tryz.zeroValue0
  t24 := Tryz.underlying107
  a24 := Tryz.isAgg107
  z24 := Tryz.sizeOf107
  v24 := Tryz.zeroValue107
  t26 := Tryz.underlying9
  a26 := Tryz.isAgg9
  z26 := Tryz.sizeOf9
  v26 := Tryz.zeroValue9
  t28 := Tryz.underlying110
  a28 := Tryz.isAgg110
  z28 := Tryz.sizeOf110
  v28 := Tryz.zeroValue110
  i26 := by kernel_rfl }
def Tryz.sortS_ren : Go.Shelf.Ren := ⟨fun | 6 => 103 | 8 => 137 | 9 => 136 | 19 => 169 | 20 => 170 | 21 => 160 | 22 => 161 | 23 => 162 | 24 => 163 | 25 => 164 | 26 => 165 | 27 => 166 | 28 => 167 | 29 => 168 | 36 => 192 | 31 => 193 | 32 => 194 | 37 => 195 | 38 => 196 | 39 => 197 | 41 => 208 | n => n, fun | 27 => 107 | 29 => 9 | 3 => 3 | 32 => 54 | 26 => 107 | 0 => 0 | 44 => 164 | 46 => 74 | 4 => 4 | 36 => 218 | 35 => 217 | 41 => 135 | 5 => 5 | 9 => 9 | 53 => 248 | 57 => 252 | 63 => 265 | 64 => 266 | n => n, fun | n => n⟩
theorem Tryz.sortS : Go.Proofs.SlLaysM.n6 Tryz.prog Tryz.sortS_ren := {
  mixed := by kernel_rfl
  f6 := ⟨Tryz.f103.name, by decide, Tryz.func103.trans (congrArg some (by kernel_rfl))⟩
  f8 := Tryz.func137.trans (congrArg some (by kernel_rfl))
  f9 := ⟨Tryz.f136.name, by decide, Tryz.func136.trans (congrArg some (by kernel_rfl))⟩
  f19 := Tryz.func169.trans (congrArg some (by kernel_rfl))
  f20 := Tryz.func170.trans (congrArg some (by kernel_rfl))
  f21 := ⟨Tryz.f160.name, by decide, Tryz.func160.trans (congrArg some (by kernel_rfl))⟩
  f22 := ⟨Tryz.f161.name, by decide, Tryz.func161.trans (congrArg some (by kernel_rfl))⟩
  f23 := ⟨Tryz.f162.name, by decide, Tryz.func162.trans (congrArg some (by kernel_rfl))⟩
  f24 := ⟨Tryz.f163.name, by decide, Tryz.func163.trans (congrArg some (by kernel_rfl))⟩
  f25 := ⟨Tryz.f164.name, by decide, Tryz.func164.trans (congrArg some (by kernel_rfl))⟩
  f26 := ⟨Tryz.f165.name, by decide, Tryz.func165.trans (congrArg some (by kernel_rfl))⟩
  f27 := ⟨Tryz.f166.name, by decide, Tryz.func166.trans (congrArg some (by kernel_rfl))⟩
  f28 := ⟨Tryz.f167.name, by decide, Tryz.func167.trans (congrArg some (by kernel_rfl))⟩
  f29 := ⟨Tryz.f168.name, by decide, Tryz.func168.trans (congrArg some (by kernel_rfl))⟩
  f31 := Tryz.func193.trans (congrArg some (by kernel_rfl))
  f32 := Tryz.func194.trans (congrArg some (by kernel_rfl))
  f36 := ⟨Tryz.f192.name, by decide, Tryz.func192.trans (congrArg some (by kernel_rfl))⟩
  f37 := ⟨Tryz.f195.name, by decide, Tryz.func195.trans (congrArg some (by kernel_rfl))⟩
  f38 := ⟨Tryz.f196.name, by decide, Tryz.func196.trans (congrArg some (by kernel_rfl))⟩
  f39 := ⟨Tryz.f197.name, by decide, Tryz.func197.trans (congrArg some (by kernel_rfl))⟩
  f41 := ⟨Tryz.f208.name, by decide, Tryz.func208.trans (congrArg some (by kernel_rfl))⟩
  t0 := Tryz.underlying0
  a0 := Tryz.isAgg0
  z0 := Tryz.sizeOf0
  v0 := Tryz.zeroValue0
  t3 := Tryz.underlying3
  a3 := Tryz.isAgg3
  z3 := Tryz.sizeOf3
  v3 := Tryz.zeroValue3
  t4 := Tryz.underlying4
  a4 := Tryz.isAgg4
  z4 := Tryz.sizeOf4
  v4 := Tryz.zeroValue4
  t5 := Tryz.underlying5
  a5 := Tryz.isAgg5
  z5 := Tryz.sizeOf5
  v5 := Tryz.zeroValue5
  t9 := Tryz.underlying9
  a9 := Tryz.isAgg9
  z9 := Tryz.sizeOf9
  v9 := Tryz.zeroValue9
  t26 := Tryz.underlying107
  a26 := Tryz.isAgg107
  z26 := Tryz.sizeOf107
  v26 := Tryz.zeroValue107
  t27 := Tryz.underlying107
  a27 := Tryz.isAgg107
  z27 := Tryz.sizeOf107
  v27 := Tryz.zeroValue107
  t29 := Tryz.underlying9
  a29 := Tryz.isAgg9
  z29 := Tryz.sizeOf9
  v29 := Tryz.zeroValue9
  t32 := Tryz.underlying54
  a32 := Tryz.isAgg54
  z32 := Tryz.sizeOf54
  v32 := Tryz.zeroValue54
  t35 := Tryz.underlying217
  a35 := Tryz.isAgg217
  z35 := Tryz.sizeOf217
  v35 := Tryz.zeroValue217
  t36 := Tryz.underlying218
  a36 := Tryz.isAgg218
  z36 := Tryz.sizeOf218
  v36 := Tryz.zeroValue218
  t41 := Tryz.underlying135
  a41 := Tryz.isAgg135
  z41 := Tryz.sizeOf135
  v41 := Tryz.zeroValue135
  t44 := Tryz.underlying164
  a44 := Tryz.isAgg164
  z44 := Tryz.sizeOf164
  v44 := Tryz.zeroValue164
  t46 := Tryz.underlying74
  a46 := Tryz.isAgg74
  z46 := Tryz.sizeOf74
  v46 := Tryz.zeroValue74
  t53 := Tryz.underlying248
  a53 := Tryz.isAgg248
  z53 := Tryz.sizeOf248
  v53 := Tryz.zeroValue248
  t57 := Tryz.underlying252
  a57 := Tryz.isAgg252
  z57 := Tryz.sizeOf252
  v57 := Tryz.zeroValue252
  t63 := Tryz.underlying265
  a63 := Tryz.isAgg265
  z63 := Tryz.sizeOf265
  v63 := Tryz.zeroValue265
  t64 := Tryz.underlying266
  a64 := Tryz.isAgg266
  z64 := Tryz.sizeOf266
  v64 := Tryz.zeroValue266 }

theorem Tryz.sortsS (m : Nat) : AnyZ.SortsIn Tryz.prog Tryz.sortedS_ren Fence.wide m :=
  ⟨fun blk off cap ss W hH hblk hsz => callsIn_wide.2 (AnyM.slices_Sort_string Tryz.sortS blk off cap ss W hH hblk hsz),
   fun p cap W => callsIn_wide.2 (AnyM.slices_Sort_string_none Tryz.sortS p cap W)⟩
end Go.Proofs
namespace Go.Proofs.YtcpgbcabmcbclaaGreatDoor
open Go.GV Go.Proofs.Tryz
attribute [local irreducible] A7 W Wq Wt
def TR:Nat:=0
def TB:Nat:=0
def RB(n bb cb:Nat)(left:Int)(on:Bool):List Value:=[.slice (some ⟨bb,0,none⟩) n cb,.int .i64 left,.bool on]
@[simp] theorem RB_len (n bb cb:Nat) (left:Int) (on:Bool):(RB n bb cb left on).length=3:=rfl
def LooseS(w:World)(role:Nat->Nat)(k:Nat)(v:Value)(l:List Byt):Prop :=
 ∃a n c full,v=.slice a n c/\OS a n c 1 full (l.map str)/\∀x∈ent a 9 full,w.heap[x.1]?=some x.2/\role x.1=5+k
structure RefR(w:World)(rd:Nat)(A:Dev)(role:Nat->Nat)(bb cb:Nat)(full:List Value):Prop where
 lt:∀x,role x≠0->x<w.heap.size
 rr:role rd=1
 rb:role bb=2
 hd:w.heap[rd]?=some (Bl TR (RB A.B.length bb cb A.left A.on))
 hb:w.heap[bb]?=some (Bl TB full)
 len:full.length=cb*2
 cap:A.B.length<=cb
 part:∀i p,A.B[i]?=some p->full[2*i]?=some (str p.1)/\∃v,full[2*i+1]?=some v/\LooseS w role i v p.2
 wf:Wf A
def RefAt(w:World)(rd:Nat)(A:Dev)(F:Nat->Prop):Prop:=∃role bb cb full,RefR w rd A role bb cb full/\∀x,role x≠0->F x
theorem LooseS.keep{w w':World}{role role':Nat->Nat}{k:Nat}{v:Value}{l:List Byt}{S:List Nat}(h:LooseS w role k v l)(hx:Ext S w w')(hS:∀x∈S,role x≠5+k)(hr5:∀x,role x=5+k->role' x=5+k):LooseS w' role' k v l:=by
 obtain⟨a,n,c,full,rfl,O,hb⟩:=h;refine⟨a,n,c,full,rfl,O,fun x hx'=>?_⟩;obtain⟨h6,h7⟩:=hb x hx';exact⟨by rw[hx.block x.1 (Al h6) fun h=>hS _ h h7];exact h6,hr5 _ h7⟩
theorem RefAt.keep{w w':World}{rd:Nat}{A:Dev}{F:Nat->Prop}(h:RefAt w rd A F){S:List Nat}(hx:Ext S w w')(hS:∀x∈S,¬F x):RefAt w' rd A F:=by
 obtain⟨role,bb,cb,full,D,hF⟩:=h;have hS':∀x∈S,role x=0:=fun x hx=>Classical.byContradiction fun h=>hS x hx (hF x h)
 have hb:∀{b:Nat} {o:Obj},w.heap[b]?=some o->role b≠0->w'.heap[b]?=some o:=fun{b o} h1 h2=>by
  rw[hx.block b (Al h1) fun h=>h2 (hS' b h)];exact h1
 refine⟨role,bb,cb,full,⟨fun x h=>qat (D.lt x h) hx.size,D.rr,D.rb,hb D.hd (by rw[D.rr];decide),hb D.hb (by rw[D.rb];decide),D.len,D.cap,fun i p hp=>?_,D.wf⟩,hF⟩;obtain⟨h1,v,h2,h3⟩:=D.part i p hp;exact⟨h1,v,h2,h3.keep hx (fun x h=>by rw[hS' x h];omega) fun _ h=>h⟩
theorem RefAt.keep0{w w':World}{rd:Nat}{A:Dev}{F:Nat->Prop}(h:RefAt w rd A F)(hx:Ext [] w w'):RefAt w' rd A F:=h.keep hx (by simp)
theorem RefAt.mono{w:World}{rd:Nat}{A:Dev}{F G:Nat->Prop}(h:RefAt w rd A F)(hG:∀x,F x->G x):RefAt w rd A G :=
 let ⟨role,bb,cb,full,D,hF⟩:=h;⟨role,bb,cb,full,D,fun x hx=>hG x (hF x hx)⟩
theorem RefAt.wf{w:World}{rd:Nat}{A:Dev}{F:Nat->Prop}(h:RefAt w rd A F):Wf A:=let ⟨_,_,_,_,D,_⟩:=h;D.wf
theorem RefR.turn{w w':World}{rd:Nat}{A A':Dev}{role:Nat->Nat}{bb cb:Nat}{full:List Value}(D:RefR w rd A role bb cb full)(hx:Ext [rd] w w')(hd:w'.heap[rd]?=some (Bl TR (RB A'.B.length bb cb A'.left A'.on)))(hB:A'.B=A.B)(wf:Wf A'):RefR w' rd A' role bb cb full:=by
 have hs:∀x∈[rd],role x=1:=fun x h=>by rw[qaa.1 h];exact D.rr
 refine⟨fun x h=>qat (D.lt x h) hx.size,D.rr,D.rb,hd,?_,D.len,by rw[hB];exact D.cap,fun i p hp=>?_,wf⟩
 .rw[hx.block bb (Al D.hb) fun h=>by have:=hs _ h;rw[D.rb]at this;omega];exact D.hb
 .rw[hB]at hp;obtain⟨h1,v,h2,h3⟩:=D.part i p hp;exact⟨h1,v,h2,h3.keep hx (fun x h=>by rw[hs x h];omega) fun _ h=>h⟩
theorem RefR.put{w w':World}{rd:Nat}{A:Dev}{role role':Nat->Nat}{bb cb:Nat}{full:List Value}(D:RefR w rd A role bb cb full){k:Nat}{p:Byt × List Byt}{S:List Nat}{full':List Value}{v:Value}(hk:k<A.B.length)(hx:Ext S w w')(hS:∀x∈S,role x=2\/role x=5+k)(hb':w'.heap[bb]?=some (Bl TB full'))(hlen:full'.length=full.length)(h0:full'[2*k]?=some (str p.1))(h1:full'[2*k+1]?=some v)(hrest:∀i,i≠2*k->i≠2*k+1->full'[i]?=full[i]?)(hv:LooseS w' role' k v p.2)(hold:∀x,role x≠0->role' x=role x)(hlt:∀x,role' x≠0->x<w'.heap.size)(wf:Wf { A with B:=A.B.set k p }):RefR w' rd { A with B:=A.B.set k p } role' bb cb full':=by
 refine⟨hlt,by rw[hold _ (by rw[D.rr];decide),D.rr],by rw[hold _ (by rw[D.rb];decide),D.rb],?_,hb',by rw[hlen,D.len],by rw[qcf];exact D.cap,fun i q hq=>?_,wf⟩
 .rw[hx.block rd (Al D.hd) fun h=>by have:=hS _ h;rw[D.rr]at this;omega,qcf];exact D.hd
 .have hq':(A.B.set k p)[i]?=some q:=hq;rw[qdg]at hq'
  by_cases hik:k=i
  .subst hik;rw[if_pos rfl,if_pos hk]at hq';cases hq';exact⟨h0,v,h1,hv⟩
  .rw[if_neg hik]at hq';obtain⟨a1,u,a2,a3⟩:=D.part i q hq';refine⟨by rw[hrest _ (by omega) (by omega)];exact a1,u,by rw[hrest _ (by omega) (by omega)];exact a2,a3.keep hx (fun x h=>by have:=hS x h;omega) fun x h=>by rw[hold x (by omega),h]⟩
def sureB(B:List (Byt × List Byt))(i:Nat):List (Byt × List Byt):=(B.take i).map (fun p=>(stands p,[]))++B.drop i
theorem Wf.set{A:Dev}(h:Wf A){k:Nat}{p:Byt × List Byt}(h1:p.1.length=512)(h2:∀b∈p.2,b.length=512):Wf { A with B:=A.B.set k p }:=by
 refine⟨by rw[qcf];exact h.lo,by rw[qcf];exact h.hi,h.left,h.left2,fun q hq=>?_,fun q hq x hx=>?_⟩
 .rcases qe6 hq with hq|rfl
  .exact h.sure q hq
  .exact h1
 .rcases qe6 hq with hq|rfl
  .exact h.loose q hq x hx
  .exact h2 x hx
def cellsN(i:Nat):List Value:=(List.replicate i [str zeros,Value.slice none 0 0]).flatten
def N2(b:List UInt8):Nat:=numN ((C8 b).take 8)
def Ey(k:Int)(b:List UInt8):Bool :=
 decide (Ez b=0) && (decide ((FX b).toNat=1) && (decide (8<=(C8 b).length) && (decide ((C8 b).length<=488) && (decide (1<=N2 b) && (decide (N2 b<=4611686018427387904) && decide (((N2 b % 2:Nat):Int)=k))))))
def Cn(k:Int)(b:List UInt8):Nat:=bif Ey k b then N2 b else 0
def Dr(k:Int)(b:List UInt8):List UInt8:=bif Ey k b then(C8 b).drop 8 else[]
theorem Agw{b:List UInt8}{w w':World}{v:Value}(h:Nf b w v w'):∃k a c m,v=.tuple #[bv k,.slice a (List.length m) c,.int .i64 (Ez b)]/\Ext [] w w'/\Rd w' a 1 B8 m/\m.length<=c/\(Ez b=0->k=FX b/\m=C8 b)/\m.length<=505:=by
 rcases h with⟨h0,rfl,hx⟩|⟨h0,s,rfl,F⟩
 .exact⟨0,none,0,[],rfl,hx,Rd.nil,qaf _,fun h=>absurd h h0,by simp⟩
 .obtain⟨a,c,rfl,R,hc⟩:=Fresh.rdB F;refine⟨_,a,c,_,by rw[h0],F.ext,R,hc,fun _=>⟨rfl,rfl⟩,?_⟩;have h1:(C8 b).length<=(Ia b).length:=by rw[C8,qa1];exact Nat.min_le_right _ _
  have h2:(Ia b).length<=505:=by rw[Ia,qa1];exact Nat.min_le_left _ _
  omega
theorem Aiz(b:List UInt8):N2 b<18446744073709551616:=by
 have h:=JD ((C8 b).take 8);have h2:256 ^ ((C8 b).take 8).length<=256 ^ 8:=qcx (by omega) (by rw[qa1];omega);have h3:(256:Nat) ^ 8=18446744073709551616:=by decide
 unfold N2;omega
def W3(k:Int)(b:List UInt8)(w:World)(v:Value)(w':World):Prop :=
 ∃a c,v=.agg #[.int .u64 (Cn k b:Int),.slice a (Dr k b).length c]/\Rd w' a 1 B8 (Dr k b)/\(Dr k b).length<=c/\(Dr k b=[]\/w.heap.size<=(adr a).block)/\Ext [] w w'
theorem Agx(l:List UInt8):∃(g8:Nat) (n9:Int),FC l 0 8=.tuple #[.int .u64 (g8:Int),.int .i64 n9,.int .i64 (CV l 0 8)]/\(CV l 0 8=0->g8=numN (l.take 8)/\n9=8):=by
 by_cases h:CV l 0 8=0
 .refine⟨numN (l.take 8),8,?_,fun _=>⟨rfl,rfl⟩⟩;rw[FC,h];rfl
 .refine⟨0,0,?_,fun h'=>absurd h' h⟩;rw[FC,qai h];rfl
theorem Ou{k:Int}{b:List UInt8}{w w':World}(h:Ey k b=false)(hx:Ext [] w w'):W3 k b w (.agg #[.int .u64 0,.slice none 0 0]) w' :=
 ⟨none,0,by rw[Cn,Dr,h];rfl,by rw[Dr,h];exact Rd.nil,by rw[Dr,h];exact qaf _,.inl (by rw[Dr,h];rfl),hx⟩
theorem Ai0(k:Int)(a:Option Addr)(c n:Nat)(b:List UInt8)(w:World)(R:Rd w a 1 B8 b)(hn:b.length=n)(hm:n<=9223372036854775799:=by omega)(hc:b.length<=c:=by omega):
  Ret prog 73 #[.int .i64 k,.slice a n c] w fun v w'=>W3 k b w v w':=by
 subst hn;obtain⟨w0,rfl,H⟩:=qE w;have hgl:=Aiz b;refine A6 (fn:=f73) func73 U [.int .i64 k,.slice a b.length c] U (Ad (Be Kt H ?_));rintro b4 w - H;refine qA (Ad (Ai U (Ah qB (UJ a c b.length b _ (R.ext0 H.ext) U (hm:=hm) hc) U ?_)));rintro v w P;obtain⟨kd,a6,c6,m,rfl,hx,R6,hc6,hP,hm5⟩:=Agw P;replace H:=H.call hx;refine AM U (Ag U U (Ag U U (Ag U U (Ac U (Aj U (Ac U (qA (Ar (Ad (BB (α:=Unit) 268304384 (fun _=>[(27,.bool (!(decide (Ez b=0) && (decide (kd.toNat=1) && decide (m.length<=488)))))]) (fun _ w'=>Ctx w0 [] w' [(b4,Bl 117 [.int .u64 0,.slice none 0 0])]/\Ext [] w w') U ?_ ?_))))))))))
 .refine Ae U (AZ U U (AC U (AX 19 U ?_ ?_)))
  .intro h1;replace h1:=Bu h1;refine Ak U (Ak U (AQ U (.bool _) U (AC U (Ak U (Ak U (Ak U (AQ U (.bool _) U (Ab ?_))))))));exact⟨rfl,(),rfl,⟨qac Value.bool (by rw[qar];simp_all;try omega),trivial⟩,⟨H,.refl _ _⟩⟩
  .intro h2;replace h2:=Bv h2;refine Ae U (AZ U U (AN U (.bool _) U (AC U (AX 23 U ?_ ?_))))
   .intro h3;replace h3:=Bu h3;refine Ak U (Ak U (Ak U (AQ U (.bool _) U (Ab ?_))));exact⟨rfl,(),rfl,⟨qac Value.bool (by rw[qar];simp_all;try omega),trivial⟩,⟨H,.refl _ _⟩⟩
   .intro h4;replace h4:=Bv h4;refine Ai U (AO AW U (Ci U U (AN U (.bool _) U (Ab ?_))));exact⟨rfl,(),rfl,⟨qac Value.bool (by rw[qar];simp_all;try omega),trivial⟩,⟨H,.refl _ _⟩⟩
 rintro - j27 w ⟨H,hxj⟩;replace R6:=R6.ext0 hxj;refine Au _ U ?_ ?_
 .intro h1;replace h1:=CJ h1
  have hr:Ey k b=false:=by
   rw[qd8];intro hc;simp only[Ey,qao,qap]at hc;obtain⟨h2,h3,_,h4,_⟩:=hc;obtain⟨rfl,rfl⟩:=hP h2;simp[h2,h3,h4]at h1
  refine Ad (B0 [.int .u64 0,.slice none 0 0] UC Kt ?_);refine Bi GD U U U (by simp[Bg]) H at0 U ?_;rintro w H;refine qA (Ax (Ao (MK U U U NT GD H at0 U ?_)));exact Ou hr H.ext
 .intro h1;replace h1:=CK h1;simp only[qao,qap]at h1;obtain⟨h2,h3,h4⟩:=h1;obtain⟨rfl,rfl⟩:=hP h2
  have hte:CV (C8 b) 0 8=bif decide (8<=(C8 b).length)then 0 else 5:=by
   unfold CV;rw[qam (show(0:Int)<=((C8 b).length:Int)by omega)]
   cases hd:decide (8<=(C8 b).length)with
   |true=>rw[qap]at hd;rw[qam (show(8:Int)<=((C8 b).length:Int) - 0 by omega)];rfl
   |false=>rw[qc5]at hd;rw[qai (show ¬(8:Int)<=((C8 b).length:Int) - 0 by omega)];rfl
  refine Aq (Aa (Ad (Ai U (Ah qB (Gq a6 c6 (C8 b).length (C8 b) 0 8 _ R6 U hc6) U ?_))));rintro v w ⟨rfl,hx⟩;obtain⟨g8,n9,htv,hg8⟩:∃(g8:Nat) (n9:Int),FC (C8 b) 0 8=.tuple #[.int .u64 (g8:Int),.int .i64 n9,.int .i64 (CV (C8 b) 0 8)]/\(CV (C8 b) 0 8=0->g8=N2 b/\n9=8):=Agx (C8 b);rw[htv];replace H:=H.call hx;replace R6:=R6.ext0 hx;refine AM U (Ag U U (Ag U U (Ag U U (Ac U (Ac U (Ac U (qA (Ar (Ad ?_)))))))));refine Ae U (AZ U U (qA (Au _ U ?_ ?_)))
  .intro h5;replace h5:=Bu h5
   have hr:Ey k b=false:=by
    rw[qd8];intro hc;simp only[Ey,qao,qap]at hc;rw[hte,qam hc.2.2.1]at h5;exact h5 U
   refine Ad (B0 [.int .u64 0,.slice none 0 0] UC Kt ?_);refine Bi GD U U U (by simp[Bg]) H at0 U ?_;rintro w H;refine qA (Ax (Ao (MK U U U NT GD H at0 U ?_)));exact Ou hr H.ext
  .intro h5;replace h5:=Bv h5;obtain⟨rfl,rfl⟩:=hg8 h5
   have h8:8<=(C8 b).length:=by
    refine Classical.byContradiction fun hc=>?_;rw[hte,qai hc]at h5;cases h5
   have R8:=R6.cut 8 c6 hc6;refine Aq (Aa (Ad (Ae U (Ai U (Ae U (FR U AW CO U U ?_))))));refine Ah qB (Aa1 _ (c6 - 8) ((C8 b).length - 8) ((C8 b).drop 8) _ R8 (by rw[qbe])) U ?_;rintro v w ⟨F,-⟩;have hlt:=H.lt at0;obtain⟨a42,c42,rfl,R42,hc42,hnew⟩:=Fresh.newB F;replace H:=H.call F.ext;have h4c:=H.get at0;have hw4:w0.heap.size<=b4:=(H.own _ (qae ..)).elim (fun h=>by cases h) id;have H0:=H.ext;obtain⟨wr,rfl⟩:=qD w;replace H:=Ctx.start1 h4c;refine B0 [.int .u64 (N2 b:Int),.slice a42 ((C8 b).drop 8).length c42] UC Kt (Be Kt H ?_);rintro b10 w - H;refine Bi GD U U U (by simp[Bg]) H at0 U ?_;rintro w H
   refine qA (Ar (Ad (BB (α:=Unit) 1152903912420802560 (fun _=>[(59,.bool (!(decide (1<=N2 b) && (decide (N2 b<=4611686018427387904) && decide (((N2 b % 2:Nat):Int)=k)))))]) (fun _ w'=>Ctx wr [b4] w' [(b10,Bl 117 [.int .u64 (N2 b:Int),.slice a42 ((C8 b).drop 8).length c42]),(b4,Bl 117 [.int .u64 0,.slice none 0 0])]) U ?_ ?_)))
   .refine Af HW U (AG FU U H at0 U (Bt U U (AC U (AX 47 U ?_ ?_))))
    .intro h5;replace h5:=AU h5;refine Ak U (Ak U (Ak U (AQ U (.bool _) U (AC U (Ak U (Ak U (Ak U (Ak U (Ak U ?_)))))))));refine Ak U (AQ U (.bool _) U (Ab ?_));exact⟨rfl,(),rfl,⟨qac Value.bool (by rw[qar];simp_all;try omega),trivial⟩,H⟩
    .intro h6;replace h6:=AV h6;refine Af HW U (AG FU U H at0 U (Ci U U (AN U (.bool _) U (AC U (AX 52 U ?_ ?_)))))
     .intro h7;replace h7:=AU h7;refine Ak U (Ak U (Ak U (Ak U (Ak U (Ak U (AQ U (.bool _) U (Ab ?_)))))));exact⟨rfl,(),rfl,⟨qac Value.bool (by rw[qar];simp_all;try omega),trivial⟩,H⟩
     .intro h8;replace h8:=AV h8;refine Af HW U (AG FU U H at0 U (Uy U U U ?_));refine DP U Gy EW (Ae U (AZ U U (AN U (.bool _) U (Ab ?_))));exact⟨rfl,(),rfl,⟨qac Value.bool (by rw[qar];simp_all;try omega),trivial⟩,H⟩
   rintro - j59 w H;refine Au _ U ?_ ?_
   .intro h6;replace h6:=CJ h6
    have hr:Ey k b=false:=by
     rw[qd8];intro hc;simp only[Ey,qao,qap]at hc;simp[hc.2.2.2.2.1,hc.2.2.2.2.2.1,hc.2.2.2.2.2.2]at h6
    refine Ad (B0 [.int .u64 0,.slice none 0 0] UC Kt ?_);refine Bi GD U U U (by simp[Bg]) H at1 U ?_;rintro w H;refine qA (Ax (Ao (MK U U U NT GD H at1 U ?_)));exact Ou hr (H0.then H.ext (by intro x hx;rw[qaa]at hx;subst hx;exact .inr hw4))
   .intro h6;replace h6:=CK h6
    have hr:Ey k b=true:=by
     simp only[qao,qap]at h6;simp only[Ey,qao,qap];exact⟨h2,h3,h8,h4,h6.1,h6.2.1,h6.2.2⟩
    refine Aq (Aa (Ad (BG NT GD U H at0 U (Bi GD U U U (by simp[Bg]) H at1 U ?_))));rintro w H;refine qA (Ax (MK U U U NT GD H at1 U ?_));have R9:=Rd.newer R42 hnew H.ext (by intro x hx;rw[qaa]at hx;subst hx;exact hlt);refine⟨a42,c42,?_,?_,?_,?_,H0.then H.ext (by intro x hx;rw[qaa]at hx;subst hx;exact .inr hw4)⟩
    .rw[Cn,Dr,hr];rfl
    .rw[Dr,hr];exact R9
    .rw[Dr,hr];exact hc42
    .rw[Dr,hr];exact hnew.imp id fun h=>by omega
def OfPost(k:Int)(b:List UInt8)(w:World)(v:Value)(w':World):Prop :=
 ∃a c,v=.tuple #[.int .u64 (Cn k b:Int),.slice a (Dr k b).length c]/\Rd w' a 1 B8 (Dr k b)/\(Dr k b).length<=c/\Ext [] w w'
def Ds(gen:Nat)(body:Byt):Byt:=DC 1 (Bo gen 8++body)
def Hu(gen:Nat):Int:=((gen % 2:Nat):Int)
def Gf(A:Dev)(gen:Nat)(body:Byt):Int :=
 bif decide (gen<1) || (decide (4611686018427387904<gen) || decide (A.B.length<2))then 1 else bif decide (480<body.length)then 6 else
  bif decide (De A (Hu gen) (Ds gen body)=0)then Df (Cw A (Hu gen) (Ds gen body))else De A (Hu gen) (Ds gen body)
def Eh(A:Dev)(gen:Nat)(body:Byt):Dev :=
 bif decide (gen<1) || (decide (4611686018427387904<gen) || decide (A.B.length<2))then A else bif decide (480<body.length)then A else
  bif decide (De A (Hu gen) (Ds gen body)=0)then Cc (Cw A (Hu gen) (Ds gen body))else Cw A (Hu gen) (Ds gen body)
def at'(A:Dev)(k:Nat):Byt:=stands (A.B.getD k (zeros,[]))
def El(A:Dev):Int:=bif A.on then(bif decide (A.B.length<2)then 1 else bif decide (Cn 0 (at' A 0)=0) && decide (Cn 1 (at' A 1)=0)then 4 else 0)else 8
def EV(A:Dev):Nat:=bif decide (El A=0)then(bif decide (Cn 1 (at' A 1)<Cn 0 (at' A 0))then Cn 0 (at' A 0)else Cn 1 (at' A 1))else 0
def DD(A:Dev):Byt:=bif decide (El A=0)then(bif decide (Cn 1 (at' A 1)<Cn 0 (at' A 0))then Dr 0 (at' A 0)else Dr 1 (at' A 1))else[]
theorem W4{F:Nat->Prop}{a b c:World}(h1:a.heap.size<=b.heap.size):∀x,grow F b c x->grow F a c x:=by
 rintro x (h|h)
 .exact .inl h
 .exact .inr ⟨by omega,h.2⟩
theorem KI(gen:Nat){body:Byt}(h:body.length<=480):(Bo gen 8++body).length<=505:=by rw[qan,AP];omega
theorem Abx(gen:Nat){body:Byt}(h:body.length<=480):(Ds gen body).length=512:=Fb (KI gen h)
theorem W5{gen:Nat}{body:Byt}(h:body.length<=480)(hg:gen<=4611686018427387904):N2 (Ds gen body)=gen:=by
 unfold N2 Ds;rw[Jf 1 (KI gen h),qcn (by rw[AP];exact qaf _),qa5 (by rw[AP];exact qaf _),EH,qa7 (by omega)]
theorem ZF{gen:Nat}{body:Byt}(h:body.length<=480)(h1:1<=gen)(hg:gen<=4611686018427387904):Ey (Hu gen) (Ds gen body)=true:=by
 unfold Ey;have hb:C8 (Ds gen body)=Bo gen 8++body:=Jf 1 (KI gen h);have hl:(Bo gen 8++body).length=8+body.length:=by rw[qan,AP]
 rw[W5 h hg,hb,hl,show Ez (Ds gen body)=0 from Ll (by decide) (KI gen h),show FX (Ds gen body)=1 from Lk ..];simp[Hu];omega
theorem Mq{gen:Nat}{body:Byt}(h:body.length<=480)(h1:1<=gen:=by omega)(hg:gen<=4611686018427387904:=by omega):Cn (Hu gen) (Ds gen body)=gen:=by
 rw[Cn,ZF h h1 hg,cond_true,W5 h hg]
theorem Mr{gen:Nat}{body:Byt}(h:body.length<=480)(h1:1<=gen:=by omega)(hg:gen<=4611686018427387904:=by omega):Dr (Hu gen) (Ds gen body)=body:=by
 rw[Dr,ZF h h1 hg,cond_true,show C8 (Ds gen body)=Bo gen 8++body from Jf 1 (KI gen h),qeb (by rw[AP];exact qaf _),qbx (by rw[AP];exact qaf _),qba]
theorem Amb{k:Int}{b:Byt}(h:(FX b).toNat≠1:=by decide):Ey k b=false:=by
 unfold Ey;rw[qai h,Bool.false_and,qd7]
theorem Gg(k:Int):Cn k zeros=0:=by
 rw[Cn,Amb (b:=zeros)];rfl
def calm(B:List Byt)(left:Int):Dev:=⟨B.map fun b=>(b,[]),left,true⟩
theorem RC(B:List Byt)(left:Int):(calm B left).B.length=B.length:=by simp[calm]
theorem Lw(B:List Byt)(left:Int)(k:Nat):at' (calm B left) k=B.getD k zeros:=by
 unfold at' calm;simp only[qa6,qav];cases B[k]? <;> rfl
theorem Aby(B:List Byt){left:Int}(h:left≠0):(calm B left).less=calm B (if left = -1 then -1 else left - 1):=by
 unfold Dev.less calm;simp only[if_neg h]
 split
 .rename_i h1;rw[h1]
 .rfl
theorem Abz(B:List Byt)(left:Int):(calm B left).goes=decide (left=0):=rfl
theorem Ai1(gen:Nat):Hu gen=0\/Hu gen=1:=by unfold Hu;omega
theorem Agy(gen:Nat):(Hu gen).toNat=gen % 2:=by unfold Hu;omega
theorem Agz{B:List Byt}{left:Int}(gen:Nat)(h:2<=B.length):(calm B left).has (Hu gen)=true:=by
 unfold Dev.has;rw[RC];have:=Ai1 gen;simp only[qao,qap];omega
def FM(B:List Byt)(k:Nat)(b:Byt)(left:Int)(on:Bool):Dev:=⟨(B.map fun b=>(b,([]:List Byt))).modify k fun p=>(p.1,p.2++[b]),left,on⟩
theorem W6(B:List Byt)(k:Nat)(b:Byt)(left:Int):Hv (FM B k b left true)=calm (B.set k b) left:=by
 unfold Hv FM calm;simp only[Dev.mk.injEq,and_true];apply qcg;intro i;simp only[qav,qcl,qdg]
 by_cases hik:k=i
 .subst hik;simp only[if_true]
  by_cases hk:k<B.length
  .rw[if_pos hk,qbg hk];rfl
  .rw[if_neg hk,qb0 (by omega)];rfl
 .simp only[if_neg hik];cases B[i]? <;> rfl
theorem Y6{B:List Byt}{left:Int}(gen:Nat){b:Byt}(h:2<=B.length)(hb:b.length=512):De (calm B left) (Hu gen) b=(if left=0 then 8 else 0) /\
  Cw (calm B left) (Hu gen) b=if left=0 then⟨(calm B left).B,left,false⟩else FM B (gen % 2) b (if left = -1 then -1 else left - 1) true:=by
 unfold De Cw;rw[Agz gen h,qam hb,Abz]
 by_cases h0:left=0
 .subst h0;exact⟨rfl,rfl⟩
 .rw[qai h0,if_neg h0,if_neg h0,Aby B h0,Agy];exact⟨rfl,rfl⟩
theorem UX(B:List Byt)(k:Nat)(b:Byt)(left:Int):Df (FM B k b left true)=(if left=0 then 8 else 0) /\
  Cc (FM B k b left true)=if left=0 then FM B k b left false else calm (B.set k b) (if left = -1 then -1 else left - 1):=by
 unfold Df Cc;show(bif true then bif decide (left=0)then(8:Int)else 0 else 8)=_/\(bif true then bif decide (left=0)then(FM B k b left true).less else Hv (FM B k b left true).less else FM B k b left true)=_
 by_cases h0:left=0
 .subst h0;exact⟨rfl,rfl⟩
 .rw[qai h0,if_neg h0,if_neg h0];refine⟨rfl,?_⟩;show Hv (FM B k b left true).less=_
  have:(FM B k b left true).less=FM B k b (if left = -1 then -1 else left - 1) true:=by
   unfold Dev.less FM;simp only[if_neg h0]
   split
   .rename_i h1;rw[h1]
   .rfl
  rw[this,W6]
theorem Ab0{B:List Byt}{left:Int}{gen:Nat}{body:Byt}(h:2<=B.length)(h1:1<=gen)(hg:gen<=4611686018427387904)(hb:body.length<=480)(hl : -1<=left) :
  Gf (calm B left) gen body=(if left=0\/left=1 then 8 else 0) /\
  Eh (calm B left) gen body=if left=0 then⟨(calm B left).B,left,false⟩else if left=1 then FM B (gen % 2) (Ds gen body) 0 false else calm (B.set (gen % 2) (Ds gen body)) (if left = -1 then -1 else left - 2):=by
 obtain⟨hw1,hw2⟩:=Y6 (left:=left) gen (b:=Ds gen body) h (Abx gen hb);unfold Gf Eh;rw[RC,qai (show ¬gen<1 by omega),qai (show ¬4611686018427387904<gen by omega),qai (show ¬B.length<2 by omega),qai (show ¬480<body.length by omega),hw1,hw2]
 by_cases h0:left=0
 .subst h0;exact⟨rfl,rfl⟩
 .simp only[if_neg h0,Bool.or_false,cond_false,decide_true,cond_true];obtain⟨hf1,hf2⟩:=UX B (gen % 2) (Ds gen body) (if left = -1 then -1 else left - 1);rw[hf1,hf2]
  by_cases hm:left = -1
  .subst hm;exact⟨rfl,rfl⟩
  .simp only[if_neg hm]
   by_cases h1:left=1
   .subst h1;exact⟨rfl,rfl⟩
   .rw[if_neg (show ¬left - 1=0 by omega),if_neg (show ¬left - 1=0 by omega),if_neg (show ¬(left=0\/left=1)by omega),if_neg h1,if_neg (show ¬left - 1 = -1 by omega)];exact⟨rfl,by congr 1;omega⟩
theorem Ab1{B:List Byt}{left:Int}(h:2<=B.length):El (calm B left)=(bif decide (Cn 0 (B.getD 0 zeros)=0) && decide (Cn 1 (B.getD 1 zeros)=0)then 4 else 0):=by
 unfold El;rw[RC,Lw,Lw,qai (show ¬B.length<2 by omega)];rfl
theorem DevAt.hd{w:World}{bd:Nat}{A:Dev}{F:Nat->Prop}(h:DevAt w bd A F):∃bs bm,w.heap[bd]?=some (Bl TD (DB A.B.length bs bm A.left A.on)) :=
 let ⟨_,bs,bm,_,_,_,D,_⟩:=h;⟨bs,bm,D.hd⟩
theorem Ai2{w:World}{bd:Nat}{A:Dev}{F:Nat->Prop}(gen:Nat)(hgen:gen<18446744073709551616)(a:Option Addr)(c n:Nat)(body:Byt)(R:Rd w a 1 B8 body)(hn:body.length=n)(hm:n<=140737488351231)(hlt:∀x,F x->x<w.heap.size){mx:Nat}(hfew:Few A mx)(hmx:mx<1000000000000)(DA:DevAt w bd A F) :
  Ret prog 39 #[ptr bd,.int .u64 (gen:Int),.slice a n c] w fun v w'=>v=.int .i64 (Gf A gen body)/\DevAt w' bd (Eh A gen body) (grow F w w')/\Turn F w w':=by
 subst hn;obtain⟨w0,rfl⟩:=qD w;obtain⟨bs,bm,hhd⟩:=DA.hd;refine A6 (fn:=f39) func39 U [.pointer (some ⟨bd,0,none⟩),.int .u64 (gen:Int),.slice a body.length c] U ?_;refine Ad (Ac U (qA (Ar (Ad (An U (BN LO U ?_))))));refine qA (Bw U (Aq (Aa (Ar (Ad (BB (α:=Unit) 8384512 (fun _=>[(22,.bool (decide (gen<1) || (decide (4611686018427387904<gen) || decide (A.B.length<2))))]) (fun _ w'=>w0=w') U ?_ ?_))))))
 .refine Ae U (Bt U U (AC U (AX 14 U ?_ ?_)))
  .intro h1;replace h1:=AU h1;refine Ak U (Ak U (AQ U (.bool _) U (AC U (Ak U (Ak U (Ak U (AQ U (.bool _) U (Ab ?_))))))));exact⟨rfl,(),rfl,⟨qac Value.bool (by rw[qar];simp_all;try omega),trivial⟩,rfl⟩
  .intro h2;replace h2:=AV h2;refine Ae U (Ci U U (AN U (.bool _) U (AC U (AX 18 U ?_ ?_))))
   .intro h3;replace h3:=AU h3;refine Ak U (Ak U (Ak U (AQ U (.bool _) U (Ab ?_))));exact⟨rfl,(),rfl,⟨qac Value.bool (by rw[qar];simp_all;try omega),trivial⟩,rfl⟩
   .intro h4;replace h4:=AV h4;refine An U (Ah qB (Gr hhd) U ?_);rintro v w ⟨rfl,rfl⟩;refine Bt U U (AN U (.bool _) U (Ab ?_));exact⟨rfl,(),rfl,⟨qac Value.bool (by rw[qar];simp_all;try omega),trivial⟩,rfl⟩
 rintro - j22 w rfl;refine Au _ U ?_ ?_
 .intro h1;refine Ad (Ac U (qA (Ax (Ao (AH (v:=(.int _ _)) U U U ?_)))));exact⟨by rw[Gf,h1];rfl,by rw[Eh,h1];exact DA.mono fun x h => .inl h,.of0 (.refl _ _)⟩
 .intro h1;refine Aq (Aa (Ar (Ad (Ai U (AO AW U (Ci U U (qA (Au _ U ?_ ?_))))))))
  .intro h2;replace h2:=AU h2;have h2':decide (480<body.length)=true:=qam (by omega);refine Ad (Ac U (qA (Ax (Ao (AH (v:=(.int _ _)) U U U ?_)))));exact⟨by rw[Gf,h1,h2'];rfl,by rw[Eh,h1,h2'];exact DA.mono fun x h => .inl h,.of0 (.refl _ _)⟩
  .intro h2;replace h2:=AV h2;have h2':decide (480<body.length)=false:=qai (by omega);have hlr:(Bo gen 8++body).length<=505:=by rw[qan,AP];omega
   have hse:FW 1 (Bo gen 8++body)=0:=by
    rw[FW,qai (show ¬(1:UInt8).toNat=0 by decide),qai (by omega)];rfl
   have hb5:(Ds gen body).length=512:=Fb hlr;have hB0:Mg [] gen 8=Bo gen 8:=by rw[Mg,show Hd 8=true by decide];rfl
   refine Aq (Aa (Ad (Ae U (Ah qB (FI none 0 0 [] gen 8 w0 Rd.nil U hgen) U ?_))));rintro v w F28;obtain⟨a28,n28,c28,full28,rfl,O28,hb28⟩:=F28.ex;have hx28:=F28.ext;rw[hB0]at O28;obtain rfl:n28=8:=by have h9:=O28.llen;rw[qal,AP]at h9;omega
   have H:=(Ctx.start w0 []).callEnt hx28 hb28 Ki;refine Ai U (Fk (L:=[]) U AW AW CO Pu HY U (body.map bv) U U H O28 (by simp) (HQ body) (Rd.appB (R.ext0 H.ext)) ?_);rintro a30 c30 full30 w H O;rw[<-qaz]at O;have R30:=OS.rdB O (fun x hx=>H.blk x (by simpa using hx));have hx30:=H.ext;refine Ah qB (UH 1 a30 c30 _ _ _ R30 (by rw[qan,AP])) U ?_;rintro v w P31;rw[Kw,hse]at P31;obtain⟨s31,rfl,B31⟩:∃s,v=.tuple #[s,.int .i64 0]/\Bytes _ w s (Ds gen body):=(P31.elim (fun h=>absurd rfl h.1) fun h=>h.2);obtain⟨a31,c31,rfl,R31,hc31,hn31⟩:=B31.ex;have hx:=hx30.trans B31.ext;have hn31':w0.heap.size<=(adr a31).block:=qas hx30.size hn31;have DA1:=DA.keep0 hx;rw[hb5];refine AM U (Ag U U (Ag U U (Aj U (Ac U (qA (Ar (Ad (Ae U (AZ U U ?_)))))))))
   refine qA (Bw U (Aq (Aa (Ar (Ad (An U (Ae U (Uy U U U ?_))))))));rw[show(gen:Int) % 2=Hu gen from by unfold Hu;omega];refine DP U Gy EW (h1:=by unfold Hu;omega) (h2:=by unfold Hu;omega) ?_;refine Ai U (Ah qB (Ob (Hu gen) a31 c31 512 (Ds gen body) R31 hb5 (.inr fun h=>by have:=hlt _ h;omega) hfew DA1) U ?_);rintro v w9 ⟨rfl,DA2,hT⟩;refine Ac U (qA (Ad (Ae U (AZ U U (qA (Au _ U ?_ ?_))))))
   .intro h3;replace h3:=Bu h3;have h3':decide (De A (Hu gen) (Ds gen body)=0)=false:=qai h3;refine Ad (Ae U (Ac U (qA (Ax (Ao (AH (v:=(.int _ _)) U U U ?_))))));exact⟨by rw[Gf,h1,h2',h3'];rfl,by rw[Eh,h1,h2',h3'];exact DA2.mono (W4 hx.size),Turn.trans (.of0 hx) hT (fun x h => .inl h)⟩
   .intro h3;replace h3:=Bv h3;have h3':decide (De A (Hu gen) (Ds gen body)=0)=true:=qam h3;refine Aq (Aa (Ad (An U (Ah qB (Ln (GI hfew _ _) DA2) U ?_))));rintro v w10 ⟨rfl,DA3,hT3⟩;refine Ac U (qA (Ax (AH (v:=(.int _ _)) U U U ?_)));have hs1:=hx.size;have hs2:=hT.size;have hs3:=hT3.size;have hg:∀x,grow F w w9 x->grow F w0 w10 x:=fun x h=>h.elim .inl fun h => .inr ⟨by omega,by omega⟩;refine⟨by rw[Gf,h1,h2',h3'];rfl,by rw[Eh,h1,h2',h3'];exact DA3.mono hg,Turn.trans (Turn.trans (.of0 hx) hT fun x h => .inl h) hT3 fun x h=>?_⟩
    .rcases h with h|h
     .exact .inl h
     .exact .inr (by omega)
end Go.Proofs.YtcpgbcabmcbclaaGreatDoor
