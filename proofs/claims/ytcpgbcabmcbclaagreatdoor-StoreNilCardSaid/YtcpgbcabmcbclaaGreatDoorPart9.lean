/- Part 9 of the proof. -/
import Derived.Test.YtcpgbcabmcbclaaGreatDoorPart8
set_option maxRecDepth 20000
set_option maxHeartbeats 4000000
namespace Go.Proofs.YtcpgbcabmcbclaaGreatDoor
open Go.GV Go.Proofs.Tryz
def WT(M:List It):Prop:=M.Pairwise fun x y=>ltB x.key y.key
theorem WU{M:List It}(hr:WT M){i j:Nat}{x y:It}(hx:M[i]?=some x)(hy:M[j]?=some y)(h:i<j):ltB x.key y.key:=by
 obtain⟨h1,h2⟩:=qar.1 hx;obtain⟨h3,h4⟩:=qar.1 hy;have:=qbz.1 hr i j h1 h3 h
 rwa [h2,h4]at this
theorem St{M:List It}(hr:WT M)(key:Byt):∀(n i j:Nat),j - i<=n->i<=j->j<=M.length->(∀(k:Nat) (x:It),k<i->M[k]?=some x->ltB x.key key)->(∀(k:Nat) (x:It),j<=k->M[k]?=some x->¬ltB x.key key) ->
  (∀(k:Nat) (x:It),k<bsN M key i j->M[k]?=some x->ltB x.key key)/\(∀(k:Nat) (x:It),bsN M key i j<=k->M[k]?=some x->¬ltB x.key key)
 |0,i,j,h,hij,hj,h1,h2=>by
  rw[L6];exact⟨h1,fun k x hk=>h2 k x (by omega)⟩
 |n+1,i,j,h,hij,hj,h1,h2=>by
  by_cases hlt:i<j
  .rw[V3 hlt];obtain⟨x,hx⟩:=AY (l:=M) (i:=(i+j) / 2);rw[hx];simp only[qbd,qda]
   by_cases hc:Ds x.key key<0
   .rw[if_pos hc];have hlx:=Lv.1 hc;refine St hr key n _ j (by omega) (by omega) hj (fun k y hk hy=>?_) h2
    rcases qbl k ((i+j) / 2)with h3|h3
    .exact Fc (WU hr hy hx h3) hlx
    .obtain rfl:k=(i+j) / 2:=by omega
     rw[hx]at hy;cases hy;exact hlx
   .rw[if_neg hc];have hlx:¬ltB x.key key:=fun h=>hc (Lv.2 h);refine St hr key n i _ (by omega) (by omega) (by omega) h1 fun k y hk hy=>?_
    rcases Nat.eq_or_lt_of_le hk with h3|h3
    .subst h3;rw[hx]at hy;cases hy;exact hlx
    .exact fun h4=>hlx (Fc (WU hr hx hy h3) h4)
  .rw[L6];exact⟨h1,fun k x hk=>h2 k x (by omega)⟩
theorem VG{M:List It}(hr:WT M)(key:Byt):(∀x∈M.take (Cd M key),ltB x.key key)/\(∀x∈M.drop (Cd M key),¬ltB x.key key):=by
 obtain⟨h1,h2⟩:=St hr key _ 0 M.length (qae _) (qal _) (qae _) (fun k x hk=>absurd hk (qcw _)) (fun k x hk hx=>by have:=(qar.1 hx).1;omega);constructor
 .intro x hx;obtain⟨k,hk⟩:=List.getElem?_of_mem hx;have:=(qar.1 hk).1;rw[qay]at this;rw[List.getElem?_take_of_lt (by omega)]at hk;exact h1 k x (by show k<Cd M key;omega) hk
 .intro x hx;obtain⟨k,hk⟩:=List.getElem?_of_mem hx;rw[qcq]at hk;exact h2 _ x (by show Cd M key<=_;omega) hk
theorem Y3{L:List Pr}(h:Rising L):WT (L.map BK):=qbn.2 h
theorem J2{L:List Pr}(hr:Rising L)(key:Byt):∃A B:List Pr,(∀p∈A,ltB p.1 key)/\(∀p∈B,ltB key p.1)/\(L.map BK).take (Cd (L.map BK) key)=A.map BK /\
  ((Ee (L.map BK) key=true/\∃v,L=A++(key,v)::B/\(L.map BK).drop (Cd (L.map BK) key+1)=B.map BK/\(L.map BK)[Cd (L.map BK) key]?=some (BK (key,v))) \/
   (Ee (L.map BK) key=false/\L=A++B/\(L.map BK).drop (Cd (L.map BK) key)=B.map BK)):=by
 obtain⟨h1,h2⟩:=VG (Y3 hr) key;obtain⟨k,hk⟩:=qD (Cd (L.map BK) key);have hle:k<=L.length:=by have:=MA (L.map BK) key;rw[qan]at this;omega
 rw[<-hk]at h1 h2 |-;rw[<-List.map_take]at h1 |-;rw[<-qd8]at h2;have hA:∀p∈L.take k,ltB p.1 key:=fun p hp=>h1 _ (qak.2 ⟨p,hp,rfl⟩);have hB:∀p∈L.drop k,¬ltB p.1 key:=fun p hp=>h2 _ (qak.2 ⟨p,hp,rfl⟩);have hsp:=(qbp k L).symm
 cases hd:L.drop k with
 |nil =>
  rw[hd]at hsp;have hlen:L.length<=k:=by have:=qac List.length hd;simp at this;omega
  refine⟨L.take k,[],hA,(fun p hp=>by cases hp),rfl,.inr ⟨?_,hsp,?_⟩⟩
  .unfold Ee;rw[<-hk,qbu (by rw[qan];exact hlen)]
  .rw[<-qd8,hd]
 |cons q B =>
  rw[hd]at hsp hB
  have hq0:L[k]?=some q:=by
   have:(L.drop k)[0]?=some q:=by rw[hd];rfl
   rw[qcq]at this;exact this
  have hg:(L.map BK)[k]?=some (BK q):=by rw[qax,hq0];rfl
  have hrB:Rising (q::B):=by rw[hsp]at hr;exact(Rising.append.1 hr).2.1
  have hqB:=(qbh.1 hrB).1;have hdr:L.drop (k+1)=B:=by rw[<-qc8,hd];rfl
  rcases Lu q.1 key with h3|h3|h3
  .exact absurd h3 (hB q (qad ..))
  .refine⟨L.take k,B,hA,fun p hp=>h3 ▸ hqB p hp,rfl,.inl ⟨?_,q.2,?_,?_,?_⟩⟩
   .unfold Ee;rw[<-hk,hg];exact qai (by show Ds q.1 key=0;rw[h3];exact My _)
   .rw[<-h3];exact hsp
   .rw[<-qd8,hdr]
   .rw[hg,<-h3]
  .refine⟨L.take k,q::B,hA,fun p hp=>?_,rfl,.inr ⟨?_,hsp,?_⟩⟩
   .rcases qaa.1 hp with rfl|hp
    .exact h3
    .exact Fc h3 (hqB p hp)
   .unfold Ee;rw[<-hk,hg];exact qag fun h=>FH h3 (Nx h).symm
   .rw[<-qd8,hd]
theorem Su{A B:List Pr}{k v:Byt}{L:List Pr}(hA:∀p∈A,ltB p.1 k)(hB:∀p∈B,ltB k p.1)(hL:L=A++B\/∃u,L=A++(k,u)::B):H8 L k v=A++((k,v)::B):=by
 have f1:A.filter (fun p=>decide (ltB p.1 k))=A:=Dy fun p hp=>qai (hA p hp);have f2:B.filter (fun p=>decide (ltB p.1 k))=[]:=Gf fun p hp=>qag (Ex (hB p hp));have f3:A.filter (fun p=>decide (ltB k p.1))=[]:=Gf fun p hp=>qag (Ex (hA p hp));have f4:B.filter (fun p=>decide (ltB k p.1))=B:=Dy fun p hp=>qai (hB p hp);unfold H8
 rcases hL with rfl|⟨u,rfl⟩
 .rw[qbj,qbj,f1,f2,f3,f4];simp
 .have hkk:decide (ltB k k)=false:=qag (FG k);rw[qbj,qbj,qbo,qbo,f1,f2,f3,f4];simp[hkk]
theorem WV{A B:List Pr}{k:Byt}{L:List Pr}(hA:∀p∈A,ltB p.1 k)(hB:∀p∈B,ltB k p.1)(hL:L=A++B\/∃u,L=A++(k,u)::B):IG L k=A++B:=by
 have f1:A.filter (fun p => !decide (p.1=k))=A:=Dy fun p hp=>by rw[qag (FH (hA p hp))];rfl
 have f2:B.filter (fun p => !decide (p.1=k))=B:=Dy fun p hp=>by rw[qag (fun e=>FH (hB p hp) e.symm)];rfl
 unfold IG
 rcases hL with rfl|⟨u,rfl⟩
 .rw[qbj,f1,f2]
 .rw[qbj,qbo,f1,f2];simp
theorem WW{A B:List Pr}{k:Byt}(hA:∀p∈A,ltB p.1 k)(hB:∀p∈B,ltB k p.1):Fe (A++B) k=none/\∀u,Fe (A++(k,u)::B) k=some u:=by
 have f1:A.find? (fun p=>decide (p.1=k))=none:=qd6.2 fun p hp=>by simpa using FH (hA p hp)
 have f2:B.find? (fun p=>decide (p.1=k))=none:=qd6.2 fun p hp=>by simpa using fun e=>FH (hB p hp) e.symm
 unfold Fe;refine⟨by rw[qd7,f1,f2];rfl,fun u=>?_⟩;rw[qd7,f1,qcu,qai rfl];rfl
theorem Us{L:List Pr}(hr:Rising L)(key val:Byt):Jw key val (L.map BK)=(H8 L key val).map BK:=by
 obtain⟨A,B,hA,hB,ht,h|h⟩:=J2 hr key
 .obtain⟨h1,v,h2,h3,_⟩:=h;unfold Jw;rw[if_pos h1,ht,h3,Su hA hB (.inr ⟨v,h2⟩),qa0,qau];rfl
 .obtain⟨h1,h2,h3⟩:=h;unfold Jw;rw[if_neg (by rw[h1];simp),ht,h3,Su hA hB (.inl h2),qa0,qau];rfl
theorem Ut{L:List Pr}(hr:Rising L)(key:Byt):IK key (L.map BK)=(IG L key).map BK:=by
 obtain⟨A,B,hA,hB,ht,h|h⟩:=J2 hr key
 .obtain⟨h1,v,h2,h3,_⟩:=h;unfold IK;rw[if_pos h1,ht,h3,WV hA hB (.inr ⟨v,h2⟩),qa0]
 .obtain⟨h1,h2,h3⟩:=h;unfold IK;rw[if_neg (by rw[h1];simp),WV hA hB (.inl h2),<-h2]
theorem MC(i:Bool)(l:List It)(k m:Nat)(hk:k<=m:=by omega):AQ i (l.take k)+AQ i (l.drop m)<=AQ i l:=by
 have h1:=Bs i (l.take k) (l.drop k);rw[qbp]at h1;have h2:=Bs i ((l.drop k).take (m - k)) ((l.drop k).drop (m - k));rw[qbp,qc8,show k+(m - k)=m by omega]at h2;omega
theorem Acl{key val:Byt}(hk:1<=key.length)(hk2:key.length<=32)(hv:val.length<=128):Acts key (Jw key val) (fun L=>H8 L key val):=by
 refine⟨fun L hr _=>Us hr key val,fun A L B hA hB=>Abf hA hB,fun L ho p hp=>?_,fun L hr ho=>?_⟩
 .rcases Abi hp with rfl|h
  .exact⟨hk,hk2,hv⟩
  .exact ho p h
 .rw[<-Us hr key val];have h5:AQ false [(⟨key,val,0⟩:It)]<=164:=by show 4+key.length+val.length+0<=164;omega
  unfold Jw
  split
  .have:=MC false (L.map BK) (Cd (L.map BK) key) (Cd (L.map BK) key+1);rw[Bs,Bs];omega
  .have:=MC false (L.map BK) (Cd (L.map BK) key) (Cd (L.map BK) key);rw[Bs,Bs];omega
theorem Acm(key:Byt):Acts key (IK key) (fun L=>IG L key):=by
 refine⟨fun L hr _=>Ut hr key,fun A L B hA hB=>Abg hA hB,fun L ho p hp=>ho p (Abj hp),fun L hr ho=>?_⟩;rw[<-Ut hr key];unfold IK
 split
 .have:=MC false (L.map BK) (Cd (L.map BK) key) (Cd (L.map BK) key+1);rw[Bs];omega
 .omega
theorem Uu{fr sz:Nat}{A:Dev}(key:Byt)(hon:A.on=true)(hl:fr+sz<=A.B.length):∀(h n p d:Nat) (L:List Pr) (S:List Nat),Lies (RD A fr) h p L S->Rising L->(∀x∈S,x<sz)->d+h<=16->h<n ->
  Ue A fr sz key n (p:Int) (d:Int)=(0,Fe L key)
 |0,n+1,p,d,L,S,hL,hr,hs,hd,hn=>by
  have hp:=hs p hL.page;obtain⟨i,M,S',⟨rfl,rfl,rfl⟩,h2,rfl,h4,h5⟩:=hL;have hrd:=Ju hon hp hl (show d<=16 by omega) h2;rw[Sl,if_neg (by omega),hrd];dsimp only;obtain⟨A',B',hA,hB,ht,h|h⟩:=J2 hr key
  .obtain⟨h1,v,h2,h3,h6⟩:=h;rw[if_pos h1,h6,h2,(WW hA hB).2 v];rfl
  .obtain⟨h1,h2,h3⟩:=h;rw[if_neg (by rw[h1];simp),h2,(WW hA hB).1]
 |h+1,n+1,p,d,L,S,hL,hr,hs,hd,hn=>by
  have hp:=hs p hL.page;obtain⟨i,l,S',⟨rfl,hk⟩,h2,rfl,h4,h5⟩:=hL;have hrd:=Ju hon hp hl (show d<=16 by omega) h2;rw[Sl,if_neg (by omega),hrd];dsimp only;obtain⟨a,x,b,La,Lx,Lb,Sa,Sx,Sb,rfl,hal,rfl,rfl,ka,q1,q2,q3,kb,hlo,hhi⟩:=Nb hk hr h4.ne key;have hpg:((a++x::b)[BR (a++x::b) key]?.map (·.page)).getD 0=x.page:=K2 hal;rw[hpg,Abh hlo hhi];exact Uu key hon hl h n x.page (d+1) Lx Sx q1 (Rising.append.1 (Rising.append.1 hr).2.1).1 (fun x hx=>hs x (by simp[hx])) (by omega) (by omega)
attribute [local irreducible] Ay W Wq Wt
theorem Prs.of{w0 w:World}{M:Mut}(hM:∀x,M x->x<w0.heap.size){a:Option Addr}{n c:Nat}{full:List Value}{ps:List Im}(H:Ctx w0 [] w (ent a 68 full))(O:OS a n c 2 full (ps.flatMap K1))(hok:∀m∈ps,m.Ok w0 M){L:List Pr}(hl:ps.map (fun m=>prI m.it)=L):Prs w M a L.length c L:=by
 have hn:n=ps.length:=O.numN (fun _ _=>rfl) (by decide);have hL:L.length=n:=by rw[<-hl,qan,hn]
 refine⟨⟨ps,OS.rd O H.blk (fun _ _=>rfl) (by decide),?_,hl,fun m hm=>(hok m hm).call H.ext⟩,rfl,by rw[hL];exact O.le⟩
 cases ha:a with
 |none =>
  left;have h8:=O.none' ha;have h9:=O.le;exact qa8 (by omega)
 |some q =>
  right;have h8:=(H.own (q.block,Bl 68 full) (by rw[ha];exact qab.2 rfl)).elim (fun h=>by cases h) id;obtain⟨qb,qo,qs⟩:=q;exact fun h=>by have:=hM _ h;dsimp only[adr]at this h8;omega
def inR(kf kt:Byt)(k:Byt):Bool := !decide (ltB k kf) && (decide (kt.length=0) || decide (ltB k kt))
def Pf(kf kt:Byt)(L:List Pr):List Pr:=L.filter fun p=>inR kf kt p.1
structure Dk(w:World)(bx bt bd bp ba:Nat)(A:Dev)(P:List Nat)(F:Mut):Prop where
 dk:w.heap[bx]?=some (Bl 0 [ptr bd,ptr bp,ptr bt])
 T:Tx w bt bd bp ba 10 A P F []
 nx:¬TM F ba bt bp [] bx
theorem VH(kf:Byt)(L:List Pr):Kn kf false (L.map BK)=L.filter fun p => !decide (ltB p.1 kf):=by
 unfold Kn;rw[if_neg (by simp)]
 induction L with
 |nil=>rfl
 |cons p L ih =>
  have hd:decide (0<=Ds p.1 kf) = !decide (ltB p.1 kf):=by
   by_cases h:ltB p.1 kf
   .rw[qai h,qag (fun h2=>WE.1 h2 h)];rfl
   .rw[qag h,qai (WE.2 h)];rfl
  rw[qau,qbo,qbo,show(BK p).key=p.1 from rfl,hd]
  by_cases h:(!decide (ltB p.1 kf))=true
  .rw[if_pos h,if_pos h,qau,ih];rfl
  .rw[if_neg h,if_neg h,ih]
theorem Y4(kf:Byt)(a b:List Nd):Jz kf (a++b)=Jz kf a++Jz kf b:=qcg
theorem QI{fr sz:Nat}{A:Dev}(hon:A.on=true)(hl:fr+sz<=A.B.length):∀(h n p d:Nat) (L:List Pr) (S:List Nat),Lies (RD A fr) h p L S->(∀x∈S,x<sz)->sz<=4096->d+h<=16->h<n ->
  (DZ A fr sz n (p:Int) d).1=0/\(DZ A fr sz n (p:Int) d).2.map (·.1)=S.map (fun x:Nat=>(x:Int))/\∀kf,Jz kf (DZ A fr sz n (p:Int) d).2=L.filter fun p => !decide (ltB p.1 kf)
 |0,n+1,p,d,L,S,hL,hs,hz,hd,hn=>by
  have hp:=hs p hL.page;obtain⟨i,M,S',⟨rfl,rfl,rfl⟩,h2,rfl,h4,h5⟩:=hL;have hrd:=Ju hon hp hl (show d<=16 by omega) h2;unfold DZ;rw[hrd];refine⟨rfl,rfl,fun kf=>?_⟩;show Kn kf false (L.map BK)++[]=_;rw[qa2,VH]
 |h+1,n+1,p,d,L,S,hL,hs,hz,hd,hn=>by
  have hp:=hs p hL.page;obtain⟨i,l,S',⟨rfl,hk'⟩,h2,rfl,h4,h5⟩:=hL;have hk:Kids (Lies (RD A fr) h) l L S':=hk';have hrd:=Ju hon hp hl (show d<=16 by omega) h2;have hs':∀x∈S',x<sz:=fun x hx=>hs x (qah _ hx);have hkid:Kids (fun p L S=>Lies (RD A fr) h p L S/\∀x∈S,x<sz) l L S':=hk.mono fun p L S hsub hq=>⟨hq,fun x hx=>hs' x (hsub x hx)⟩
  obtain⟨b1,b2,b3⟩:(Hc (fun p=>DZ A fr sz n p (d+1)) l).1=0/\(Hc (fun p=>DZ A fr sz n p (d+1)) l).2.map (·.1)=S'.map (fun x:Nat=>(x:Int))/\∀kf,Jz kf (Hc (fun p=>DZ A fr sz n p (d+1)) l).2=L.filter fun p => !decide (ltB p.1 kf):=by
   clear h2 h4 h5 hrd hp hs hk hk'
   induction l generalizing L S' with
   |nil=>obtain⟨rfl,rfl⟩:=hkid;exact⟨rfl,rfl,fun _=>rfl⟩
   |cons x l ih =>
    obtain⟨L1,L2,S1,S2,rfl,rfl,⟨h3,h3s⟩,_,_,h6⟩:=hkid;obtain⟨a1,a2,a3⟩:=QI hon hl h n x.page (d+1) L1 S1 h3 h3s hz (by omega) (by omega);obtain⟨b1,b2,b3⟩:=ih L2 S2 (fun x hx=>hs' x (qaz _ hx)) h6;unfold Hc;rw[if_neg (by rw[a1];simp)];exact⟨b1,by rw[qa0,qa0,a2,b2],fun kf=>by rw[Y4,a3,b3,qbj]⟩
  unfold DZ;rw[hrd];dsimp only;refine⟨b1,by rw[qau,qau,b2],fun kf=>?_⟩;show Kn kf true l++Jz kf _=_;rw[b3];rfl
theorem Y5{L:List Pr}(hr:Rising L)(kt:Byt):L.takeWhile (fun p=>decide (Ds p.1 kt<0))=L.filter fun p=>decide (ltB p.1 kt):=by
 induction L with
 |nil=>rfl
 |cons p L ih =>
  obtain⟨h1,h2⟩:=qbh.1 hr
  have hd:decide (Ds p.1 kt<0)=decide (ltB p.1 kt):=by
   by_cases h:ltB p.1 kt
   .rw[qai h,qai (Lv.2 h)]
   .rw[qag h,qag (fun h2=>h (Lv.1 h2))]
  rw[qcn,qbo,hd]
  by_cases h:ltB p.1 kt
  .rw[qai h];simp only[if_true];rw[ih h2]
  .rw[qag h];simp only[qc5,if_false];refine(Gf fun q hq=>qag fun h3=>h (Fc (h1 q hq) h3)).symm
theorem Y6{L:List Pr}(hr:Rising L)(kf kt:Byt):Uo kt (L.filter fun p => !decide (ltB p.1 kf))=Pf kf kt L:=by
 unfold Uo Pf inR
 by_cases hk:kt=[]
 .rw[if_pos hk,hk];simp
 .rw[if_neg hk,Y5 (hr.sublist qer),List.filter_filter]
  congr 1
  funext p
  rw[qag (show ¬kt.length=0 from fun h=>hk (qa8 h)),Bool.false_or,Bool.and_comm]
structure Told(fr:Nat)(A:Dev)(P:List Nat)(root:Int)(L:List Pr)(S:List Nat):Prop where
 may:Gs P.length root=0
 rlo : -1<=root
 rhi:root<P.length
 none:root = -1↔L=[]
 scan:∀kf kt,LI A fr P.length root kf kt=(0,Pf kf kt L)
 walk:Km A fr P.length root=(0,IB (S.map fun x:Nat=>(x:Int)))
 num:(Dq A fr P.length root).2.length=S.length
 get:∀key,Ue A fr P.length key 18 root 0=(0,Fe L key)
 len:S.length<=2*L.length
theorem told{fr:Nat}{A:Dev}{P:List Nat}{root:Int}{L:List Pr}{S:List Nat}(hR:Root (RD A fr) root L S)(hon:A.on=true)(hl:fr+P.length<=A.B.length)(hP:P.length<=2000)(hnd:S.Nodup)(hS:∀x∈S,x<P.length)(hr:Rising L):Told fr A P root L S:=by
 rcases hR with⟨rfl,rfl,rfl⟩|⟨h,p,rfl,hL⟩
 .have hm:Gs P.length (-1)=0:=by unfold Gs;rw[if_neg (by omega)]
  have hn:Dq A fr P.length (-1)=(0,[]):=by unfold Dq;rw[if_pos rfl]
  refine⟨hm,by omega,by omega,by simp,fun kf kt=>?_,?_,by rw[hn];rfl,fun key=>?_,qal _⟩
  .unfold LI;rw[if_neg (by rw[hm];simp),hn,if_neg (by simp)];unfold Uo Jz Pf
   split <;> rfl
  .unfold Km;rw[if_neg (by rw[hm];simp),hn,if_neg (by simp)];rfl
  .rw[Sl,if_pos rfl];rfl
 .have hp:=hS p hL.page;have hm:Gs P.length (p:Int)=0:=by unfold Gs;rw[if_neg (by omega)]
  have hh:=Ack hL hnd hS hP;obtain⟨e1,e2,e3⟩:=QI hon hl h 18 p 0 L S hL hS (by omega) (by omega) (by omega);have hn:Dq A fr P.length (p:Int)=DZ A fr P.length 18 (p:Int) 0:=by unfold Dq;rw[if_neg (by omega)]
  rw[<-hn]at e1 e2 e3;refine⟨hm,by omega,by omega,⟨fun h=>by omega,fun h=>absurd h hL.ne⟩,fun kf kt=>?_,?_,?_,fun key=>?_,?_⟩
  .unfold LI;rw[if_neg (by rw[hm];simp),if_neg (by rw[e1];simp),e3,Y6 hr]
  .unfold Km;rw[if_neg (by rw[hm];simp),if_neg (by rw[e1];simp),e2]
  .have:=qac List.length e2
   rwa [qan,qan]at this
  .exact Uu key hon hl h 18 p 0 L S hL hr hS (by omega) (by omega)
  .have:=hL.count.2;omega
theorem Y7(L:List Pr):Pf [] [] L=L:=Dy fun p _=>by
 unfold inR
 have:¬ltB p.1 []:=by
  cases p.1 with
  |nil=>exact FG _
  |cons x l=>intro h;cases h
 rw[qag this];rfl
theorem TreeAt.told{fr:Nat}{A:Dev}{P:List Nat}{root:Int}{L:List Pr}(T:TreeAt fr A P root L)(hon:A.on=true)(hl:fr+P.length<=A.B.length)(hP:P.length<=2000):∃S,Told fr A P root L S/\S.Nodup/\(∀x:Nat,x∈S↔P[x]?=some 1\/P[x]?=some 2):=by
 obtain⟨S,hR,hnd,hS⟩:=T.lies;exact⟨S,Go.Proofs.YtcpgbcabmcbclaaGreatDoor.told hR hon hl hP hnd (fun x hx=>((hS x).1 hx).elim (fun h=>(qar.1 h).1) fun h=>(qar.1 h).1) T.rise,hnd,hS⟩
theorem Acn{fr:Nat}{c:Ch}{i:Bool}{M:List It}{m:Nat}(h:Few c.A m):Few (DO fr c i M).2.1.A (m+3):=by
 obtain⟨-,-,q3,-⟩:=Jx (fr:=fr) (c:=c) (i:=i) (M:=M) (m:=m);have q3:=q3 h;unfold DO
 split
 .exact h.mono (by omega)
 .split
  .exact q3.mono (by omega)
  .split
   .exact q3.mono (by omega)
   .split
    .exact(Nz q3).mono (by omega)
    .exact q3.mono (by omega)
theorem Y9{fr:Nat}{A:Dev}{P:List Nat}{root:Int}{key:Byt}{G:List It->List It}{m:Nat}(h:Few A m):Few (Dw fr A P root key G).2.2.A (m+40):=by
 obtain⟨ed,hed⟩:=qD (if root = -1 then(0,⟨A,P,[],[]⟩,false,G [])else C8 fr G key 18 ⟨A,P,[],[]⟩ root.toNat 0:Int × Ch × Bool × List It)
 have hb:Few ed.2.1.A (m+36):=by
  rw[hed]
  split
  .exact h.mono (by omega)
  .obtain⟨x1,x2,x3⟩:=JX (fr:=fr) (G:=G) (key:=key) (m:=m) (n:=18) (c:=⟨A,P,[],[]⟩) (p:=root.toNat) (d:=0);exact x3 h
 have hturn:Dw fr A P root key G=if ed.1≠0 then(ed.1,root,DC ed.2.1 ed.1)else if(DO fr ed.2.1 ed.2.2.1 ed.2.2.2).1≠0 then((DO fr ed.2.1 ed.2.2.1 ed.2.2.2).1,root,DC (DO fr ed.2.1 ed.2.2.1 ed.2.2.2).2.1 (DO fr ed.2.1 ed.2.2.1 ed.2.2.2).1)else(0,(DO fr ed.2.1 ed.2.2.1 ed.2.2.2).2.2,DC (DO fr ed.2.1 ed.2.2.1 ed.2.2.2).2.1 0):=by
  unfold Dw;rw[hed]
 rw[hturn];have ht:=Acn (fr:=fr) (i:=ed.2.2.1) (M:=ed.2.2.2) hb
 split
 .exact hb.mono (by omega)
 .split
  .exact ht.mono (by omega)
  .exact ht.mono (by omega)
theorem hm24{P:List Nat}(hP:P.length<=2000):∀h,h=0\/2 ^ (h+1)<=P.length+1->2*h+3<=24:=fun h hh=>by
 rcases hh with rfl|hh
 .omega
 .rcases qbl h 10 with h3|h3
  .omega
  .have:2 ^ 11<=2 ^ (h+1):=qcl (by omega) (by omega)
   omega
structure Stepped(fr:Nat)(A:Dev)(P:List Nat)(root':Int)(L':List Pr)(A':Dev)(P':List Nat)(mx:Nat):Prop where
 tree:TreeAt fr A' P' root' L'
 aft:After fr A P A' P'
 on:A'.on=true
 few:Few A' mx
theorem After.refl(fr:Nat)(A:Dev)(P:List Nat):After fr A P A P:=⟨fun _ _=>rfl,rfl,fun h=>h,rfl,rfl⟩
theorem QJ{fr:Nat}{A:Dev}{P:List Nat}{root:Int}{L:List Pr}{key:Byt}{G:List It->List It}{g:List Pr->List Pr}(act:Acts key G g)(hr:∀L,Rising L->Rising (g L))(T:TreeAt fr A P root L)(hon:A.on=true)(hl:fr+P.length<=A.B.length)(hP:P.length<=2000)(hleft:A.left = -1)(hfree:24<=Dt P){mx:Nat}(hfew:Few A mx) :
  (Dw fr A P root key G).1=0/\Stepped fr A P (Dw fr A P root key G).2.1 (g L) (Dw fr A P root key G).2.2.A (Dw fr A P root key G).2.2.P (mx+40):=by
 obtain⟨h1,h2⟩:=Y1 act hr T hon hl hP (hm24 hP)
 rcases h2 with⟨h3,h4,h5⟩|⟨_,_,h3⟩
 .exact⟨h3,h5,h1,h4,Y9 hfew⟩
 .rcases h3 with⟨_,h3⟩|⟨_,h3⟩
  .exact absurd hleft h3
  .omega
theorem Aco{fr:Nat}{A:Dev}{P:List Nat}{root:Int}{L:List Pr}{key val:Byt}(T:TreeAt fr A P root L)(hon:A.on=true)(hl:fr+P.length<=A.B.length)(hleft:A.left = -1)(hfree:24<=Dt P){mx:Nat}(hfew:Few A mx)(hP:P.length<=2000:=by omega):
  (Dl key.length val.length=false/\MB fr A P root key val=(1,root,A,P))\/(Dl key.length val.length=true/\(MB fr A P root key val).1=0/\Stepped fr A P (MB fr A P root key val).2.1 (H8 L key val) (MB fr A P root key val).2.2.1 (MB fr A P root key val).2.2.2 (mx+40)):=by
 obtain⟨S,td,-,-⟩:=T.told hon hl hP;unfold MB;rw[if_neg (by rw[td.may];simp)]
 by_cases hk:Dl key.length val.length=true
 .right;rw[if_pos hk];have hk2:=hk;unfold Dl at hk2;simp only[qao,qaq]at hk2;obtain⟨h1,h2⟩:=QJ (Acl hk2.1 hk2.2.1 hk2.2.2) (fun L h=>Js h key val) T hon hl hP hleft hfree hfew;exact⟨hk,h1,h2⟩
 .left;rw[if_neg hk];exact⟨by simpa using hk,rfl⟩
theorem Acp{fr:Nat}{A:Dev}{P:List Nat}{root:Int}{L:List Pr}{key:Byt}(T:TreeAt fr A P root L)(hon:A.on=true)(hl:fr+P.length<=A.B.length)(hleft:A.left = -1)(hfree:24<=Dt P){mx:Nat}(hfew:Few A mx)(hP:P.length<=2000:=by omega):
  (Dl key.length 0=false/\Kc fr A P root key=(1,root,false,A,P))\/(Dl key.length 0=true/\(Kc fr A P root key).1=0/\(Kc fr A P root key).2.2.1=(Fe L key).isSome/\((Fe L key).isSome=false->(Kc fr A P root key).2.1=root) /\
   Stepped fr A P (Kc fr A P root key).2.1 (IG L key) (Kc fr A P root key).2.2.2.1 (Kc fr A P root key).2.2.2.2 (mx+40)):=by
 obtain⟨S,td,-,-⟩:=T.told hon hl hP
 have hget:LG A fr P.length root key=if Dl key.length 0=true then(0,Fe L key)else(1,none):=by
  unfold LG;rw[if_neg (by rw[td.may];simp),td.get]
 unfold Kc;rw[hget]
 by_cases hk:Dl key.length 0=true
 .right;rw[if_pos hk,if_neg (by simp)]
  cases hg:Fe L key with
  |none =>
   rw[if_pos (show((0,(none:Option Byt)):Int × Option Byt).2.isSome=false from rfl),Ye hg];exact⟨hk,rfl,rfl,fun _=>rfl,T,After.refl _ _ _,hon,hfew.mono (by omega)⟩
  |some u =>
   rw[if_neg (by simp)];obtain⟨h1,h2⟩:=QJ (Acm key) (fun L h=>Jt h key) T hon hl hP hleft hfree hfew;exact⟨hk,h1,by dsimp only;rw[qai h1];rfl,(fun h=>by cases h),h2⟩
 .left;rw[if_neg hk,if_pos (by simp)];exact⟨by simpa using hk,rfl⟩
theorem Acq{fr:Nat}{A:Dev}{P:List Nat}{root:Int}{L:List Pr}{key:Byt}(T:TreeAt fr A P root L)(hon:A.on=true)(hl:fr+P.length<=A.B.length)(hP:P.length<=2000:=by omega):LG A fr P.length root key=if Dl key.length 0=true then(0,Fe L key)else(1,none):=by
 obtain⟨S,td,-,-⟩:=T.told hon hl hP;unfold LG;rw[if_neg (by rw[td.may];simp),td.get]
def Pg(P:List Nat)(k:Nat):Bool:=decide (P[k]?=some 1) || decide (P[k]?=some 2)
def Uv(P:List Nat)(k:Nat):List Nat:=(List.range k).filter (Pg P)
theorem VI(P:List Nat)(k:Nat):Uv P (k+1)=Uv P k++if Pg P k=true then[k]else[]:=by
 unfold Uv;rw[List.range_succ,qbj]
 congr 1
 by_cases h:Pg P k=true
 .rw[if_pos h,qbo,h];rfl
 .rw[if_neg h,qbo,show Pg P k=false by simpa using h];rfl
section
variable {ops rest:List Oper}{Q:Exit->Env->World->Prop}{e:Env}{w:World}{dst:Option Tmp}{ty:TypeId}{pos:String}{af:Array Edge}{g:Option (Nat × Bool)}{r:Option Nat}
end
structure St7 where
 cut:Bool
 key:Byt
 val:Byt
 settle:Bool
structure Sm where
 ka:Option Addr
 kc:Nat
 va:Option Addr
 vc:Nat
 s:St7
def Sm.enc(m:Sm):List Value:=[.bool m.s.cut,.slice m.ka m.s.key.length m.kc,.slice m.va m.s.val.length m.vc,.bool m.s.settle]
theorem Sm.oneE(m:Sm):∀v∈m.enc,AX v=true:=fun v hv=>by
 simp only[Sm.enc,qaa,qaj,or_false]at hv
 rcases hv with rfl|rfl|rfl|rfl <;> rfl
structure Sm.Ok(w:World)(M:Mut)(m:Sm):Prop where
 k:Rdx w M m.ka m.s.key
 v:Rdx w M m.va m.s.val
 kc:m.s.key.length<=m.kc
 vc:m.s.val.length<=m.vc
 kl:m.s.key.length<=200
 vl:m.s.val.length<=500
def Ph(s:St7)(L:List Pr):List Pr :=
 if s.cut=true then(if Dl s.key.length 0=true then IG L s.key else L)else if Dl s.key.length s.val.length=true then H8 L s.key s.val else L
structure Does(w0:World)(bx bt bd bp ba:Nat)(A:Dev)(P:List Nat)(F:Mut)(L':List Pr)(mx:Nat)(v:Value)(w':World):Prop where
 ex:∃(root':Int) (a':Option Addr) (c':Nat) (A':Dev) (P':List Nat) (F':Mut),v=.tuple #[.int .i64 root',.slice a' L'.length c',.bool true]/\Dk w' bx bt bd bp ba A' P' F'/\Grown (TM F ba bt bp []) (TM F' ba bt bp []) w0 w'/\Stepped 10 A P root' L' A' P' (mx+40)/\Prs w' (TM F' ba bt bp []) a' L'.length c' L'
theorem Dk.step{w w':World}{bx bt bd bp ba:Nat}{A A':Dev}{P P':List Nat}{F F':Mut}(D:Dk w bx bt bd bp ba A P F)(T:Tx w' bt bd bp ba 10 A' P' F' [])(t:Grown (TM F ba bt bp []) (TM F' ba bt bp []) w w'):Dk w' bx bt bd bp ba A' P' F' :=
 ⟨t.keep D.dk D.nx,T,fun h=>(t.2 bx h).elim D.nx fun h=>by have:=Al D.dk;omega⟩
theorem Dk.call{w w':World}{bx bt bd bp ba:Nat}{A:Dev}{P:List Nat}{F:Mut}(D:Dk w bx bt bd bp ba A P F)(hx:Ext [] w w'):Dk w' bx bt bd bp ba A P F:=D.step (D.T.call hx) (.call0 hx)
def P9(l:List (Byt × Sv))(x:Wr)(s:Sv):List (Byt × Sv):=if x.d=true then EN l x.k else Ig (EN l x.k) x.k s
def Uw(t:List (Byt × Int))(k:Byt):List (Byt × Int):=Ig t k ((B7 t k).getD 0+1)
theorem HV{α:Type}{k:Byt}:∀{m:List (Byt × α)} {p:Byt × α},p∈EN m k->p∈m
 | [],_,h=>h
 |q::m,p,h=>by
  unfold EN at h
  split at h
  .exact qah _ h
  .rcases qaa.1 h with rfl|h
   .exact qad ..
   .exact qah _ (HV h)
theorem LO{α:Type}{k:Byt}{v:α}:∀{m:List (Byt × α)} {p:Byt × α},p∈Ig m k v->p=(k,v)\/p∈m
 | [],p,h => .inl (qab.1 h)
 |q::m,p,h=>by
  unfold Ig at h
  split at h
  .rcases qaa.1 h with h|h
   .exact .inl h
   .exact .inr (qah _ h)
  .rcases qaa.1 h with rfl|h
   .exact .inr (qad ..)
   .exact(LO h).imp id (qah _)
theorem Ux{l:List (Byt × Sv)}{x:Wr}{s:Sv}{p:Byt × Sv}(h:p∈P9 l x s):(x.d=false/\p=(x.k,s))\/p∈l:=by
 unfold P9 at h
 split at h
 .exact .inr (HV h)
 .rename_i hd
  exact(LO h).imp (fun h=>⟨by simpa using hd,h⟩) HV
theorem Pi{t:List (Byt × Int)}{k:Byt}{T:Int}(ht:∀p∈t,0<=p.2/\p.2<=T)(hT:0<=T):(∀p∈Uw t k,0<=p.2/\p.2<=T+1)/\0<=(B7 t k).getD 0/\(B7 t k).getD 0<=T:=by
 have h0:0<=(B7 t k).getD 0/\(B7 t k).getD 0<=T:=by
  cases hq:B7 t k with
  |none=>exact⟨Int.le_refl _,hT⟩
  |some z=>exact ht _ (EF hq)
 refine⟨fun p hp=>?_,h0⟩
 rcases LO hp with rfl|hp
 .dsimp only;omega
 .have:=ht p hp;omega
theorem Ctx.ent_new{w0 w:World}{S:List Nat}{L:List (Nat × Obj)}{a:Option Addr}{t n c:Nat}{full:List Value}{l:Byt}(H:Ctx w0 S w (L++ent a t full))(hS:∀x∈S,∃o,(x,o)∈L)(O:OS a n c 1 full (l.map bv)):l=[]\/w0.heap.size<=(adr a).block:=by
 cases ha:a with
 |none =>
  left;have h8:=O.none' ha;have h9:=O.le;have h10:=O.llen;rw[qan]at h10;exact qa8 (by omega)
 |some q =>
  subst ha;right;have hin:∀y∈ent (some q) t full,y.1=q.block:=fun y hy=>by rw[qab.1 hy]
  have h1:(q.block,Bl t full)∈ent (some q) t full:=qab.2 rfl
  rcases H.own _ (qaz _ h1)with h|h
  .obtain⟨o,ho⟩:=hS _ h;exact absurd U ((qch.1 H.nd).2.2 (q.block,o) ho (q.block,Bl t full) h1)
  .exact h
theorem WX{w:World}{bs m1 m2 gen:Nat}{n root T:Int}{dead:Bool}{vd vj vp vt:Value}{o1 o2:Obj}{M:Mut}{l:List (Byt × Sv)}{t:List (Byt × Int)}(H:Ctx w [bs,m1,m2] w [(bs,Bl CV (CK vd vj vp vt gen root m1 m2 n dead)),(m1,o1),(m2,o2)])(K:KvAt w M l o1)(hM2:Ec str (mi t) o2)(hS:∀x∈[bs,m1,m2],M x)(hMb:∀x,M x->x<w.heap.size)(m:Wm)(hm:m.Ok w M)(hf:m.x.Few)(ht:∀p∈t,0<=p.2/\p.2<=T)(hn: -1000000000<=n/\n<=1000000000:=by omega)(hT:0<=T/\T<=1000000000000:=by omega):
  Ret prog 49 #[ptr bs,.agg (CZ m).toArray] w fun v w'=>v=.tuple #[]/\∃s o1' o2',Ctx w [bs,m1,m2] w' [(bs,Bl CV (CK vd vj vp vt gen root m1 m2 (n - Hg l m.x.k+FK m.x) dead)),(m1,o1'),(m2,o2')]/\KvAt w' M (P9 l m.x s) o1'/\s.v=m.x.v/\Ec str (mi (Uw t m.x.k)) o2':=by
 obtain⟨w0,rfl⟩:=qD w;unfold Wr.Few at hf;obtain⟨htl,ht1,ht2⟩:=Pi (k:=m.x.k) ht hT.1
 have hold:0<=Hg l m.x.k/\Hg l m.x.k<=164:=by
  unfold Hg
  cases hq:B7 l m.x.k with
  |none=>simp
  |some s=>have:=K.few _ (EF hq);dsimp only[Kd]at this |-;omega
 refine Ax (fn:=f49) func49 U [ptr bs,.agg (CZ m).toArray] U ?_
 obtain⟨A,N,C,hz⟩:∃A N C,((B7 l m.x.k).map Sv.enc).getD (.slice none 0 0)=.slice A N C:=by
  cases B7 l m.x.k with
  |none=>exact⟨_,_,_,rfl⟩
  |some s=>exact⟨_,_,_,rfl⟩
 refine Ad (BN (CZ m) (.agg _) U U H ?_);rintro b3 w - H;refine qA (Ad (Af Nt U (AG BF U H at0 U (Ie AO Gz Fp U (Rdx.read hm.k H.ext hS) ?_))));refine Kt U U (qA (Aq (Ad (Ao U (AD U (Af Hn U (AG MS U H at1 U (BU U (Gy (m:=mv l) (n:=m.x.k) U Ov (EH Fp) Ty U U H at2 K.m ?_)))))))));rw[EE (f:=Sv.enc),hz,qet];refine AL U (Ag U U (Ag U U (Ai U (Am U (qA (Ad (A4 U (qA (Fk 34358689792 (α:=Obj) (fun _=>[]) (fun z w'=>Ec str (mv (EN l m.x.k)) z/\Ctx w0 [bs,m1,m2] w' [(b3,Bl 56 (CZ m)),(bs,Bl CV (CK vd vj vp vt gen root m1 m2 (n - Hg l m.x.k) dead)),(m1,z),(m2,o2)]) U ?_ ?_)))))))))
 .skip
  refine Ar _ U ?_ ?_
  .intro h19;obtain⟨s,hq⟩:=qcy.1 h19;rw[hq]at hz;have ho1:Hg l m.x.k=Kd m.x.k s.v:=by unfold Hg;rw[hq]
   have hsf:=(K.few _ (EF hq)).2;dsimp only at hsf
   obtain⟨rfl,rfl,rfl⟩:s.a=A/\s.v.length=N/\s.c=C:=by injection hz with h1 h2 h3;exact⟨h1,h2,h3⟩
   refine BQ [([0,1,2,3,4,5],6),([7,8,9],10)] (fun z=>z.heap[bs]?=some (Bl CV (CK vd vj vp vt gen root m1 m2 n dead))) [10] mixed (H.drew.get at1) (A7 U U ?_);refine CP U (Bg U (AF JQ U (BO DE U (fun _ hx=>(by rw[Au hx];rfl)) ?_)));refine RC U U (Ca U (Bj ?_));replace H:=H.drew;refine Ah qB (HU m.x.k s.v s.a s.c _) U ?_;rintro v w ⟨rfl,rfl⟩;refine Ab (Be (H.get at1) (A7 U U ?_));refine HH U U U (Bg U (AF JQ U (Bj (Bk (.int _ _) H1 U U U H at1 (by(simp;done)) ?_))));rintro w H;refine Ab (CD U (B2 (A5 (Ao U (AD U (Af Hn U (AG MS U H at1 U (BU U (Ve (m:=mv l) (n:=m.x.k) U Ov (EH Fp) U U H at2 K.m ?_)))))))));rw[LL];rintro o5 w hM1 H;refine qA ?_;exact⟨o5,rfl,trivial,hM1,by rw[ho1];exact H⟩
  .intro h19;have hq:B7 l m.x.k=none:=by simpa using h19
   refine Ap (Aa ?_);exact⟨o1,rfl,trivial,by rw[Mi hq];exact K.m,by rw[show Hg l m.x.k=0 by(unfold Hg;rw[hq]),Int.sub_zero];exact H⟩
 .rintro o5 j19 w ⟨hM1,H⟩
  have hSL:∀(z:Obj) (y:Obj),∀x∈[bs,m1,m2],∃o,(x,o)∈[(b3,Bl 56 (CZ m)),(bs,y),(m1,z),(m2,o2)]:=fun z y x hx=>by
   simp only[qaa,qaj,or_false]at hx
   rcases hx with rfl|rfl|rfl
   .exact⟨y,by simp⟩
   .exact⟨z,by simp⟩
   .exact⟨o2,by simp⟩
  refine Aq (Ad (Af Lf U (AG Gp U H at0 U (Cc U (qA (Fk 288230101273804800 (α:=Sv × Obj × List (Nat × Obj)) (fun _=>[]) (fun z w'=>z.1.v=m.x.v/\Ec str (mv (P9 l m.x z.1)) z.2.1/\(m.x.d=false->(∀w':World,(∀x∈z.2.2,w'.heap[x.1]?=some x.2)->Rd w' z.1.a 1 B8 z.1.v)/\(z.1.v=[]\/w0.heap.size<=(adr z.1.a).block)/\z.1.v.length<=z.1.c)/\Ctx w0 [bs,m1,m2] w' ([(b3,Bl 56 (CZ m)),(bs,Bl CV (CK vd vj vp vt gen root m1 m2 (n - Hg l m.x.k+FK m.x) dead)),(m1,z.2.1),(m2,o2)]++z.2.2)) U ?_ ?_))))))
  .skip
   refine Ar _ U ?_ ?_
   .intro hd;replace hd:=Cs hd;have hd':m.x.d=false:=by simpa using hd
    have hnew:FK m.x=((m.x.k.length+m.x.v.length+4:Nat):Int):=by unfold FK;rw[if_neg (by simp[hd'])];rfl
    refine BQ [([0,1,2,3,4,6,7],5),([],8),([],9)] (fun z=>(z.heap[bs]?=some (Bl CV (CK vd vj vp vt gen root m1 m2 (n - Hg l m.x.k) dead))/\z.heap[b3]?=some (Bl 56 (CZ m)))) [] mixed (⟨H.drew.get at1,H.drew.get at0⟩) ?_;refine A7 U U (CP U (Bg U (AF Hn U (BO MS U (fun _ hx=>(by rw[Au hx.1];rfl)) ?_))));refine RC U U (AF Hm U (BO BF U (fun _ hx=>(by rw[Au hx.2];rfl)) ?_));refine Bj ?_;replace H:=H.drew;refine Me U AO C0 H ?_;rintro b43 w H O;refine Ab (Be (⟨H.get at1,H.get at0⟩) (A7 U U ?_));refine Bj (Eu U AO AO C0 Oe H3 U (m.x.v.map bv) U U H O (by simp) (GM m.x.v) (Rd.appB (Rdx.read hm.v H.ext hS)) ?_);clear H O;rintro a46 c46 f46 w H O;rw[qa4 m.x.v.length];replace O:OS a46 m.x.v.length c46 1 f46 (m.x.v.map bv):=(by simpa using O);refine Ab (Be (⟨H.get at1,H.get at0⟩) (A7 U U ?_))
    refine Bj (FN (.slice a46 m.x.v.length c46) U Ov (EH Fp) U U U H at2 hM1 ?_);rw[show Ig (mv (EN l m.x.k)) m.x.k (.slice a46 m.x.v.length c46)=mv (P9 l m.x ⟨a46,c46,m.x.v⟩)by(unfold P9;rw[if_neg (by simp[hd'])];exact LK (f:=Sv.enc) (x:=⟨a46,c46,m.x.v⟩))];rintro o9 w hM3 H9;have H:Ctx w0 [bs,m1,m2] w ([(b3,Bl 56 (CZ m)),(bs,Bl CV (CK vd vj vp vt gen root m1 m2 (n - Hg l m.x.k) dead)),(m1,o9),(m2,o2)]++ent a46 5 f46):=H9;refine Ab (Be (⟨H.get at1,H.get at0⟩) (B2 (Kq [([0,1,2,3,4,5,6],7),([8,9,10],11)] (fun z=>(z.heap[bs]?=some (Bl CV (CK vd vj vp vt gen root m1 m2 (n - Hg l m.x.k) dead))/\z.heap[b3]?=some (Bl 56 (CZ m)))) [11] mixed (⟨H.drew.get at1,H.drew.get at0⟩) ?_)));refine A7 U U (CP U (Bg U (AF JQ U (BO DE U (fun _ hx=>(by rw[Au hx.1];rfl)) ?_))));refine RC U U (AF Hm U (BO BF U (fun _ hx=>(by rw[Au hx.2];rfl)) ?_));refine Bj ?_
    replace H:=H.drew;refine Ah qB (HU m.x.k m.x.v m.va m.vc _) U ?_;rintro v w ⟨rfl,rfl⟩;refine Ab (Be (⟨H.get at1,H.get at0⟩) (A7 U U ?_));refine Ew U U (Bg U (AF JQ U (Bj (Bk (.int _ _) H1 U U U H at1 (by(simp;done)) ?_))));rintro w H;refine Ab (CD U (B2 (Aa ?_)));refine⟨(⟨a46,c46,m.x.v⟩,o9,ent a46 5 f46),rfl,trivial,rfl,hM3,fun _=>⟨fun w' hw'=>OS.rdB O hw',?_,O.le⟩,?_⟩
    .exact Ctx.ent_new H (hSL _ _) O
    .rw[hnew];exact H
   .intro hd;replace hd:=Cu hd;have hd':m.x.d=true:=by simpa using hd
    have hnew:FK m.x=0:=by unfold FK;rw[if_pos hd']
    refine Ap (Aa ?_);exact⟨(⟨none,0,m.x.v⟩,o5,[]),rfl,trivial,rfl,by unfold P9;rw[if_pos hd'];exact hM1,(fun h=>by rw[hd']at h;cases h),by rw[hnew,Int.add_zero];exact H⟩
  .rintro⟨s,o9,E⟩ j37 w ⟨hsv,hM3,hR,H⟩;dsimp only at hsv hM3 hR H;refine A5 (Ao U (AD U (Af W2 U (AG Afy U H at1 U (BU U (NW (m:=mi t) (n:=m.x.k) U Qh (EH Fp) zv_3 U U H at3 hM2 ?_))))));rw[show(B7 (mi t) m.x.k).getD (.int .i64 0)=.int .i64 ((B7 t m.x.k).getD 0)by(rw[EE (f:=Value.int .i64)];cases B7 t m.x.k <;> rfl)];refine A8 U U (FN (.int .i64 ((B7 t m.x.k).getD 0+1)) U Qh (EH Fp) U U U H at3 hM2 ?_);rw[LK (f:=Value.int .i64)];rintro o10 w hM4 H9;have H:Ctx w0 [bs,m1,m2] w ([(b3,Bl 56 (CZ m)),(bs,Bl CV (CK vd vj vp vt gen root m1 m2 (n - Hg l m.x.k+FK m.x) dead)),(m1,o9),(m2,o10)]++E):=H9;refine Ab (Hi U U ?_);refine⟨rfl,s,o9,o10,H.left.drop 1,⟨hM3,fun p hp=>?_,fun p hp=>?_⟩,hsv,hM4⟩
   .rcases Ux hp with⟨hd,rfl⟩|hp
    .obtain⟨h1,h2,h3⟩:=hR hd;exact⟨⟨h1 _ fun x hx=>H.blk x (qaz _ hx),h2.imp id fun h hMx=>by have h8:(adr s.a).block<w0.heap.size:=hMb _ hMx;omega⟩,h3⟩
    .have h:=K.ok p hp;exact⟨⟨Rdx.read h.1 H.ext hS,h.1.2⟩,h.2⟩
   .rcases Ux hp with⟨hd,rfl⟩|hp
    .exact⟨hf.1,by rw[hsv];exact hf.2⟩
    .exact K.few p hp
section
variable {w:World}{bs m1 m2 gen:Nat}{n root:Int}{dead:Bool}{vd vj vp vt:Value}
abbrev deadE(dead:Bool):Int:=if dead=true then 8 else 0
theorem JY(hs:w.heap[bs]?=some (Bl CV (CK vd vj vp vt gen root m1 m2 n dead))):Ret prog 42 #[ptr bs] w fun v w'=>v=.int .i64 (deadE dead)/\w=w':=by
 obtain⟨w0,rfl⟩:=qD w;refine Ax (fn:=f42) func42 U [ptr bs] U (Ad (Ac U (qA (Aq (AB (Ad (Ao U (BC W5 U ?_))))))));refine Am U (qA (Br U (Ad (Ao U (AD U (Af W3 U (Bq Gp U ((by rw[Au hs];rfl)) ?_)))))));refine Am U (qA (Ar _ U ?_ ?_))
 .intro h1;refine Ad (Ac U (qA (Aw (AK (An (AE (v:=(.int _ _)) U U U ?_))))));exact⟨qac (Value.int .i64) (if_pos h1).symm,rfl⟩
 .intro h1;refine Ap (AH (Aa (Ad (Ac U (qA (Aw (AE (v:=(.int _ _)) U U U ?_)))))));exact⟨qac (Value.int .i64) (if_neg (by simp[h1])).symm,rfl⟩
theorem YA(hs:w.heap[bs]?=some (Bl CV (CK vd vj vp vt gen root m1 m2 n dead))):Ret prog 25 #[ptr bs] w fun v w'=>v=.int .i64 (if dead=true then 0 else n)/\w=w':=by
 obtain⟨w0,rfl⟩:=qD w;refine Ax (fn:=f25) func25 U [ptr bs] U (Ad (Ac U (qA (Aq (Ad (Ao U (Ah qB (JY hs) U ?_)))))));rintro v w ⟨rfl,rfl⟩;refine AN U U (qA (Ar _ U ?_ ?_))
 .intro h1;replace h1:=Bh h1;have hd:dead=true:=by cases dead;exact absurd rfl h1;rfl
  refine Ad (Ac U (qA (Aw (An (AE (v:=(.int _ _)) U U U ?_)))));exact⟨qac (Value.int .i64) (if_pos hd).symm,rfl⟩
 .intro h1;replace h1:=Bi h1;have hd:¬dead=true:=fun h=>by rw[h]at h1;cases h1
  refine Ap (Aa (Ad (Ao U (AD U (Af JQ U (Bq DE U ((by rw[Au hs];rfl)) ?_))))));refine Ac U (qA (Aw (AE (v:=(.int _ _)) U U U ?_)));exact⟨qac (Value.int .i64) (if_neg hd).symm,rfl⟩
theorem VJ(w:World):Ret prog 25 #[.pointer none] w fun v w'=>v=.int .i64 0/\w=w':=by
 obtain⟨w0,rfl⟩:=qD w;refine Ax (fn:=f25) func25 U [.pointer none] U (Ad (Ac U (qA (Aq (Ad (Ao U (Ah qB (HS _) U ?_)))))));rintro v w ⟨rfl,rfl⟩;refine AN U U (qA (Ar _ U ?_ ?_))
 .intro h1;replace h1:=Bh h1;refine Ad (Ac U (qA (Aw (An (AE (v:=(.int _ _)) U U U ?_)))));exact⟨rfl,rfl⟩
 .intro h1;replace h1:=Bi h1;cases h1
theorem Acr(H:Ctx w [bs] w [(bs,Bl CV (CK vd vj vp vt gen root m1 m2 n dead))])(x:Int):Ret prog 47 #[ptr bs,.int .i64 x] w fun v w'=>v=.int .i64 x/\Ctx w [bs] w' [(bs,Bl CV (CK vd vj vp vt gen root m1 m2 n (!decide (x=0))))]:=by
 obtain⟨w0,rfl⟩:=qD w;refine Ax (fn:=f47) func47 U [ptr bs,.int .i64 x] U (Ad (Ac U (qA (Ad (Ao U (Ae U (AN U U (AD U (Af W3 U (Bk (.bool _) Aai U U U H at0 (by(simp;done)) ?_))))))))));rintro w H;refine qA (Ad (Ae U (Ac U (qA (Aw (AE (v:=(.int _ _)) U U U ?_))))));exact⟨rfl,H⟩
def J3(l:List (Byt × Sv))(k:Byt):Byt:=((B7 l k).map Sv.v).getD []
theorem Ae5{o1:Obj}{M:Mut}{l:List (Byt × Sv)}(hs:w.heap[bs]?=some (Bl CV (CK vd vj vp vt gen root m1 m2 n false)))(h1m:w.heap[m1]?=some o1)(K:KvAt w M l o1)(a:Option Addr)(c:Nat)(k:Byt)(Rk:Rd w a 1 B8 k) :
  Ret prog 26 #[ptr bs,.slice a k.length c] w fun v w'=>∃a' c',v=.tuple #[.slice a' (J3 l k).length c',.bool (B7 l k).isSome,.int .i64 0]/\Rd w' a' 1 B8 (J3 l k)/\Ext [] w w':=by
 obtain⟨w0,rfl⟩:=qD w
 obtain⟨A,C,hz,hR,hlen⟩:∃A C,((B7 l k).map Sv.enc).getD (.slice none 0 0)=.slice A (J3 l k).length C/\Rd w0 A 1 B8 (J3 l k)/\(J3 l k).length<=128:=by
  unfold J3
  cases hq:B7 l k with
  |none=>exact⟨none,0,rfl,Rd.nil,by simp⟩
  |some s=>exact⟨s.a,s.c,rfl,(K.ok _ (EF hq)).1.1,(K.few _ (EF hq)).2⟩
 refine Ax (fn:=f26) func26 U [ptr bs,.slice a k.length c] U (Ad (Ai U (Am U (Ac U (qA (Aq (Ad (Ao U (Ah qB (JY hs) U ?_)))))))));rintro v w ⟨rfl,rfl⟩;have H:=Ctx.start w0 [];refine Ac U (qA (Ad (Ae U (AN U U (qA (Ar _ U ?_ ?_))))))
 .intro h1;replace h1:=Bh h1;exact absurd U h1
 .intro h1;replace h1:=Bi h1;refine Ap (Aa (IV (fun x=>x=_) mixed U ?_));refine FM U (Dx U (C4 Hn U (Kr MS U (by rintro _ rfl;exact((by rw[Au (w:=World.drew w0) hs];rfl))) ?_)));refine KQ U U (Agq U AO Gz Fp U (by rintro _ rfl;exact Rk.ext0 (Ext.drew [] _)) ?_);refine Ti k U Ov (EH Fp) Ty U U (by rintro _ rfl;exact h1m) K.m ?_;rw[EE (f:=Sv.enc),hz,qet];refine Adx U U (PR U U U (PR U U U (PW U U (XB U U (Kf ?_)))));rintro _ rfl;replace H:=H.drew;refine Ad (Aj U (Ah qB (HM A C _ (J3 l k) _ (hR.ext0 (Ext.drew [] _)) U) U ?_));rintro v w ⟨F,-⟩;obtain⟨a24,c24,rfl,R24,hc24⟩:=Fresh.rdB F;refine A4 U (Ai U (Am U (Ac U (qA (Aw (Ci (v1:=(.slice _ _ _)) (v2:=(.bool _)) (v3:=(.int _ _)) U U U U U ?_))))));exact⟨a24,c24,rfl,R24,(Ext.drew [] _).trans F.ext⟩
end
structure Stp where
 op:Int
 gen:Nat
 ba:Option Addr
 bc:Nat
 b:Byt
 n:Int
 pos:Nat
 by':UInt8
 pa:Option Addr
 pc:Nat
 picks:List Int
abbrev I64:Int->List Value:=fun x=>[.int .i64 x]
def Stp.enc(x:Stp):List Value:=[.int .i64 x.op,.int .u64 (x.gen:Int),.slice x.ba x.b.length x.bc,.int .i64 x.n,.int .u16 (x.pos:Int),bv x.by',.slice x.pa x.picks.length x.pc]
structure Stp.Ok(w:World)(x:Stp):Prop where
 rb:Rd w x.ba 1 B8 x.b
 rp:Rd w x.pa 1 I64 x.picks
 cb:x.b.length<=x.bc
 cp:x.picks.length<=x.pc
 mb:x.b.length<=140737488351232
 mp:x.picks.length<=140737488351232
 gen:x.gen<18446744073709551616
 n1 : -9223372036854775808<=x.n
 n2:x.n<=9223372036854775807
 pos:x.pos<65536
 picks:∀i∈x.picks,-9223372036854775808<=i/\i<=9223372036854775807
def sumH(l:List Stp):Nat:=(l.map fun x=>x.b.length+x.picks.length).sum
def heavyB(l:List Stp):Bool:=decide (40<l.length) || decide (20000<sumH (l.take 100))
def Ae6(x:Stp):Byt:=if x.b.length<=497 then CU x.gen x.b else zeros
def rawB(x:Stp):Byt:=(Ae6 x).modify (x.pos % 512) fun c=>c ^^^ x.by'
structure Two(w0 w:World)(bd rd:Nat)(A B:Dev)(F G:Nat->Prop):Prop where
 ext:Ext [] w0 w
 dev:DevAt w bd A F
 ref:RefAt w rd B G
 f:∀x,F x->w0.heap.size<=x/\x<w.heap.size
 g:∀x,G x->w0.heap.size<=x/\x<w.heap.size
 fg:∀x,F x->¬G x
structure Still(F G F' G':Nat->Prop)(w w':World):Prop where
 blk:∀b,b<w.heap.size->¬F b->¬G b->w'.heap[b]?=w.heap[b]?
 fg:∀b,b<w.heap.size->¬F b->¬G b->¬F' b/\¬G' b
 size:w.heap.size<=w'.heap.size
def Free(w:World)(F G:Nat->Prop)(b:Nat):Prop:=b<w.heap.size/\¬F b/\¬G b
theorem Free.go{w w':World}{F G F' G':Nat->Prop}{b:Nat}(h:Free w F G b)(s:Still F G F' G' w w'):Free w' F' G' b :=
 ⟨qas h.1 s.size,s.fg b h.1 h.2.1 h.2.2⟩
theorem Rd.same{w w':World}{α:Type}{a:Option Addr}{s:Nat}{enc:α->List Value}{l:List α}(R:Rd w a s enc l)(h:w'.heap[(adr a).block]?=w.heap[(adr a).block]?):Rd w' a s enc l :=
 ⟨R.some',fun i x hx j v hv hj=>by
  have h1:=R.cell i x hx j v hv hj;unfold World.cell? at h1 |-
  rw[h];exact h1⟩
def RdF{α:Type}(w:World)(F G:Nat->Prop)(a:Option Addr)(s:Nat)(enc:α->List Value)(l:List α):Prop:=Rd w a s enc l/\(l=[]\/Free w F G (adr a).block)
theorem RdF.go{α:Type}{w w':World}{F G F' G':Nat->Prop}{a:Option Addr}{s:Nat}{enc:α->List Value}{l:List α}(h:RdF w F G a s enc l)(t:Still F G F' G' w w'):RdF w' F' G' a s enc l:=by
 obtain⟨R,hn⟩:=h
 rcases hn with rfl|hn
 .exact⟨Rd.nil,.inl rfl⟩
 .exact⟨Rd.same R (t.blk _ hn.1 hn.2.1 hn.2.2),.inr (hn.go t)⟩
def BlF(w:World)(F G:Nat->Prop)(b:Nat)(o:Obj):Prop:=w.heap[b]?=some o/\Free w F G b
theorem BlF.go{w w':World}{F G F' G':Nat->Prop}{b:Nat}{o:Obj}(h:BlF w F G b o)(t:Still F G F' G' w w'):BlF w' F' G' b o :=
 ⟨by rw[t.blk _ h.2.1 h.2.2.1 h.2.2.2];exact h.1,h.2.go t⟩
theorem Still.call{w w':World}{F G:Nat->Prop}(hx:Ext [] w w'):Still F G F G w w':=⟨fun b hb _ _=>hx.block b hb (by simp),fun _ _ h1 h2=>⟨h1,h2⟩,hx.size⟩
theorem rd_lt{w:World}{α:Type}{a:Option Addr}{s:Nat}{enc:α->List Value}{l:List α}(R:Rd w a s enc l)(hs:0<s)(he:∀x∈l,(enc x).length=s):l=[]\/(adr a).block<w.heap.size:=by
 cases l with
 |nil=>exact .inl rfl
 |cons x l =>
  obtain⟨v,hv⟩:=AY (l:=enc x) (i:=0) (h:=by have:=he x (qad ..);omega);have h9:=World.block_lt_of_cell? w ⟨(adr a).block,_,none⟩ (R.cell 0 x rfl 0 _ hv hs);exact .inr h9
section
variable {w0 w w':World}{bd rd:Nat}{A B A' B':Dev}{F G:Nat->Prop}
theorem Two.call(T:Two w0 w bd rd A B F G)(hx:Ext [] w w'):Two w0 w' bd rd A B F G :=
 ⟨T.ext.trans hx,T.dev.keep0 hx,T.ref.keep0 hx,fun x h=>by have:=T.f x h;have:=hx.size;omega,fun x h=>by have:=T.g x h;have:=hx.size;omega,T.fg⟩
theorem Two.devs(T:Two w0 w bd rd A B F G)(h:DevAt w' bd A' F)(t:Turn F w w'):Two w0 w' bd rd A' B F G/\Still F G F G w w':=by
 have h1:=t.size;have hx0:=t.new T.ext fun x h=>(T.f x h).1;obtain⟨S,hS,hx⟩:=t;exact⟨⟨hx0,h,T.ref.keep hx fun x h=>T.fg x (hS x h),fun x h=>by have:=T.f x h;omega,fun x h=>by have:=T.g x h;omega,T.fg⟩,⟨fun b hb hF _=>hx.block b hb fun h=>hF (hS b h),fun b _ hF hG=>⟨hF,hG⟩,h1⟩⟩
theorem Two.old{α:Type}{a:Option Addr}{s:Nat}{enc:α->List Value}{l:List α}(T:Two w0 w bd rd A B F G)(R:Rd w0 a s enc l)(hs:0<s)(he:∀x∈l,(enc x).length=s):RdF w F G a s enc l :=
 ⟨R.ext0 T.ext,(rd_lt R hs he).imp id fun h=>⟨qas h T.ext.size,fun h'=>by have:=T.f _ h';omega,fun h'=>by have:=T.g _ h';omega⟩⟩
theorem Two.newer(T:Two w0 w bd rd A B F G){b:Nat}(h1:w.heap.size<=b)(h2:b<w'.heap.size):Free w' F G b :=
 ⟨h2,fun h=>by have:=T.f _ h;omega,fun h=>by have:=T.g _ h;omega⟩
end
theorem Stp.one(x:Stp):∀v∈x.enc,AX v=true:=fun v hv=>by
 simp only[Stp.enc,bv,qaa,qaj,or_false]at hv
 rcases hv with rfl|rfl|rfl|rfl|rfl|rfl|rfl <;> rfl
theorem Stp.Ok.ext{w w':World}{x:Stp}(h:x.Ok w)(hx:Ext [] w w'):x.Ok w':=⟨h.rb.ext0 hx,h.rp.ext0 hx,h.cb,h.cp,h.mb,h.mp,h.gen,h.n1,h.n2,h.pos,h.picks⟩
def BS(b:Byt)(i:Nat):Byt:=(b.drop (480*i)).take 480
theorem K3(b:Byt)(i:Nat):(BS b i).length=min 480 (b.length - 480*i):=by rw[BS,qay,qbe]
theorem Rd.boxX{w w':World}{a a2:Option Addr}{l:Byt}{b t n c:Nat}(R:Rd w a 1 B8 l)(hb:w.heap[b]?=some (Bl t [.slice a2 n c]))(he:Ext [b] w w'):Rd w' a 1 B8 l:=by
 cases l with
 |nil=>exact Rd.nil
 |cons x l =>
  refine R.ext he fun h=>?_;have h1:=R.cell 0 x rfl 0 (bv x) rfl (by decide);rw[qab.1 h,Au hb]at h1;have h2:=qaf h1;simp[bv]at h2
theorem Ae7(a:Option Addr)(c i s:Nat):(adr (DV a c i s)).block=(adr a).block:=by
 unfold DV;split
 .rfl
 .cases a with
  |none=>rfl
  |some p =>
   obtain⟨b,o,sp⟩:=p;show(adr (some (Addr.add ⟨b,o,sp⟩ (i*s)))).block=b;unfold Addr.add
   by_cases h:i*s=0 <;> simp[h,adr]
theorem VK{w:World}{l bx c:Nat}{a:Option Addr}{b:Byt}(hx:w.heap[bx]?=some (Bl 24 [.slice a b.length c]))(R:Rd w a 1 B8 b)(hc:b.length<=c)(hm:b.length<=100000000)(J:Nat->World->Prop)(K:World->Prop)(hJ0:J 0 w)(hst:∀i w' w'',J i w'->Ext [bx] w' w''->J i w'')(hround:∀i ai ci w',i<blk b.length - 1->J i w'->Rd w' ai 1 B8 (BS b i)->(adr ai).block=(adr a).block->(∃a' n' c',w'.heap[bx]?=some (Bl 24 [.slice a' n' c'])) ->
   Go.GV.YieldAt prog l [.int .i64 (i:Int),.slice ai (BS b i).length ci] w' fun u w''=>w''.heap[bx]?=w'.heap[bx]? /\ (b=[]\/w''.heap[(adr a).block]?=w'.heap[(adr a).block]?)/\∃t,u=.bool t/\(t=true->J (i+1) w'')/\(t=false->K w'')) :
  Ret prog 142 #[.func (.yield l) #[] #[],ptr bx] w fun _ w'=>J (blk b.length - 1) w'\/K w':=by
 obtain⟨w0,rfl⟩:=qD w;have hb2:=Du b.length;have hb3:=M8 b.length;refine Ax (fn:=f142) func142 U [.func (.yield l) #[] #[],.pointer (some ⟨bx,0,none⟩)] U ?_;refine Ad (Bq BF U (Au hx _) ?_);refine AP AO U (Ah qB (ER (b.length:Int) _) U ?_);rintro v w ⟨rfl,rfl⟩;rw[GW];refine Bx U U ?_;refine Ae U (qA (AB (BE 67108376 (α:=Nat × Option Addr × Nat) (fun s=>[(9,.int .i64 s.1)]) (fun s w'=>s.1<=blk b.length - 1/\J s.1 w'/\w'.heap[bx]?=some (Bl 24 [.slice s.2.1 (b.drop (480*s.1)).length s.2.2])/\Rd w' s.2.1 1 B8 (b.drop (480*s.1))/\(b.drop (480*s.1)).length<=s.2.2/\(adr s.2.1).block=(adr a).block) (fun s=>blk b.length - 1 - s.1) (0,a,c) U ?_ ?_ ?_)))
 .exact⟨rfl,trivial⟩
 .exact⟨qal _,hJ0,hx,R,hc,rfl⟩
 .rintro⟨i,ai,ci⟩ j w ⟨hi,hJ,hx,R,hc,ha⟩;dsimp only at hi hJ hx R hc ha;dsimp only;refine Ad (Bp U U (qA (Aq (Ar _ U ?_ ?_))))
  .intro h1;replace h1:=AV h1;have hcl:=K3 b i;have hdl:(b.drop (480*i)).length=b.length - 480*i:=qbe;refine Ap (Aa (Aq (AB (Ad (Ae U (Ac U (qA (Ad (Bq BF U (Au hx _) ?_)))))))));refine AP AO U (Rr U U U ?_);rw[show min (480:Int) ((b.drop (480*i)).length:Int)=((BS b i).length:Int)by omega];refine Ac U (qA (Aq (Ad (B4 (.func _ _ _) U ?_))));refine Ae U (Bq BF U (Au hx _) ?_);refine Ae U (DP AO C0 U U ?_);refine NY U U (hround i ai ci w (by omega) hJ (R.take 480) ha ⟨_,_,_,hx⟩) U ?_;rintro _ w5 ⟨hbx5,hba5,t,rfl,hT,hF⟩;refine Cc U (qA (Ar _ U ?_ ?_))
   .intro h2;replace h2:=Cs h2;refine Aw (An (AK (An (An (AK (Zi U U ?_))))));exact .inr (hF (by simpa using h2))
   .intro h2;replace h2:=Cu h2;have hx5:w5.heap[bx]?=some (Bl 24 [.slice ai (b.drop (480*i)).length ci]):=hbx5.trans hx
    have R5:Rd w5 ai 1 B8 (b.drop (480*i)):=by
     rcases hba5 with h0|h0
     .rw[h0];simp only[List.drop_nil];exact Rd.nil
     .exact Rd.same R (by rw[ha];exact h0)
    have H:=Ctx.start1 hx5;refine Ap (Aa (A5 (AG BF U H at0 U (Ae U (EV U AO C0 U U ?_)))));refine Bk (.slice _ _ _) Ez U U U H at0 (by(simp;done)) ?_;rintro w H;refine Ab (AH (Aa (A5 (A8 U U ?_))));refine Ae U (qA ?_);have hnl:(b.drop (480*(i+1))).length=b.length - 480*(i+1):=qbe;have Rc:=R5.cut (BS b i).length ci hc
    have hde:(b.drop (480*i)).drop (BS b i).length=b.drop (480*(i+1)):=by
     rw[qc8]
     by_cases h480:480<=b.length - 480*i
     .congr 1;omega
     .rw[List.drop_eq_nil_of_le (by omega),List.drop_eq_nil_of_le (by omega)]
    rw[hde]at Rc;refine⟨(i+1,DV ai ci (BS b i).length 1,ci - (BS b i).length),rfl,⟨rfl,trivial⟩,⟨by dsimp only;omega,hst _ _ _ (hT (by simpa using h2)) H.ext,?_,Rd.boxX Rc hx5 H.ext,by dsimp only;omega,(Ae7 ..).trans ha⟩,by dsimp only;omega⟩;dsimp only;rw[H.get at0,show(b.drop (480*(i+1))).length=(b.drop (480*i)).length - (BS b i).length by omega];rfl
  .intro h1;replace h1:=AW h1;have hib:i=blk b.length - 1:=by omega
   subst hib;refine B9 (A6 (A6 (Bd (Hi U U ?_))));exact .inl hJ
theorem YB(a:Option Addr)(n c:Nat)(w:World):Ret prog 117 #[.slice a n c] w fun v w'=>∃bx,v=.func (.func 142) #[] #[ptr bx]/\w'.heap[bx]?=some (Bl 24 [.slice a n c])/\w.heap.size<=bx/\Ext [] w w':=by
 obtain⟨w0,rfl,H⟩:=qE w;refine Ax (fn:=f117) func117 U [.slice a n c] U (Ad (BN _ (.slice _ _ _) U U H ?_));rintro b1 w - H;refine BL U .nilFunc U (qA (Ad (Cl [.pointer _] U (BL U (.func _ _ _) U ?_))));refine qA (Aw (AE (v:=(.func _ _ _)) U U U ?_));exact⟨b1,rfl,H.get at0,(H.own _ (qad ..)).elim (fun h=>by cases h) id,H.ext⟩
theorem LP{P:Program}{e:Env}{w:World}{fn:Func}{R:Value->World->Prop}{a:Tmp}{t:TypeId}{p:Addr}(hr:fn.results=#[.cell a t])(ha:e.g a=.pointer (some p))(h:Marks e.ds w fun w'=>∃v,(loadVar t p).run P w'=.ok v w'/\R v w'):Ww P fn R .ret e w :=
 Marks.mono (fun w ⟨v,hv,h⟩ tmps ht=>by
  have h1:=(ht a).trans ha;rw[qbk]at h1
  exact⟨v,by simp[results,hr,h1,asAddr,hv],h⟩) h
def wrP(A:Dev)(J:Jr)(b:Byt):Nat->Int × Dev
 |0=>(0,A)
 |i+1=>if(wrP A J b i).1=0 then(LF (wrP A J b i).2 J i 1 (Cp J.seq i (BS b i)),Iu (wrP A J b i).2 J i 1 (Cp J.seq i (BS b i)))else wrP A J b i
theorem Uy{A:Dev}{J:Jr}{b:Byt}{i:Nat}(h:(wrP A J b i).1≠0):∀n,i<=n->wrP A J b n=wrP A J b i
 |0,hn=>by rw[show i=0 by omega]
 |n+1,hn=>by
  by_cases hi:i=n+1
  .rw[hi]
  .have ih:=Uy h n (by omega);have h9:wrP A J b (n+1)=if(wrP A J b n).1=0 then(LF (wrP A J b n).2 J n 1 (Cp J.seq n (BS b n)),Iu (wrP A J b n).2 J n 1 (Cp J.seq n (BS b n)))else wrP A J b n:=rfl;rw[h9,if_neg (by rw[ih];exact h),ih]
theorem LQ{A:Dev}{J:Jr}{b:Byt}{m:Nat}(h:Few A m):∀i,Few (wrP A J b i).2 (m+i)
 |0=>h
 |i+1=>by
  unfold wrP
  split
  .exact HP (LQ h i) _ _
  .exact(LQ h i).mono (by omega)
def Cq(A:Dev)(J:Jr)(b:Byt):Int × Dev :=
 if(wrP A J b (blk b.length - 1)).1=0 then
  (if FE (wrP A J b (blk b.length - 1)).2=0 then
   (if LF (CT (wrP A J b (blk b.length - 1)).2) J (blk b.length - 1) 2 (Fw J.seq b)=0 then
    (FE (Iu (CT (wrP A J b (blk b.length - 1)).2) J (blk b.length - 1) 2 (Fw J.seq b)),CT (Iu (CT (wrP A J b (blk b.length - 1)).2) J (blk b.length - 1) 2 (Fw J.seq b)))
   else(LF (CT (wrP A J b (blk b.length - 1)).2) J (blk b.length - 1) 2 (Fw J.seq b),Iu (CT (wrP A J b (blk b.length - 1)).2) J (blk b.length - 1) 2 (Fw J.seq b)))
  else(FE (wrP A J b (blk b.length - 1)).2,CT (wrP A J b (blk b.length - 1)).2))
 else wrP A J b (blk b.length - 1)
structure Dv(w0 w:World)(bd:Nat)(A:Dev)(F F':Nat->Prop)(L:List (Nat × Obj)):Prop where
 dev:DevAt w bd A F'
 turn:Turn F w0 w
 own:∀x,F' x->F x\/(w0.heap.size<=x/\x<w.heap.size)
 lt:∀x,F' x->x<w.heap.size
 blk:∀x∈L,w.heap[x.1]?=some x.2
 off:∀x∈L,¬F' x.1
theorem Dv.step{w0 w w':World}{bd:Nat}{A A':Dev}{F F':Nat->Prop}{L:List (Nat × Obj)}(D:Dv w0 w bd A F F' L)(h:DevAt w' bd A' (grow F' w w'))(t:Turn F' w w'):Dv w0 w' bd A' F (grow F' w w') L:=by
 have h1:=t.size;have h0:=D.turn.size;have ht:Turn F w0 w':=D.turn.trans t fun x h=>(D.own x h).elim .inl fun h => .inr h.1;obtain⟨S,hS,hx⟩:=t;refine⟨h,ht,fun x hx=>?_,fun x hx=>?_,fun x hx'=>?_,fun x hx' hg=>?_⟩
 .rcases hx with hx|hx
  .rcases D.own x hx with h|h
   .exact .inl h
   .exact .inr ⟨h.1,by omega⟩
  .exact .inr ⟨by omega,hx.2⟩
 .rcases hx with hx|hx
  .have:=D.lt x hx;omega
  .exact hx.2
 .rw[hx.block x.1 (Al (D.blk x hx')) fun h=>D.off x hx' (hS _ h)];exact D.blk x hx'
 .rcases hg with hg|hg
  .exact D.off x hx' hg
  .have:=Al (D.blk x hx');omega
theorem Dv.same{w0 w w':World}{bd:Nat}{A A':Dev}{F F':Nat->Prop}{L:List (Nat × Obj)}(D:Dv w0 w bd A F F' L)(h:DevAt w' bd A' F')(t:Turn F' w w'):Dv w0 w' bd A' F F' L:=by
 have h1:=t.size;have ht:Turn F w0 w':=D.turn.trans t fun x h=>(D.own x h).elim .inl fun h => .inr h.1;obtain⟨S,hS,hx⟩:=t
 exact⟨h,ht,fun x hx=>(D.own x hx).elim .inl fun h => .inr ⟨h.1,by omega⟩,fun x hx=>by have:=D.lt x hx;omega,fun x hx'=>by
  rw[hx.block x.1 (Al (D.blk x hx')) fun h=>D.off x hx' (hS _ h)];exact D.blk x hx',D.off⟩
theorem Dv.call{w0 w w':World}{bd:Nat}{A:Dev}{F F':Nat->Prop}{L:List (Nat × Obj)}(D:Dv w0 w bd A F F' L)(hx:Ext [] w w'):Dv w0 w' bd A F F' L:=D.same (D.dev.keep0 hx) (.of0 hx)
theorem Dv.other{w0 w w':World}{bd:Nat}{A:Dev}{F F':Nat->Prop}{L L':List (Nat × Obj)}(D:Dv w0 w bd A F F' L){b:Nat}(hx:Ext [b] w w')(hb:w0.heap.size<=b)(hn:¬F' b)(hL:∀x∈L',w'.heap[x.1]?=some x.2/\¬F' x.1):Dv w0 w' bd A F F' L':=by
 have h1:=hx.size;refine⟨D.dev.keep hx fun x h=>by rw[qab.1 h];exact hn,D.turn.trans (.of hx (S:=[b]) (F:=fun x=>x=b) fun x h=>qab.1 h) fun x h => .inr (by rw[h];exact hb),fun x hx=>(D.own x hx).elim .inl fun h => .inr ⟨h.1,by omega⟩,fun x hx=>by have:=D.lt x hx;omega,fun x h=>(hL x h).1,fun x h=>(hL x h).2⟩
theorem Dv.sub{w0 w:World}{bd:Nat}{A:Dev}{F F':Nat->Prop}{L L':List (Nat × Obj)}(D:Dv w0 w bd A F F' L)(h:∀x∈L',x∈L):Dv w0 w bd A F F' L':=⟨D.dev,D.turn,D.own,D.lt,fun x hx=>D.blk x (h x hx),fun x hx=>D.off x (h x hx)⟩
theorem VL{Q:Exit->Env->World->Prop}{e:Env}{w:World}{j:Option Code}(hj:j=some .ret)(h:Q .ret e w):LX Q e w j:=by subst hj;exact h
theorem Iv{w0 w:World}{bd bj b4 Db:Nat}{A:Dev}{F F':Nat->Prop}{L:List (Nat × Obj)}{e:Int}{oj:Obj}{d:Deferred}(D:Dv w0 w bd A F F' ((b4,Bl 28 [.int .i64 e])::L))(hd:d.target=.collected Db)(hDm:(Db,.deferred (some []))∈L)(hDb:w0.heap.size<=Db)(hjm:(bj,oj)∈L)(hjD:bj≠Db)(h4D:b4≠Db) :
  Marks [d] w fun w'=>∃v,(loadVar 28 ⟨b4,0,none⟩).run prog w'=.ok v w'/\(v=.int .i64 e/\∃F',Dv w0 w' bd A F F' [(bj,oj)]):=by
 refine⟨Db,hd,D.blk _ (qah _ hDm),?_⟩;have hx:=Ext.setB w Db (.deferred none)
 have h4:(w.putObj Db (.deferred none)).heap[b4]?=some (Bl 28 [.int .i64 e]):=by
  rw[hx.block b4 (Al (D.blk _ (qad ..))) (by simpa using h4D)];exact D.blk _ (qad ..)
 refine⟨_,F8 EX (Au h4 0),rfl,F',D.other hx hDb (D.off _ (qah _ hDm)) fun x hx'=>?_⟩;rw[qab.1 hx'];exact⟨by rw[hx.block bj (Al (D.blk _ (qah _ hjm))) (by simpa using hjD)];exact D.blk _ (qah _ hjm),D.off _ (qah _ hjm)⟩
theorem YC{w:World}{bj bd:Nat}{J:Jr}{A:Dev}{F:Nat->Prop}(h:w.heap[bj]?=some (Bl TJ (JB bd J)))(hJ:J.Ok)(a:Option Addr)(c n:Nat)(b:Byt)(R:Rd w a 1 B8 b)(hn:b.length=n)(hm:n<=900000)(hc:n<=c)(hlt:∀x,F x->x<w.heap.size)(hFj:¬F bj)(hFa:b=[]\/¬F (adr a).block){mx:Nat}(hfew:Few A mx)(hmx:mx<=1000000000)(DA:DevAt w bd A F) :
  Ret prog 87 #[ptr bj,.slice a n c] w fun v w'=>v=.int .i64 (Cq A J b).1/\∃F',Dv w w' bd (Cq A J b).2 F F' [(bj,Bl TJ (JB bd J))]:=by
 subst hn;obtain⟨w0,rfl,H⟩:=qE w;have hjl:=Al h;have hbl:=Rd.lt8 R;have hb2:=Du b.length;have hb3:=M8 b.length;refine HI (fn:=f87) func87 U [.pointer (some ⟨bj,0,none⟩),.slice a b.length c] U ?_;refine Ad (BN _ (.pointer _) U U H ?_);rintro b2 w - H;refine Bf W7 H ?_;rintro b4 w - H;refine qA (Aq (Ad (Aj U (Ah qB (YB a b.length c _) U ?_))));rintro v w ⟨bx,rfl,hbx,hbxn,hx11⟩;refine qA (AB ?_);have ho2:w0.heap.size<=b2:=(H.own _ (qah _ (qad ..))).elim (fun h=>by cases h) id;have ho4:w0.heap.size<=b4:=(H.own _ (qad ..)).elim (fun h=>by cases h) id;have hl2:=H.lt at1;have hl4:=H.lt at0;have hb24:=H.ne at0 at1 (by decide);replace H:=H.call hx11;have hbxL:=Al hbx;refine FS U qB ?_;intro fn tmps hts htm Db l w2 hDb hl hx2 hD hrec
 obtain⟨lo,hlo,hrec'⟩:∃lo,lo=_/\w2.heap[l]?=some (.loop lo):=⟨_,rfl,hrec⟩;have H2:=H.call hx2;have hbx2:w2.heap[bx]?=some (Bl 24 [.slice a b.length c]):=by rw[hx2.block bx hbxL (by simp)];exact hbx
 have hx02:Ext [] w0 w2:=H2.ext;have hnew:∀x,w0.heap.size<=x->¬F x:=fun x hx hF=>by have:=hlt x hF;omega
 have hj2:w2.heap[bj]?=some (Bl TJ (JB bd J)):=by rw[hx02.block bj hjl (by simp)];exact h
 obtain⟨L,hL⟩:=qD ([(bj,Bl TJ (JB bd J)),(b2,Bl 81 [ptr bj]),(Db,.deferred (some []))]:List (Nat × Obj))
 have D2:Dv w0 w2 bd A F F ((l,.loop lo)::(b4,Bl 28 [.int .i64 0])::L):=by
  refine⟨DA.keep0 hx02,.of0 hx02,fun x h => .inl h,fun x hx=>by have:=hlt x hx;have:=hx02.size;omega,fun x hx=>?_,fun x hx=>?_⟩
  .rw[hL]at hx;simp only[qaa,qaj,or_false]at hx
   rcases hx with rfl|rfl|rfl|rfl|rfl
   .exact hrec'
   .exact H2.get at0
   .exact hj2
   .exact H2.get at1
   .exact hD
  .rw[hL]at hx;simp only[qaa,qaj,or_false]at hx;have h1:=hx11.size;have h2:=H.ext.size
   rcases hx with rfl|rfl|rfl|rfl|rfl
   .exact hnew _ (by dsimp only;omega)
   .exact hnew _ ho4
   .exact hFj
   .exact hnew _ ho2
   .exact hnew _ (by dsimp only;omega)
 have hsz11:=hx11.size;have hszH:=H.ext.size
 have hneX:∀(o1 o2:Obj),∀x∈(l,o1)::(b4,o2)::L,x.1≠bx:=by
  intro o1 o2 x hx;rw[hL]at hx;simp only[qaa,qaj,or_false]at hx
  rcases hx with rfl|rfl|rfl|rfl|rfl <;> (dsimp only;omega)
 refine Ret.mono (VK (l:=l) hbx2 (R.ext0 hx02) hc (by omega)
  (fun i w'=>(wrP A J b i).1=0/\∃F',Dv w0 w' bd (wrP A J b i).2 F F' ((l,.loop lo)::(b4,Bl 28 [.int .i64 0])::L)/\¬F' bx/\bx<w'.heap.size)
  (fun w'=>(wrP A J b (blk b.length - 1)).1≠0/\∃F',Dv w0 w' bd (wrP A J b (blk b.length - 1)).2 F F' ((l,.loop { lo with state := .done,pending:=some .ret })::(b4,Bl 28 [.int .i64 (wrP A J b (blk b.length - 1)).1])::L)) ?_ ?_ ?_) ?_
 .exact⟨rfl,F,D2,hnew _ (by have h1:=hx11.size;have h2:=H.ext.size;omega),Al hbx2⟩
 .rintro i w' w'' ⟨he,F',D,hnb,hlb⟩ hx;refine⟨he,F',D.other hx (by omega) hnb fun x hx'=>⟨?_,D.off x hx'⟩,hnb,by have:=hx.size;omega⟩;rw[hx.block x.1 (Al (D.blk x hx')) (by simpa using hneX _ _ x hx')];exact D.blk x hx'
 .rintro i ai ci w' hi ⟨he,F',D,hnb,hlb⟩ Rc hai ⟨a9,n9,c9,hbx9⟩;have hcl:=K3 b i;have hw0':=D.turn.size
  obtain⟨Lb,hLb,hLa⟩:∃Lb:List (Nat × Obj),(∀x∈Lb,w'.heap[x.1]?=some x.2/\¬F' x.1/\x.1<w0.heap.size)/\(b=[]\/∃o,((adr a).block,o)∈Lb):=by
   rcases hbl with h0|h0
   .exact⟨[],by simp,.inl h0⟩
   .by_cases hbe:b=[]
    .exact⟨[],by simp,.inl hbe⟩
    .obtain⟨o,ho⟩:∃o,w'.heap[(adr a).block]?=some o:=⟨_,Array.getElem?_eq_getElem (by omega)⟩;refine⟨[((adr a).block,o)],fun x hx=>?_,.inr ⟨o,qad ..⟩⟩;rw[qab.1 hx];exact⟨ho,fun hF=>(D.own _ hF).elim (hFa.resolve_left hbe) fun h=>by omega,h0⟩
  have hneL:∀(o2:Obj),∀x∈(b4,o2)::(bx,Bl 24 [.slice a9 n9 c9])::(Lb++L),x.1≠l:=by
   intro o2 x hx;rw[hL]at hx;simp only[qaa,qat,qaj,or_false]at hx
   rcases hx with rfl|rfl|hx|rfl|rfl|rfl
   .dsimp only;omega
   .dsimp only;omega
   .have:=(hLb x hx).2.2;omega
   .dsimp only;omega
   .dsimp only;omega
   .dsimp only;omega
  have hneL4:∀(o1:Obj),∀x∈(l,o1)::(bx,Bl 24 [.slice a9 n9 c9])::(Lb++L),x.1≠b4:=by
   intro o2 x hx;rw[hL]at hx;simp only[qaa,qat,qaj,or_false]at hx
   rcases hx with rfl|rfl|hx|rfl|rfl|rfl
   .dsimp only;omega
   .dsimp only;omega
   .have:=(hLb x hx).2.2;omega
   .dsimp only;omega
   .dsimp only;omega
   .dsimp only;omega
  have DL:Dv w0 w' bd (wrP A J b i).2 F F' ((l,.loop lo)::(b4,Bl 28 [.int .i64 0])::(bx,Bl 24 [.slice a9 n9 c9])::(Lb++L)):=by
   refine⟨D.dev,D.turn,D.own,D.lt,fun x hx=>?_,fun x hx=>?_⟩
   .simp only[qaa,qat]at hx
    rcases hx with rfl|rfl|rfl|hx|hx
    .exact D.blk _ (qad ..)
    .exact D.blk _ (qah _ (qad ..))
    .exact hbx9
    .exact(hLb x hx).1
    .exact D.blk _ (qah _ (qah _ hx))
   .simp only[qaa,qat]at hx
    rcases hx with rfl|rfl|rfl|hx|hx
    .exact D.off _ (qad ..)
    .exact D.off _ (qah _ (qad ..))
    .exact hnb
    .exact(hLb x hx).2.1
    .exact D.off _ (qah _ (qah _ hx))
  have hout:∀(o1 o2:Obj) {wz:World} {Az:Dev} {Fz:Nat->Prop},Dv w0 wz bd Az F Fz ((l,o1)::(b4,o2)::(bx,Bl 24 [.slice a9 n9 c9])::(Lb++L))->wz.heap[bx]?=w'.heap[bx]? /\ (b=[]\/wz.heap[(adr a).block]?=w'.heap[(adr a).block]?)/\Dv w0 wz bd Az F Fz ((l,o1)::(b4,o2)::L)/\¬Fz bx/\bx<wz.heap.size:=by
   intro o1 o2 wz Az Fz Dz;have hm:(bx,Bl 24 [.slice a9 n9 c9])∈(l,o1)::(b4,o2)::(bx,Bl 24 [.slice a9 n9 c9])::(Lb++L):=by simp
   refine⟨(Dz.blk _ hm).trans hbx9.symm,?_,Dz.sub ?_,Dz.off _ hm,Al (Dz.blk _ hm)⟩
   .rcases hLa with h0|⟨o,ho⟩
    .exact .inl h0
    right;rw[(hLb _ ho).1];exact Dz.blk ((adr a).block,o) (qah _ (qah _ (qah _ (qbb _ ho))))
   .intro x hx;simp only[qaa,qat]at hx |-
    rcases hx with h|h|h
    .exact .inl h
    .exact .inr (.inl h)
    .exact .inr (.inr (.inr (.inr h)))
  have hlo1:lo.state=.ready:=by rw[hlo]
  have hlo3:lo.pending=none:=by rw[hlo]
  have hll:¬F' l:=D.off _ (qad ..);have hl0:w0.heap.size<=l:=by omega
  have hDL:∀x∈(b4,Bl 28 [.int .i64 0])::(bx,Bl 24 [.slice a9 n9 c9])::(Lb++L),w'.heap[x.1]?=some x.2/\¬F' x.1:=fun x hx=>⟨DL.blk x (qah _ hx),DL.off x (qah _ hx)⟩;subst hlo;refine Jd (DL.blk _ (qad ..)) U (GN _ (Ln hts htm) ?_);refine Ad (Ac U (qA (A5 (Ai U (Ab (Jn (DL.blk _ (qad ..)) U ?_))))));intro wR lo2 hxR hlR hlo2
  have D1:Dv w0 wR bd (wrP A J b i).2 F F' ((l,.loop lo2)::(b4,Bl 28 [.int .i64 0])::(bx,Bl 24 [.slice a9 n9 c9])::(Lb++L)):=DL.other hxR hl0 hll fun x hx=>by
   rcases qaa.1 hx with rfl|hx
   .exact⟨hlR,hll⟩
   .exact⟨by rw[hxR.block x.1 (Al (hDL x hx).1) (by simpa using hneL _ x hx)];exact(hDL x hx).1,(hDL x hx).2⟩
  have RR:Rd wR ai 1 B8 (BS b i):=by
   rcases hbl with h0|h0
   .rw[BS,h0];simp only[List.drop_nil,List.take_nil];exact Rd.nil
   .exact Rc.ext hxR (by rw[hai];simp;omega)
  have hmj:∀(o1 o2:Obj),(bj,Bl TJ (JB bd J))∈(l,o1)::(b4,o2)::(bx,Bl 24 [.slice a9 n9 c9])::(Lb++L):=fun o1 o2=>by simp[hL]
  have hm2:∀(o1 o2:Obj),(b2,Bl 81 [ptr bj])∈(l,o1)::(b4,o2)::(bx,Bl 24 [.slice a9 n9 c9])::(Lb++L):=fun o1 o2=>by simp[hL]
  have hm4:∀(o1 o2:Obj),(b4,o2)∈(l,o1)::(b4,o2)::(bx,Bl 24 [.slice a9 n9 c9])::(Lb++L):=fun o1 o2=>by simp
  have hjR:=D1.blk _ (hmj _ _)
  have hnx:wrP A J b (i+1)=(LF (wrP A J b i).2 J i 1 (Cp J.seq i (BS b i)),Iu (wrP A J b i).2 J i 1 (Cp J.seq i (BS b i))):=by
   have h9:wrP A J b (i+1)=if(wrP A J b i).1=0 then(LF (wrP A J b i).2 J i 1 (Cp J.seq i (BS b i)),Iu (wrP A J b i).2 J i 1 (Cp J.seq i (BS b i)))else wrP A J b i:=rfl;rw[h9,if_pos he]
  refine AB (BQ [([0,1,2,3,4],5),([],6),([],7)] (fun z=>z.heap[b2]?=some (Bl 81 [ptr bj])) [] mixed (D1.blk _ (hm2 _ _)) ?_);refine A7 U U (BO MR U (fun _ hx=>Au hx 0) ?_);refine BI U (BO MR U (fun _ hx=>Au hx 0) ?_);refine BI U (Ca U (Bj ?_))
  skip
  refine Ah qB (OT (show(World.drew wR).heap[bj]?=_ from hjR) hJ i ai ci _ (BS b i) (RR.ext0 (Ext.drew [] wR)) U (hm:=by omega)) U ?_;rintro v w5 F19;obtain⟨a19,c19,rfl,R19,hc19⟩:=Fresh.rdB F19;have D5:=(D1.call (Ext.drew [] wR)).call F19.ext;refine Ab (Be (D5.blk _ (hm2 _ _)) (A7 U U ?_));refine Bj (Ah qB (WI (D5.blk _ (hmj _ _)) hJ i 1 a19 c19 _ (Cp J.seq i (BS b i)) R19 U (by rw[Ky];omega) D5.lt (D5.off _ (hmj _ _)) (LQ hfew i) D5.dev) U ?_);rintro v w6 ⟨rfl,DA6,hT6⟩;have D6:=D5.step DA6 hT6;refine Ab (Be (D6.blk _ (hm2 _ _)) (A7 U U ?_));refine Bj (Ac U (Ab (Be (D6.blk _ (hm2 _ _)) (B2 (Ad (Ae U (AN U U (qA (Ar _ U ?_ ?_)))))))))
  .intro g;replace g:=Bh g;replace H:=Ctx.start1 (D6.blk _ (hm4 _ _));refine Ad (Ae U (Bk (.int _ _) FV U U U H at0 (by decide) ?_));rintro w H;refine qA (Aw (AK ?_));have hx8:=H.ext;have h4o:=D6.off _ (hm4 _ _)
   have D8:Dv w0 w bd (Iu (wrP A J b i).2 J i 1 (Cp J.seq i (BS b i))) F _ ((l,.loop lo2)::(b4,Bl 28 [.int .i64 (LF (wrP A J b i).2 J i 1 (Cp J.seq i (BS b i)))])::(bx,Bl 24 [.slice a9 n9 c9])::(Lb++L)):=D6.other hx8 ho4 h4o fun x hx=>by
    have hx0:x=(b4,Bl 28 [.int .i64 (LF (wrP A J b i).2 J i 1 (Cp J.seq i (BS b i)))])\/x∈(l,Obj.loop lo2)::(bx,Bl 24 [.slice a9 n9 c9])::(Lb++L):=by
     simp only[qaa]at hx |-
     rcases hx with h|h|h
     .exact .inr (.inl h)
     .exact .inl h
     .exact .inr (.inr h)
    rcases hx0 with rfl|hx0
    .exact⟨H.get at0,h4o⟩
    .have hx1:x∈(l,Obj.loop lo2)::(b4,Bl 28 [.int .i64 0])::(bx,Bl 24 [.slice a9 n9 c9])::(Lb++L):=by
      simp only[qaa]at hx0 |-
      rcases hx0 with h|h
      .exact .inl h
      .exact .inr (.inr h)
     exact⟨by rw[hx8.block x.1 (Al (D6.blk x hx1)) (by simpa using hneL4 _ x hx0)];exact D6.blk x hx1,D6.off x hx1⟩
   refine⟨lo2,D8.blk _ (qad ..),?_⟩;have hx9:=Ext.setB w l (.loop { lo2 with state := .done,pending:=some .ret })
   have D9:Dv w0 (w.putObj l (.loop { lo2 with state := .done,pending:=some .ret })) bd (Iu (wrP A J b i).2 J i 1 (Cp J.seq i (BS b i))) F _ ((l,.loop { lo2 with state := .done,pending:=some .ret })::(b4,Bl 28 [.int .i64 (LF (wrP A J b i).2 J i 1 (Cp J.seq i (BS b i)))])::(bx,Bl 24 [.slice a9 n9 c9])::(Lb++L)):=D8.other hx9 hl0 (D8.off _ (qad ..)) fun x hx=>by
    rcases qaa.1 hx with rfl|hx
    .exact⟨G7 (D8.blk _ (qad ..)),D8.off (l,.loop lo2) (qad ..)⟩
    .have hx1:=qah (l,Obj.loop lo2) hx;exact⟨by rw[hx9.block x.1 (Al (D8.blk x hx1)) (by simpa using hneL _ x hx)];exact D8.blk x hx1,D8.off x hx1⟩
   obtain⟨g1,g2,g3,_,_⟩:=hout _ _ D9;have hst:wrP A J b (blk b.length - 1)=wrP A J b (i+1):=Uy (by rw[hnx];exact g) _ (by omega);rw[hst,hnx];subst hlo2;exact⟨g1,g2,false,rfl,(fun h=>by cases h),fun _=>⟨g,_,g3⟩⟩
  .intro g;replace g:=Bi g;refine Ap (AH (GF (D6.blk _ (qad ..)) hlo2 U U ?_));intro wF hxF hlF
   have D9:=D6.other (L':=(l,_)::(b4,Bl 28 [.int .i64 0])::(bx,Bl 24 [.slice a9 n9 c9])::(Lb++L)) hxF hl0 (D6.off _ (qad ..)) fun x hx=>by
    rcases qaa.1 hx with rfl|hx
    .exact⟨hlF,D6.off (l,.loop lo2) (qad ..)⟩
    .have hx1:=qah (l,Obj.loop lo2) hx;exact⟨by rw[hxF.block x.1 (Al (D6.blk x hx1)) (by simpa using hneL _ x hx)];exact D6.blk x hx1,D6.off x hx1⟩
   obtain⟨g1,g2,g3,g4,g5⟩:=hout _ _ D9;refine⟨g1,g2,true,rfl,fun _=>⟨by rw[hnx];exact g,_,by rw[hnx];exact g3,g4,g5⟩,fun h=>by cases h⟩
 .have hmD:(Db,Obj.deferred (some []))∈L:=by simp[hL]
  have hmJ:(bj,Bl TJ (JB bd J))∈L:=by simp[hL]
  have hm2:(b2,Bl 81 [ptr bj])∈L:=by simp[hL]
  have hneL:∀(o2:Obj),∀x∈(b4,o2)::L,x.1≠l:=by
   intro o2 x hx;rw[hL]at hx;simp only[qaa,qaj,or_false]at hx
   rcases hx with rfl|rfl|rfl|rfl <;> (dsimp only;omega)
  have hneL4:∀x∈L,x.1≠b4:=by
   intro x hx;rw[hL]at hx;simp only[qaa,qaj,or_false]at hx
   rcases hx with rfl|rfl|rfl <;> (dsimp only;omega)
  have hl0:w0.heap.size<=l:=by omega
  have hD0:w0.heap.size<=Db:=by omega
  have hjD:bj≠Db:=by omega
  have h4D:b4≠Db:=by omega
  have hswap:∀{w3 w4:World} {A':Dev} {F':Nat->Prop} {o1 o2:Obj},Dv w0 w3 bd A' F F' ((l,o1)::(b4,o2)::L)->Ext [l] w3 w4->Dv w0 w4 bd A' F F' ((b4,o2)::L):=fun{w3 w4 A' F' o1 o2} D hx =>
   D.other hx hl0 (D.off (l,o1) (qad ..)) fun x hx'=>⟨by rw[hx.block x.1 (Al (D.blk x (qah _ hx'))) (by simpa using hneL _ x hx')];exact D.blk x (qah _ hx'),D.off x (qah _ hx')⟩
  rintro v w3 (⟨he,F',D,hnb,hlb⟩|⟨he,F',D⟩)
  .refine⟨_,D.blk _ (qad ..),by rw[hlo];exact(fun h=>by cases h),Gb (by rw[hlo]) ?_⟩;have hx4:=Ext.setB w3 l (.loop { lo with state := .exhausted });generalize w3.putObj l (.loop { lo with state := .exhausted })=w4 at hx4 |-;replace D:=hswap D hx4;refine AH (Aa ?_);have hfP:=LQ (J:=J) (b:=b) hfew (blk b.length - 1);have hmc:∀{x:Nat × Obj} {o2:Obj},x∈L->x∈(b4,o2)::L:=fun h=>qah _ h
   have hset:∀{w5 w6:World} {A':Dev} {F':Nat->Prop} {o1 o2:Obj},Dv w0 w5 bd A' F F' ((b4,o1)::L)->Ext [b4] w5 w6->w6.heap[b4]?=some o2->Dv w0 w6 bd A' F F' ((b4,o2)::L):=fun{w5 w6 A' F' o1 o2} D hx h4 =>
    D.other hx ho4 (D.off (b4,o1) (qad ..)) fun x hx'=>by
     rcases qaa.1 hx' with rfl|hx'
     .exact⟨h4,D.off (b4,o1) (qad ..)⟩
     .exact⟨by rw[hx.block x.1 (Al (D.blk x (hmc hx'))) (by simpa using hneL4 x hx')];exact D.blk x (hmc hx'),D.off x (hmc hx')⟩
   refine Aq (Ad (Bq MR U (Au (D.blk _ (hmc hm2)) 0) ?_));refine AD U (Af KZ U (Bq Cy U (Au (D.blk _ (hmc hmJ)) (0+0)) ?_));refine Ah qB (Mv hfP D.dev) U ?_;rintro v w5 ⟨rfl,DA5,hT5⟩;have D5:=D.same DA5 hT5;refine Ac U (qA (Ad (Ae U (AN U U (qA (Ar _ U ?_ ?_))))))
   .intro g2;replace g2:=Bh g2;replace H:=Ctx.start1 (D5.blk _ (qad ..));refine Ad (Ae U (Bk (.int _ _) FV U U U H at0 (by decide) ?_));rintro w H;refine qA (Aw (An (LP U U (Marks.mono ?_ (Iv (hset D5 H.ext (H.get at0)) U hmD hD0 hmJ hjD h4D)))));rintro w6 ⟨v,hv,rfl,hF⟩;refine⟨_,hv,?_,?_⟩
    .rw[Cq,if_pos he,if_neg g2]
    .rw[Cq,if_pos he,if_neg g2];exact hF
   .intro g2;replace g2:=Bi g2;refine Ap (Aa (Aq (BQ [([0,1,2,5,6],3),([4],7),([],8),([],9)] (fun z=>z.heap[b2]?=some (Bl 81 [ptr bj])) [] mixed (D5.blk _ (hmc hm2)) ?_)));refine A7 U U (BO MR U (fun _ hx=>Au hx 0) ?_);refine Ca U (NQ AO U (BO MR U (fun _ hx=>Au hx 0) ?_));refine Ca U (Bj ?_)
    skip
    refine Ah qB (ER (b.length:Int) _) U ?_;rintro v wB ⟨rfl,rfl⟩;rw[GW];refine Ab (Be (D5.blk _ (hmc hm2)) (A7 U U ?_));refine HH U U U ?_;rw[show((blk b.length:Int) - 1)=((blk b.length - 1:Nat):Int)by omega];refine Bj (Ah qB (Abz (show(World.drew w5).heap[bj]?=_ from D5.blk _ (hmc hmJ)) hJ a c _ b U) U ?_);rintro v w6 F39;obtain⟨a39,c39,rfl,R39,hc39⟩:=Fresh.rdB F39;have D6:=(D5.call (Ext.drew [] w5)).call F39.ext;refine Ab (Be (D6.blk _ (hmc hm2)) (A7 U U ?_));refine Bj (Ah qB (WI (D6.blk _ (hmc hmJ)) hJ (blk b.length - 1) 2 a39 c39 _ (Fw J.seq b) R39 U (by rw[Ua];decide) D6.lt (D6.off _ (hmc hmJ)) (JR hfP) D6.dev) U ?_);rintro v w7 ⟨rfl,DA7,hT7⟩;have D7:=D6.step DA7 hT7;refine Ab (Be (D7.blk _ (hmc hm2)) (A7 U U ?_))
    refine Bj (Ac U (Ab (Be (D7.blk _ (hmc hm2)) (B2 (Ad (Ae U (AN U U (qA (Ar _ U ?_ ?_)))))))))
    .intro g3;replace g3:=Bh g3;replace H:=Ctx.start1 (D7.blk _ (qad ..));refine Ad (Ae U (Bk (.int _ _) FV U U U H at0 (by decide) ?_));rintro w H;refine qA (Aw (An (LP U U (Marks.mono ?_ (Iv (hset D7 H.ext (H.get at0)) U hmD hD0 hmJ hjD h4D)))));rintro w8 ⟨v,hv,rfl,hF⟩;refine⟨_,hv,?_,?_⟩
     .rw[Cq,if_pos he,if_pos g2,if_neg g3]
     .rw[Cq,if_pos he,if_pos g2,if_neg g3];exact hF
    .intro g3;replace g3:=Bi g3;refine Ap (Aa (Ad (Bq MR U (Au (D7.blk _ (hmc hm2)) 0) ?_)));refine AD U (Af KZ U (Bq Cy U (Au (D7.blk _ (hmc hmJ)) (0+0)) ?_));refine Ah qB (Mv (HP (JR hfP) _ _) D7.dev) U ?_;rintro v w8 ⟨rfl,DA8,hT8⟩;have D8:=D7.same DA8 hT8;replace H:=Ctx.start1 (D8.blk _ (qad ..));refine Bk (.int _ _) FV U U U H at0 (by decide) ?_;rintro w H;refine qA (Aw (LP U U (Marks.mono ?_ (Iv (hset D8 H.ext (H.get at0)) U hmD hD0 hmJ hjD h4D))));rintro w9 ⟨v,hv,rfl,hF⟩;refine⟨_,hv,?_,?_⟩
     .rw[Cq,if_pos he,if_pos g2,if_pos g3];rfl
     .rw[Cq,if_pos he,if_pos g2,if_pos g3];exact hF
  .refine⟨_,D.blk _ (qad ..),(fun h=>by cases h),VL U ?_⟩;have hx4:=Ext.setB w3 l (.loop { lo with state := .exhausted,pending:=some .ret });generalize w3.putObj l (.loop { lo with state := .exhausted,pending:=some .ret })=w4 at hx4 |-;replace D:=hswap D hx4;refine AK (An (LP U U (Marks.mono ?_ (Iv D U hmD hD0 hmJ hjD h4D))));rintro w6 ⟨v,hv,rfl,hF⟩;refine⟨_,hv,?_,?_⟩
   .rw[Cq,if_neg he]
   .rw[Cq,if_neg he];exact hF
theorem Ah7{w:World}{bj bd:Nat}{J:Jr}(h:w.heap[bj]?=some (Bl TJ (JB bd J))) :
  Ret prog 86 #[ptr bj] w fun v w'=>v=.int .i64 (bif J.dead then 3 else 0)/\w=w':=by
 obtain⟨w0,rfl⟩:=qD w;unfold JB at h;have H:=Ctx.start1 h;refine Ax (fn:=f86) func86 U [.pointer (some ⟨bj,0,none⟩)] U ?_;refine Ad (Ac U (qA (Aq (AB (Ad (Ao U (BC W6 U ?_)))))));refine Am U (qA (Br U (Ad (Ao U (AD U (Af Tp U (AG Gp U H at0 U (Am U (qA ?_)))))))));refine Ar _ U ?_ ?_
 .intro h1;refine Ad (Ac U (qA (Aw (AK (An (AE (v:=(.int _ _)) U U U ?_))))));exact⟨by simp[h1],rfl⟩
 .intro h1;refine Ap (AH (Aa (Ad (Ac U (qA (Aw (AE (v:=(.int _ _)) U U U ?_)))))));exact⟨by simp[h1],rfl⟩
theorem Ae8(w:World):Ret prog 86 #[.pointer none] w fun v w'=>v=.int .i64 2/\w=w':=by
 refine Ax (fn:=f86) func86 U [.pointer none] U (Ad (Ac U (qA (Aq (AB (Ad (Ao U (BC W6 U ?_))))))));refine Am U (qA (Eg U (Ad (Ac U (qA (Aw (AK (An (AE (v:=(.int _ _)) U U U ?_)))))))));exact⟨rfl,rfl⟩
theorem WY{w:World}{bj bd:Nat}{J:Jr}(h:w.heap[bj]?=some (Bl TJ (JB bd J)))(hJ:J.Ok) :
  Ret prog 46 #[ptr bj] w fun v w'=>v=.int .i64 ((J.size - J.taken:Nat):Int)/\Ext [] w w':=by
 obtain⟨w0,rfl,H⟩:=qE w;have h1:=hJ.s2;have h2:=hJ.t;refine Ax (fn:=Tryz.f46) func46 U [.pointer (some ⟨bj,0,none⟩)] U ?_;refine Ad (Ac U (qA (Aq (Ad (Ao U (BC W6 U ?_))))));refine qA (Br U (Ap (Aa (IV (fun x=>x=_) mixed U ?_))));refine FM U (Dx U (C4 Lc U (Kr DE U (by rintro _ rfl;exact(Ctx.old0 H.drew (Au h _))) ?_)));refine FM U (Dx U (C4 Le U (Kr DE U (by rintro _ rfl;exact(Ctx.old0 H.drew (Au h _))) ?_)));refine PQ U U U (EW U (Kf ?_));rintro _ rfl;replace H:=H.drew;refine Aw (AE (v:=(.int _ _)) U U U ?_);exact⟨qac (Value.int .i64) (by omega),H.ext⟩
theorem Ae9{w:World}{bj bd:Nat}{J:Jr}(h:w.heap[bj]?=some (Bl TJ (JB bd J))) :
  Ret prog 35 #[ptr bj] w fun v w'=>v=.tuple #[.int .i64 (J.at':Int),.int .u64 (J.seq:Int)]/\Ext [] w w':=by
 obtain⟨w0,rfl,H⟩:=qE w;refine Ax (fn:=f35) func35 U [.pointer (some ⟨bj,0,none⟩)] U ?_;refine Ad (Ac U (Ac U (qA (Aq (Ad (Ao U (BC W6 U ?_)))))));refine qA (Br U (Ap (Aa (IV (fun x=>x=_) mixed U ?_))));refine FM U (Dx U (C4 Ld U (Kr DE U (by rintro _ rfl;exact(Ctx.old0 H.drew (Au h _))) ?_)));refine FM U (Dx U (C4 Jg U (Kr FT U (by rintro _ rfl;exact(Ctx.old0 H.drew (Au h _))) ?_)));refine EW U (EW U (Kf ?_));rintro _ rfl;replace H:=H.drew;refine Aw (BA (v1:=(.int _ _)) (v2:=(.int _ _)) U U U U ?_);exact⟨rfl,H.ext⟩
def Jr.passes(J:Jr)(n:Nat):Jr:={ J with at':=(J.at'+blk n) % J.size,seq:=J.seq+1,taken:=J.taken+blk n }
theorem QK{w:World}{bj bd:Nat}{J:Jr}(h:w.heap[bj]?=some (Bl TJ (JB bd J)))(hJ:J.Ok)(n:Nat)(ht:J.taken+blk n<=J.size)(hn:n<=100000000:=by omega):
  Ret prog 76 #[ptr bj,.int .i64 (n:Int)] w fun v w'=>v=.tuple #[]/\w'.heap[bj]?=some (Bl TJ (JB bd (J.passes n)))/\Ext [bj] w w':=by
 obtain⟨w0,rfl⟩:=qD w;unfold JB at h;have H:=Ctx.start1 h;have h1:=hJ.s1;have h2:=hJ.s2;have h3:=hJ.a;have h4:=hJ.q;have hm:=qbv (J.at'+blk n) (show 0<J.size by omega);refine Ax (fn:=f76) func76 U [.pointer (some ⟨bj,0,none⟩),.int .i64 (n:Int)] U ?_;refine Ad (Ae U (Ah qB (ER (n:Int) _) U ?_));rintro v w ⟨rfl,rfl⟩;rw[GW];refine Ac U (qA (Kq [([0,1,2,3,4,5,6,7,8,9,10,11,12,13,14,15,16,17,18,19,20,21,22,23,24,25,26],27),([28,29],30),([31,32],33)] (fun x=>x=World.drew w0) [27,30,33] mixed (rfl) ?_));refine A7 U U (CP U (CP U (CP U (CP U (Bg U (AF Ld U (PU U DE U (by rintro _ rfl;exact H.drew) at0 U ?_)))))));refine BI U (Ew U U ?_);refine CP U (Bg U (AF Lc U (PU U DE U (by rintro _ rfl;exact H.drew) at0 U ?_)))
 refine Aft U U U ?_;rw[show((J.at':Int)+(blk n:Int)) % (J.size:Int)=(((J.at'+blk n) % J.size:Nat):Int)by rw[Int.natCast_emod,Int.natCast_add]];refine CP U (Bg U (AF Jg U (PU U FT U (by rintro _ rfl;exact H.drew) at0 U ?_)));refine XA U U U (CP U (Bg U (AF Le U (PU U DE U (by rintro _ rfl;exact H.drew) at0 U ?_))));refine BI U (Ew U U ?_);refine Bg U (AF Ld U (Bj ?_));replace H:=H.drew;refine Bk (.int _ _) H1 U U U H at0 (by(simp;done)) ?_;rintro w H;refine Ab (CD U (A7 U U ?_));refine Bg U (AF Jg U (Bj (Bk (.int _ _) Aaj U U U H at0 (by(simp;done)) ?_)));rintro w H;refine Ab (CD U (A7 U U ?_));refine Bg U (AF Le U (Bj (Bk (.int _ _) H1 U U U H at0 (by(simp;done)) ?_)));rintro w H;refine Ab (CD U (B2 (Hi U U ?_)));exact⟨rfl,H.get at0,H.ext⟩
def LR(A:Dev)(J:Jr)(b:Byt):Int:=if J.dead then 3 else if J.size - J.taken<blk b.length then 7 else(Cq A J b).1
def G0(A:Dev)(J:Jr)(b:Byt):Dev:=if J.dead then A else if J.size - J.taken<blk b.length then A else(Cq A J b).2
def LS(A:Dev)(J:Jr)(b:Byt):Jr:=if J.dead then J else if J.size - J.taken<blk b.length then J else if(Cq A J b).1=0 then J.passes b.length else{ J with dead:=true }
theorem Dv.base{w0 w:World}{bd:Nat}{A:Dev}{F F0 F':Nat->Prop}{L:List (Nat × Obj)}(D:Dv w0 w bd A F F' L)(h:∀x,F x->F0 x):Dv w0 w bd A F0 F' L :=
 ⟨D.dev,let ⟨S,hS,hx⟩:=D.turn;⟨S,fun x hx=>h x (hS x hx),hx⟩,fun x hx=>(D.own x hx).imp (h x) id,D.lt,D.blk,D.off⟩
theorem Dv.mine{w0 w w':World}{bd:Nat}{A:Dev}{F F':Nat->Prop}{b:Nat}{o o':Obj}(D:Dv w0 w bd A F F' [(b,o)])(hb:F b)(hx:Ext [b] w w')(h:w'.heap[b]?=some o'):Dv w0 w' bd A F F' [(b,o')]:=by
 have h1:=hx.size;have hn:¬F' b:=D.off (b,o) (qad ..);exact⟨D.dev.keep hx fun x h=>by rw[qab.1 h];exact hn,D.turn.trans (.of hx (S:=[b]) (F:=fun x=>x=b) fun x h=>qab.1 h) fun x h => .inl (by rw[h];exact hb),fun x hx=>(D.own x hx).imp id fun h=>⟨h.1,by omega⟩,fun x hx=>by have:=D.lt x hx;omega,fun x hx=>by rw[qab.1 hx];exact h,fun x hx=>by rw[qab.1 hx];exact hn⟩
theorem Dv.from{w0 w1 w:World}{bd:Nat}{A:Dev}{F F0 F':Nat->Prop}{L:List (Nat × Obj)}(D:Dv w1 w bd A F F' L)(hx:Ext [] w0 w1)(h:∀x,F x->F0 x):Dv w0 w bd A F0 F' L:=by
 have D':=D.base h;have h1:=hx.size;exact⟨D'.dev,Turn.trans (.of0 hx) D'.turn fun x h => .inl h,fun x hx=>(D'.own x hx).imp id fun h=>⟨by omega,h.2⟩,D'.lt,D'.blk,D'.off⟩
theorem Dv.start{w:World}{bd:Nat}{A:Dev}{F F0:Nat->Prop}{L:List (Nat × Obj)}(D:DevAt w bd A F)(hlt:∀x,F x->x<w.heap.size)(h:∀x,F x->F0 x)(hL:∀x∈L,w.heap[x.1]?=some x.2/\¬F x.1):Dv w w bd A F0 F L :=
 ⟨D,.of0 (.refl _ _),fun x hx => .inl (h x hx),hlt,fun x hx=>(hL x hx).1,fun x hx=>(hL x hx).2⟩
theorem YD{w:World}{bj bd:Nat}{J:Jr}{A:Dev}{F:Nat->Prop}(h:w.heap[bj]?=some (Bl TJ (JB bd J)))(hJ:J.Ok)(a:Option Addr)(c n:Nat)(b:Byt)(R:Rd w a 1 B8 b)(hn:b.length=n)(hm:n<=900000)(hc:n<=c)(hlt:∀x,F x->x<w.heap.size)(hFj:¬F bj)(hFa:b=[]\/¬F (adr a).block){mx:Nat}(hfew:Few A mx)(hmx:mx<=1000000000)(DA:DevAt w bd A F) :
  Ret prog 48 #[ptr bj,.slice a n c] w fun v w'=>v=.int .i64 (LR A J b)/\∃F',Dv w w' bd (G0 A J b) (fun x=>F x\/x=bj) F' [(bj,Bl TJ (JB bd (LS A J b)))]:=by
 subst hn;obtain⟨w0,rfl⟩:=qD w;have D0:Dv w0 w0 bd A (fun x=>F x\/x=bj) F [(bj,Bl TJ (JB bd J))]:=Dv.start DA hlt (fun x h => .inl h) fun x hx=>by rw[qab.1 hx];exact⟨h,hFj⟩
 have hbl:=M8 b.length;refine Ax (fn:=f48) func48 U [.pointer (some ⟨bj,0,none⟩),.slice a b.length c] U ?_;refine Ad (Ac U (qA (Aq (Ad (Ao U (Ah qB (Ah7 h) U ?_))))));rintro v w ⟨rfl,rfl⟩;refine Ac U (qA (Ad (Ae U (AN U U (qA (Ar _ U ?_ ?_))))))
 .intro h1;replace h1:=Bh h1;have hd:J.dead=true:=by cases hd:J.dead <;> simp_all
  refine Ad (Ae U (Ac U (qA (Aw (An (AE (v:=(.int _ _)) U U U ?_))))));exact⟨by rw[LR,hd];rfl,F,by rw[G0,LS,hd];exact D0⟩
 .intro h1;replace h1:=Bi h1;have hd:J.dead=false:=by cases hd:J.dead <;> simp_all
  refine Ap (Aa (Aq (Ad (Aj U (AP AO U (Ah qB (ER (b.length:Int) _) U ?_))))));rintro v w ⟨rfl,rfl⟩;rw[GW];refine Ao U (Ah qB (WY h hJ) U ?_);rintro v w ⟨rfl,hx⟩;have D1:=D0.call hx;refine BP U U (qA (Ar _ U ?_ ?_))
  .intro h2;replace h2:=AV h2;have hf:J.size - J.taken<blk b.length:=by omega
   refine Ad (Ac U (qA (Aw (An (AE (v:=(.int _ _)) U U U ?_)))));exact⟨by rw[LR,hd,if_pos hf];rfl,F,by rw[G0,LS,hd,if_pos hf,if_pos hf];exact D1⟩
  .intro h2;replace h2:=AW h2;have hf:¬J.size - J.taken<blk b.length:=by omega
   refine Ap (Aa (Aq (Ad (Ao U (Aj U (Ah qB (YC (D1.blk _ (qad ..)) hJ a c _ b (R.ext0 hx) U hm hc D1.lt hFj hFa hfew hmx D1.dev) U ?_))))));rintro v w2 ⟨rfl,F2,D2⟩;have D2':Dv w0 w2 bd (Cq A J b).2 (fun x=>F x\/x=bj) F2 [(bj,Bl TJ (JB bd J))]:=Dv.from D2 hx fun x h => .inl h;refine Ac U (qA (Ad (Ae U (AN U U (qA (Ar _ U ?_ ?_))))))
   .intro h3;replace h3:=Bh h3;have hJ2:=D2'.blk _ (qad ..);unfold JB at hJ2;have H:=Ctx.start1 hJ2;refine Ad (Ao U (AD U (Af Tp U (Bk (.bool _) Aai U U U H at0 (by(simp;done)) ?_))));rintro w H;refine qA (Ad (Ae U (Ac U (qA (Aw (An (AE (v:=(.int _ _)) U U U ?_)))))));have hd':(false=true)=False:=by simp
    refine⟨by rw[LR,hd,if_neg hf];rfl,F2,?_⟩;rw[G0,LS,hd,if_neg hf,if_neg hf,if_neg h3];exact D2'.mine (.inr U) H.ext (H.get at0)
   .intro h3;replace h3:=Bi h3;have hbt:=Du b.length;refine Ap (Aa (Ad (Ao U (Aj U (AP AO U (Ah qB (QK (D2'.blk _ (qad ..)) hJ b.length (by have:=hJ.t;omega)) U ?_))))));rintro v w3 ⟨rfl,hj3,hx3⟩;refine qA (Ad (Ac U (qA (Aw (AE (v:=(.int _ _)) U U U ?_)))));refine⟨by rw[LR,hd,if_neg hf,h3];rfl,F2,?_⟩;rw[G0,LS,hd,if_neg hf,if_neg hf,if_pos h3];exact D2'.mine (.inr U) hx3 hj3
theorem append_nil(w:World)(v:Value):Ret prog 48 #[.pointer none,v] w fun v w'=>v=.int .i64 2/\w=w':=by
 refine Ax (fn:=f48) func48 U [.pointer none,v] U (Ad (Ac U (qA (Aq (Ad (Ao U (Ah qB (Ae8 w) U ?_)))))));rintro v w ⟨rfl,rfl⟩;refine Ac U (qA (Ad (Ae U (AN U U (qA (Eg U (Ad (Ae U (Ac U ?_)))))))));refine qA (Aw (An (AE (v:=(.int _ _)) U U U ?_)));exact⟨rfl,rfl⟩
def Hr(J:Jr)(i:Nat)(b:Byt):Bool:=decide ((CA b).toNat=1) && OU (Bv b) (Cp J.seq i [])
def J7(J:Jr)(i:Nat)(s b:Byt):Bool:=decide ((CA b).toNat=2) && (decide (0<i) && (decide (i=blk s.length - 1) && decide (Bv b=Fw J.seq s)))
def Nc(A:Dev)(J:Jr):Nat->Nat->Byt->Option Byt
 |0,_,_=>none
 |n+1,i,s=>if Hr J i (at' A (J.place i))then Nc A J n (i+1) (s++(Bv (at' A (J.place i))).drop 12)else if J7 J i s (at' A (J.place i))then some s else none
def Gi(A:Dev)(J:Jr):Option Byt:=Nc A J (J.size - J.taken) 0 []
def Ago(s:Option Byt)(v:Value)(w w':World):Prop :=
 match s with
 |some s=>∃a c,v=.tuple #[.slice a s.length c,.bool true,.int .i64 0]/\Rd w' a 1 B8 s/\s.length<=c/\(s=[]\/w.heap.size<=(adr a).block)/\s.length<=3000000
 |none=>v=.tuple #[.slice none 0 0,.bool false,.int .i64 0]
theorem Afa{w:World}{bj bd:Nat}{J:Jr}{A:Dev}{F:Nat->Prop}(h:w.heap[bj]?=some (Bl TJ (JB bd J)))(hJ:J.Ok)(ho:A.on=true){mx:Nat}(hfew:Few A mx)(hmx:mx<=1000000000)(DA:DevAt w bd A F)(hl:J.frm+J.size<=A.B.length:=by omega):
  Ret prog 75 #[ptr bj] w fun v w'=>Ago (Gi A J) v w w'/\Ext [] w w':=by
 obtain⟨w0,rfl,H⟩:=qE w;have hs2:=hJ.s2;have ht:=hJ.t;refine Ax (fn:=f75) func75 U [.pointer (some ⟨bj,0,none⟩)] U ?_;refine Ad (Ai U (Am U (Ac U (qA (Aq (IV (fun x=>x=_) mixed U ?_))))));refine FM U (Dx U (C4 Lc U (Kr DE U (by rintro _ rfl;exact(Ctx.old0 H.drew (Au h _))) ?_)));refine FM U (Dx U (C4 Le U (Kr DE U (by rintro _ rfl;exact(Ctx.old0 H.drew (Au h _))) ?_)));refine PQ U U U (Hl U (Kf ?_));rintro _ rfl;replace H:=H.drew
 refine AB (BE 38685626227668133589551100 (α:=Nat × Byt × Option Addr × Nat × List Value) (fun s=>[(20,.int .i64 s.1),(2,.slice s.2.2.1 s.2.1.length s.2.2.2.1)]) (fun s w'=>s.1<=J.size - J.taken/\s.2.1.length<=505*s.1/\Ctx w0 [] w' (ent s.2.2.1 5 s.2.2.2.2)/\OS s.2.2.1 s.2.1.length s.2.2.2.1 1 s.2.2.2.2 (s.2.1.map bv)/\Nc A J (J.size - J.taken - s.1) s.1 s.2.1=Gi A J) (fun s=>J.size - J.taken - s.1) (0,[],none,0,[]) U ?_ ?_ ?_)
 .exact⟨rfl,rfl,trivial⟩
 .exact⟨qal _,qal _,H,OS.nil,rfl⟩
 .rintro⟨i,s,a,c,full⟩ j w ⟨hi,hsl,H,O,hN⟩;dsimp only at hi hsl H O hN;dsimp only;refine Ad (Bp U U (qA (Aq (Ar _ U ?_ ?_))))
  .intro h1;replace h1:=AV h1;obtain⟨n,hn⟩:∃n,J.size - J.taken - i=n+1:=⟨J.size - J.taken - i - 1,by omega⟩;have hpl:=hJ.place i
   have hrE:F6 A (J.place i:Int)=0:=by
    unfold F6 Dev.has;rw[ho,qai (show(0:Int)<=J.place i by omega),qai (show(J.place i:Int)<A.B.length by omega)];rfl
   have hrB:Fb A (J.place i:Int)=at' A (J.place i):=by
    unfold Fb at';rw[hrE];rfl
   have hrl:(at' A (J.place i)).length=512:=Io DA.wf (Ll);obtain⟨raw,hraw⟩:=qD (at' A (J.place i));rw[<-hraw]at hrB hrl
   have hNx:Gi A J=if Hr J i raw then Nc A J n (i+1) (s++(Bv raw).drop 12)else if J7 J i s raw then some s else none:=by
    rw[<-hN,hn,hraw];rfl
   have hjw:w.heap[bj]?=some (Bl TJ (JB bd J)):=by rw[H.ext.block bj (Al h) (by simp)];exact h
   refine Ap (Aa (Aq (AB (Ad (Ae U (Ac U (qA (BQ [([0,1,2,3,4,5],6),([],7),([8,9,10,11],12)] (fun z=>z.heap[bj]?=some (Bl TJ (JB bd J))) [] mixed (hjw) ?_))))))));refine A7 U U (CP U (Bg U (AF KZ U (BO Cy U (fun _ hx=>Au hx (0+0)) ?_))));refine CP U (BI U (Bj ?_))
   skip
   refine Ah qB (Q4 (show(World.drew w).heap[bj]?=_ from hjw) hJ i (by omega)) U ?_;rintro v w3 ⟨rfl,hx3⟩;replace H:=H.drew.call hx3;have hj3:w3.heap[bj]?=some (Bl TJ (JB bd J)):=by rw[hx3.block bj (Al hjw) (by simp)];exact hjw
   refine Ab (Be (hj3) (A7 U U ?_));refine Bj (Ah qB (OG (J.place i:Int) hfew (DA.keep0 H.ext)) U ?_);rintro v w4 ⟨s31,rfl,F31⟩;rw[hrB]at F31;rw[hrE];obtain⟨a31,c31,rfl,R31,hc31⟩:=Fresh.rdB F31;replace H:=H.call F31.ext;have hj4:w4.heap[bj]?=some (Bl TJ (JB bd J)):=by rw[F31.ext.block bj (Al hj3) (by simp)];exact hj3
   refine Ab (Be (hj4) (A7 U U ?_));refine Ic U (BX U U (BX U U (Mh U U (Bj (Ac U (Ab (Be (hj4) (B2 (Aq (Ad ?_))))))))));refine Ae U (AN U U (qA (Br U (Ap (Aa (Ad (Aj U (Ah qB (RZ a31 c31 _ raw _ R31 U hc31) U ?_))))))));rintro v w5 P39;obtain⟨a39,c39,rfl,hx39,R39,hc39⟩:=Aeq P39;replace H:=H.call hx39;have hj5:w5.heap[bj]?=some (Bl TJ (JB bd J)):=by rw[hx39.block bj (Al hj4) (by simp)];exact hj4
   refine AL U (Ag U U (Ag U U (Ag U U (Ac U (Ai U (Ac U (qA (AB ?_))))))));have hxj:Ext [] w5 w5 := .refl _ _;have hbo:=Mz raw;have hb2:=Du s.length;have hb3:=M8 s.length;have hp12:(Cp J.seq i []).length=12:=by rw[Ky];rfl
   refine Ad (B5 (α:=Unit) 8998403161718784 (fun _=>[(43,.bool (Hr J i raw))]) (fun _ w'=>Ctx w0 [] w' (ent a 5 full)/\Ext [] w5 w') U ?_ ?_)
   .refine Ae U (B6 U U (A4 U (AU 46 U ?_ ?_)))
    .intro h1;replace h1:=AV h1;refine Aj U (Ao U (Ae U (Ah qB (OT hj5 hJ i none 0 0 [] Rd.nil U) U ?_)));rintro v w6 F50;obtain⟨a50,c50,rfl,R50,hc50⟩:=Fresh.rdB F50;replace H:=H.call F50.ext;replace hxj:=F50.ext;refine Ah qB (Yl a39 a50 c39 c50 _ _ (Bv raw) (Cp J.seq i []) (R39.ext0 F50.ext) R50 U U hc39) U ?_;rintro v w7 ⟨rfl,rfl⟩;refine AR U (.bool _) U (Am U (Ab ?_));exact⟨rfl,(),rfl,⟨qac Value.bool (by rw[qap];simp_all[Hr];try omega),trivial⟩,⟨H,hxj⟩⟩
    .intro h2;replace h2:=AW h2;refine Ak U (Ak U (Ak U (Ak U (Ak U (AJ U (.bool _) U (Am U (Ab ?_)))))));exact⟨rfl,(),rfl,⟨qac Value.bool (by rw[qap];simp_all[Hr];try omega),trivial⟩,⟨H,hxj⟩⟩
   rintro - j43 w ⟨H,hx9⟩;have hj6:w.heap[bj]?=some (Bl TJ (JB bd J)):=by rw[hx9.block bj (Al hj5) (by simp)];exact hj5
   have R9:=R39.ext0 hx9;refine Ar _ U ?_ ?_
   .intro h2
    have hpl12:12<=(Bv raw).length:=by
     have h3:=h2;simp only[Hr,OU,qao,qaq]at h3;omega
    have hl60:(s++(Bv raw).drop 12).length=s.length+((Bv raw).length - ((12:Nat):Int).toNat):=by rw[qam,qbe];rfl
    refine A5 (Aj U (Aj U (Ao U (Ae U (Ah qB (OT hj6 hJ i none 0 0 [] Rd.nil U) U ?_)))));rintro v w7 F57;obtain⟨a57,c57,rfl,R57,hc57⟩:=Fresh.rdB F57;replace H:=H.call F57.ext;rw[hp12];refine AP AO U (EV U AO C0 U U ?_);refine Eu (L:=[]) U AO AO C0 Oe H3 U (((Bv raw).drop 12).map bv) U U H O (by simp) (GM _) (Rd.appB ((R9.cut 12 c39 hc39).ext0 F57.ext)) ?_;rintro a60 c60 full60 w8 H O;rw[<-qa0,<-hl60]at O;rw[<-hl60];refine Ai U (Ab (AH (AH (Aa (A5 (A8 U U ?_))))));refine Ae U (qA ?_);refine⟨(i+1,s++(Bv raw).drop 12,a60,c60,full60),rfl,⟨rfl,rfl,trivial⟩,⟨by dsimp only;omega,by dsimp only;omega,H,O,?_⟩,by dsimp only;omega⟩;dsimp only;rw[hNx,if_pos h2,show J.size - J.taken - (i+1)=n by omega]
   .intro h2;have hxk:Ext [] w w := .refl _ _;refine Ad (B5 (α:=Unit) 9671404251074024183955456 (fun _=>[(61,.bool (J7 J i s raw))]) (fun _ w'=>Ctx w0 [] w' (ent a 5 full)) U ?_ ?_)
    .refine Ae U (B6 U U (A4 U (AU 64 U ?_ ?_)))
     .intro h3;replace h3:=AV h3;refine Ae U (BP U U (AR U (.bool _) U (A4 U (AU 68 U ?_ ?_))))
      .intro h4;replace h4:=AV h4;refine Ae U (Aj U (AP AO U (Ah qB (ER (s.length:Int) _) U ?_)));rintro v w7 ⟨rfl,rfl⟩;rw[GW];refine Bx U U ?_;refine B6 U U (AR U (.bool _) U (A4 U (AU 76 U ?_ ?_)))
       .intro h5;replace h5:=AV h5;refine Aj U (Ao U (Aj U (Ah qB (Abz hj6 hJ a c _ s U) U ?_)));rintro v w8 F80;obtain⟨a80,c80,rfl,R80,hc80⟩:=Fresh.rdB F80;replace H:=H.call F80.ext;refine Ah qB (Uc a39 a80 c39 c80 _ _ (Bv raw) (Fw J.seq s) (R9.ext0 F80.ext) R80 U U) U ?_;rintro v w9 ⟨rfl,rfl⟩;refine AR U (.bool _) U (Am U (Ab ?_));exact⟨rfl,(),rfl,⟨qac Value.bool (by rw[qap];simp_all[J7];try exact⟨fun hh=>⟨by omega,by omega,by omega,hh⟩,fun hh=>hh.2.2.2⟩),trivial⟩,H⟩
       .intro h6;replace h6:=AW h6;refine Ak U (Ak U (Ak U (Ak U (Ak U (AJ U (.bool _) U (Am U (Ab ?_)))))));exact⟨rfl,(),rfl,⟨qac Value.bool (by rw[qap];simp_all[J7];try omega),trivial⟩,H⟩
      .intro h7;replace h7:=AW h7;refine Ak U (Ak U (Ak U (Ak U (Ak U (Ak U (AJ U (.bool _) U (A4 U (Ak U (Ak U ?_)))))))));refine Ak U (Ak U (Ak U (AJ U (.bool _) U (Am U (Ab ?_)))));exact⟨rfl,(),rfl,⟨qac Value.bool (by rw[qap];simp_all[J7];try first|omega|exact⟨fun hh=>⟨by omega,by omega,by omega,hh⟩,fun hh=>hh.2.2.2⟩),trivial⟩,H⟩
     .intro h8;replace h8:=AW h8;refine Ak U (Ak U (AJ U (.bool _) U (A4 U (Ak U (Ak U (Ak U (Ak U (Ak U (Ak U ?_)))))))));refine AJ U (.bool _) U (A4 U (Ak U (Ak U (Ak U (Ak U (Ak U (AJ U (.bool _) U (Am U (Ab ?_)))))))));exact⟨rfl,(),rfl,⟨qac Value.bool (by rw[qap];simp_all[J7];try omega),trivial⟩,H⟩
    rintro - j61 w H;refine Ar _ U ?_ ?_
    .intro h3;obtain⟨a',c',he,R',hc',hb'⟩:=Fresh.newB (Ctx.fresh (L:=[]) H O)
     injection he with e1 _ e2
     subst e1 e2;refine Ad (Aj U (Ai U (Am U (Ac U (qA (Aw (AK (AK (An (An (AK (An (Ci (v1:=(.slice _ _ _)) (v2:=(.bool _)) (v3:=(.int _ _)) U U U U U ?_)))))))))))));exact⟨by rw[hNx,if_neg (by rw[h2];simp),if_pos h3];exact⟨a,c,rfl,R',hc',hb',by omega⟩,H.ext⟩
    .intro h3;refine Ad (Ai U (Am U (Ac U (qA (Aw (AK (AK (An (An (AK (An (Ci (v1:=(.slice _ _ _)) (v2:=(.bool _)) (v3:=(.int _ _)) U U U U U ?_))))))))))));exact⟨by rw[hNx,if_neg (by rw[h2];simp),if_neg (by rw[h3];simp)];exact rfl,H.ext⟩
  .intro h1;replace h1:=AW h1;have hi2:J.size - J.taken - i=0:=by omega
   rw[hi2]at hN;refine B9 (A6 (A6 (Bd (Aa (Ad (Ai U (Am U (Ac U (qA (Aw (Ci (v1:=(.slice _ _ _)) (v2:=(.bool _)) (v3:=(.int _ _)) U U U U U ?_)))))))))));exact⟨by rw[<-hN];exact rfl,H.ext⟩
theorem MD{A:Dev}{J:Jr}{s:Byt}:∀(n i:Nat) (s0:Byt),Nc A J n i s0=some s->∃j,i<=j/\j<i+n/\j=blk s.length - 1/\J7 J j s (at' A (J.place j))=true
 |0,_,_,h=>by cases h
 |n+1,i,s0,h=>by
  unfold Nc at h
  split at h
  .obtain⟨j,h1,h2,h3⟩:=MD n _ _ h;exact⟨j,by omega,by omega,h3⟩
  .split at h
   .rename_i h2
    cases h;refine⟨i,qae _,by omega,?_,h2⟩;simp only[J7,qao,qaq]at h2;exact h2.2.2.1
   .cases h
theorem YE{A:Dev}{J:Jr}{s:Byt}(h:Gi A J=some s):J.taken+blk s.length<=J.size:=by
 obtain⟨j,h1,h2,h3,-⟩:=MD _ _ _ h;have:=Du s.length;omega
theorem Jr.Ok.passes{J:Jr}(h:J.Ok)(hq:J.seq<=4611686018427387904+J.taken){n:Nat}(hf:J.taken+blk n<=J.size):(J.passes n).Ok/\(J.passes n).seq<=4611686018427387904+(J.passes n).taken:=by
 have h1:=h.s1;have h2:=h.s2;have h3:=Du n;have hm:=qbv (J.at'+blk n) (show 0<J.size by omega);refine⟨⟨h.s1,h.s2,hm,hf,?_⟩,?_⟩
 .show J.seq+1<=_;omega
 .show J.seq+1<=_+(J.taken+blk n);omega
def J8(A:Dev):Nat->Jr->List Byt × Jr
 |0,J=>([],J)
 |n+1,J=>match Gi A J with
  |none=>([],J)
  |some s=>(s::(J8 A n (J.passes s.length)).1,(J8 A n (J.passes s.length)).2)
def J9(A:Dev)(J:Jr):List Byt × Jr:=J8 A (J.size+1) J
theorem Pj{A:Dev}{J:Jr}(n:Nat)(h:Gi A J=none):J8 A (n+1) J=([],J):=by unfold J8;rw[h]
theorem Pm{A:Dev}{J:Jr}(n:Nat){s:Byt}(h:Gi A J=some s):J8 A (n+1) J=(s::(J8 A n (J.passes s.length)).1,(J8 A n (J.passes s.length)).2):=by
 show(match Gi A J with|none=>_|some s=>_)=_;rw[h]
structure Strs(w:World)(a:Option Addr)(n c:Nat)(L:List Byt):Prop where
 ex:∃xs:List SB,Rd w a 1 Abl xs/\xs.map (fun x=>x.2.1)=L/\∀x∈xs,RdS w x
 num:n=L.length
 le:n<=c
theorem Strs.ext0{w w':World}{a:Option Addr}{n c:Nat}{L:List Byt}(h:Strs w a n c L)(hx:Ext [] w w'):Strs w' a n c L :=
 let ⟨xs,R,hl,hr⟩:=h.ex;⟨⟨xs,R.ext0 hx,hl,fun x hm=>(hr x hm).ext0 hx⟩,h.num,h.le⟩
structure StrsF(N:Nat)(w:World)(a:Option Addr)(n c:Nat)(L:List Byt):Prop where
 ex:∃xs:List SB,Rd w a 1 Abl xs/\xs.map (fun x=>x.2.1)=L/\(∀x∈xs,RdS w x)/\(xs=[]\/N<=(adr a).block)/\∀x∈xs,x.2.1=[]\/N<=(adr x.1).block
 num:n=L.length
 le:n<=c
theorem StrsF.strs{N:Nat}{w:World}{a:Option Addr}{n c:Nat}{L:List Byt}(h:StrsF N w a n c L):Strs w a n c L :=
 let ⟨xs,R,hl,hr,_⟩:=h.ex;⟨⟨xs,R,hl,hr⟩,h.num,h.le⟩
theorem StrsF.side{N:Nat}{w w':World}{a:Option Addr}{n c:Nat}{L:List Byt}{S:List Nat}(h:StrsF N w a n c L)(hx:Ext S w w')(hS:∀x∈S,x<N):StrsF N w' a n c L:=by
 obtain⟨xs,R,hl,hr,ha,hb⟩:=h.ex;refine⟨⟨xs,?_,hl,fun x hm=>⟨?_,(hr x hm).2⟩,ha,hb⟩,h.num,h.le⟩
 .rcases ha with rfl|ha
  .exact Rd.nil
  .exact R.ext hx fun hm=>by have:=hS _ hm;omega
 .rcases hb x hm with h0|h0
  .rw[h0];exact Rd.nil
  .exact(hr x hm).1.ext hx fun hm=>by have:=hS _ hm;omega
theorem StrsF.ext0{N:Nat}{w w':World}{a:Option Addr}{n c:Nat}{L:List Byt}(h:StrsF N w a n c L)(hx:Ext [] w w'):StrsF N w' a n c L:=h.side hx fun x h=>by cases h
theorem StrsF.less{N M:Nat}{w:World}{a:Option Addr}{n c:Nat}{L:List Byt}(h:StrsF N w a n c L)(hN:M<=N):StrsF M w a n c L :=
 let ⟨xs,R,hl,hr,ha,hb⟩:=h.ex;⟨⟨xs,R,hl,hr,ha.imp id (qav hN),fun x hm=>(hb x hm).imp id (qav hN)⟩,h.num,h.le⟩
theorem YF{s:Option Byt}{v:Value}{w w':World}(h:Ago s v w w'):∃a n c,v=.tuple #[.slice a n c,.bool s.isSome,.int .i64 0]/\∀x,s=some x->n=x.length/\RdS w' (a,x,c)/\x.length<=3000000/\(x=[]\/w.heap.size<=(adr a).block):=by
 cases s with
 |none=>exact⟨none,0,0,h,fun x hx=>by cases hx⟩
 |some x =>
  obtain⟨a,c,rfl,R,hc,hb,hm⟩:=h;exact⟨a,x.length,c,rfl,fun y hy=>by cases hy;exact⟨rfl,⟨R,hc⟩,hm,hb⟩⟩
def jr0(f z p:Int)(q:Nat):Jr:=⟨f.toNat,z.toNat,p.toNat,q,0,false⟩
theorem YG{m:Nat}{f z p:Int}{q:Nat}(h:Dp m f z p q=true)(hm:m<=4096):(jr0 f z p q).Ok/\(jr0 f z p q).seq<=4611686018427387904+(jr0 f z p q).taken/\(jr0 f z p q).frm+(jr0 f z p q).size<=m:=by
 simp only[Dp,qao,qaq]at h;refine⟨⟨?_,?_,?_,?_,?_⟩,?_,?_⟩ <;> simp only[jr0] <;> omega
theorem QL{w:World}{bd:Nat}{A:Dev}{F:Nat->Prop}(f z p:Int)(q:Nat)(hf : -9223372036854775808<=f/\f<=9223372036854775807)(hz : -9223372036854775808<=z/\z<=9223372036854775807)(hm:A.B.length<=4096)(ho:A.on=true){mx:Nat}(hfew:Few A mx)(hmx:mx<=1000000000)(DA:DevAt w bd A F) :
  Ret prog 34 #[ptr bd,.int .i64 f,.int .i64 z,.int .i64 p,.int .u64 (q:Int)] w fun v w'=>Ext [] w w'/\((Dp A.B.length f z p q=false/\v=.tuple #[.pointer none,.slice none 0 0,.int .i64 1]) \/
   (Dp A.B.length f z p q=true/\∃bj a n c,v=.tuple #[ptr bj,.slice a n c,.int .i64 0]/\w.heap.size<=bj/\w'.heap[bj]?=some (Bl TJ (JB bd (J9 A (jr0 f z p q)).2))/\StrsF w.heap.size w' a n c (J9 A (jr0 f z p q)).1)):=by
 obtain⟨w0,rfl,H⟩:=qE w;obtain⟨bs,bm,hhd⟩:=DA.hd;refine Ax (fn:=f34) func34 U [.pointer (some ⟨bd,0,none⟩),.int .i64 f,.int .i64 z,.int .i64 p,.int .u64 (q:Int)] U ?_;refine Ad (Bb U (Ai U (Ac U (qA (Aq (AB (Ad (Ao U (BC I0 U ?_)))))))));refine Am U (qA (Br U (Aq (Ad (Ae U (Bp U U (Am U (qA (Fk 8796089352192 (α:=Unit) (fun _=>[(19,.bool (!Dp A.B.length f z p q))]) (fun _ w'=>w0=w') U ?_ ?_)))))))))
 .skip
  refine CG 19 U ?_ ?_
  .intro h1;replace h1:=AV h1;refine Ap (Aa ?_);exact⟨(),rfl,⟨qac Value.bool (by rw[qap];simp_all[Dp];try omega),trivial⟩,rfl⟩
  .intro h2;replace h2:=AW h2;refine Ad (Ae U (Bp U U (Am U (qA (CG 19 U ?_ ?_)))))
   .intro h3;replace h3:=AV h3;refine Ap (Aa ?_);exact⟨(),rfl,⟨qac Value.bool (by rw[qap];simp_all[Dp];try omega),trivial⟩,rfl⟩
   .intro h4;replace h4:=AW h4;refine Ad (Ae U (Ao U (Ah qB (Ga hhd) U ?_)));rintro v w ⟨rfl,rfl⟩;refine BP U U (Am U (qA (CG 19 U ?_ ?_)))
    .intro h5;replace h5:=AV h5;refine Ap (Aa ?_);exact⟨(),rfl,⟨qac Value.bool (by rw[qap];simp_all[Dp];try omega),trivial⟩,rfl⟩
    .intro h6;replace h6:=AW h6;refine Ad (Ae U (Ao U (Ah qB (Ga hhd) U ?_)));rintro v w ⟨rfl,rfl⟩;refine Ae U (Bx U U ?_);refine BP U U (Am U (qA (CG 19 U ?_ ?_)))
     .intro h7;replace h7:=AV h7;refine Ap (Aa ?_);exact⟨(),rfl,⟨qac Value.bool (by rw[qap];simp_all[Dp];try omega),trivial⟩,rfl⟩
     .intro h8;replace h8:=AW h8;refine Ad (Ae U (Bp U U (Am U (qA (CG 19 U ?_ ?_)))))
      .intro h9;replace h9:=AV h9;refine Ap (Aa ?_);exact⟨(),rfl,⟨qac Value.bool (by rw[qap];simp_all[Dp];try omega),trivial⟩,rfl⟩
      .intro h10;replace h10:=AW h10;refine Ad (Ae U (Ae U (Hv U U (Am U (qA (CG 19 U ?_ ?_))))))
       .intro h11;replace h11:=AV h11;refine Ap (Aa ?_);exact⟨(),rfl,⟨qac Value.bool (by rw[qap];simp_all[Dp];try omega),trivial⟩,rfl⟩
       .intro h12;replace h12:=AW h12;refine Ad (Ae U (Bp U U (Am U (qA (CG 19 U ?_ ?_)))))
        .intro h13;replace h13:=AV h13;refine Ap (Aa ?_);exact⟨(),rfl,⟨qac Value.bool (by rw[qap];simp_all[Dp];try omega),trivial⟩,rfl⟩
        .intro h14;replace h14:=AW h14;refine A5 (Ae U (BP U U (Am U (qA ?_))));exact⟨(),rfl,⟨qac Value.bool (by rw[qap];simp_all[Dp];try omega),trivial⟩,rfl⟩
 .rintro - j19 w rfl;refine CG 19 U ?_ ?_
  .intro h1;refine Ad (Bb U (Ai U (Ac U (qA (Aw (AK (An (Ci (v1:=(.pointer _)) (v2:=(.slice _ _ _)) (v3:=(.int _ _)) U U U U U ?_))))))));exact⟨H.ext,.inl ⟨by simpa using h1,rfl⟩⟩
  .intro h1;have hr:Dp A.B.length f z p q=true:=by simpa using h1
   obtain⟨hJ0,hq0,hl0⟩:=YG hr hm;have hr2:=hr;simp only[Dp,qao,qaq]at hr2;obtain⟨J0,hJ0e⟩:=qD (jr0 f z p q);rw[<-hJ0e]at hJ0 hq0 hl0
   have hb0:[ptr bd,Value.int .i64 f,.int .i64 z,.int .i64 p,.int .u64 (q:Int),.int .i64 0,.bool false]=JB bd J0:=by
    rw[hJ0e];simp only[JB,jr0,qdv,Value.int.injEq,true_and,and_true];omega
   refine Ap (AH (Aa (Ad (Ao U (Ae U (Ae U (Ae U (Ae U (Bw [ptr bd,.int .i64 f,.int .i64 z,.int .i64 p,.int .u64 (q:Int),.int .i64 0,.bool false] Ahk Ahq ?_)))))))));rw[hb0];refine BN _ (.agg _) U U H ?_;rintro b49 w - H
   refine Bb U (qA (AB (BE 9444731839839383649280 (α:=List SB × Jr × Option Addr × Nat × List Value) (fun s=>[(10,ptr b49),(11,.slice s.2.2.1 s.1.length s.2.2.2.1)]) (fun s w'=>s.2.1.Ok/\s.2.1.seq<=4611686018427387904+s.2.1.taken/\s.2.1.frm=J0.frm/\s.2.1.size=J0.size/\s.1.length<=s.2.1.taken/\J9 A J0=(s.1.map (fun x=>x.2.1)++(J8 A (J0.size+1 - s.1.length) s.2.1).1,(J8 A (J0.size+1 - s.1.length) s.2.1).2)/\Ctx w0 [] w' ([(b49,Bl TJ (JB bd s.2.1))]++ent s.2.2.1 24 s.2.2.2.2)/\OS s.2.2.1 s.1.length s.2.2.2.1 1 s.2.2.2.2 (s.1.map fun x => .slice x.1 x.2.1.length x.2.2)/\∀x∈s.1,RdS w' x/\(x.2.1=[]\/∀y∈[(b49,Bl TJ (JB bd s.2.1))]++ent s.2.2.1 24 s.2.2.2.2,y.1≠(adr x.1).block)/\(x.2.1=[]\/w0.heap.size<=(adr x.1).block)) (fun s=>J0.size - s.2.1.taken) ([],J0,none,0,[]) U ?_ ?_ ?_)))
   .exact⟨rfl,rfl,trivial⟩
   .exact⟨hJ0,hq0,rfl,rfl,qal _,rfl,H,OS.nil,fun x hx=>by cases hx⟩
   .rintro⟨xs,J,a,c,full⟩ j w ⟨hJ,hq,hfr,hsz,hk,hop,H,O,hxs⟩;dsimp only at hJ hq hfr hsz hk hop H O hxs;dsimp only;have hs1:=hJ.s1;have hs2:=hJ.s2;have hst:=hJ.t;refine AB (Ad (Ao U (Ah qB (Afa (H.get at0) hJ ho hfew hmx (DA.keep0 H.ext)) U ?_)));rintro v w2 ⟨hnv,hx2⟩;have hszw:=H.ext.size;have hlt1:∀y∈[(b49,Bl TJ (JB bd J))]++ent a 24 full,y.1<w.heap.size:=(fun y hy=>Al (H.blk y hy));replace H:=H.call hx2;obtain⟨a13,n13,c13,rfl,h13⟩:=YF hnv;replace hxs:∀x∈xs,RdS w2 x/\(x.2.1=[]\/∀y∈[(b49,Bl TJ (JB bd J))]++ent a 24 full,y.1≠(adr x.1).block)/\(x.2.1=[]\/w0.heap.size<=(adr x.1).block):=(fun x hm=>⟨(hxs x hm).1.ext0 hx2,(hxs x hm).2⟩);refine AL U (Ag U U (Ag U U (Ag U U (Ai U (Am U (Ac U (qA (Aq (AB ?_)))))))));refine Ad (Ae U (AN U U (Am U (qA (Br U (Ad (A4 U (Cc U (Am U ?_)))))))));refine qA (Ar _ U ?_ ?_)
    .intro h2;replace h2:=Cs h2;have hn:Gi A J=none:=by cases hn:Gi A J <;> simp_all
     have ho2:J9 A J0=(xs.map (fun x=>x.2.1),J):=by
      rw[hop,show J0.size+1 - xs.length=(J0.size - xs.length)+1 by omega,Pj _ hn,qa2]
     refine Ad (Ao U (Aj U (Bb U (Ai U (Ac U (qA (Aw (AK (An (AK (An (AK (Ci (v1:=(.pointer _)) (v2:=(.slice _ _ _)) (v3:=(.int _ _)) U U U U U ?_)))))))))))));refine⟨H.ext,.inr ⟨hr,b49,a,xs.length,c,rfl,?_,?_,?_⟩⟩
     .exact(H.own _ (qad ..)).elim (fun h=>by cases h) id
     .rw[<-hJ0e,ho2];exact H.get at0
     .rw[<-hJ0e,ho2];refine⟨⟨xs,OS.rd1 (f:=fun x:SB => .slice x.1 x.2.1.length x.2.2) O (fun x hx=>H.blk x (qaz _ hx)),rfl,fun x hm=>(hxs x hm).1,?_,fun x hm=>(hxs x hm).2.2⟩,(qan _).symm,O.le⟩
      cases a with
      |none=>exact .inl (qa8 (by have h8:=O.le;have h9:=O.none' rfl;omega))
      |some q=>exact .inr ((H.own (q.block,_) (qaz _ (qab.2 rfl))).elim (fun h=>by cases h) id)
    .intro h2;replace h2:=Cu h2;obtain⟨s,hn⟩:∃s,Gi A J=some s:=by cases hn:Gi A J <;> simp_all
     obtain⟨rfl,hR,hsm,hsb⟩:=h13 s hn;have Hold:=H;replace H:=Ctx.startL (fun x hx=>Hold.blk x hx) Hold.nd;have hfit:=YE hn;have hbt:=Du s.length;refine Ap (AH (Aa (Ad (Aj U (Aj U (C3 [.slice a13 s.length c13] (.slice a13 s.length c13) DR Ez Qi U U U U H ?_))))));rintro b67 w3 - H;refine Df (L:=[(b49,Bl TJ (JB bd J))]) DR DR Ez Z8 Qi U U U H O U (by simp[AX]) ?_;rintro a68 c68 full68 w4 H O;refine Ai U (qA (A5 (Ao U (Aj U (AP AO U (Ah qB (QK (H.get at0) hJ s.length hfit) U ?_))))));rintro v w5 ⟨rfl,hj5,hx5⟩;replace H:=H.turn at0 _ hx5 hj5;refine Ab (AH (Aa ?_));have hgood:=hJ.passes hq hfit;have hlx:(xs++[((a13,s,c13):SB)]).length=xs.length+1:=by simp
     have hsz2:=hx2.size
     have hids:∀(x:SB),RdS w2 x->(x.2.1=[]\/∀y∈[(b49,Bl TJ (JB bd J))]++ent a 24 full,y.1≠(adr x.1).block) ->
       RdS w5 x/\(x.2.1=[]\/∀y∈[(b49,Bl TJ (JB bd (J.passes s.length)))]++ent a68 24 full68,y.1≠(adr x.1).block):=fun x hx hn=>by
      rcases hn with hn|hn
      .exact⟨⟨by rw[hn];exact Rd.nil,hx.2⟩,.inl hn⟩
      .refine⟨⟨hx.1.ext H.ext fun hm=>?_,hx.2⟩,?_⟩
       .obtain⟨y,hy,he⟩:=qak.1 hm;exact hn y hy he
       .rcases Go.Proofs.YtcpgbcabmcbclaaGreatDoor.Rd.lt8 hx.1 with h0|hlt
        .exact .inl h0
        .refine .inr fun y hy he=>?_
         rcases H.own y hy with hm|hm
         .obtain⟨y',hy',he'⟩:=qak.1 hm;exact hn y' hy' (he'.trans he)
         .omega
     refine⟨(xs++[(a13,s,c13)],J.passes s.length,a68,c68,full68),rfl,⟨rfl,qac (fun m=>Value.slice a68 m c68) hlx.symm,trivial⟩,⟨hgood.1,hgood.2,hfr,hsz,?_,?_,Ctx.nil_app (Ctx.back (L2:=[]) (Ctx.app_nil Hold) H),?_,fun x hm=>?_⟩,?_⟩
     .show(xs++[((a13,s,c13):SB)]).length<=J.taken+blk s.length;omega
     .dsimp only;rw[hop,hlx,show J0.size+1 - xs.length=(J0.size+1 - (xs.length+1))+1 by omega,Pm _ hn,qa0,qa1];rfl
     .dsimp only;rw[hlx,qa0];exact O
     .dsimp only at hm |-
      rcases qat.1 hm with hm|hm
      .exact⟨(hids x (hxs x hm).1 (hxs x hm).2.1).1,(hids x (hxs x hm).1 (hxs x hm).2.1).2,(hxs x hm).2.2⟩
      .rw[qab.1 hm];have h8:=hids _ hR (hsb.imp id fun h y hy he=>by have:=hlt1 y hy;dsimp only at he;omega);exact⟨h8.1,h8.2,hsb.imp id fun h=>by dsimp only;omega⟩
     .show J0.size - (J.taken+blk s.length)<J0.size - J.taken;omega
theorem Acs{w:World}{bd:Nat}{A:Dev}{F:Nat->Prop}(f z p:Int)(q:Nat)(hm:A.B.length<=4096)(ho:A.on=true){mx:Nat}(hfew:Few A mx)(hmx:mx<=1000000000)(DA:DevAt w bd A F)(hf: -9223372036854775808<=f/\f<=9223372036854775807:=by omega)(hz: -9223372036854775808<=z/\z<=9223372036854775807:=by omega):
  Ret prog 34 #[ptr bd,.int .i64 f,.int .i64 z,.int .i64 p,.int .u64 (q:Int)] w fun v w'=>Ext [] w w'/\((Dp A.B.length f z p q=false/\v=.tuple #[.pointer none,.slice none 0 0,.int .i64 1]) \/
   (Dp A.B.length f z p q=true/\∃bj a n c,v=.tuple #[ptr bj,.slice a n c,.int .i64 0]/\w.heap.size<=bj/\w'.heap[bj]?=some (Bl TJ (JB bd (J9 A (jr0 f z p q)).2))/\Strs w' a n c (J9 A (jr0 f z p q)).1)) :=
 (QL f z p q hf hz hm ho hfew hmx DA).mono fun _ _ ⟨hx,h⟩=>⟨hx,h.imp id fun⟨h1,bj,a,n,c,hv,hb,hj,hs⟩=>⟨h1,bj,a,n,c,hv,hb,hj,hs.strs⟩⟩
structure Rj where
 L:List Byt
 size:Nat
 first:Nat
 seq:Nat
def T5:Nat:=0
def RjB(a:Option Addr)(n c:Nat)(R:Rj):List Value:=[.slice a n c,.int .i64 (R.size:Int),.int .i64 (R.first:Int),.int .u64 (R.seq:Int)]
def B1(L:List Byt):Nat:=(L.map fun s=>blk s.length).sum
theorem Gj(L:List Byt)(s:Byt):B1 (L++[s])=B1 L+blk s.length:=by simp[B1]
theorem KA(L:List Byt):2*L.length<=B1 L:=by
 induction L with
 |nil=>simp[B1]
 |cons s L ih =>
  have:=Du s.length;have h:B1 (s::L)=blk s.length+B1 L:=by simp[B1]
  rw[h,qaw];omega
theorem VM(A B:List Byt):B1 (A++B)=B1 A+B1 B:=by simp[B1]
theorem Uz(L:List Byt)(i:Nat):B1 (L.take i)<=B1 L:=by
 have h:=VM (L.take i) (L.drop i);rw[qbp]at h;omega
structure Rj.Ok(R:Rj):Prop where
 s1:2<=R.size
 s2:R.size<=4096
 a:R.first<R.size
 q:R.seq<=8000000000000000000
 t:B1 R.L<=R.size
def valS(x:SB):Value := .slice x.1 x.2.1.length x.2.2
structure RjR(w:World)(br:Nat)(R:Rj)(a:Option Addr)(c:Nat)(full:List Value)(xs:List SB):Prop where
 hd:w.heap[br]?=some (Bl T5 (RjB a R.L.length c R))
 os:OS a xs.length c 1 full (xs.map valS)
 blk:∀y∈ent a 24 full,w.heap[y.1]?=some y.2
 eq:xs.map (fun x=>x.2.1)=R.L
 str:∀x∈xs,RdS w x
 nd:∀y∈ent a 24 full,br≠y.1
 sep:∀x∈xs,x.2.1=[]\/((adr x.1).block≠br/\∀y∈ent a 24 full,y.1≠(adr x.1).block)
theorem RjR.num{w:World}{br:Nat}{R:Rj}{a:Option Addr}{c:Nat}{full:List Value}{xs:List SB}(h:RjR w br R a c full xs):xs.length=R.L.length:=by rw[<-h.eq,qan]
def RjAt(w:World)(br:Nat)(R:Rj)(G:Nat->Prop):Prop :=
 ∃a c full xs,RjR w br R a c full xs/\G br/\(∀y∈ent a 24 full,G y.1)/\∀x∈xs,x.2.1=[]\/G (adr x.1).block
theorem RjAt.keep{w w':World}{br:Nat}{R:Rj}{G:Nat->Prop}{S:List Nat}(h:RjAt w br R G)(hx:Ext S w w')(hn:∀x∈S,¬G x):RjAt w' br R G:=by
 obtain⟨a,c,full,xs,h,h1,h2,h3⟩:=h;have hb:∀b o,G b->w.heap[b]?=some o->w'.heap[b]?=some o:=fun b o hg hb=>by rw[hx.block b (Al hb) fun hm=>hn b hm hg];exact hb
 refine⟨a,c,full,xs,⟨hb _ _ h1 h.hd,h.os,fun y hy=>hb _ _ (h2 y hy) (h.blk y hy),h.eq,fun x hm=>?_,h.nd,h.sep⟩,h1,h2,h3⟩;refine⟨?_,(h.str x hm).2⟩
 rcases h3 x hm with h0|h0
 .rw[h0];exact Rd.nil
 .exact(h.str x hm).1.ext hx fun hm'=>hn _ hm' h0
theorem RjAt.hd{w:World}{br:Nat}{R:Rj}{G:Nat->Prop}(h:RjAt w br R G):∃a c xs,w.heap[br]?=some (Bl T5 (RjB a R.L.length c R))/\Rd w a 1 Abl xs/\xs.map (fun x=>x.2.1)=R.L/\(∀x∈xs,RdS w x)/\R.L.length<=c :=
 let ⟨a,c,_,xs,h,_⟩:=h;⟨a,c,xs,h.hd,OS.rd1 (f:=valS) h.os h.blk,h.eq,h.str,by have:=h.os.le;rw[h.num]at this;exact this⟩
def Rj.at'(R:Rj):Nat:=(R.first+B1 R.L) % R.size
theorem RjAt.mono{w:World}{br:Nat}{R:Rj}{G G':Nat->Prop}(h:RjAt w br R G)(hG:∀x,G x->G' x):RjAt w br R G' :=
 let ⟨a,c,full,xs,h,h1,h2,h3⟩:=h;⟨a,c,full,xs,h,hG _ h1,fun y hy=>hG _ (h2 y hy),fun x hx=>(h3 x hx).imp id (hG _)⟩
def Pn(R:Rj)(b:Byt):Rj:=if R.size - B1 R.L<blk b.length then R else{ R with L:=R.L++[b] }
def U0(R:Rj)(b:Byt):Int:=if R.size - B1 R.L<blk b.length then 7 else 0
theorem Sw{R:Rj}(h:R.Ok)(b:Byt):(Pn R b).Ok:=by
 unfold Pn
 split
 .exact h
 .rename_i h1
  exact⟨h.s1,h.s2,h.a,h.q,by have:=h.t;show B1 (R.L++[b])<=R.size;rw[Gj];omega⟩
def Rj.forget(R:Rj):Rj:=⟨[],R.size,R.at',R.seq+R.L.length⟩
end Go.Proofs.YtcpgbcabmcbclaaGreatDoor
