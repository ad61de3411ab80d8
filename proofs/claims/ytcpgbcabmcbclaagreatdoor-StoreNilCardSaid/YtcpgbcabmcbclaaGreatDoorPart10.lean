/- Part 10 of the proof. -/
import Derived.Test.YtcpgbcabmcbclaaGreatDoorPart9
set_option maxRecDepth 20000
set_option maxHeartbeats 4000000
namespace Go.Proofs.YtcpgbcabmcbclaaGreatDoor
open Go.GV Go.Proofs.Tryz
attribute [local irreducible] Ay W Wq Wt
theorem N1{a i n:Nat}(ha:a<n)(hi:i<n):(a+i) % n=if a+i<n then a+i else a+i - n:=by
 split
 .exact qa6 (by assumption)
 .rw[Nat.mod_eq_sub_mod (by omega),qa6 (by omega)]
theorem ME{J:Jr}(h:J.Ok){i j:Nat}(he:J.place i=J.place j)(hi:i<J.size:=by omega)(hj:j<J.size:=by omega):i=j:=by
 unfold Jr.place at he;rw[N1 h.a hi,N1 h.a hj]at he;have:=h.a
 split at he <;> split at he <;> omega
structure Pend(A:Dev)(N:Nat)(S:Nat->Byt)(P:Nat->List Byt):Prop where
 len:A.B.length=N
 get:∀p,p<N->A.B[p]?=some (S p,P p)
theorem Pend.at'{A:Dev}{N:Nat}{S:Nat->Byt}{P:Nat->List Byt}(h:Pend A N S P){p:Nat}(hp:p<N):at' A p=(P p).getLast?.getD (S p):=by
 unfold Go.Proofs.YtcpgbcabmcbclaaGreatDoor.at' stands;rw[qa5,h.get p hp];rfl
theorem Pend.less{A:Dev}{N:Nat}{S:Nat->Byt}{P:Nat->List Byt}(h:Pend A N S P):Pend A.less N S P:=⟨by rw[FF];exact h.len,by rw[FF];exact h.get⟩
theorem WZ{A:Dev}(h:A.left≠0)(ho:A.on=true):A.less.on=true/\A.less.left=(if A.left = -1 then -1 else A.left - 1):=by
 unfold Dev.less;rw[if_neg h]
 split
 .rename_i h1;exact⟨ho,h1⟩
 .exact⟨ho,rfl⟩
theorem U1{A:Dev}(h:A.left=0):A.less.on=false:=by
 unfold Dev.less;rw[if_pos h]
theorem Pend.write{A:Dev}{N:Nat}{S:Nat->Byt}{P:Nat->List Byt}(h:Pend A N S P)(ho:A.on=true){p:Nat}(hp:p<N){b:Byt}(hb:b.length=512) :
  (A.left=0/\CS A p b=8/\(Cf A p b).on=false/\Pend (Cf A p b) N S P) \/
  (A.left≠0/\CS A p b=0/\(Cf A p b).on=true/\(Cf A p b).left=(if A.left = -1 then -1 else A.left - 1)/\Pend (Cf A p b) N S (fun q=>if q=p then P q++[b]else P q)):=by
 have hh:A.has (p:Int)=true:=by
  unfold Dev.has;rw[h.len];simp only[qao,qaq];omega
 unfold CS Cf;rw[ho,hh,qai hb];unfold Dev.goes
 by_cases h0:A.left=0
 .rw[qai h0];exact .inl ⟨h0,rfl,U1 h0,h.less⟩
 .rw[qag h0];obtain⟨h1,h2⟩:=WZ h0 ho;refine .inr ⟨h0,rfl,h1,h2,?_,fun q hq=>?_⟩
  .show(A.less.B.modify p _).length=N;rw[qd3,FF];exact h.len
  .show(A.less.B.modify p _)[q]?=_;rw[qcd,FF,h.get q hq]
   by_cases hqp:q=p
   .rw[if_pos hqp];simp[hqp.symm]
   .rw[if_neg hqp];simp[Ne.symm hqp]
theorem Pend.flush{A:Dev}{N:Nat}{S:Nat->Byt}{P:Nat->List Byt}(h:Pend A N S P)(ho:A.on=true) :
  (A.left=0/\FE A=8/\(CT A).on=false/\Pend (CT A) N S P) \/
  (A.left≠0/\FE A=0/\(CT A).on=true/\(CT A).left=(if A.left = -1 then -1 else A.left - 1)/\Pend (CT A) N (fun q=>(P q).getLast?.getD (S q)) (fun _=>[])):=by
 unfold FE CT;rw[ho];unfold Dev.goes
 by_cases h0:A.left=0
 .rw[qai h0];exact .inl ⟨h0,rfl,U1 h0,h.less⟩
 .rw[qag h0];obtain⟨h1,h2⟩:=WZ h0 ho;refine .inr ⟨h0,rfl,h1,h2,?_,fun q hq=>?_⟩
  .show(A.less.B.map _).length=N;rw[qan,FF];exact h.len
  .show(A.less.B.map _)[q]?=_;rw[qax,FF,h.get q hq];rfl
theorem JZ:∀{l:List (Byt × List Byt)} {picks:List Int} {p:Nat} {q:Byt × List Byt},l[p]?=some q->∃y,(DS l picks)[p]?=some (y,[])/\(y=q.1\/y∈q.2)
 | [],_,_,_,h=>by simp at h
 |x::l,picks,0,q,h=>by
  have hx:x=q:=by simpa using h
  subst hx;unfold DS
  split
  .exact⟨x.1,rfl,.inl rfl⟩
  .refine⟨_,rfl,?_⟩;unfold Mq
   split
   .exact .inl U
   .rw[qa5]
    cases hx:x.2[Kk x picks - 1]? with
    |none=>exact .inl rfl
    |some b=>exact .inr (qaf hx)
 |x::l,picks,p+1,q,h=>by
  have h':l[p]?=some q:=by simpa using h
  unfold DS
  split
  .exact JZ h'
  .exact JZ h'
theorem Pend.on{A:Dev}{N:Nat}{S:Nat->Byt}{P:Nat->List Byt}(h:Pend A N S P)(ho:A.on=false)(picks:List Int) :
  (onD A picks).on=true/\(onD A picks).left = -1/\∃S',Pend (onD A picks) N S' (fun _=>[])/\∀p,p<N->S' p=S p\/S' p∈P p:=by
 unfold onD;rw[ho];refine⟨rfl,rfl,fun p=>((DS A.B picks).getD p (zeros,[])).1,⟨?_,fun p hp=>?_⟩,fun p hp=>?_⟩
 .show(DS A.B picks).length=N;rw[GD];exact h.len
 .obtain⟨y,hy,_⟩:=JZ (picks:=picks) (h.get p hp);show(DS A.B picks)[p]?=_;rw[qa5,hy];rfl
 .obtain⟨y,hy,h1⟩:=JZ (picks:=picks) (h.get p hp);show((DS A.B picks).getD p (zeros,[])).1=_\/((DS A.B picks).getD p (zeros,[])).1∈_;rw[qa5,hy];exact h1
theorem Pend.new(n:Nat):Pend (Dd n) n (fun _=>zeros) (fun _=>[]) :=
 ⟨by simp[Dd],fun p hp=>by show(List.replicate n _)[p]?=_;rw[qd2,if_pos hp]⟩
def piB(J:Jr)(b:Byt)(i:Nat):Byt:=CY 1 (Cp J.seq i (BS b i))
def enB(J:Jr)(b:Byt):Byt:=CY 2 (Fw J.seq b)
theorem Xa(J:Jr)(b:Byt)(i:Nat):(Cp J.seq i (BS b i)).length<=505:=by rw[Ky,K3];omega
theorem Xb(J:Jr)(b:Byt):(Fw J.seq b).length<=505:=by rw[Ua];omega
theorem Afb(J:Jr)(b:Byt)(i:Nat):(piB J b i).length=512:=En (Xa J b i)
theorem Afc(J:Jr)(b:Byt):(enB J b).length=512:=En (Xb J b)
structure Full(N:Nat)(S S':Nat->Byt)(J:Jr)(b:Byt):Prop where
 piece:∀i,i<blk b.length - 1->S' (J.place i)=piB J b i
 fin:S' (J.place (blk b.length - 1))=enB J b
 rest:∀p,p<N->(∀i,i<blk b.length->p≠J.place i)->S' p=S p
def MidJ(N:Nat)(S S':Nat->Byt)(J:Jr)(b:Byt):Prop:=∀p,p<N->S' p=S p\/∃i,i<blk b.length - 1/\p=J.place i/\S' p=piB J b i
def PSpec(J:Jr)(b:Byt)(m:Nat)(P:Nat->List Byt):Prop:=(∀i,i<m->P (J.place i)=[piB J b i])/\∀p,(∀i,i<m->p≠J.place i)->P p=[]
theorem PSpec.mid{N:Nat}{S S':Nat->Byt}{J:Jr}{b:Byt}{m:Nat}{P:Nat->List Byt}(h:PSpec J b m P)(hm:m<=blk b.length - 1)(hS:∀p,p<N->S' p=S p\/S' p∈P p):MidJ N S S' J b:=by
 intro p hp
 rcases hS p hp with h1|h1
 .exact .inl h1
 .by_cases hi:∃i,i<m/\p=J.place i
  .obtain⟨i,hi,rfl⟩:=hi;rw[h.1 i hi]at h1;exact .inr ⟨i,by omega,rfl,qab.1 h1⟩
  .rw[h.2 p fun i h2 h3=>hi ⟨i,h2,h3⟩]at h1;cases h1
theorem Xc{A:Dev}{N:Nat}{S:Nat->Byt}{J:Jr}{b:Byt}(h:Pend A N S (fun _=>[]))(ho:A.on=true)(hl : -1<=A.left)(hJ:J.Ok)(hN:J.frm+J.size<=N):∀m,m<=J.size ->
  ((wrP A J b m).1=0/\(wrP A J b m).2.on=true /\ -1<=(wrP A J b m).2.left/\(A.left = -1->(wrP A J b m).2.left = -1)/\∃P,Pend (wrP A J b m).2 N S P/\PSpec J b m P) \/
  (A.left ≠ -1/\(wrP A J b m).1=8/\(wrP A J b m).2.on=false/\∃m' P,m'<=m/\Pend (wrP A J b m).2 N S P/\PSpec J b m' P)
 |0,_ => .inl ⟨rfl,ho,hl,id,fun _=>[],h,⟨fun i hi=>absurd hi (qcw _),fun _ _=>rfl⟩⟩
 |m+1,hm=>by
  have h9:wrP A J b (m+1)=if(wrP A J b m).1=0 then(LF (wrP A J b m).2 J m 1 (Cp J.seq m (BS b m)),Iu (wrP A J b m).2 J m 1 (Cp J.seq m (BS b m)))else wrP A J b m:=rfl
  rcases Xc h ho hl hJ hN m (by omega)with⟨h1,h2,h3,h4,P,hp,hs⟩|⟨h1,h2,h3,m',P,hm',hp,hs⟩
  .rw[h9,if_pos h1];have hpl:=hJ.place m
   rcases hp.write h2 (p:=J.place m) (by omega) (Afb J b m)with⟨k1,k2,k3,k4⟩|⟨k1,k2,k3,k4,k5⟩
   .exact .inr ⟨fun h5=>by have:=h4 h5;omega,k2,k3,m,P,by omega,k4,hs⟩
   .refine .inl ⟨k2,k3,?_,fun h5=>?_,_,k5,fun i hi=>?_,fun p hn=>?_⟩
    .show -1<=(Cf _ _ _).left;rw[show(Cf (wrP A J b m).2 ((J.place m:Nat):Int) (CY 1 (Cp J.seq m (BS b m)))).left=_ from k4]
     split <;> omega
    .show(Cf _ _ _).left = -1;rw[show(Cf (wrP A J b m).2 ((J.place m:Nat):Int) (CY 1 (Cp J.seq m (BS b m)))).left=_ from k4,if_pos (h4 h5)]
    .by_cases him:i=m
     .subst him;dsimp only;rw[if_pos rfl,hs.2 _ fun j hj he=>by have:=ME hJ he;omega];rfl
     .dsimp only;rw[if_neg fun he=>him (ME hJ he)];exact hs.1 i (by omega)
    .dsimp only;rw[if_neg (hn m (by omega))];exact hs.2 p fun i hi=>hn i (by omega)
  .rw[h9,if_neg (by omega)];exact .inr ⟨h1,h2,h3,m',P,by omega,hp,hs⟩
theorem Po{A:Dev}{N:Nat}{S:Nat->Byt}{J:Jr}{b:Byt}(h:Pend A N S (fun _=>[]))(ho:A.on=true)(hl : -1<=A.left)(hJ:J.Ok)(hN:J.frm+J.size<=N)(hf:blk b.length<=J.size) :
  ((Cq A J b).1=0/\(Cq A J b).2.on=true /\ -1<=(Cq A J b).2.left/\(A.left = -1->(Cq A J b).2.left = -1)/\∃S',Pend (Cq A J b).2 N S' (fun _=>[])/\Full N S S' J b) \/
  (A.left ≠ -1/\(Cq A J b).1=8/\(Cq A J b).2.on=false/\∃S1 P,Pend (Cq A J b).2 N S1 P/\∀S',(∀p,p<N->S' p=S1 p\/S' p∈P p)->MidJ N S S' J b\/Full N S S' J b):=by
 have hb2:=Du b.length;unfold Cq
 rcases Xc (b:=b) h ho hl hJ hN (blk b.length - 1) (by omega)with⟨h1,h2,h3,h4,P,hp,hs⟩|⟨h1,h2,h3,m',P,hm',hp,hs⟩
 .rw[if_pos h1];generalize wrP A J b (blk b.length - 1)=X at h1 h2 h3 h4 hp
  rcases hp.flush h2 with⟨k1,k2,k3,k4⟩|⟨k1,k2,k3,k4,k5⟩
  .rw[if_neg (by omega)];exact .inr ⟨fun h5=>by have:=h4 h5;omega,k2,k3,S,P,k4,fun S' hS => .inl (hs.mid (qae _) hS)⟩
  .rw[if_pos k2];have hpl:=hJ.place (blk b.length - 1);obtain⟨S1,hS1⟩:=qD (fun q=>(P q).getLast?.getD (S q):Nat->Byt);rw[<-hS1]at k5;have hpi:∀i,i<blk b.length - 1->S1 (J.place i)=piB J b i:=fun i hi=>by rw[hS1];dsimp only;rw[hs.1 i hi];rfl
   have hre:∀p,(∀i,i<blk b.length - 1->p≠J.place i)->S1 p=S p:=fun p hp=>by rw[hS1];dsimp only;rw[hs.2 p hp];rfl
   have hmid1:∀p,S1 p=S p\/∃i,i<blk b.length - 1/\p=J.place i/\S1 p=piB J b i:=fun p=>by
    by_cases hi:∃i,i<blk b.length - 1/\p=J.place i
    .obtain⟨i,hi,rfl⟩:=hi;exact .inr ⟨i,hi,rfl,hpi i hi⟩
    .exact .inl (hre p fun i h2 h3=>hi ⟨i,h2,h3⟩)
   have hl1:(CT X.2).left = -1\/0<=(CT X.2).left:=by rw[k4];split <;> omega
   have hl2:A.left = -1->(CT X.2).left = -1:=fun h5=>by rw[k4,if_pos (h4 h5)]
   generalize CT X.2=Y at k3 k4 k5 hl1 hl2
   rcases k5.write k3 (p:=J.place (blk b.length - 1)) (by omega) (Afc J b)with⟨j1,j2,j3,j4⟩|⟨j1,j2,j3,j4,j5⟩
   .rw[if_neg (show ¬LF Y J (blk b.length - 1) 2 (Fw J.seq b)=0 from by rw[show LF Y J (blk b.length - 1) 2 (Fw J.seq b)=8 from j2];decide)];refine .inr ⟨fun h5=>by have:=hl2 h5;omega,j2,j3,S1,_,j4,fun S' hS => .inl fun p hp=>?_⟩
    rcases hS p hp with h5|h5
    .rw[h5];exact hmid1 p
    .cases h5
   .rw[if_pos (show LF Y J (blk b.length - 1) 2 (Fw J.seq b)=0 from j2)]
    have hl3:(Iu Y J (blk b.length - 1) 2 (Fw J.seq b)).left = -1\/0<=(Iu Y J (blk b.length - 1) 2 (Fw J.seq b)).left:=by
     rw[show(Iu Y J (blk b.length - 1) 2 (Fw J.seq b)).left=_ from j4];split <;> omega
    have hl4:A.left = -1->(Iu Y J (blk b.length - 1) 2 (Fw J.seq b)).left = -1:=fun h5=>by
     rw[show(Iu Y J (blk b.length - 1) 2 (Fw J.seq b)).left=_ from j4,if_pos (hl2 h5)]
    have j3':(Iu Y J (blk b.length - 1) 2 (Fw J.seq b)).on=true:=j3;have j5':Pend (Iu Y J (blk b.length - 1) 2 (Fw J.seq b)) N S1 (fun q=>if q=J.place (blk b.length - 1)then[]++[enB J b]else[]):=j5;generalize Iu Y J (blk b.length - 1) 2 (Fw J.seq b)=Z at hl3 hl4 j3' j5'
    have hfull:∀S':Nat->Byt,(∀p,p<N->p≠J.place (blk b.length - 1)->S' p=S1 p)->S' (J.place (blk b.length - 1))=enB J b->Full N S S' J b:=fun S' e1 e2=>by
     refine⟨fun i hi=>?_,e2,fun p hp hn=>?_⟩
     .have:=hJ.place i;rw[e1 _ (by omega) fun he=>by have:=ME hJ he;omega];exact hpi i hi
     .rw[e1 p hp (hn _ (by omega))];exact hre p fun i hi=>hn i (by omega)
    rcases j5'.flush j3' with⟨i1,i2,i3,i4⟩|⟨i1,i2,i3,i4,i5⟩
    .refine .inr ⟨fun h5=>by have:=hl4 h5;omega,i2,i3,S1,_,i4,fun S' hS=>?_⟩
     by_cases he:S' (J.place (blk b.length - 1))=S1 (J.place (blk b.length - 1))
     .refine .inl fun p hp=>?_
      have h6:S' p=S1 p:=by
       by_cases hpe:p=J.place (blk b.length - 1)
       .rw[hpe];exact he
       .rcases hS p hp with h5|h5
        .exact h5
        .rw[if_neg hpe]at h5;cases h5
      rw[h6];exact hmid1 p
     .refine .inr (hfull S' (fun p hp hpe=>?_) ?_)
      .rcases hS p hp with h5|h5
       .exact h5
       .rw[if_neg hpe]at h5;cases h5
      .rcases hS _ (show J.place (blk b.length - 1)<N by omega)with h5|h5
       .exact absurd h5 he
       .rw[if_pos rfl]at h5;exact qab.1 h5
    .refine .inl ⟨i2,i3,by rw[i4];split <;> omega,fun h5=>by rw[i4,if_pos (hl4 h5)],_,i5,hfull _ (fun p hp hpe=>?_) ?_⟩
     .rw[if_neg hpe];rfl
     .rw[if_pos rfl];rfl
 .rw[if_neg (by omega)];exact .inr ⟨h1,h2,h3,S,P,hp,fun S' hS => .inl (hs.mid hm' hS)⟩
theorem JA{k:UInt8}{l:Byt}(h:l.length<=505)(hk:k.toNat≠0:=by decide):CA (CY k l)=k:=by
 unfold CA;rw[JU hk h,JT];rfl
theorem JC{k:UInt8}{l:Byt}(h:l.length<=505)(hk:k.toNat≠0:=by decide):Bv (CY k l)=l:=by
 unfold Bv;rw[JU hk h,HQ k h];rfl
theorem Sz:(CA zeros).toNat=0:=by
 unfold CA;cases decide (DX zeros=0) <;> rfl
structure LiesJ(V:Nat->Byt)(J:Jr)(s:Byt):Prop where
 piece:∀i,i<blk s.length - 1->V (J.place i)=piB J s i
 fin:V (J.place (blk s.length - 1))=enB J s
theorem VN(s:Byt)(i:Nat):s.take (480*i)++BS s i=s.take (480*(i+1)):=by
 unfold BS;rw[show 480*(i+1)=480*i+480 by omega,List.take_add]
theorem VO(q i:Nat)(c:Byt):OU (Cp q i c) (Cp q i [])=true/\(Cp q i c).drop 12=c:=by
 have h12:(AZ q 8++AZ i 4).length=12:=by simp[AM]
 unfold OU Cp;rw[qa2,h12,qce (by omega),qa3 (by omega),qd5 (by omega),qb6 (by omega)];simp[AM];omega
theorem Pp{A:Dev}{J:Jr}{s:Byt}(h:LiesJ (at' A) J s):∀n i,blk s.length<=i+n->i<=blk s.length - 1->Nc A J n i (s.take (480*i))=some s
 |0,i,h1,h2=>by have:=Du s.length;omega
 |n+1,i,h1,h2=>by
  unfold Nc
  by_cases hi:i<blk s.length - 1
  .have hv:=h.piece i hi;have hb:Bv (at' A (J.place i))=Cp J.seq i (BS s i):=by rw[hv];exact JC (Xa J s i)
   have hk:(CA (at' A (J.place i))).toNat=1:=by rw[hv,show CA (piB J s i)=1 from JA (Xa J s i)];rfl
   obtain⟨p1,p2⟩:=VO J.seq i (BS s i);rw[if_pos (by unfold Hr;rw[hb,p1,qai hk];rfl),hb,p2,VN];exact Pp h n (i+1) (by omega) (by omega)
  .have hie:i=blk s.length - 1:=by omega
   subst hie;have hv:=h.fin;have hb:Bv (at' A (J.place (blk s.length - 1)))=Fw J.seq s:=by rw[hv];exact JC (Xb J s)
   have hk:(CA (at' A (J.place (blk s.length - 1)))).toNat=2:=by rw[hv,show CA (enB J s)=2 from JA (Xb J s)];rfl
   have hs:s.take (480*(blk s.length - 1))=s:=qa3 (by unfold blk;omega);rw[hs,if_neg (by unfold Hr;rw[hk];simp),if_pos];unfold J7;have:=Du s.length;rw[hb,qai hk,qai (show 0<blk s.length - 1 by omega)];simp
theorem VP{A:Dev}{J:Jr}{s:Byt}(h:LiesJ (at' A) J s)(hf:J.taken+blk s.length<=J.size):Gi A J=some s:=by
 unfold Gi;have:=Pp h (J.size - J.taken) 0 (by omega) (by have:=Du s.length;omega)
 simpa using this
def Qs(V:Nat->Byt)(frm size q:Nat):Prop:=∀p,frm<=p->p<frm+size->(CA (V p)).toNat=2->numN ((Bv (V p)).take 8)<q
theorem U2{q:Nat}(s:Byt)(hq:q<18446744073709551616):numN ((Fw q s).take 8)=q:=by
 unfold Fw;rw[qa1,qce (by rw[AM];exact qae _),qa3 (by rw[AM];exact qae _),Ea,qa6 (by omega)]
theorem U3{J:Jr}(h:J.Ok)(i:Nat):J.frm<=J.place i/\J.place i<J.frm+J.size:=⟨qcj ..,h.place i⟩
theorem VQ{A:Dev}{J:Jr}(hJ:J.Ok)(h:Qs (at' A) J.frm J.size J.seq):Gi A J=none:=by
 cases hs:Gi A J with
 |none=>rfl
 |some s =>
  obtain⟨j,-,-,-,he⟩:=MD _ _ _ hs;simp only[J7,qao,qaq]at he;have hq:=hJ.q;have h1:=h _ (U3 hJ j).1 (U3 hJ j).2 he.1;rw[he.2.2.2,U2 s (by omega)]at h1;omega
def Rj.pl(frm:Nat)(R:Rj)(k:Nat):Nat:=frm+(R.first+k) % R.size
theorem Rj.pl_inj{frm:Nat}{R:Rj}(h:R.Ok){k l:Nat}(hk:k<R.size)(hl:l<R.size)(he:R.pl frm k=R.pl frm l):k=l:=by
 unfold Rj.pl at he;rw[N1 h.a hk,N1 h.a hl]at he;have:=h.a
 split at he <;> split at he <;> omega
def jrK(frm:Nat)(R:Rj)(L:List Byt):Jr:=⟨frm,R.size,(R.first+B1 L) % R.size,R.seq+L.length,B1 L,false⟩
theorem Ka(frm:Nat)(R:Rj)(L:List Byt)(i:Nat):(jrK frm R L).place i=R.pl frm (B1 L+i):=by
 unfold Jr.place jrK Rj.pl;dsimp only;rw[Nat.mod_add_mod,qb9]
theorem KB(frm:Nat)(R:Rj)(L:List Byt)(s:Byt):(jrK frm R L).passes s.length=jrK frm R (L++[s]):=by
 unfold Jr.passes jrK;rw[Gj,qam];dsimp only;rw[Nat.mod_add_mod];simp[qb9]
theorem Acu{frm:Nat}{R:Rj}(h:R.Ok)(hf:frm+R.size<=4096){L:List Byt}(hL:B1 L<=R.size):(jrK frm R L).Ok:=by
 have h1:=h.s1;have h2:=h.s2;have h3:=h.q;have h4:=KA L;exact⟨h1,hf,qbv _ (by omega),hL,by show R.seq+L.length<=_;omega⟩
structure HeldJ(V:Nat->Byt)(frm:Nat)(R:Rj):Prop where
 lies:∀k s,R.L[k]?=some s->LiesJ V (jrK frm R (R.L.take k)) s
 old:Qs V frm R.size (R.seq+R.L.length)
theorem QM{L:List Byt}{k:Nat}{s:Byt}(h:L[k]?=some s):B1 (L.take k)+blk s.length<=B1 L:=by
 have h1:=Uz L (k+1);rw[Bt h,Gj]at h1;exact h1
theorem QN{A:Dev}{frm:Nat}{R:Rj}(hR:R.Ok)(hf:frm+R.size<=4096)(h:HeldJ (at' A) frm R):∀n k,k<=R.L.length->R.L.length<k+n->J8 A n (jrK frm R (R.L.take k))=(R.L.drop k,jrK frm R R.L)
 |0,k,h1,h2=>by omega
 |n+1,k,h1,h2=>by
  by_cases hk:k<R.L.length
  .obtain⟨s,hs⟩:=AY (l:=R.L) (i:=k) (h:=hk);have ht:=QM hs;have hRt:=hR.t;have hn:Gi A (jrK frm R (R.L.take k))=some s:=VP (h.lies k s hs) (by show B1 (R.L.take k)+blk s.length<=R.size;omega);rw[Pm n hn,KB,<-Bt hs,QN hR hf h n (k+1) (by omega) (by omega)]
   have hd:R.L.drop k=s::R.L.drop (k+1):=by
    rw[qep hk];rw[qa9 hk]at hs;rw[qbr hs]
   rw[hd]
  .have hke:k=R.L.length:=by omega
   subst hke;rw[qbf,List.drop_length];exact Pj n (VQ (Acu hR hf hR.t) h.old)
theorem YH{A:Dev}{frm:Nat}{R:Rj}(hR:R.Ok)(hf:frm+R.size<=4096)(h:HeldJ (at' A) frm R):J9 A (jr0 frm R.size R.first R.seq)=(R.L,jrK frm R R.L):=by
 have h0:jr0 frm R.size R.first R.seq=jrK frm R (R.L.take 0):=by
  unfold jr0 jrK;rw[qdj];simp only[B1,qbq,qdc,qdr,qbt,qbi,qa6 hR.a]
 have h4:=KA R.L;have h5:=hR.t;unfold J9;rw[h0,QN hR hf h _ 0 (qal _) (by show R.L.length<0+(R.size+1);omega),List.drop_zero]
theorem HeldJ.congr{V V':Nat->Byt}{frm:Nat}{R:Rj}(h:HeldJ V frm R)(hR:R.Ok)(he:∀p,frm<=p->p<frm+R.size->V' p=V p):HeldJ V' frm R:=by
 have hin:∀L i,V' ((jrK frm R L).place i)=V ((jrK frm R L).place i):=fun L i=>by
  have:=qbv (R.first+(B1 L+i)) (show 0<R.size by have:=hR.s1;omega);rw[Ka];exact he _ (qcj ..) (by unfold Rj.pl;omega)
 exact⟨fun k s hs=>⟨fun i hi=>by rw[hin];exact(h.lies k s hs).piece i hi,by rw[hin];exact(h.lies k s hs).fin⟩,fun p h1 h2 h3=>by rw[he p h1 h2]at h3 |-;exact h.old p h1 h2 h3⟩
theorem HeldJ.zeros{frm:Nat}{R:Rj}(hL:R.L=[]):HeldJ (fun _=>zeros) frm R :=
 ⟨fun k s hs=>(by rw[hL]at hs;cases hs),fun p _ _ h=>(by rw[Sz]at h;cases h)⟩
theorem HeldJ.old_at{V V':Nat->Byt}{N frm:Nat}{R:Rj}{b:Byt}(h:HeldJ V frm R)(hR:R.Ok)(hN:frm+R.size<=N)(hf:B1 R.L+blk b.length<=R.size)(he:∀p,p<N->(∀i,i<blk b.length->p≠(jrK frm R R.L).place i)->V' p=V p):∀k s,R.L[k]?=some s->LiesJ V' (jrK frm R (R.L.take k)) s:=by
 intro k s hs;have ht:=QM hs
 have hkey:∀i,i<blk s.length->V' ((jrK frm R (R.L.take k)).place i)=V ((jrK frm R (R.L.take k)).place i):=fun i hi=>by
  refine he _ ?_ fun j hj hp=>?_
  .have:=qbv (R.first+(B1 (R.L.take k)+i)) (show 0<R.size by have:=hR.s1;omega);rw[Ka];unfold Rj.pl;omega
  .rw[Ka,Ka]at hp;have:=R.pl_inj hR (by omega) (by omega) hp;omega
 have hb2:=Du s.length;exact⟨fun i hi=>by rw[hkey i (by omega)];exact(h.lies k s hs).piece i hi,by rw[hkey _ (by omega)];exact(h.lies k s hs).fin⟩
theorem Xd(J:Jr)(b:Byt)(i:Nat):(CA (piB J b i)).toNat=1:=by rw[show CA (piB J b i)=1 from JA (Xa J b i)];rfl
theorem HeldJ.mid{V V':Nat->Byt}{N frm:Nat}{R:Rj}{b:Byt}(h:HeldJ V frm R)(hR:R.Ok)(hN:frm+R.size<=N)(hf:B1 R.L+blk b.length<=R.size)(hm:MidJ N V V' (jrK frm R R.L) b):HeldJ V' frm R:=by
 refine⟨h.old_at hR hN hf fun p hp hn=>?_,fun p h1 h2 h3=>?_⟩
 .rcases hm p hp with h5|⟨i,hi,he,_⟩
  .exact h5
  .exact absurd he (hn i (by omega))
 .rcases hm p (by omega)with h5|⟨i,hi,he,h5⟩
  .rw[h5]at h3 |-;exact h.old p h1 h2 h3
  .rw[h5,Xd]at h3;cases h3
theorem HeldJ.full{V V':Nat->Byt}{N frm:Nat}{R:Rj}{b:Byt}(h:HeldJ V frm R)(hR:R.Ok)(hN:frm+R.size<=N)(hf:B1 R.L+blk b.length<=R.size)(hm:Full N V V' (jrK frm R R.L) b):HeldJ V' frm { R with L:=R.L++[b] }:=by
 have hb2:=Du b.length;have hold:=h.old_at hR hN hf hm.rest;refine⟨fun k s hs=>?_,fun p h1 h2 h3=>?_⟩
 .by_cases hk:k<R.L.length
  .have hs':R.L[k]?=some s:=by rw[<-qc2 hk (l₂:=[b])];exact hs
   have h9:=hold k s hs';show LiesJ V' (jrK frm { R with L:=R.L++[b] } ((R.L++[b]).take k)) s;rw[qce (by omega)];exact h9
  .have hke:k=R.L.length:=by
    have:=(qar.1 hs).1;simp only[qam,qbx]at this;omega
   subst hke
   have hsb:s=b:=by
    have h9:(R.L++[b])[R.L.length]?=some s:=hs;rw[qdf (qae _),qdx]at h9;exact(qbr h9).symm
   subst hsb;show LiesJ V' (jrK frm { R with L:=R.L++[s] } ((R.L++[s]).take R.L.length)) s;rw[qce (qae _),qbf];exact⟨hm.piece,hm.fin⟩
 .show _<R.seq+(R.L++[b]).length;have h2':p<frm+R.size:=h2;rw[qam,qbx]
  by_cases hi:∃i,i<blk b.length/\p=(jrK frm R R.L).place i
  .obtain⟨i,hi,rfl⟩:=hi
   by_cases hil:i<blk b.length - 1
   .rw[hm.piece i hil,Xd]at h3;cases h3
   .have hie:i=blk b.length - 1:=by omega
    subst hie;have hq:=hR.q;have h4:=KA R.L;have h5:=hR.s2;rw[hm.fin,show Bv (enB (jrK frm R R.L) b)=Fw (R.seq+R.L.length) b from JC (Xb _ b),U2 b (by have:=hR.t;omega)];omega
  .have h5:=hm.rest p (by omega) fun i h6 h7=>hi ⟨i,h6,h7⟩;rw[h5]at h3 |-;have:=h.old p h1 h2' h3;omega
theorem HeldJ.forget{V:Nat->Byt}{frm:Nat}{R:Rj}(h:HeldJ V frm R):HeldJ V frm R.forget :=
 ⟨fun k s hs=>(by cases hs),h.old⟩
theorem YI{R:Rj}(h:R.Ok)(hq:R.seq+R.L.length<=8000000000000000000):R.forget.Ok :=
 ⟨h.s1,h.s2,qbv _ (by have:=h.s1;omega),hq,qal _⟩
def Fj(F:Nat->Prop)(bj:Nat):Nat->Prop:=fun x=>F x\/x=bj
structure Jone(w0 w:World)(bd bj:Nat)(A:Dev)(J:Jr)(F:Nat->Prop):Prop where
 own:Own w0 w bd A F
 jr:w.heap[bj]?=some (Bl TJ (JB bd J))
 nF:¬F bj
 ge:w0.heap.size<=bj
section
variable {w0 w w':World}{bd bj bj' br:Nat}{A A':Dev}{J J':Jr}{R R':Rj}{F F' G:Nat->Prop}{N frm:Nat}
theorem Jone.at(O:Jone w0 w bd bj A J F)(x:Nat)(h:Fj F bj x):w0.heap.size<=x/\x<w.heap.size:=by
 rcases h with h|rfl
 .exact O.own.own x h
 .exact⟨O.ge,Al O.jr⟩
theorem Grown.call{F:Nat->Prop}{w w':World}(hx:Ext [] w w'):Grown F F w w':=⟨.of0 hx,fun _ h => .inl h⟩
theorem Jone.call(O:Jone w0 w bd bj A J F)(hx:Ext [] w w'):Jone w0 w' bd bj A J F :=
 ⟨O.own.call hx,by rw[hx.block bj (Al O.jr) (by simp)];exact O.jr,O.nF,O.ge⟩
theorem Jone.dev(O:Jone w0 w bd bj A J F)(h:Own w0 w' bd A' F'/\Grown F F' w w'):Jone w0 w' bd bj A' J F'/\Grown (Fj F bj) (Fj F' bj) w w':=by
 obtain⟨h,⟨S,hS,hx⟩,hg⟩:=h;have hlt:=Al O.jr;refine⟨⟨h,?_,fun hb=>(hg bj hb).elim O.nF fun h5=>by omega,O.ge⟩,⟨S,fun x h => .inl (hS x h),hx⟩,fun x h=>?_⟩
 .rw[hx.block bj hlt fun hm=>O.nF (hS _ hm)];exact O.jr
 .rcases h with h|h
  .exact(hg x h).imp .inl id
  .exact .inl (.inr h)
theorem Jone.back(O:Jone w0 w bd bj A J F)(D:Dv w w' bd A' (Fj F bj) F' [(bj,Bl TJ (JB bd J'))]):Jone w0 w' bd bj A' J' F'/\Grown (Fj F bj) (Fj F' bj) w w':=by
 have hnew:=D.turn.new O.own.ext fun x h=>(O.at x h).1;have hoff:=D.off _ (qad ..);have hsz:=O.own.ext.size;refine⟨⟨⟨hnew,D.dev,fun x hx=>⟨?_,D.lt x hx⟩⟩,D.blk _ (qad ..),hoff,O.ge⟩,D.turn,fun x hx=>?_⟩
 .rcases D.own x hx with h|h
  .exact(O.at x h).1
  .omega
 .rcases hx with hx|hx
  .exact(D.own x hx).imp id And.left
  .exact .inl (.inr hx)
theorem U4(O:Jone w0 w bd bj A J F)(hJ:J.Ok)(a:Option Addr)(c n:Nat)(b:Byt)(R:Rd w a 1 B8 b)(hn:b.length=n)(hm:n<=900000)(hc:n<=c)(hFa:b=[]\/¬Fj F bj (adr a).block){mx:Nat}(hfew:Few A mx)(hmx:mx<=1000000000:=by decide):
  Ret prog 48 #[ptr bj,.slice a n c] w fun v w'=>v=.int .i64 (LR A J b)/\∃F',Jone w0 w' bd bj (G0 A J b) (LS A J b) F'/\Grown (Fj F bj) (Fj F' bj) w w' :=
 (YD O.jr hJ a c n b R hn hm hc (fun x h=>(O.own.own x h).2) O.nF (hFa.imp id fun h k=>h (.inl k)) hfew hmx O.own.dev).mono fun _ _ ⟨hv,F',D⟩=>⟨hv,F',O.back D⟩
theorem YJ(O:Own w0 w bd A F)(f z p q:Nat)(hr:Dp A.B.length f z p q=true)(ho:A.on=true){mx:Nat}(hfew:Few A mx)(hmx:mx<=1000000000:=by decide):
  Ret prog 34 #[ptr bd,.int .i64 (f:Int),.int .i64 (z:Int),.int .i64 (p:Int),.int .u64 (q:Int)] w fun v w'=>∃bj a n c,v=.tuple #[ptr bj,.slice a n c,.int .i64 0]/\Ext [] w w'/\w.heap.size<=bj/\Jone w0 w' bd bj A (J9 A (jr0 f z p q)).2 F/\Strs w' a n c (J9 A (jr0 f z p q)).1:=by
 have hhi:=O.dev.wf.hi;have hr2:=hr;simp only[Dp,qao,qaq]at hr2;refine(Acs (f:Int) (z:Int) (p:Int) q hhi ho hfew hmx O.dev).mono fun v w' ⟨hx,h⟩=>?_
 rcases h with⟨h1,_⟩|⟨_,bj,a,n,c,hv,hb,hj,hs⟩
 .rw[hr]at h1;cases h1
 .have hsz:=O.ext.size;exact⟨bj,a,n,c,hv,hx,hb,⟨O.call hx,hj,fun h5=>by have:=(O.own bj h5).2;omega,by omega⟩,hs⟩
structure Jtwo(w0 w:World)(bd bj br:Nat)(A:Dev)(J:Jr)(R:Rj)(F G:Nat->Prop):Prop where
 one:Jone w0 w bd bj A J F
 ref:RjAt w br R G
 g:∀x,G x->w0.heap.size<=x/\x<w.heap.size
 fg:∀x,Fj F bj x->¬G x
theorem Jtwo.go(T:Jtwo w0 w bd bj br A J R F G)(h:Jone w0 w' bd bj' A' J' F'/\Grown (Fj F bj) (Fj F' bj') w w'):Jtwo w0 w' bd bj' br A' J' R F' G/\Still (Fj F bj) G (Fj F' bj') G w w':=by
 obtain⟨h,⟨S,hS,hx⟩,hg⟩:=h;have hsz:=hx.size;refine⟨⟨h,T.ref.keep hx fun x hm hgx=>T.fg x (hS x hm) hgx,fun x hgx=>⟨(T.g x hgx).1,by have:=(T.g x hgx).2;omega⟩,fun x hf hgx=>?_⟩,fun b hb h1 h2=>hx.block b hb fun hm=>h1 (hS b hm),fun b hb h1 h2=>⟨fun h5=>(hg b h5).elim h1 fun h6=>by omega,h2⟩,hsz⟩
 rcases hg x hf with h5|h5
 .exact T.fg x h5 hgx
 .have:=(T.g x hgx).2;omega
theorem Jtwo.call(T:Jtwo w0 w bd bj br A J R F G)(hx:Ext [] w w'):Jtwo w0 w' bd bj br A J R F G:=(T.go ⟨T.one.call hx,.call hx⟩).1
structure Good(N frm:Nat)(A:Dev)(R:Rj):Prop where
 ok:R.Ok
 fit:frm+R.size<=N
 lim:N<=4096
 on:A.on=true
 left : -1<=A.left
 held:∃S,Pend A N S (fun _=>[])/\HeldJ S frm R
theorem Pend.few{S:Nat->Byt}(h:Pend A N S (fun _=>[])):Few A 0:=fun p hp=>by
 obtain⟨i,hi⟩:=qca.1 hp;have hlt:=(qar.1 hi).1;rw[h.get i (by rw[<-h.len];exact hlt)]at hi;rw[<-qbr hi];exact qae _
theorem Good.few(h:Good N frm A R):Few A 0:=let ⟨_,hp,_⟩:=h.held;hp.few
theorem Good.len(h:Good N frm A R):A.B.length=N:=let ⟨_,hp,_⟩:=h.held;hp.len
theorem Good.jok(h:Good N frm A R):(jrK frm R R.L).Ok:=Acu h.ok (qav h.fit h.lim) h.ok.t
theorem Good.open(h:Good N frm A R):J9 A (jr0 frm R.size R.first R.seq)=(R.L,jrK frm R R.L):=by
 obtain⟨S,hp,hh⟩:=h.held;have hf:=h.fit;exact YH h.ok (qav h.fit h.lim) (hh.congr h.ok fun p h1 h2=>hp.at' (by omega))
theorem Good.right(h:Good N frm A R)(hq:1<=R.seq)(hq2:R.seq<=4611686018427387904):Dp A.B.length frm R.size R.first R.seq=true:=by
 have h1:=h.fit;have h2:=h.ok.s1;have h3:=h.ok.a;have h4:=h.len;simp only[Dp,qao,qaq];omega
theorem Good.new{n frm:Nat}{R:Rj}(hR:R.Ok)(hL:R.L=[])(hf:frm+R.size<=n)(hn:n<=4096):Good n frm (Dd n) R :=
 ⟨hR,hf,hn,rfl,by show(-1:Int) <= -1;omega,_,Pend.new n,HeldJ.zeros hL⟩
theorem Good.forget(h:Good N frm A R)(hq:R.seq+R.L.length<=8000000000000000000):Good N frm A R.forget :=
 let ⟨S,hp,hh⟩:=h.held;⟨YI h.ok hq,h.fit,h.lim,h.on,h.left,S,hp,hh.forget⟩
theorem Good.again{S:Nat->Byt}{P:Nat->List Byt}(hR:R.Ok)(hf:frm+R.size<=N)(hn:N<=4096)(ho:A.on=false)(hp:Pend A N S P)(hH:∀S',(∀p,p<N->S' p=S p\/S' p∈P p)->HeldJ S' frm R)(picks:List Int):Good N frm (onD A picks) R:=by
 obtain⟨h1,h2,S',h3,h4⟩:=hp.on ho picks;exact⟨hR,hf,hn,h1,by omega,S',h3,hH S' h4⟩
theorem Good.off(h:Good N frm A R)(picks:List Int):Good N frm (onD (Kb A) picks) R:=by
 obtain⟨S,hp,hh⟩:=h.held;have hfit:=h.fit;refine Good.again (A:=Kb A) (S:=S) (P:=fun _=>[]) h.ok h.fit h.lim U ⟨hp.len,hp.get⟩ (fun S' hS=>hh.congr h.ok fun p h1 h2=>?_) picks
 rcases hS p (by omega)with h5|h5
 .exact h5
 .cases h5
theorem Good.append(h:Good N frm A R)(b:Byt) :
  (LR A (jrK frm R R.L) b=U0 R b/\Good N frm (G0 A (jrK frm R R.L) b) (Pn R b)/\LS A (jrK frm R R.L) b=jrK frm (Pn R b) (Pn R b).L/\(A.left = -1->(G0 A (jrK frm R R.L) b).left = -1)) \/
  (A.left ≠ -1/\LR A (jrK frm R R.L) b=8/\U0 R b=0/\(G0 A (jrK frm R R.L) b).on=false/\LS A (jrK frm R R.L) b={ jrK frm R R.L with dead:=true }/\∀picks,Good N frm (onD (G0 A (jrK frm R R.L) b) picks) R\/Good N frm (onD (G0 A (jrK frm R R.L) b) picks) (Pn R b)):=by
 obtain⟨S,hp,hh⟩:=h.held;have hR:=h.ok;have hRt:=hR.t;have hf:=h.fit;have hok:=Sw hR b;have hdd:¬(jrK frm R R.L).dead=true:=by simp[jrK]
 have hE:LR A (jrK frm R R.L) b=if R.size - B1 R.L<blk b.length then 7 else(Cq A (jrK frm R R.L) b).1:=by unfold LR;rw[if_neg hdd];rfl
 have hD:G0 A (jrK frm R R.L) b=if R.size - B1 R.L<blk b.length then A else(Cq A (jrK frm R R.L) b).2:=by unfold G0;rw[if_neg hdd];rfl
 have hJ:LS A (jrK frm R R.L) b=if R.size - B1 R.L<blk b.length then jrK frm R R.L else if(Cq A (jrK frm R R.L) b).1=0 then(jrK frm R R.L).passes b.length else{ jrK frm R R.L with dead:=true }:=by unfold LS;rw[if_neg hdd];rfl
 rw[hE,hD,hJ]
 by_cases hfull:R.size - B1 R.L<blk b.length
 .rw[if_pos hfull,if_pos hfull,if_pos hfull];unfold U0 Pn;rw[if_pos hfull,if_pos hfull];exact .inl ⟨rfl,h,rfl,id⟩
 .rw[if_neg hfull,if_neg hfull,if_neg hfull];have hfit:B1 R.L+blk b.length<=R.size:=by omega
  have hRE:U0 R b=0:=by unfold U0;rw[if_neg hfull]
  have hRR:Pn R b={ R with L:=R.L++[b] }:=by unfold Pn;rw[if_neg hfull]
  rcases Po (b:=b) hp h.on h.left h.jok hf (by show blk b.length<=R.size;omega)with⟨h1,h2,h3,h4,S',h5,h6⟩|⟨h1,h2,h3,S1,P,h5,h6⟩
  .rw[if_pos h1,h1,hRE];refine .inl ⟨rfl,⟨hok,by rw[hRR];exact hf,h.lim,h2,h3,S',h5,by rw[hRR];exact hh.full hR hf hfit h6⟩,?_,h4⟩;rw[hRR];exact KB frm R R.L b
  .rw[if_neg (by omega),hRE];refine .inr ⟨h1,h2,rfl,h3,rfl,fun picks=>?_⟩;obtain⟨k1,k2,S',k3,k4⟩:=h5.on h3 picks
   rcases h6 S' k4 with h7|h7
   .exact .inl ⟨hR,hf,h.lim,k1,by omega,S',k3,hh.mid hR hf hfit h7⟩
   .exact .inr ⟨hok,by rw[hRR];exact hf,h.lim,k1,by omega,S',k3,by rw[hRR];exact hh.full hR hf hfit h7⟩
end
section
variable {w0 w w':World}{bd bj:Nat}{A:Dev}{J:Jr}{R:Rj}{F:Nat->Prop}{N frm:Nat}
def Rj.more(R:Rj)(b:Byt):Rj:={ R with L:=R.L++[b] }
theorem Nf(O:Own w0 w bd A F)(g:Good N frm A R)(h1:1<=R.seq)(h2:R.seq<=4611686018427387904) :
  Ret prog 34 #[ptr bd,.int .i64 (frm:Int),.int .i64 (R.size:Int),.int .i64 (R.first:Int),.int .u64 (R.seq:Int)] w fun v w'=>∃bj a n c,v=.tuple #[ptr bj,.slice a n c,.int .i64 0]/\Ext [] w w'/\w.heap.size<=bj/\Jone w0 w' bd bj A (jrK frm R R.L) F/\Strs w' a n c R.L:=by
 have h:=YJ O frm R.size R.first R.seq (g.right h1 h2) g.on g.few
 rw[g.open]at h;exact h
theorem YK(O:Jone w0 w bd bj A (jrK frm R R.L) F)(g:Good N frm A R) :
  Ret prog 46 #[ptr bj] w fun v w'=>v=.int .i64 ((R.size - B1 R.L:Nat):Int)/\Ext [] w w':=WY O.jr g.jok
theorem YL(O:Jone w0 w bd bj A (jrK frm R R.L) F) :
  Ret prog 35 #[ptr bj] w fun v w'=>v=.tuple #[.int .i64 (R.at':Int),.int .u64 ((R.seq+R.L.length:Nat):Int)]/\Ext [] w w':=Ae9 O.jr
theorem Jone.new(O:Jone w0 w bd bj A J F){a:Option Addr}{b:Byt}(_:Rd w' a 1 B8 b)(h:b=[]\/w.heap.size<=(adr a).block):b=[]\/¬Fj F bj (adr a).block :=
 h.imp id fun h hF=>by have:=(O.at _ hF).2;omega
end
def xA:Byt:=[97,98]
def xB:Byt:=TZ 481 120
def xC:Byt:=TZ 1920 121
def xD:Byt:=TZ 1921 121
theorem Ah8:xB.length=481:=Q2 ..
theorem Ah9:xC.length=1920:=Q2 ..
def R0:Rj:=⟨[],10,0,1⟩
def R1:Rj:=R0.more xA
def R2:Rj:=R1.more xB
def R3:Rj:=R2.more xC
theorem t1:B1 R1.L=2:=by decide
theorem t2:B1 R2.L=5:=by
 show B1 ([xA]++[xB])=5;rw[Gj,Ah8];decide
theorem t3:B1 R3.L=10:=by
 show B1 (R2.L++[xC])=10;rw[Gj,Ah9,t2];decide
structure SG(N:Nat)(A:Dev)(R:Rj)(V:Nat->Byt):Prop where
 ok:R.Ok
 fit:2+R.size<=N
 lim:N<=4096
 on:A.on=true
 left : -1<=A.left
 pend:Pend A N V (fun _=>[])
 held:HeldJ V 2 R
section
variable {N:Nat}{A:Dev}{R:Rj}{V:Nat->Byt}
theorem SG.good(g:SG N A R V):Good N 2 A R:=⟨g.ok,g.fit,g.lim,g.on,g.left,V,g.pend,g.held⟩
theorem SG.len(g:SG N A R V):A.B.length=N:=g.pend.len
theorem SG.calm(g:SG N A R V):A=calm ((List.range N).map V) A.left:=by
 obtain⟨B,l,o⟩:=A;have h1:=g.on;dsimp only at h1 |-;subst h1;unfold Go.Proofs.YtcpgbcabmcbclaaGreatDoor.calm
 congr 1
 refine qck fun i=>?_
 by_cases hi:i<N
 .rw[g.pend.get i hi,qbw,qax,qdg hi];rfl
 .rw[qbu (by have:=g.len;dsimp only at this;omega),qbu (by simp;omega)]
theorem SG.app(g:SG N A R V)(b:Byt)(hfit:B1 R.L+blk b.length<=R.size) :
  (LR A (jrK 2 R R.L) b=0/\LS A (jrK 2 R R.L) b=jrK 2 (R.more b) (R.more b).L/\(A.left = -1->(G0 A (jrK 2 R R.L) b).left = -1)/\∃V',SG N (G0 A (jrK 2 R R.L) b) (R.more b) V'/\∀q,(q<2\/2+R.size<=q)->q<N->V' q=V q) \/
  (A.left ≠ -1/\LR A (jrK 2 R R.L) b=8/\LS A (jrK 2 R R.L) b={ jrK 2 R R.L with dead:=true }/\(G0 A (jrK 2 R R.L) b).on=false/\∀picks,(onD (G0 A (jrK 2 R R.L) b) picks).left = -1/\∃V',(∀q,(q<2\/2+R.size<=q)->q<N->V' q=V q)/\(SG N (onD (G0 A (jrK 2 R R.L) b) picks) R V'\/SG N (onD (G0 A (jrK 2 R R.L) b) picks) (R.more b) V')):=by
 have hjok:(jrK 2 R R.L).Ok:=g.good.jok;have hff:¬R.size - B1 R.L<blk b.length:=by have:=Du b.length;omega
 have hdd:¬(jrK 2 R R.L).dead=true:=by simp[jrK]
 have hE:LR A (jrK 2 R R.L) b=(Cq A (jrK 2 R R.L) b).1:=by unfold LR;rw[if_neg hdd];exact if_neg hff
 have hD:G0 A (jrK 2 R R.L) b=(Cq A (jrK 2 R R.L) b).2:=by unfold G0;rw[if_neg hdd];exact if_neg hff
 have hJ:LS A (jrK 2 R R.L) b=if(Cq A (jrK 2 R R.L) b).1=0 then(jrK 2 R R.L).passes b.length else{ jrK 2 R R.L with dead:=true }:=by unfold LS;rw[if_neg hdd];exact if_neg hff
 have hRR:R.more b=Pn R b:=by unfold Pn;rw[if_neg hff];rfl
 have hpl:∀i,2<=(jrK 2 R R.L).place i/\(jrK 2 R R.L).place i<2+R.size:=fun i=>⟨qcj 2 _,hjok.place i⟩
 have hfull:∀{S'},Full N V S' (jrK 2 R R.L) b->∀q,(q<2\/2+R.size<=q)->q<N->S' q=V q:=fun h6 q hq hN=>h6.rest q hN fun i _ he=>by
  have:=hpl i;omega
 rw[hE,hD,hJ]
 rcases Po (b:=b) g.pend g.on g.left hjok g.fit (by show blk b.length<=R.size;omega)with⟨h1,h2,h3,h4,S',h5,h6⟩|⟨h1,h2,h3,S1,P,h5,h6⟩
 .rw[if_pos h1];exact .inl ⟨h1,KB 2 R R.L b,h4,S',⟨by rw[hRR];exact Sw g.ok b,g.fit,g.lim,h2,h3,h5,g.held.full g.ok g.fit hfit h6⟩,hfull h6⟩
 .rw[if_neg (by rw[h2];decide)];refine .inr ⟨h1,h2,rfl,h3,fun picks=>?_⟩;obtain⟨k1,k2,S',k3,k4⟩:=h5.on h3 picks
  rcases h6 S' k4 with h7|h7
  .refine⟨k2,S',fun q hq hN=>?_,.inl ⟨g.ok,g.fit,g.lim,k1,by omega,k3,g.held.mid g.ok g.fit hfit h7⟩⟩
   rcases h7 q hN with h8|⟨i,_,h8,_⟩
   .exact h8
   .have:=hpl i;omega
  .exact⟨k2,S',hfull h7,.inr ⟨by rw[hRR];exact Sw g.ok b,g.fit,g.lim,k1,by omega,k3,g.held.full g.ok g.fit hfit h7⟩⟩
theorem Pend.congr{P:Nat->List Byt}{S S':Nat->Byt}(h:Pend A N S P)(he:∀q,q<N->S' q=S q):Pend A N S' P:=⟨h.len,fun q hq=>by rw[h.get q hq,he q hq]⟩
theorem SG.put{A':Dev}(g:SG N A R V){V':Nat->Byt}(ho:A'.on=true)(hl : -1<=A'.left)(hp:Pend A' N V' (fun _=>[]))(he:∀q,2<=q->q<2+R.size->V' q=V q):SG N A' R V' :=
 ⟨g.ok,g.fit,g.lim,ho,hl,hp,g.held.congr g.ok fun q h1 h2=>he q h1 h2⟩
theorem SG.save(g:SG N A R V)(gen:Nat)(body:Byt)(h1:1<=gen)(hg:gen<=4611686018427387904)(hb:body.length<=480) :
  (Jp A gen body=0/\(A.left = -1->(DI A gen body).left = -1)/\SG N (DI A gen body) R (fun q=>if q=gen % 2 then CU gen body else V q)) \/
  (A.left ≠ -1/\Jp A gen body=8/\(DI A gen body).on=false/\Few (DI A gen body) 1/\(DI A gen body).B.length=N/\∀picks,(onD (DI A gen body) picks).left = -1/\(SG N (onD (DI A gen body) picks) R V\/SG N (onD (DI A gen body) picks) R (fun q=>if q=gen % 2 then CU gen body else V q))):=by
 have hN:2<=N:=by have:=g.ok.s1;have:=g.fit;omega
 have hfit:=g.fit;have hleft:=g.left;have hm:gen % 2<2:=qbv _ (by decide);have hs:=Ya (B:=(List.range N).map V) (left:=A.left) (gen:=gen) (body:=body) (by simpa using hN) h1 hg hb g.left;rw[<-g.calm]at hs;have hpA:=g.pend
 by_cases l0:A.left=0
 .rw[if_pos (Or.inl l0),if_pos l0]at hs;have hp:Pend (DI A gen body) N V (fun _=>[]):=by rw[hs.2];exact⟨hpA.len,hpA.get⟩
  have ho:(DI A gen body).on=false:=by rw[hs.2]
  refine .inr ⟨by omega,hs.1,ho,hp.few.mono (by decide),hp.len,fun picks=>?_⟩;obtain⟨k1,k2,S',k3,k4⟩:=hp.on ho picks;refine⟨k2,.inl (g.put k1 (by omega) (k3.congr fun q hq=>?_) fun _ _ _=>rfl)⟩
  rcases k4 q hq with h5|h5
  .exact h5.symm
  .cases h5
 .by_cases l1:A.left=1
  .rw[if_pos (Or.inr l1),if_neg l0,if_pos l1]at hs
   have hp:Pend (DI A gen body) N V (fun q=>if q=gen % 2 then[CU gen body]else[]):=by
    rw[hs.2];refine⟨by simp[EQ],fun q hq=>?_⟩
    have hq2:((List.range N).map V).map (fun b=>(b,([]:List Byt)))=A.B:=by
     have:=qac Dev.B g.calm;exact this.symm
    show(((((List.range N).map V).map fun b=>(b,([]:List Byt))).modify (gen % 2) fun p=>(p.1,p.2++[CU gen body])))[q]?=_;rw[hq2,qcd,hpA.get q hq];show some (if gen % 2=q then((V q,[]++[CU gen body]):Byt × List Byt)else(V q,[]))=_
    by_cases he:gen % 2=q
    .rw[if_pos he,if_pos he.symm];rfl
    .rw[if_neg he,if_neg (fun h=>he h.symm)]
   have ho:(DI A gen body).on=false:=by rw[hs.2];rfl
   refine .inr ⟨by omega,hs.1,ho,fun p hp2=>?_,hp.len,fun picks=>?_⟩
   .obtain⟨i,hi⟩:=qca.1 hp2;have hlt:=(qar.1 hi).1;rw[hp.get i (by rw[<-hp.len];exact hlt)]at hi;rw[<-qbr hi];dsimp only
    split <;> simp
   .obtain⟨k1,k2,S',k3,k4⟩:=hp.on ho picks;refine⟨k2,?_⟩
    rcases k4 (gen % 2) (by omega)with h5|h5
    .refine .inl (g.put k1 (by omega) (k3.congr fun q hq=>?_) fun _ _ _=>rfl)
     by_cases he:q=gen % 2
     .rw[he];exact h5.symm
     .rcases k4 q hq with h6|h6
      .exact h6.symm
      .rw[if_neg he]at h6;cases h6
    .refine .inr (g.put k1 (by omega) (k3.congr fun q hq=>?_) fun q h6 h7=>if_neg (by omega));rw[if_pos rfl,qab]at h5
     by_cases he:q=gen % 2
     .rw[if_pos he,he,h5]
     .rw[if_neg he]
      rcases k4 q hq with h6|h6
      .exact h6.symm
      .rw[if_neg he]at h6;cases h6
  .rw[if_neg (by omega),if_neg l0,if_neg l1]at hs;have hd:=hs.2;refine .inl ⟨hs.1,fun hl=>by rw[hd];exact if_pos hl,g.put (by rw[hd];rfl) (by rw[hd];show -1<=(if A.left = -1 then -1 else A.left - 2);split <;> omega) ?_ fun q h6 h7=>if_neg (by omega)⟩;rw[hd];refine⟨by simp[Go.Proofs.YtcpgbcabmcbclaaGreatDoor.calm],fun q hq=>?_⟩;show((((List.range N).map V).set (gen % 2) (CU gen body)).map fun b=>(b,[]))[q]?=_;rw[qax,qc1]
   by_cases h:q=gen % 2
   .subst h;rw[if_pos rfl,if_pos (by simpa using hq),if_pos rfl];rfl
   .rw[if_neg (fun h5=>h h5.symm),qax,qdg hq,if_neg h];rfl
theorem SG.save0(g:SG N A R V)(hl:A.left = -1)(gen:Nat)(body:Byt)(h1:1<=gen)(hg:gen<=4611686018427387904)(hb:body.length<=480) :
  Jp A gen body=0/\(DI A gen body).left = -1/\SG N (DI A gen body) R (fun q=>if q=gen % 2 then CU gen body else V q) :=
 let h:=(g.save gen body h1 hg hb).resolve_right fun h=>h.1 hl
 ⟨h.1,h.2.1 hl,h.2.2⟩
theorem SG.off(g:SG N A R V)(picks:List Int):SG N (onD (Kb A) picks) R V:=by
 have hp:Pend (Kb A) N V (fun _=>[]):=⟨g.pend.len,g.pend.get⟩;obtain⟨h1,h2,S',h3,h4⟩:=hp.on rfl picks;refine⟨g.ok,g.fit,g.lim,h1,by omega,⟨h3.len,fun q hq=>?_⟩,g.held⟩;rw[h3.get q hq]
 rcases h4 q hq with h5|h5
 .rw[h5]
 .cases h5
theorem SG.new{n:Nat}{R:Rj}(hR:R.Ok)(hL:R.L=[])(hf:2+R.size<=n)(hn:n<=4096):SG n (Dd n) R (fun _=>zeros) :=
 ⟨hR,hf,hn,rfl,by show(-1:Int) <= -1;decide,Pend.new n,HeldJ.zeros hL⟩
theorem SG.load(g:SG N A R V){g0 g1:Nat}{l0 l1:Byt}(h0:C2 0 (V 0)=g0)(h1:C2 1 (V 1)=g1)(hl0:g1<g0->Di 0 (V 0)=l0)(hl1:g0<=g1->0<g1->Di 1 (V 1)=l1) :
  DT A=(if g0=0/\g1=0 then 4 else 0)/\Gc A=(if g1<g0 then g0 else g1)/\Dj A=(if g1<g0 then l0 else if g1=0 then[]else l1):=by
 have hN:2<=N:=by have:=g.ok.s1;have:=g.fit;omega
 have e0:((List.range N).map V).getD 0 zeros=V 0:=by rw[qa5,qax,qdg (by omega)];rfl
 have e1:((List.range N).map V).getD 1 zeros=V 1:=by rw[qa5,qax,qdg (by omega)];rfl
 have h:=TK (g0:=g0) (g1:=g1) (l0:=l0) (l1:=l1) (B:=(List.range N).map V) (left:=A.left) (by simpa using hN) (by rw[e0];exact h0) (by rw[e1];exact h1) (by rw[e0];exact hl0) (by rw[e1];exact hl1);rw[<-g.calm]at h;exact h
end
abbrev Kvl:Type:=List (Byt × Byt)
def Gu(l:List (Byt × Sv)):Kvl:=l.map fun p=>(p.1,p.2.v)
def JD(kv:Kvl)(x:Wr):Kvl:=if x.d=true then EN kv x.k else Ig (EN kv x.k) x.k x.v
def JE(kv:Kvl)(k:Byt):Int:=match B7 kv k with|some v=>Kd k v|none=>0
def goK(kv:Kvl)(room:Int):List Byt->Int->List Wr->Int
 |_,b,[]=>if room<b then 7 else 0
 |seen,b,x::L=>if LM (decide (x.k∈seen)) x=true then 1 else goK kv room (seen++[x.k]) (b - JE kv x.k+FK x) L
def Dm(kv:Kvl)(n room:Int)(L:List Wr):Int:=if 1000<L.length then 6 else goK kv room [] n L
theorem Pq{l:List (Byt × Sv)}{k:Byt}:B7 (Gu l) k=(B7 l k).map Sv.v:=EE (f:=Sv.v)
theorem S5(l:List (Byt × Sv))(k:Byt):Hg l k=JE (Gu l) k:=by
 unfold Hg JE;rw[Pq];cases B7 l k <;> rfl
theorem Acv(l:List (Byt × Sv))(room:Int):∀(L:List Wr) (seen:List Byt) (b:Int),goR l room seen b L=goK (Gu l) room seen b L
 | [],_,_=>rfl
 |x::L,seen,b=>by
  rw[goR,goK,S5,Acv l room L]
theorem YM(l:List (Byt × Sv))(n room:Int)(L:List Wr):Ss l n room L=Dm (Gu l) n room L:=by
 unfold Ss Dm;rw[Acv]
theorem Xe{l:List (Byt × Sv)}{x:Wr}{s:Sv}(h:s.v=x.v):Gu (P9 l x s)=JD (Gu l) x:=by
 unfold P9 JD Gu
 split
 .exact(LL (f:=Sv.v)).symm
 .rw[LL (f:=Sv.v),<-h,LK (f:=Sv.v)]
def EG(kv:Kvl)(L:List Wr):Kvl:=L.foldl JD kv
def DD(kv:Kvl)(n:Int):List Wr->Int
 | []=>n
 |x::L=>DD (JD kv x) (n - JE kv x.k+FK x) L
theorem Ps{kv:Kvl}{L:List Wr}{x:Wr}:EG kv (L++[x])=JD (EG kv L) x:=by simp[EG]
theorem KC:∀{L:List Wr} {kv:Kvl} {n:Int} {x:Wr},DD kv n (L++[x])=DD kv n L - JE (EG kv L) x.k+FK x
 | [],_,_,_=>rfl
 |y::L,kv,n,x=>by
  rw[qb8,DD,DD,KC];rfl
theorem Afd{kv:Kvl}(h:∀p∈kv,p.1.length<=32/\p.2.length<=128)(k:Byt):0<=JE kv k/\JE kv k<=164:=by
 unfold JE
 cases hq:B7 kv k with
 |none=>simp
 |some v=>have:=h _ (EF hq);dsimp only[Kd]at this |-;omega
theorem Afe{x:Wr}(h:x.Few):0<=FK x/\FK x<=164:=by
 unfold FK Wr.Few at *
 split
 .simp
 .unfold Kd;omega
theorem KvAt.fewK{w:World}{M:Mut}{l:List (Byt × Sv)}{o:Obj}(K:KvAt w M l o):∀p∈Gu l,p.1.length<=32/\p.2.length<=128:=fun p hp=>by
 obtain⟨q,hq,rfl⟩:=qak.1 hp;exact K.few q hq
structure Sp where
 bd:Nat
 bs:Nat
 bj:Nat
 bp:Nat
 ba:Nat
 bt:Nat
 m1:Nat
 m2:Nat
structure Sx where
 gen:Nat
 root:Int
 n:Int
 kv:Kvl
 t:List (Byt × Int)
 P:List Nat
 T:Int
 V:Nat->Byt
def Sp.blk(p:Sp)(x:Sx)(o1 o2:Obj):List (Nat × Obj) :=
 [(p.bs,Bl CV (CK (ptr p.bd) (ptr p.bj) (ptr p.bp) (ptr p.bt) x.gen x.root p.m1 p.m2 x.n false)),(p.m1,o1),(p.m2,o2),(p.bp,Bl TPg [.slice (some ⟨p.ba,0,none⟩) x.P.length x.P.length]),(p.ba,Bl TSt (x.P.map stv)),(p.bt,Bl TT (Q1 p.bd p.bp 362))]
def Sp.own(p:Sp):List Nat:=[p.bs,p.m1,p.m2,p.bp,p.ba,p.bt]
def Ms(F:Mut)(p:Sp):Mut:=fun x=>Fj F p.bj x\/x∈p.own
structure Sok(w0 w:World)(p:Sp)(A:Dev)(R:Rj)(x:Sx)(F:Mut):Prop where
 jone:Jone w0 w p.bd p.bj A (jrK 2 R R.L) F
 good:SG A.B.length A R x.V
 ex:∃l o1 o2,Fo w (Fj F p.bj) (p.blk x o1 o2)/\KvAt w (Ms F p) l o1/\Gu l=x.kv/\Ec str (mi x.t) o2
 ge:∀q∈p.own,w0.heap.size<=q
 nn : -(200*x.T)<=x.n/\x.n<=200*x.T
 tt:∀q∈x.t,0<=q.2/\q.2<=x.T
 tT:0<=x.T/\x.T<=4000000
section
variable {w0 w w':World}{p:Sp}{A:Dev}{R:Rj}{x:Sx}{F:Mut}
theorem Sok.call(O:Sok w0 w p A R x F)(hx:Ext [] w w'):Sok w0 w' p A R x F:=by
 obtain⟨l,o1,o2,hF,K,hk,hM⟩:=O.ex;exact⟨O.jone.call hx,O.good,⟨l,o1,o2,(hF.call (Grown.call hx)).1,⟨K.m,fun q hq=>⟨(K.ok q hq).1.call hx,(K.ok q hq).2⟩,K.few⟩,hk,hM⟩,O.ge,O.nn,O.tt,O.tT⟩
theorem Sok.lt(O:Sok w0 w p A R x F):∀q,Ms F p q->q<w.heap.size:=fun q hq=>by
 obtain⟨l,o1,o2,hF,-⟩:=O.ex
 rcases hq with hq|hq
 .exact(O.jone.at q hq).2
 .have hb:∀y∈p.blk x o1 o2,y.1<w.heap.size:=fun y hy=>Al (hF.blk y hy);simp only[Sp.own,qaa,qaj,or_false]at hq;simp only[Sp.blk,qaa,qaj,or_false,forall_eq_or_imp,forall_eq]at hb
  rcases hq with rfl|rfl|rfl|rfl|rfl|rfl
  .exact hb.1
  .exact hb.2.1
  .exact hb.2.2.1
  .exact hb.2.2.2.1
  .exact hb.2.2.2.2.1
  .exact hb.2.2.2.2.2
def Aia(w0 w:World)(bd bj N:Nat)(A:Dev)(R:Rj)(V:Nat->Byt)(F:Mut)(b:Byt)(v:Value)(w':World):Prop :=
 ∃(e:Int) (A':Dev) (J':Jr) (F':Mut),v=.int .i64 e/\Jone w0 w' bd bj A' J' F'/\Grown (Fj F bj) (Fj F' bj) w w' /\
  ((e=0/\J'=jrK 2 (R.more b) (R.more b).L/\(A.left = -1->A'.left = -1)/\∃V',SG N A' (R.more b) V'/\∀q,(q<2\/2+R.size<=q)->q<N->V' q=V q) \/
   (e=8/\A.left ≠ -1/\A'.on=false/\Few A' 1000000/\∀picks,(onD A' picks).left = -1/\∃V',(∀q,(q<2\/2+R.size<=q)->q<N->V' q=V q)/\(SG N (onD A' picks) R V'\/SG N (onD A' picks) (R.more b) V')))
theorem U5{A:Dev}{J:Jr}{b:Byt}{m:Nat}(h:Few A m):Few (Cq A J b).2 (m+blk b.length):=by
 have hb:=Du b.length;have h1:=LQ (J:=J) (b:=b) h (blk b.length - 1);have h2:=JR h1;have h3:=HP h2 (J.place (blk b.length - 1):Int) (CY 2 (Fw J.seq b));have h4:=JR h3;have e:m+(blk b.length - 1)+1=m+blk b.length:=by omega
 rw[e]at h3 h4;unfold Cq
 split
 .split
  .split
   .exact h4
   .exact h3
  .exact h2.mono (by omega)
 .exact h1.mono (by omega)
theorem YN{A:Dev}{J:Jr}{b:Byt}{m:Nat}(h:Few A m):Few (G0 A J b) (m+blk b.length):=by
 unfold G0
 split
 .exact h.mono (by omega)
 .split
  .exact h.mono (by omega)
  .exact U5 h
theorem YO{N bd bj:Nat}{V:Nat->Byt}(O:Jone w0 w bd bj A (jrK 2 R R.L) F)(g:SG N A R V)(b:Byt)(hfit:B1 R.L+blk b.length<=R.size)(a:Option Addr)(c n:Nat)(Rb:Rd w a 1 B8 b)(hn:b.length=n)(hc:n<=c)(hFa:b=[]\/¬Fj F bj (adr a).block)(hm:n<=900000:=by omega):
  Ret prog 48 #[ptr bj,.slice a n c] w (Aia w0 w bd bj N A R V F b) :=
 (U4 O g.good.jok a c n b Rb hn hm hc hFa g.good.few).mono fun v w' ⟨hv,F',O',G⟩=>by
  have hB:=M8 b.length;have hfw:Few (G0 A (jrK 2 R R.L) b) 1000000:=(YN (m:=0) g.good.few).mono (by omega);refine⟨_,_,_,F',hv,O',G,?_⟩
  rcases g.app b hfit with⟨h1,h2,h3,V',h4,h5⟩|⟨h0,h1,h2,h3,h4⟩
  .exact .inl ⟨h1,h2,h3,V',h4,h5⟩
  .exact .inr ⟨h1,h0,h3,hfw,h4⟩
theorem Jone.over{bd bj:Nat}{J:Jr}{S:List Nat}(O:Jone w0 w bd bj A J F)(hx:Ext S w w')(hS:∀y∈S,¬Fj F bj y)(hge:∀y∈S,w0.heap.size<=y):Jone w0 w' bd bj A J F :=
 ⟨⟨O.own.ext.then hx fun y hy => .inr (hge y hy),O.own.dev.keep hx fun y hy h=>hS y hy (.inl h),fun y h=>by have:=O.own.own y h;have:=hx.size;omega⟩,by rw[hx.block bj (Al O.jr) fun h=>hS _ h (.inr rfl)];exact O.jr,O.nF,O.ge⟩
theorem Wrs.call{M:Mut}{a:Option Addr}{n c:Nat}{L:List Wr}(h:Wrs w M a n c L)(hx:Ext [] w w'):Wrs w' M a n c L:=h.turn (Grown.call hx)
theorem Xf{kv:Kvl}{room:Int}:∀{L:List Wr} {seen:List Byt} {b:Int},goK kv room seen b L=0->∀y∈L,y.Few
 | [],_,_,_,y,hy=>by cases hy
 |z::L,seen,b,h,y,hy=>by
  rw[goK]at h
  split at h
  .cases h
  .rename_i hb
   rcases qaa.1 hy with rfl|hy
   .unfold LM at hb;simp only[qee,qd1,qc9]at hb;exact⟨by omega,by omega⟩
   .exact Xf h y hy
theorem U6{kv:Kvl}{n room:Int}{L:List Wr}(h:Dm kv n room L=0):L.length<=1000/\∀y∈L,y.Few:=by
 unfold Dm at h
 split at h
 .cases h
 .exact⟨by omega,Xf h⟩
theorem Hd{m:Int}:∀{L:List Wr} {kv:Kvl} {n:Int},(∀q∈kv,q.1.length<=32/\q.2.length<=128)->(∀y∈L,y.Few) -> -(200*m)<=n->n<=200*m -> -(200*(m+L.length))<=DD kv n L/\DD kv n L<=200*(m+L.length)
 | [],kv,n,_,_,h1,h2=>by simp[DD];omega
 |z::L,kv,n,hkv,hL,h1,h2=>by
  rw[DD];have ha:=Afd hkv z.k;have hb:=Afe (hL z (qad ..));have hz:=hL z (qad ..)
  have:=Hd (m:=m+1) (L:=L) (kv:=JD kv z) (n:=n - JE kv z.k+FK z) (fun q hq=>by
   unfold JD at hq
   split at hq
   .exact hkv q (HV hq)
   .rcases LO hq with rfl|hq
    .exact hz
    .exact hkv q (HV hq)) (fun y hy=>hL y (qah _ hy)) (by omega) (by omega)
  rw[qaw];omega
end
def He(t:List (Byt × Int))(W:List Wr):List (Byt × Int):=W.foldl (fun t x=>Uw t x.k) t
theorem Ng{t:List (Byt × Int)}{W:List Wr}{x:Wr}:He t (W++[x])=Uw (He t W) x.k:=by simp[He]
section
variable {w0 w w':World}{p:Sp}{A:Dev}{R:Rj}{x:Sx}{F:Mut}
theorem Aff{M:Mut}{o1 o2 z1 z2 ob:Obj}(hF:Fo w M (p.blk x o1 o2))(H:Ctx w [p.bs,p.m1,p.m2] w' [(p.bs,ob),(p.m1,z1),(p.m2,z2)]) :
  Fo w' M ([(p.bs,ob),(p.m1,z1),(p.m2,z2)]++(p.blk x o1 o2).drop 3):=by
 have hk:([(p.bs,ob),(p.m1,z1),(p.m2,z2)]++(p.blk x o1 o2).drop 3).map (·.1)=(p.blk x o1 o2).map (·.1):=rfl;have hnd:=hF.nd;refine⟨fun y hy=>?_,?_,fun y hy=>?_⟩
 .rcases qat.1 hy with hy|hy
  .exact H.blk y hy
  .have hb:=hF.blk y (qcr hy);rw[H.ext.block y.1 (Al hb) fun h5=>?_]
   .exact hb
   .simp only[Sp.blk,qbh,qaa,qaj,or_false,forall_eq_or_imp,forall_eq]at hnd;simp only[Sp.blk,List.drop_succ_cons,List.drop_zero,qaa,qaj,or_false]at hy h5
    rcases hy with rfl|rfl|rfl <;> rcases h5 with h5|h5|h5 <;> simp_all
 .have h1:((p.blk x o1 o2).map (·.1)).Pairwise (·≠·):=qbn.2 hnd;rw[<-hk]at h1;exact qbn.1 h1
 .have h1:y.1∈(p.blk x o1 o2).map (·.1):=by rw[<-hk];exact qak.2 ⟨y,hy,rfl⟩
  obtain⟨z,hz,he⟩:=qak.1 h1;rw[<-he];exact hF.off z hz
theorem Acw{F':Mut}(h:Grown (Fj F p.bj) (Fj F' p.bj) w w'):Grown (Ms F p) (Ms F' p) w w':=by
 obtain⟨⟨S,hS,hx⟩,g⟩:=h;exact⟨⟨S,fun y hy => .inl (hS y hy),hx⟩,fun y hy=>hy.elim (fun h=>(g y h).imp .inl id) fun h => .inl (.inr h)⟩
structure Cj(p:Sp)(x:Sx)(M:Mut)(wb:World)(L:List Wr)(i:Nat)(l:List (Byt × Sv))(t:List (Byt × Int))(z1 z2:Obj)(w':World):Prop where
 H:Ctx wb [p.bs,p.m1,p.m2] w' [(p.bs,Bl CV (CK (ptr p.bd) (ptr p.bj) (ptr p.bp) (ptr p.bt) x.gen x.root p.m1 p.m2 (DD x.kv x.n (L.take i)) false)),(p.m1,z1),(p.m2,z2)]
 K:KvAt w' M l z1
 k:Gu l=EG x.kv (L.take i)
 m:Ec str (mi t) z2
 te:t=He x.t (L.take i)
 t:∀q∈t,0<=q.2/\q.2<=x.T+i
structure Dd9(w0 w:World)(p:Sp)(A:Dev)(F:Mut):Prop where
 own:Own w0 w p.bd A F
 bs:∃(vj vp vt:Value) (gen:Nat) (root n:Int),w.heap[p.bs]?=some (Bl CV (CK (ptr p.bd) vj vp vt gen root p.m1 p.m2 n true))
 nF:¬F p.bs
 ge:w0.heap.size<=p.bs
 off:A.on=false
 few:Few A 1000000
def CkOut(w0:World)(p:Sp)(F:Mut)(C:Dev->Rj->Sx->Prop)(Z:Dev->Prop)(w:World)(v:Value)(w':World):Prop :=
 ∃(e:Int) (A':Dev) (F':Mut),v=.int .i64 e/\Grown (Ms F p) (Ms F' p) w w'/\((e=0/\∃R' x',Sok w0 w' p A' R' x' F'/\C A' R' x')\/(e=8/\Dd9 w0 w' p A' F'/\Z A'))
def CmOut(w0:World)(p:Sp)(A:Dev)(R:Rj)(x:Sx)(F:Mut)(L:List Wr)(C:Dev->Rj->Sx->Prop)(Z:Dev->Prop)(w:World)(v:Value)(w':World):Prop :=
 (v=.int .i64 (Dm x.kv x.n (DJ A.B.length) L)/\(Dm x.kv x.n (DJ A.B.length) L≠0\/L=[])/\Sok w0 w' p A R x F/\Ext [] w w') \/
 (Dm x.kv x.n (DJ A.B.length) L=0/\L≠[]/\v=.int .i64 0/\∃A1 R1 x1 A' F' V',C A1 R1 x1/\Sok w0 w' p A' (R1.more (opB L)) { x1 with n:=DD x1.kv x1.n L,kv:=EG x1.kv L,t:=He x1.t L,T:=x1.T+L.length,V:=V' } F'/\A'.B.length=A.B.length/\(A1.left = -1->A'.left = -1)/\(∀q,(q<2\/2+R1.size<=q)->q<A.B.length->V' q=x1.V q)/\Grown (Ms F p) (Ms F' p) w w') \/
 (Dm x.kv x.n (DJ A.B.length) L=0/\L≠[]/\v=.int .i64 8/\∃A' F',Dd9 w0 w' p A' F'/\Grown (Ms F p) (Ms F' p) w w'/\(Z A'\/∃A1 R1 x1,C A1 R1 x1/\A1.left ≠ -1/\∀picks,(onD A' picks).left = -1/\∃V',(∀q,(q<2\/2+R1.size<=q)->q<A.B.length->V' q=x1.V q)/\(SG A.B.length (onD A' picks) R1 V'\/SG A.B.length (onD A' picks) (R1.more (opB L)) V')))
theorem Pt(O:Sok w0 w p A R x F)(a:Option Addr)(nn c:Nat)(L:List Wr)(X:Wrs w (Ms F p) a nn c L)(hnn:nn<=1000000000)(hT:x.T<=3000000){C:Dev->Rj->Sx->Prop}{Z:Dev->Prop}(hC:∀{A' R' x'},C A' R' x'->x'.kv=x.kv/\x'.n=x.n/\x'.T=x.T/\A'.B.length=A.B.length/\B1 R'.L+blk (opB L).length<=R'.size)(hfit:Dm x.kv x.n (DJ A.B.length) L=0->L≠[]->B1 R.L+blk (opB L).length<=R.size->C A R x)(hck:∀w1,Ext [] w w1->Dm x.kv x.n (DJ A.B.length) L=0->L≠[]->¬B1 R.L+blk (opB L).length<=R.size->Ret prog 16 #[ptr p.bs] w1 (CkOut w0 p F C Z w1)) :
  Ret prog 13 #[ptr p.bs,.slice a nn c] w (CmOut w0 p A R x F L C Z w):=by
 obtain⟨wI,rfl⟩:=qD w;have hnL:=X.num;have hB:=O.good.lim;have hnn0:=O.nn;have hT0:=O.tT
 have hs:wI.heap[p.bs]?=some (Bl CV (CK (ptr p.bd) (ptr p.bj) (ptr p.bp) (ptr p.bt) x.gen x.root p.m1 p.m2 x.n false)):=by
  obtain⟨l,o1,o2,hF,-⟩:=O.ex;exact hF.blk _ (qad ..)
 have hright:=(fun(l:List (Byt × Sv)) (o1 o2:Obj) (hF:Fo wI (Fj F p.bj) (p.blk x o1 o2)) (K:KvAt wI (Ms F p) l o1)=>let ⟨_,_,hhd⟩:=O.jone.own.dev.hd;Yw wI a nn c L hs hhd (hF.blk (p.m1,o1) (by simp[Sp.blk])) K X hnn);obtain⟨l0,o10,o20,hF0,K0,hk0,hM0⟩:=O.ex;have hright:=hright l0 o10 o20 hF0 K0;rw[YM,hk0]at hright;clear hF0 K0 hk0 hM0;refine Ax (fn:=Tryz.f13) func13 U [ptr p.bs,.slice a nn c] U (Ad (Ac U (qA (Aq (Ad (Ao U (Ah qB (JY hs) U ?_)))))));rintro v w ⟨rfl,rfl⟩;refine Ac U (qA (Ad (Ae U (AN U U (qA (Ar _ U ?_ ?_))))))
 .intro h1;replace h1:=Bh h1;exact absurd U h1
 .intro h1;replace h1:=Bi h1;refine Ap (Aa (Aq (Ad (Ao U (Aj U (Ah qB hright U ?_))))));rintro v w2 ⟨rfl,hx19⟩;refine Ac U (qA (Ad (B5 (α:=Unit) 133169152 (fun _=>[(26,.bool ((!decide (Dm x.kv x.n (DJ A.B.length) L=0) || decide (nn=0))))]) (fun _ w'=>w2=w') U ?_ ?_)))
  .refine Ae U (AN U U (A4 U (AU 22 U ?_ ?_)))
   .intro h1;replace h1:=Bh h1;refine Ak U (Ak U (Ak U (AR U (.bool _) U (Ab ?_))));exact⟨rfl,(),rfl,⟨qac Value.bool (by simp_all;try omega),trivial⟩,rfl⟩
   .intro h2;replace h2:=Bi h2;refine Aj U (AP FU U (B6 U U (AJ U (.bool _) U (Ab ?_))));exact⟨rfl,(),rfl,⟨qac Value.bool (by simp_all;try omega),trivial⟩,rfl⟩
  rintro - j26 w rfl;refine Ar _ U ?_ ?_
  .intro h2;refine Ad (Ae U (Ac U (qA (Aw (An (AE (v:=(.int _ _)) U U U ?_))))));refine .inl ⟨rfl,?_,O.call hx19,hx19⟩;simp only[qcp,qef,qc9,qaq]at h2;exact h2.imp id fun h=>qa8 (by omega)
  .intro h2;simp only[qd1,Bool.not_eq_false',qc9,qaq]at h2;obtain⟨hr0,hn0⟩:=h2;have hL0:L≠[]:=fun h=>hn0 (by rw[hnL,h];rfl);obtain⟨hL1,hLf⟩:=U6 hr0;have O2:=O.call hx19;have X2:=X.call hx19;refine Ap (Aa (Ad (Aj U (Ah qB (Ae3 w2 a nn c L X2 hLf) U ?_))));rintro v w3 ⟨a29,c29,rfl,R29,h29,hc29,hx29⟩;have O3:=O2.call hx29;have X3:=X2.call hx29;have hs3:=(hx19.trans hx29).to hs (by simp);have hOL:=N0 hLf;have H:=Ctx.start w3 [];have X29:Rdx w3 (Ms F p) a29 (opB L):=⟨R29,h29.imp id fun h hj=>by have:=O2.lt _ hj;omega⟩;refine Ai U (qA (Aq (BQ [([0,1,3,4,5,6],2),([],7),([],8)] (fun z=>z.heap[p.bs]?=some (Bl CV (CK (ptr p.bd) (ptr p.bj) (ptr p.bp) (ptr p.bt) x.gen x.root p.m1 p.m2 x.n false))) [] mixed ((H.drew.ext.to hs3 (by simp))) ?_)));refine A7 U U ?_
   refine Ca U (NQ AO U (CP U (Bg U (AF Nw U (BO MR U (fun _ hx=>(by rw[Au hx];rfl)) ?_)))));refine Bj ?_;replace H:=H.drew;refine Ah qB (ER _ _) U ?_;rintro v w ⟨rfl,rfl⟩;rw[GW];refine Ab (Be ((H.ext.to hs3 (by simp))) ?_);refine A7 U U (Bj (Ah qB (YK (O3.jone.call H.ext) O3.good.good) U ?_));rintro v w ⟨rfl,hx37⟩;replace H:=H.call hx37;refine Ab (Be ((H.ext.to hs3 (by simp))) ?_);refine A7 U U (Bj (BP U U (Ab (Be ((H.ext.to hs3 (by simp))) ?_))));refine B2 ?_;have hx3:=(hx19.trans hx29).trans H.ext;have htk:=O3.good.ok.t;refine Fk 17042430230800 (α:=Dev × Rj × Sx × Mut) (fun _=>[]) (fun s w'=>Sok w0 w' p s.1 s.2.1 s.2.2.1 s.2.2.2/\C s.1 s.2.1 s.2.2.1/\Grown (Ms F p) (Ms s.2.2.2 p) w3 w') U ?_ ?_
   .skip
    refine Ar _ U ?_ ?_
    .intro h3;replace h3:=AV h3;refine Ad (Ao U (Ah qB (hck _ hx3 hr0 hL0 (by omega)) U ?_));rintro v w4 ⟨e4,A1,F1,rfl,G4,h40⟩;refine Ac U (qA (Ad (Ae U (AN U U (qA (Ar _ U ?_ ?_))))))
     .intro h4;replace h4:=Bh h4;refine Ad (Ae U (Ac U (qA (Aw (An (AE (v:=(.int _ _)) U U U ?_))))));obtain⟨rfl,D4,hZ4⟩:=h40.resolve_left (fun h=>h4 h.1);exact .inr (.inr ⟨hr0,hL0,rfl,A1,F1,D4,Grown.trans (Grown.call hx3) G4,.inl hZ4⟩)
     .intro h4;replace h4:=Bi h4;obtain⟨-,R1,x1,O4,hC4⟩:=h40.resolve_right (fun h=>by have:=h.1;omega);refine Ap (Aa ?_);exact⟨(A1,R1,x1,F1),rfl,trivial,O4,hC4,Grown.trans (Grown.call H.ext) G4⟩
    .intro h3;replace h3:=AW h3;refine Ap (Aa ?_);exact⟨(A,R,x,F),rfl,trivial,O3.call H.ext,hfit hr0 hL0 (by omega),Grown.call H.ext⟩
   .rintro⟨A1,R1,x1,F1⟩ j38 w4 ⟨O4,hC4,G4⟩;dsimp only at O4 hC4 G4;obtain⟨hkv,hxn,hxT,hAl,hft⟩:=hC hC4;have X4:=X3.turn G4;have X30:=Rdx.turn X29 G4;have hnn4:=O4.nn;have hT4:=O4.tT;have hlt4:=O4.lt;clear H;obtain⟨wJ,rfl,H⟩:=qE w4;obtain⟨l4,o14,o24,hF4,K4,hk4,hM4⟩:=O4.ex;have hs4:=hF4.blk _ (qad ..);dsimp only at hs4;refine Aq (Ad (Ao U (Ao U (AD U (Af Nw U (Bq MR U ((by rw[Au (H.ext.to hs4 (by simp))];rfl)) ?_))))));refine Aj U (Ah qB (YO (N:=A.B.length) (V:=x1.V) (O4.jone.call H.ext) (by have h9:=O4.good;rw[hAl]at h9;exact h9) (opB L) hft a29 c29 _ (X30.1.ext0 H.ext) U hc29 (X30.2.imp id fun h hj=>h (.inl hj))) U ?_);rintro v w5 ⟨e5,A',J',F',rfl,J5,gr5,h50⟩;have hF5:=((hF4.call (Grown.call H.ext)).1.call gr5).1;have hs5:=hF5.blk _ (qad ..);have gM:=Acw (p:=p) gr5
    have gI:Grown (Ms F p) (Ms F' p) wI w5:=Grown.trans (Grown.trans (Grown.call (hx19.trans hx29)) G4) (Grown.trans (Grown.call H.ext) gM);refine Ah qB (Acr (Ctx.startL (L:=[(p.bs,Bl CV (CK (ptr p.bd) (ptr p.bj) (ptr p.bp) (ptr p.bt) x1.gen x1.root p.m1 p.m2 x1.n false))]) (fun y hy=>by rw[qab.1 hy];exact hs5) (by simp)) _) U ?_;rintro v w6 ⟨rfl,H6⟩;refine Ac U (qA ?_);have hS3:∀y∈[p.bs,p.m1,p.m2],Ms F' p y:=fun y hy => .inr (by simp only[Sp.own,qaa,qaj,or_false]at hy |-;rcases hy with h|h|h <;> simp[h])
    have hoff5:∀y∈[p.bs,p.m1,p.m2],¬Fj F' p.bj y:=fun y hy h=>by
     have h1:∃ob,(y,ob)∈p.blk x1 o14 o24:=by
      simp only[qaa,qaj,or_false]at hy
      rcases hy with rfl|rfl|rfl
      .exact⟨_,qad ..⟩
      .exact⟨o14,by simp[Sp.blk]⟩
      .exact⟨o24,by simp[Sp.blk]⟩
     obtain⟨ob,hob⟩:=h1;exact hF5.off _ hob h
    have hge5:∀y∈[p.bs,p.m1,p.m2],w0.heap.size<=y:=fun y hy=>O.ge y (by simp only[Sp.own,qaa,qaj,or_false]at hy |-;rcases hy with h|h|h <;> simp[h]);refine Ad (Ae U (AN U U (qA (Ar _ U ?_ ?_))))
    .intro h4;replace h4:=Bh h4;obtain⟨rfl,hl5,off5,few5,pk5⟩:=h50.resolve_left (fun h=>h4 h.1);refine Ad (Ae U (Ac U (qA (Aw (An (AE (v:=(.int _ _)) U U U ?_))))));have J6:=J5.over H6.ext (fun y hy=>hoff5 y (by rw[qab.1 hy];simp)) (fun y hy=>hge5 y (by rw[qab.1 hy];simp));exact .inr (.inr ⟨hr0,hL0,rfl,A',F',⟨J6.own,⟨_,_,_,_,_,_,H6.get at0⟩,fun h=>hoff5 p.bs (by simp) (.inl h),hge5 p.bs (by simp),off5,few5⟩,Grown.trans gI ⟨Turn.of H6.ext fun y hy=>hS3 y (by rw[qab.1 hy];simp),fun _ h => .inl h⟩,.inr ⟨A1,R1,x1,hC4,hl5,pk5⟩⟩)
    .intro h4;replace h4:=Bi h4;obtain⟨rfl,rfl,hl5,V',G5,hv5⟩:=h50.resolve_right (fun h=>by have:=h.1;omega);have K5:KvAt w5 (Ms F' p) l4 o14:=⟨K4.m,(fun q hq=>⟨((K4.ok q hq).1.call H.ext).turn gM,(K4.ok q hq).2⟩),K4.few⟩;have X5:Wrs w5 (Ms F' p) a nn c L:=(X4.call H.ext).turn gM;clear H;have C5:Ctx w5 [p.bs,p.m1,p.m2] w5 [(p.bs,Bl CV (CK (ptr p.bd) (ptr p.bj) (ptr p.bp) (ptr p.bt) x1.gen x1.root p.m1 p.m2 x1.n false)),(p.m1,o14),(p.m2,o24)]:=Ctx.startL (L:=(p.blk x1 o14 o24).take 3) (fun y hy=>hF5.blk y (qbm hy)) (hF5.nd.sublist (List.take_sublist ..));have C6:Ctx w5 [p.bs,p.m1,p.m2] w6 [(p.bs,Bl CV (CK (ptr p.bd) (ptr p.bj) (ptr p.bp) (ptr p.bt) x1.gen x1.root p.m1 p.m2 x1.n false)),(p.m1,o14),(p.m2,o24)]:=C5.turn at0 (Bl CV (CK (ptr p.bd) (ptr p.bj) (ptr p.bp) (ptr p.bt) x1.gen x1.root p.m1 p.m2 x1.n false)) H6.ext (H6.get at0);obtain⟨ps,R5,hoff,hl,hp⟩:=X5.ex
     have hpn:ps.length=nn:=by rw[hnL,<-hl,qan]
     have hlt5:∀y,Ms F' p y->y<w5.heap.size:=fun y hy=>by
      rcases hy with hy|hy
      .exact(J5.at y hy).2
      .have h6:=hlt4 y (.inr hy);have h7:=gM.1.size;omega
     refine Ap (Aa (Aq (Ad (Aj U (AP FU U (Ae U (qA (AB (BE 36749372959343249408 (α:=Nat × List (Byt × Sv) × List (Byt × Int) × Obj × Obj) (fun s=>[(57,.int .i64 (s.1:Int))]) (fun s w'=>s.1<=nn/\Cj p x1 (Ms F' p) w5 L s.1 s.2.1 s.2.2.1 s.2.2.2.1 s.2.2.2.2 w') (fun s=>nn - s.1) (0,l4,x1.t,o14,o24) U ?_ ?_ ?_)))))))))
     .exact⟨rfl,trivial⟩
     .exact⟨qal _,C6,⟨K5.m,fun q hq=>⟨⟨Rdx.read (K5.ok q hq).1 H6.ext (fun y hy=>hS3 y (by rw[qab.1 hy];simp)),(K5.ok q hq).1.2⟩,(K5.ok q hq).2⟩,K5.few⟩,hk4,hM4,rfl,fun q hq=>by have:=O4.tt q hq;simpa using this⟩
     .rintro⟨i,li,ti,z1,z2⟩ j w1 ⟨hi,C⟩;dsimp only at hi C;dsimp only;have H:=Ctx.start w1 [];refine Ad (Bp U U (qA (Aq (Ar _ U ?_ ?_))))
      .intro h5;replace h5:=AV h5;obtain⟨m,hm⟩:=AY (l:=ps) (i:=i);have hok:=hp m (qaf hm);have hxL:L[i]?=some m.x:=by rw[<-hl,qax,hm];rfl
       have hfew:=hLf _ (qaf hxL);have hb:¬Ms F' p (adr a).block:=hoff.resolve_left (fun h=>by rw[h]at hm;cases hm);have R1':=R5.ext C.H.ext (fun h=>hb (hS3 _ h));have hok1:m.Ok w1 (Ms F' p):=⟨⟨Rdx.read hok.k C.H.ext hS3,hok.k.2⟩,⟨Rdx.read hok.v C.H.ext hS3,hok.v.2⟩,hok.kc,hok.vc⟩;have hn1:=Hd (m:=x1.T) (kv:=x1.kv) (n:=x1.n) (L:=L.take i) (by rw[<-hk4];exact K4.fewK) (fun y hy=>hLf y (qbm hy)) (by omega) (by omega);have hlen1:(L.take i).length<=1000:=by have:=List.length_take_le' i L;omega
       refine Ap (Aa (Aq (AB (Ad (Bo R1' FU EA U U ?_)))));refine EK _ Ob EA U U (R1'.row hm U) (Bf GR H ?_);rintro b11 w - H;refine Bc EA U U U (by exact GI m) H at0 U ?_;rintro w H;refine qA (A5 (Ao U (BH Ob EA U H at0 U (Ah qB (WX (T:=x1.T+i) (Ctx.startL (C.H.call H.ext).blk (C.H.call H.ext).nd) ⟨C.K.m,fun q hq=>⟨(C.K.ok q hq).1.call H.ext,(C.K.ok q hq).2⟩,C.K.few⟩ C.m hS3 (fun y hy=>by have:=hlt5 y hy;have:=C.H.ext.size;have:=H.ext.size;omega) m (hok1.call H.ext) hfew C.t) U ?_))));rintro v w7 ⟨rfl,s,z1',z2',H7,K7,hsv,hM7⟩;refine Ab (AH (Aa (A5 (A8 U U ?_))));refine Ae U (qA ?_);refine⟨(i+1,P9 li m.x s,Uw ti m.x.k,z1',z2'),rfl,⟨rfl,trivial⟩,⟨by dsimp only;omega,?_,K7,?_,hM7,by dsimp only;rw[C.te,Bt hxL,Ng],?_⟩,by dsimp only;omega⟩
       .have hn7:DD x1.kv x1.n (L.take (i+1))=DD x1.kv x1.n (L.take i) - Hg li m.x.k+FK m.x:=by rw[Bt hxL,KC,S5,C.k]
        dsimp only;rw[hn7];exact⟨(C.H.call H.ext).ext.trans H7.ext,H7.blk,H7.nd,fun y hy => .inl (by simp only[qaa,qaj,or_false]at hy |-;rcases hy with rfl|rfl|rfl <;> simp)⟩
       .dsimp only;rw[Xe hsv,C.k,Bt hxL,Ps]
       .intro q hq;have:=(Pi (k:=m.x.k) C.t (by omega)).1 q hq;dsimp only;omega
      .intro h5;replace h5:=AW h5;obtain rfl:i=nn:=by omega
       have hLt:L.take i=L:=qa3 (by omega);refine B9 (A6 (A6 (Bd (Aa (Ad (Ac U (qA (Aw (AE (v:=(.int _ _)) U U U ?_)))))))));have CH:=C.H;have Ck:=C.k;have Ct:=C.t;have Cte:=C.te;have Cm:=C.m;rw[hLt]at CH Ck Cte;rw[Cte]at Ct Cm;have hn1:=Hd (m:=x1.T) (kv:=x1.kv) (n:=x1.n) (L:=L) (by rw[<-hk4];exact K4.fewK) hLf (by omega) (by omega);have hG5l:=G5.len;refine .inr (.inl ⟨hr0,hL0,rfl,A1,R1,x1,A',F',V',hC4,⟨J5.over CH.ext hoff5 hge5,by rw[hG5l];exact G5,⟨li,z1,z2,Aff (x:=x1) hF5 CH,C.K,Ck,Cm⟩,O4.ge,?_,fun q hq=>?_,?_⟩,hG5l,hl5,hv5,Grown.trans gI ⟨Turn.of CH.ext fun y hy=>hS3 y hy,fun _ h => .inl h⟩⟩)
       .dsimp only;omega
       .dsimp only;have:=Ct q hq;omega
       .dsimp only;omega
end
abbrev Acx:TypeId:=76
section
variable {w0 w:World}{b16 b14 b5 b1 bd bs bj gen m1 m2:Nat}{F:Mut}{A:Dev}{N:Nat}{R:Rj}{V:Nat->Byt}{fv:List Value}{vj vp vt:Value}{root n r0:Int}{pq qq:Nat}{Y:List (Nat × Obj)}
abbrev nwB(b16 b14 b5 b1 bs bd gen m1 m2 pq qq:Nat)(root n r0:Int)(fv:List Value)(vj vp vt:Value):List (Nat × Obj) :=
 [(b16,Bl 46 fv),(b14,Bl 31 [ptr bs]),(b5,Bl Acx (tpC r0 pq qq)),(b1,Bl 27 [ptr bd]),(bs,Bl CV (CK (ptr bd) vj vp vt gen root m1 m2 n false))]
theorem Fo.at{M:Mut}(h:Fo w M Y){k b:Nat}{o:Obj}(hk:Y[k]?=some (b,o)):w.heap[b]?=some o:=h.blk (b,o) (qaf hk)
theorem Afg(O:Own w0 w bd A F)(g:SG N A R V)(hl:A.left = -1)(Y:Fo w F (nwB b16 b14 b5 b1 bs bd gen m1 m2 pq qq root n r0 fv vj vp vt++Y))(hg1:1<=gen)(hg:gen<=4611686018427387904)(hr: -1<=r0/\r0<=4294967294:=by decide)(hp:pq<4294967296:=by omega)(hq:qq<18446744073709551616:=by omega):
  Ret prog 38 #[ptr b1,ptr b14,ptr b5] w fun v w'=>v=.int .i64 0/\∃F',Own w0 w' bd (DI A gen (tpB r0 pq qq)) F'/\Grown F F' w w':=by
 obtain⟨wI,rfl,H⟩:=qE w;have h1:=Fo.at Y (k:=3) rfl;have h14:=Fo.at Y (k:=1) rfl;have h5:=Fo.at Y (k:=2) rfl;have hs:=Fo.at Y (k:=4) rfl;have hsv:=(g.save0 hl gen (tpB r0 pq qq) hg1 hg (by rw[EI];decide)).1;refine Ax (fn:=f38) func38 U [ptr b1,ptr b14,ptr b5] U ?_;refine Ad (Ac U (qA (BQ [([0,1,2,3,4,5],6),([],7),([],8)] (fun z=>(z.heap[b1]?=some (Bl 27 [ptr bd])/\z.heap[b14]?=some (Bl 31 [ptr bs])/\z.heap[bs]?=some (Bl CV (CK (ptr bd) vj vp vt gen root m1 m2 n false))/\z.heap[b5]?=some (Bl Acx (tpC r0 pq qq)))) [] mixed (⟨H.drew.ext.to h1 (by simp),H.drew.ext.to h14 (by simp),H.drew.ext.to hs (by simp),H.drew.ext.to h5 (by simp)⟩) ?_)));refine A7 U U (BO Cy U (fun _ hx=>(by rw[Au hx.1];rfl)) ?_);refine BO HJ U (fun _ hx=>(by rw[Au hx.2.1];rfl)) ?_
 refine Bg U (AF Ad4 U (BO FT U (fun _ hx=>(by rw[Au hx.2.2.1];rfl)) ?_));refine Wn _ U Wx Li U U (fun _ hx=>(fun j v hv=>by rw[Au hx.2.2.2,qa4];exact hv)) ?_;refine Bj ?_;replace H:=H.drew;refine Ah qB (Aeu r0 pq qq _ hr hp hq) U ?_;rintro v w F10;obtain⟨a10,c10,rfl,R10,hc10,h10⟩:=Fresh.newB F10;replace H:=H.call F10.ext;refine Ab (Be ((by exact⟨H.ext.to h1 (by simp),H.ext.to h14 (by simp),H.ext.to hs (by simp),H.ext.to h5 (by simp)⟩)) ?_);refine A7 U U (Bj (Ah qB (Abb (O.call H.ext) gen a10 c10 _ (tpB r0 pq qq) R10 U (by rw[EI];decide) g.good.few) U ?_));rintro v w ⟨rfl,F',O',G'⟩;rw[hsv];have Y2:=(Y.call (Grown.trans (Grown.call H.ext) G')).1;refine Ab (Be ((by exact⟨Fo.at Y2 (k:=3) rfl,Fo.at Y2 (k:=1) rfl,Fo.at Y2 (k:=4) rfl,Fo.at Y2 (k:=2) rfl⟩)) ?_);refine A7 U U ?_
 refine Bj (Ac U (Ab (Be ((by exact⟨Fo.at Y2 (k:=3) rfl,Fo.at Y2 (k:=1) rfl,Fo.at Y2 (k:=4) rfl,Fo.at Y2 (k:=2) rfl⟩)) ?_)));refine B2 (Aw (AE (v:=(.int _ _)) U U U ?_));exact⟨rfl,F',O',Grown.trans (Grown.call H.ext) G'⟩
theorem Afh(O:Own w0 w bd A F)(hge:w0.heap.size<=bs)(g:SG N A R V)(hR:R.size=360/\R.first=pq/\R.seq=qq/\1<=qq/\qq<=4611686018427387904)(Y:Fo w F (nwB b16 b14 b5 b1 bs bd gen m1 m2 pq qq root n r0 fv vj vp vt++Y)) :
  Ret prog 41 #[ptr b1,ptr b5,ptr b14] w fun v w'=>v=.int .i64 0/\∃bj,w.heap.size<=bj/\Jone w0 w' bd bj A (jrK 2 R R.L) F/\Ext [bs] w w'/\w'.heap[bs]?=some (Bl CV (CK (ptr bd) (ptr bj) vp vt gen root m1 m2 n false)):=by
 obtain⟨hz,rfl,rfl,hq1,hq2⟩:=hR;obtain⟨wI,rfl⟩:=qD w;have h1:=Fo.at Y (k:=3) rfl;have h14:=Fo.at Y (k:=1) rfl;have h5:=Fo.at Y (k:=2) rfl;have hs:=Fo.at Y (k:=4) rfl;have H:=Ctx.start1 hs;have hnd:=Y.nd;simp only[qb8,qa7,qbh,qaa,forall_eq_or_imp]at hnd;have hb1:b1∉[bs]:=by simpa using hnd.2.2.2.1.1
 have hb14:b14∉[bs]:=by simpa using hnd.2.1.2.2.1
 have hb5:b5∉[bs]:=by simpa using hnd.2.2.1.2.1
 have hopen:=fun(w1:World) (O1:Own w0 w1 bd A F)=>Nf O1 g.good hq1 hq2;rw[hz]at hopen;refine Ax (fn:=f41) func41 U [ptr b1,ptr b5,ptr b14] U ?_;refine Ad (Ac U (qA (BQ [([0,1,2,3,4,5],6),([7,8,9,10,11,12],13),([],14)] (fun z=>(z.heap[b1]?=some (Bl 27 [ptr bd])/\z.heap[b14]?=some (Bl 31 [ptr bs])/\z.heap[b5]?=some (Bl Acx (tpC r0 R.first R.seq)))) [13,14] mixed (⟨H.drew.ext.to h1 hb1,H.drew.ext.to h14 hb14,H.drew.ext.to h5 hb5⟩) ?_)));refine A7 U U (BO HJ U (fun _ hx=>(by rw[Au hx.2.1];rfl)) ?_);refine BO Cy U (fun _ hx=>(by rw[Au hx.1];rfl)) ?_;refine AF Lh U (BO DE U (fun _ hx=>(by rw[Au hx.2.2];rfl)) ?_);refine AF Ik U (BO FT U (fun _ hx=>(by rw[Au hx.2.2];rfl)) ?_);refine Bj ?_;replace H:=H.drew;refine Ah qB (hopen _ (O.call (Ext.drew [] wI))) U ?_;clear H;rintro v w6 ⟨bj,aj,nj,cj,rfl,hx6,hbj,J6,-⟩
 have E6:=(Ext.drew [] wI).trans hx6;have k1:=E6.to h1 (by simp);have k14:=E6.to h14 (by simp);have k5:=E6.to h5 (by simp);have H:=Ctx.start1 (E6.to hs (by simp));refine Ab (Be ((by exact⟨H.ext.to k1 hb1,H.ext.to k14 hb14,H.ext.to k5 hb5⟩)) ?_);refine A7 U U (Ic U (BX U U (BX U U (BX U U (Bg U (AF Nw U (Bj (Bk (.pointer _) Agh U U U H at0 (by(simp;done)) ?_))))))));rintro w H;refine Ab (CD U (A7 U U ?_));refine Bj (Ac U (Ab (CD U (B2 (Ad (Ae U (Ac U (qA (Aw (AE (v:=(.int _ _)) U U U ?_))))))))));have hno:¬Fj F bj bs:=fun h=>h.elim (Y.off (bs,Bl CV (CK (ptr bd) vj vp vt gen root m1 m2 n false)) (by simp)) fun h=>by have h8:=Al hs;have h9:wI.heap.size<=bj:=hbj;omega
 exact⟨rfl,bj,hbj,J6.over H.ext (fun y hy=>by rw[qab.1 hy];exact hno) (fun y hy=>by rw[qab.1 hy];exact hge),(E6.mono (by simp)).trans H.ext,H.get at0⟩
end
section
variable {w0 w w':World}{b16 b14 b5 b1 bd bs bj gen m1 m2:Nat}{F:Mut}{A:Dev}{N:Nat}{R:Rj}{V:Nat->Byt}{fv:List Value}{vj vp vt:Value}{root n r0:Int}{pq qq:Nat}{Y:List (Nat × Obj)}
theorem fo_bs(h:Fo w F (nwB b16 b14 b5 b1 bs bd gen m1 m2 pq qq root n r0 fv vj vp vt++Y))(hx:Ext [bs] w w')(hb:w'.heap[bs]?=some (Bl CV (CK (ptr bd) (ptr bj) vp vt gen root m1 m2 n false)))(hbj:w.heap.size<=bj) :
  Fo w' (Fj F bj) (nwB b16 b14 b5 b1 bs bd gen m1 m2 pq qq root n r0 fv (ptr bj) vp vt++Y):=by
 have hnd:=h.nd;have hk:(nwB b16 b14 b5 b1 bs bd gen m1 m2 pq qq root n r0 fv (ptr bj) vp vt++Y).map (·.1)=(nwB b16 b14 b5 b1 bs bd gen m1 m2 pq qq root n r0 fv vj vp vt++Y).map (·.1):=rfl
 have hn:(nwB b16 b14 b5 b1 bs bd gen m1 m2 pq qq root n r0 fv (ptr bj) vp vt++Y).Pairwise fun x y=>x.1≠y.1:=by
  have h1:((nwB b16 b14 b5 b1 bs bd gen m1 m2 pq qq root n r0 fv vj vp vt++Y).map (·.1)).Pairwise (·≠·):=qbn.2 hnd;rw[<-hk]at h1;exact qbn.1 h1
 have hin:∀y∈nwB b16 b14 b5 b1 bs bd gen m1 m2 pq qq root n r0 fv (ptr bj) vp vt++Y,y=(bs,Bl CV (CK (ptr bd) (ptr bj) vp vt gen root m1 m2 n false))\/y∈nwB b16 b14 b5 b1 bs bd gen m1 m2 pq qq root n r0 fv vj vp vt++Y:=fun y hy=>by
  simp only[qb8,qa7,qaa]at hy |-
  rcases hy with h|h|h|h|h|h <;> simp[h]
 have hbl:=hn;refine⟨fun y hy=>?_,hn,fun y hy h5=>?_⟩
 .by_cases he:y.1=bs
  .have hm:(bs,Bl CV (CK (ptr bd) (ptr bj) vp vt gen root m1 m2 n false))∈nwB b16 b14 b5 b1 bs bd gen m1 m2 pq qq root n r0 fv (ptr bj) vp vt++Y:=by simp
   by_cases h9:y=(bs,Bl CV (CK (ptr bd) (ptr bj) vp vt gen root m1 m2 n false))
   .rw[h9];exact hb
   .exact absurd he (fun he=>by
     obtain⟨i,hi⟩:=qca.1 hy;obtain⟨j,hj⟩:=qca.1 hm;obtain⟨hi1,hi2⟩:=qar.1 hi;obtain⟨hj1,hj2⟩:=qar.1 hj
     rcases Nat.lt_trichotomy i j with hlt|rfl|hlt
     .have:=qbz.1 hn i j hi1 hj1 hlt;rw[hi2,hj2]at this;exact this he
     .rw[hi2]at hj2;exact h9 hj2
     .have:=qbz.1 hn j i hj1 hi1 hlt
      rw[hi2,hj2]at this;exact this he.symm)
  .have hy':=(hin y hy).resolve_left fun h=>he (by rw[h]);rw[hx.block y.1 (Al (h.blk y hy')) (by simpa using he)];exact h.blk y hy'
 .have hk2:∃z∈nwB b16 b14 b5 b1 bs bd gen m1 m2 pq qq root n r0 fv vj vp vt++Y,z.1=y.1:=by
   have h1:y.1∈(nwB b16 b14 b5 b1 bs bd gen m1 m2 pq qq root n r0 fv (ptr bj) vp vt++Y).map (·.1):=qak.2 ⟨y,hy,rfl⟩;rw[hk]at h1;obtain⟨z,hz,he⟩:=qak.1 h1;exact⟨z,hz,he⟩
  obtain⟨z,hz,he⟩:=hk2;rw[<-he]at h5
  rcases h5 with h5|h5
  .exact h.off z hz h5
  .have:=Al (h.blk z hz);omega
abbrev nwF(b14 b5 b1:Nat):List Value:=[.func (.func 38) #[] #[ptr b1,ptr b14,ptr b5],.func (.func 41) #[] #[ptr b1,ptr b5,ptr b14]]
def nwI(w0 wb:World)(b16 b14 b5 b1 bs bd gen m1 m2 pq qq:Nat)(vp vt:Value)(Y:List (Nat × Obj))(A:Dev)(R:Rj)(F:Mut):Nat->World->Prop
 |0,w'=>Own w0 w' bd A F/\Fo w' F (nwB b16 b14 b5 b1 bs bd gen m1 m2 pq qq (-1) 0 (-1) (nwF b14 b5 b1) EC vp vt++Y)/\Grown F F wb w'
 |1,w'=>∃F1,Own w0 w' bd (DI A gen (tpB (-1) pq qq)) F1/\Fo w' F1 (nwB b16 b14 b5 b1 bs bd gen m1 m2 pq qq (-1) 0 (-1) (nwF b14 b5 b1) EC vp vt++Y)/\Grown F F1 wb w'
 |_,w'=>∃F1 bj,Jone w0 w' bd bj (DI A gen (tpB (-1) pq qq)) (jrK 2 R R.L) F1/\Fo w' (Fj F1 bj) (nwB b16 b14 b5 b1 bs bd gen m1 m2 pq qq (-1) 0 (-1) (nwF b14 b5 b1) (ptr bj) vp vt++Y)/\Grown F (Fj F1 bj) wb w'
theorem Acy{L0 L1:List (Nat × Obj)}(H:Ctx w0 [] w L0)(hF:∀x,F x->x<w0.heap.size)(hs:L1.Sublist L0):Fo w F L1 :=
 ⟨fun y hy=>H.blk y (hs.subset hy),H.nd.sublist hs,fun y hy h=>by have h1:=(H.own y (hs.subset hy)).resolve_left (by simp);have:=hF _ h;omega⟩
theorem Xg{M:Mut}{Y2:List (Nat × Obj)}(O:Fo w M Y)(h:∀y∈Y2,y∈Y)(nd:Y2.Pairwise fun x y=>x.1≠y.1):Fo w M Y2:=⟨fun y hy=>O.blk y (h y hy),nd,fun y hy=>O.off y (h y hy)⟩
theorem side9{M M':Mut}{S:List Nat}(t:Grown M M' w0 w)(hx:Ext S w w')(hy:∀y∈S,w0.heap.size<=y):Grown M M' w0 w':=by
 obtain⟨⟨T,hT,hx1⟩,g⟩:=t;exact⟨⟨T,hT,hx1.then hx fun x h => .inr (hy x h)⟩,g⟩
theorem Aib{wb:World}{i:Nat}(h:nwI w0 wb b16 b14 b5 b1 bs bd gen m1 m2 pq qq vp vt Y A R F i w):w.heap[b16]?=some (Bl 46 (nwF b14 b5 b1)):=by
 match i,h with
 |0,h=>exact Fo.at h.2.1 (k:=0) rfl
 |1,⟨_,h⟩=>exact Fo.at h.2.1 (k:=0) rfl
 |_+2,⟨_,_,h⟩=>exact Fo.at h.2.1 (k:=0) rfl
theorem Aic{wb:World}(h0:nwI w0 wb b16 b14 b5 b1 bs bd gen m1 m2 pq qq vp vt Y A R F 0 w)(g:SG N A R V)(hl:A.left = -1)(hR:R.size=360/\R.first=pq/\R.seq=qq)(hpq:pq<360)(hqq:1<=qq/\qq<=4611686018427387904)(hgn:1<=gen/\gen<=4611686018427387904)(hge:w0.heap.size<=bs)(hgb:wb.heap.size<=bs) :
  Ret prog 37 #[.slice (some ⟨b16,0,none⟩) 2 2] w fun v w'=>∃e,v=.int .i64 e/\((e=0/\nwI w0 wb b16 b14 b5 b1 bs bd gen m1 m2 pq qq vp vt Y A R F 2 w')\/(e≠0/\False)):=by
 have gs:=g.save0 hl gen (tpB (-1) pq qq) hgn.1 hgn.2 (by rw[EI];decide);refine Abx (E:=fun _ _=>False) (nwF b14 b5 b1) w (by simp) (I:=nwI w0 wb b16 b14 b5 b1 bs bd gen m1 m2 pq qq vp vt Y A R F) h0 (fun i w' h=>Aib h) (fun v hv=>?_) (fun i f caps w' hi h=>?_)
 .simp only[qaa,qaj,or_false]at hv
  rcases hv with rfl|rfl <;> exact⟨_,_,rfl⟩
 .match i,hi,h with
  |0,hi,⟨O,FY,G⟩ =>
   cases hi;exact⟨by kernel_rfl,(Afg O g hl FY hgn.1 hgn.2).mono fun v w'' ⟨hv,F',O',G'⟩=>⟨0,hv,.inl ⟨rfl,F',O',(FY.call G').1,Grown.trans G G'⟩⟩⟩
  |1,hi,⟨F1,O,FY,G⟩ =>
   cases hi
   exact⟨by kernel_rfl,(Afh O hge gs.2.2 ⟨hR.1,hR.2.1,hR.2.2,hqq.1,hqq.2⟩ FY).mono fun v w'' ⟨hv,bj,hbj,J,hx,hb⟩=>⟨0,hv,.inl ⟨rfl,F1,bj,J,fo_bs FY hx hb hbj,by
    have G2:=side9 G hx (fun y hy=>by rw[qab.1 hy];exact hgb)
    exact⟨G2.1,fun y hy=>hy.elim (G2.2 y) fun h => .inr (by have:=G.1.size;omega)⟩⟩⟩⟩
theorem Xh{r:Int}{p q:Nat}(hr : -1<=r/\r<=4294967294)(hp:p<4294967296)(hq:q<18446744073709551616:=by omega):tpR (tpB r p q)=tpC r p q:=by
 obtain⟨n,hn⟩:∃n:Nat,r+1=n:=⟨(r+1).toNat,by omega⟩;unfold tpR;rw[if_pos (EI ..)];unfold tpB;have e1:(AZ (r+1).toNat 4++(AZ p 4++AZ q 8)).take 4=AZ (r+1).toNat 4:=qdt (AM ..);have e2:(AZ (r+1).toNat 4++(AZ p 4++AZ q 8)).drop 4=AZ p 4++AZ q 8:=List.drop_left' (AM ..)
 have e3:(AZ (r+1).toNat 4++(AZ p 4++AZ q 8)).drop 8=AZ q 8:=by
  rw[<-qa1];exact List.drop_left' (by rw[qam,AM,AM])
 have e4:(AZ p 4++AZ q 8).take 4=AZ p 4:=qdt (AM ..);have e5:(AZ q 8).take 8=AZ q 8:=qa3 (by rw[AM];decide);rw[e1,e2,e3,e4,e5,Ea,Ea,Ea,hn,qbi];have d4:(256:Nat) ^ 4=4294967296:=by decide
 have d8:(256:Nat) ^ 8=18446744073709551616:=by decide
 have m1:n % 256 ^ 4=n:=qa6 (by omega);have m2:p % 256 ^ 4=p:=qa6 (by omega);have m3:q % 256 ^ 8=q:=qa6 (by omega);rw[m1,m2,m3,<-hn];show tpC (r+1 - 1) p q=_;rw[show r+1 - 1=r by omega]
theorem Afi{m:Nat}(O:Own w0 w bd A F)(g:SG (m+362) A R V)(hl:A.left = -1)(hR:R.L=[]/\R.size=360/\R.first=pq/\R.seq=qq)(hgn:Gc A+1<=4611686018427387904)(hmay:Fs A=0)(hT:(DT A=4/\Dj A=[]/\pq=0/\qq=1)\/(DT A=0/\∃r0 R0,Dj A=tpB r0 R0.first R0.seq/\(-1<=r0/\r0<=4294967294)/\SG (m+362) A R0 V/\R0.size=360/\(1<=R0.seq/\R0.seq<=4611686018427387904)/\pq=R0.at'/\qq=R0.seq+R0.L.length+1))(hpq:pq<360:=by decide)(hqq:1<=qq/\qq<=4611686018427387904:=by decide)(hm:1<=m:=by decide):
  Ret prog 10 #[ptr bd] w fun v w'=>∃p F' ,v=.tuple #[ptr p.bs,.int .i64 0]/\p.bd=bd/\Sok w0 w' p (DI A (Gc A+1) (tpB (-1) pq qq)) R ⟨Gc A+1,-1,0,[],[],List.replicate m 0,0,fun q=>if q=(Gc A+1) % 2 then CU (Gc A+1) (tpB (-1) pq qq)else V q⟩ F'/\Grown F (Ms F' p) w w':=by
 obtain⟨wI,rfl⟩:=qD w;have hN:=g.lim;have hlen:=g.len;have hE04:DT A=0\/DT A=4:=hT.elim (fun h => .inr h.1) fun h => .inl h.1;obtain⟨gl,hgl⟩:=qD (Gc A);rw[<-hgl]at hgn |-
 have hll:(Dj A).length<=16:=by
  rcases hT with⟨-,h,-⟩|⟨-,r0,R0,h,-⟩
  .rw[h];decide
  .rw[h,EI];decide
 obtain⟨tr,tp,tq,htR⟩:∃r p q,tpR (Dj A)=tpC r p q:=by unfold tpR;split <;> exact⟨_,_,_,rfl⟩
 have H:=Ctx.start wI [];refine Ax (fn:=f10) func10 U [ptr bd] U (Ad (BN _ (.pointer _) U U H ?_));rintro b1 w - H;refine Bb U (Ac U (qA (Aq (Ad (AG Cy U H at0 U (Ah qB (Lt (O.call H.ext).dev (by omega)) U ?_))))));rintro v w ⟨rfl,rfl⟩;rw[hmay];refine Ac U (qA (Ad (Ae U (AN U U (qA (Ar _ U ?_ ?_))))))
 .intro h1;replace h1:=Bh h1;exact absurd U h1
 .intro h1;replace h1:=Bi h1;refine Ap (Aa (Ad (Bw (tpC (-1) 0 1) Agg Qj ?_)));refine Bf Qj H ?_;rintro b5 w - H;refine Bc Li U U U (by simp[AX]) H at0 U ?_;rintro w H;refine qA (Ad (AG Cy U H at1 U (Ah qB (OM g.good.few (O.call H.ext).dev) U ?_)));rw[<-hgl];rintro v w ⟨a23,c23,rfl,R23,h23,-,hx23⟩;replace H:=H.call hx23;refine AL U (Ag U U (Ag U U (Ag U U (Ac U (Ai U (Ac U (qA (Aq (Ad (B5 (α:=Unit) 8455716864 (fun _=>[(32,.bool (false))]) (fun _ w'=>Ctx wI [] w' [(b5,Bl 76 (tpC (-1) 0 1)),(b1,Bl 27 [ptr bd])]/\w'=w) U ?_ ?_))))))))))
  .refine Ae U (AN U U (A4 U (AU 29 U ?_ ?_)))
   .intro h1;replace h1:=Bh h1;refine Ae U (AN U U (AR U (.bool _) U (Ab ?_)));exact⟨rfl,(),rfl,⟨qac Value.bool (by rcases hE04 with h|h <;> simp_all),trivial⟩,⟨H,rfl⟩⟩
   .intro h2;replace h2:=Bi h2;refine Ak U (Ak U (AJ U (.bool _) U (Ab ?_)));exact⟨rfl,(),rfl,⟨qac Value.bool (by rcases hE04 with h|h <;> simp_all),trivial⟩,⟨H,rfl⟩⟩
  rintro - j32 w ⟨H,rfl⟩;refine Br U (Ap (Aa (Aq (Ad (Aj U (Ah qB (Ud a23 c23 (Dj A) _ R23 h23) U ?_))))));rw[htR];rintro v w ⟨rfl,hx36⟩;replace H:=H.call hx36;refine AL U (Ag U U (Ag U U (Bf Qj H ?_)));rintro b9 w - H;refine Bc Li U U U (by simp[AX]) H at0 U ?_;rintro w H;refine Am U (qA (Ad (B5 (α:=Unit) 17042430230528 (fun _=>[(43,.bool (decide (DT A=0)))]) (fun _ w'=>w'=w) U ?_ ?_)))
  .refine Ae U (B6 U U (A4 U (AU 41 U ?_ ?_)))
   .intro h3;replace h3:=AV h3;refine A4 U (AR U (.bool _) U (Ab ?_));exact⟨rfl,(),rfl,⟨qac Value.bool (by rcases hT with⟨h,h2,-⟩|⟨h,r0,R0,h2,-⟩ <;> simp_all[EI]),trivial⟩,rfl⟩
   .intro h4;replace h4:=AW h4;refine Ak U (AJ U (.bool _) U (Ab ?_));exact⟨rfl,(),rfl,⟨qac Value.bool (by rcases hT with⟨h,h2,-⟩|⟨h,r0,R0,h2,-⟩ <;> simp_all[EI]),trivial⟩,rfl⟩
  rintro - j43 w rfl;refine Fk 1180591603125225273356 (α:=Unit) (fun _=>[]) (fun _ w'=>Ctx wI [] w' [(b9,Bl 76 (tpC tr tp tq)),(b5,Bl 76 (tpC (-1) pq qq)),(b1,Bl 27 [ptr bd])]) U ?_ ?_
  .skip
   refine Ar _ U ?_ ?_
   .intro h43;obtain⟨-,r0,R0,hL0,hr0,g0,hz0,hq0,hp1,hq1⟩:=hT.resolve_left (fun h=>by rw[h.1]at h43;cases qc0 h43);have hok0:=g0.ok
    have hrt:tpR (Dj A)=tpC r0 R0.first R0.seq:=by rw[hL0];exact Xh hr0 (by have:=hok0.a;omega)
    have hopen:=fun(w1:World) (O1:Own w0 w1 bd A F)=>Nf O1 g0.good hq0.1 hq0.2;rw[hz0]at hopen;rw[<-htR,hrt]at H;refine Ad (AG Cy U H at2 U (Af Lh U (AG DE U H at0 U (Af Ik U (AG FT U H at0 U (Ah qB (hopen _ (O.call H.ext)) U ?_))))));rintro v w6 ⟨bj0,aj,nj,cj,rfl,hx6,hbj,J6,-⟩;replace H:=H.call hx6;refine AL U (Ag U U (Ag U U (Ag U U (Bb U (Ai U (Ac U (qA (Aq (Ad ?_)))))))));refine Ae U (B6 U U (qA (Ar _ U ?_ ?_)))
    .intro h44;replace h44:=AV h44;exact absurd h44 (by decide)
    .intro h44;replace h44:=AW h44;refine Ap (Aa (Ad (Ae U (B6 U U (qA (Ar _ U ?_ ?_))))))
     .intro h45;replace h45:=AV h45;refine Ad (Ao U (Ah qB (YL J6) U ?_));rintro v w7 ⟨rfl,hx7⟩;replace H:=H.call hx7;refine AL U (Ag U U (Ag U U (Af Lh U (Bk (.int _ _) H1 U U U H at1 (by decide) ?_))));rintro w H;refine Af Ik U (Bk (.int _ _) Aaj U U U H at1 (by(simp;done)) ?_);rintro w H;refine qA (A5 (Af Ik U (AG FT U H at1 U (Ks U U U ?_))));refine Af Ik U (Bk (.int _ _) Aaj U U U H at1 (by(simp;done)) ?_);rintro w H;refine qA ?_;refine⟨(),rfl,trivial,?_⟩;rw[hp1,hq1,htR.symm.trans hrt];exact H
     .intro h45;replace h45:=AW h45;exact absurd U h45
   .intro h43;obtain⟨-,-,rfl,rfl⟩:=hT.resolve_right (fun h=>by rw[h.1]at h43;exact absurd h43 (by decide));refine Ap (Aa ?_);exact⟨(),rfl,trivial,H⟩
  .rintro - j43 w H;refine Ad (AG Cy U H at2 U (Ae U (Ks U U U ?_)));refine Ah qB (TY _ (O.call H.ext).dev hlen ⟨hm,by omega⟩ (gl+1)) U ?_;rintro v w ⟨bs,m1,m2,o1,o2,bp,ba,bt,rfl,hm1,hm2,HE⟩;replace H:=H.callEnt HE.ext (fun x hx=>⟨HE.blk x hx,(HE.own x hx).resolve_left (by simp)⟩) HE.nd;refine AL U (Ag U U (Ag U U (Bf Aal H ?_)));rintro b14 w - H;refine Bk (.pointer _) Aah U U U H at0 (by decide) ?_;rintro w H;refine Ac U (qA (Aq (Ad (Ae U (AN U U (qA (Ar _ U ?_ ?_)))))))
   .intro h2;replace h2:=Bh h2;exact absurd U h2
   .intro h2;replace h2:=Bi h2;refine Ap (Aa (Ad (Cl [.pointer _,.pointer _,.pointer _] U (Cl [.pointer _,.pointer _,.pointer _] U (BM (nwF b14 b5 b1) Om W4 Aam H ?_)))));rintro b82 w - H;have hall:=(fun y hy=>(H.own y hy).resolve_left (by simp));have hbs9:wI.heap.size<=bs:=hall (bs,Bl CV (CK (ptr bd) EC (ptr bp) (ptr bt) (gl+1) (-1) m1 m2 0 false)) (by simp);refine Ah qB (Aic (Y:=[(m2,o2),(m1,o1)]++(pgB bp ba m++trB bt bd bp)) ⟨O.call H.ext,Acy H (fun x h=>(O.own x h).2) (.cons_cons _ (.cons_cons _ (.cons _ (List.Sublist.refl _)))),Grown.call H.ext⟩ g hl hR.2 hpq hqq ⟨by omega,hgn⟩ (qav O.ext.size hbs9) hbs9) U ?_;rintro v w ⟨e,rfl,he⟩;clear H;obtain⟨rfl,F1,bj,J,FY2,G2⟩:=he.resolve_right (fun h=>h.2);clear he;refine Ac U (qA (Aq (Ad (Ae U (AN U U (qA (Ar _ U ?_ ?_)))))))
    .intro h3;replace h3:=Bh h3;exact absurd U h3
    .intro h3;replace h3:=Bi h3;refine Ap (Aa (Ad (Bq HJ U ((by rw[Au (Fo.at FY2 (k:=1) rfl)];rfl)) ?_)));refine Bb U (Ac U (qA (Aw (BA (v1:=(.pointer _)) (v2:=(.int _ _)) U U U U ?_))));have gs:=(g.save0 hl (gl+1) (tpB (-1) pq qq) (by omega) hgn (by rw[EI];decide)).2.2;have hmN:(List.replicate m 0).length=m:=qbc;have hp6:=FY2.nd.sublist (List.drop_sublist 4 _)
     have hge:∀q∈[bs,m1,m2,bp,ba,bt],wI.heap.size<=q:=fun q hq=>by
      have h9:∃o,(q,o)∈([(bs,Bl CV (CK (ptr bd) EC (ptr bp) (ptr bt) (gl+1) (-1) m1 m2 0 false)),(m2,o2),(m1,o1)]++(pgB bp ba m++trB bt bd bp)):=by
       simp only[qaa,qaj,or_false]at hq
       rcases hq with rfl|rfl|rfl|rfl|rfl|rfl
       .exact⟨_,qad ..⟩
       .exact⟨o1,by simp⟩
       .exact⟨o2,by simp⟩
       .exact⟨Bl TPg [.slice (some ⟨ba,0,none⟩) m m],by simp⟩
       .exact⟨Bl TSt ((List.replicate m 0).map stv),by simp⟩
       .exact⟨Bl TT (Q1 bd bp 362),by simp⟩
      obtain⟨o,ho⟩:=h9;have:=hall (q,o) (qah _ (qah _ (qaz _ ho)));dsimp only at this;omega
     refine⟨⟨bd,bs,bj,bp,ba,bt,m1,m2⟩,F1,rfl,rfl,⟨J,by rw[gs.len];exact gs,⟨[],o1,o2,Xg FY2 (fun y hy=>?_) ?_,⟨hm1,(fun q hq=>by cases hq),fun q hq=>by cases hq⟩,rfl,hm2⟩,fun q hq=>qav O.ext.size (hge q hq),by simp,(fun q hq=>by cases hq),by simp⟩,G2.1,fun y hy=>hy.elim (G2.2 y) fun h => .inr (hge y h)⟩
     .simp only[Sp.blk,qbc,qaa,qaj,or_false]at hy
      rcases hy with rfl|rfl|rfl|rfl|rfl|rfl <;> simp
     .simp only[Sp.blk,qbc];exact(List.Perm.pairwise_iff (fun h=>Ne.symm h) ((List.Perm.swap _ _ _).cons _)).1 hp6
end
open Go.GV Go.Proofs.Tryz Go.Maps Go.Sort Go.Shelf Go.RowKit
def Eh{α:Type}(m:List (Byt × α)):List Byt:=(m.map (·.1)).mergeSort fun x y=>decide (x<=y)
theorem YP{α:Type}(m:List (Byt × α)):(Eh m).length=m.length:=by rw[Eh,qcm,qan]
theorem YQ(mb:Option Nat)(w:World):Ret prog 66 #[.map mb] w fun v w'=>v=.func (.func 104) #[] #[.pointer (some ⟨w.heap.size,0,none⟩)]/\w'=w.alloc (Bl 91 [.map mb]):=by
 have h:=AnyZ.keys_in keysS Fence.wide 5 trivial rfl mb w;exact CallsIn.mono (callsIn_wide.2 (callsIn_wide.1 h)) fun e w' ⟨h1,h2⟩=>⟨_,h1,rfl,h2⟩
theorem U7{w:World}{bx bm:Nat}{m:List (Byt × Value)}{o:Obj}(hx:w.heap[bx]?=some (Bl 91 [.map (some bm)]))(hb:w.heap[bm]?=some o)(hM:Ec str m o)(nd:(m.map (·.1)).Nodup)(hsz:m.length<=100000)(hr:∀p∈m,p.1.length<=32) :
  Ret prog 65 #[.func (.func 104) #[] #[.pointer (some ⟨bx,0,none⟩)]] w fun v w'=>∃a c,v=.slice a (Eh m).length c/\Rd w' a 1 (fun x:Byt=>[str x]) (Eh m)/\(Eh m).length<=c/\(Eh m=[]\/w.heap.size<=(adr a).block)/\Ext [] w w':=by
 obtain⟨D0,hown,hperm,hsize⟩:=Te (P:=prog) Fp hb hM nd (qav hsz (by decide)) (fun p hp=>qav (hr p hp) (by decide))
 have hseq:SeqGives Fence.wide 2 prog 104 #[.pointer (some ⟨bx,0,none⟩)] encStr (fun ss=>ss.Perm (strKeys D0)) (Maps.size D0) w :=
  AnyZ.keys_gives (ρ:=keysS_ren) { keysS with } Fence.wide _ trivial rfl (by omega) bx bm m.length D0 w (Al hx) (by rw[Au hx];rfl) hown
 have cS:=AnyZ.sorted_in sortedS Fence.wide 5 trivial trivial trivial trivial rfl (by omega) (sortsS _) (enters_of func103 (by kernel_rfl) rfl) 104 #[.pointer (some ⟨bx,0,none⟩)] trivial (enters_of func104 (by kernel_rfl) rfl) _ (Maps.size D0) (by rw[hsize];exact qav hsz (by decide)) (by rw[hsize];omega) _ hseq;refine CallsIn.mono (callsIn_wide.2 (callsIn_wide.1 cS)) ?_;rintro e w' ⟨v,ss,rfl,hS,hrow,_,hbel⟩;have he:ss.mergeSort (fun x y=>decide (x<=y))=Eh m:=mergeSort_of_perm (hS.trans hperm);rw[he]at hrow;obtain⟨a,c,rfl,R,hc,hnew⟩:=Tf (by rw[<-he,qcm]) hrow;exact⟨_,rfl,a,c,rfl,R,hc,hnew,KS hbel⟩
theorem U8(w:World)(a:Option Addr)(n c:Nat):Ret prog 13 #[.pointer none,.slice a n c] w fun v w'=>v=.int .i64 2/\w=w':=by
 obtain⟨w0,rfl⟩:=qD w;refine Ax (fn:=Tryz.f13) func13 U [.pointer none,.slice a n c] U (Ad (Ac U (qA (Aq (Ad (Ao U (Ah qB (HS _) U ?_)))))));rintro v w ⟨rfl,rfl⟩;refine Ac U (qA (Ad (Ae U (AN U U (qA (Ar _ U ?_ ?_))))))
 .intro h1;replace h1:=Bh h1;refine Ad (Ae U (Ac U (qA (Aw (An (AE (v:=(.int _ _)) U U U ?_))))));exact⟨rfl,rfl⟩
 .intro h1;replace h1:=Bi h1;cases h1
theorem YR(w:World)(a a2:Option Addr)(n c n2 c2:Nat):Ret prog 20 #[.pointer none,.slice a n c,.slice a2 n2 c2] w fun v w'=>v=.tuple #[.slice none 0 0,.int .i64 2]/\w=w':=by
 obtain⟨w0,rfl⟩:=qD w;refine Ax (fn:=f20) func20 U [.pointer none,.slice a n c,.slice a2 n2 c2] U (Ad (Ai U (Ac U (qA (Aq (Ad (Ao U (Ah qB (HS _) U ?_))))))));rintro v w ⟨rfl,rfl⟩;refine Ac U (qA (Ad (Ae U (AN U U (qA (Ar _ U ?_ ?_))))))
 .intro h1;replace h1:=Bh h1;refine Ad (Ae U (Ai U (Ac U (qA (Aw (An (BA (v1:=(.slice _ _ _)) (v2:=(.int _ _)) U U U U ?_)))))));exact⟨rfl,rfl⟩
 .intro h1;replace h1:=Bi h1;cases h1
theorem Acz(w:World):Ret prog 10 #[.pointer none] w fun v w'=>v=.tuple #[.pointer none,.int .i64 2]/\Ext [] w w':=by
 obtain⟨w0,rfl,H⟩:=qE w;refine Ax (fn:=f10) func10 U [.pointer none] U (Ad (BN _ (.pointer _) U U H ?_));rintro b1 w - H;refine Bb U (Ac U (qA (Aq (Ad (AG Cy U H at0 U (Ah qB (TN _) U ?_))))));rintro v w ⟨rfl,rfl⟩;refine Ac U (qA (Ad (Ae U (AN U U (qA (Ar _ U ?_ ?_))))))
 .intro h1;replace h1:=Bh h1;refine Ad (Ae U (Bb U (Ac U (qA (Aw (An (BA (v1:=(.pointer _)) (v2:=(.int _ _)) U U U U ?_)))))));exact⟨rfl,H.ext⟩
 .intro h1;replace h1:=Bi h1;cases h1
theorem YS(w:World):Ret prog 19 #[.pointer none] w fun v w'=>v=.tuple #[.pointer none,.int .i64 2]/\Ext [] w w':=by
 obtain⟨w0,rfl,H⟩:=qE w;refine Ax (fn:=f19) func19 U [.pointer none] U (Ad (BN _ (.pointer _) U U H ?_));rintro b1 w - H;refine Bb U (Ac U (qA (Aq (Ad (AG Cy U H at0 U (Ah qB (TN _) U ?_))))));rintro v w ⟨rfl,rfl⟩;refine Ac U (qA (Ad (Ae U (AN U U (qA (Ar _ U ?_ ?_))))))
 .intro h1;replace h1:=Bh h1;refine Ad (Ae U (Bb U (Ac U (qA (Aw (An (BA (v1:=(.pointer _)) (v2:=(.int _ _)) U U U U ?_)))))));exact⟨rfl,H.ext⟩
 .intro h1;replace h1:=Bi h1;cases h1
section
variable {w:World}{bd:Nat}{A:Dev}{F:Mut}
theorem Ac0(D:DevAt w bd A F)(hl:A.B.length<=100000)(hb:Fs A≠0):Ret prog 10 #[ptr bd] w fun v w'=>v=.tuple #[.pointer none,.int .i64 (Fs A)]/\Ext [] w w':=by
 obtain⟨w0,rfl,H⟩:=qE w;refine Ax (fn:=f10) func10 U [ptr bd] U (Ad (BN _ (.pointer _) U U H ?_));rintro b1 w - H;refine Bb U (Ac U (qA (Aq (Ad (AG Cy U H at0 U (Ah qB (Lt (D.keep0 H.ext) hl) U ?_))))));rintro v w ⟨rfl,rfl⟩;refine Ac U (qA (Ad (Ae U (AN U U (qA (Ar _ U ?_ ?_))))))
 .intro h1;replace h1:=Bh h1;refine Ad (Ae U (Bb U (Ac U (qA (Aw (An (BA (v1:=(.pointer _)) (v2:=(.int _ _)) U U U U ?_)))))));exact⟨rfl,H.ext⟩
 .intro h1;replace h1:=Bi h1;exact absurd h1 hb
theorem QO(D:DevAt w bd A F)(hl:A.B.length<=100000)(hb:Fs A≠0):Ret prog 19 #[ptr bd] w fun v w'=>v=.tuple #[.pointer none,.int .i64 (Fs A)]/\Ext [] w w':=by
 obtain⟨w0,rfl,H⟩:=qE w;refine Ax (fn:=f19) func19 U [ptr bd] U (Ad (BN _ (.pointer _) U U H ?_));rintro b1 w - H;refine Bb U (Ac U (qA (Aq (Ad (AG Cy U H at0 U (Ah qB (Lt (D.keep0 H.ext) hl) U ?_))))));rintro v w ⟨rfl,rfl⟩;refine Ac U (qA (Ad (Ae U (AN U U (qA (Ar _ U ?_ ?_))))))
 .intro h1;replace h1:=Bh h1;refine Ad (Ae U (Bb U (Ac U (qA (Aw (An (BA (v1:=(.pointer _)) (v2:=(.int _ _)) U U U U ?_)))))));exact⟨rfl,H.ext⟩
 .intro h1;replace h1:=Bi h1;exact absurd h1 hb
theorem Pu(D:DevAt w bd A F)(hl:A.B.length<=100000)(hmay:Fs A=0)(hE:DT A≠0){mx:Nat}(hfew:Few A mx)(hmx:mx<1000000000000:=by decide):Ret prog 19 #[ptr bd] w fun v w'=>v=.tuple #[.pointer none,.int .i64 (DT A)]/\Ext [] w w':=by
 obtain⟨w0,rfl,H⟩:=qE w;refine Ax (fn:=f19) func19 U [ptr bd] U (Ad (BN _ (.pointer _) U U H ?_));rintro b1 w - H;refine Bb U (Ac U (qA (Aq (Ad (AG Cy U H at0 U (Ah qB (Lt (D.keep0 H.ext) hl) U ?_))))));rintro v w ⟨rfl,rfl⟩;rw[hmay];refine Ac U (qA (Ad (Ae U (AN U U (qA (Ar _ U ?_ ?_))))))
 .intro h1;replace h1:=Bh h1;exact absurd U h1
 .intro h1;replace h1:=Bi h1;refine Ap (Aa (Ad (AG Cy U H at0 U (Ah qB (Aem hfew hmx (D.keep0 H.ext)) U ?_))));rintro v w ⟨a23,c23,rfl,R23,-,hx23⟩;replace H:=H.call hx23;refine AL U (Ag U U (Ag U U (Ag U U (Ac U (Ai U (Ac U (qA (Aq (Ad ?_)))))))));refine Ae U (AN U U (qA (Ar _ U ?_ ?_)))
  .intro h2;replace h2:=Bh h2;refine Ad (Ae U (Bb U (Ac U (qA (Aw (An (BA (v1:=(.pointer _)) (v2:=(.int _ _)) U U U U ?_)))))));exact⟨rfl,H.ext⟩
  .intro h2;replace h2:=Bi h2;exact absurd h2 hE
end
theorem Xi(k v:Byt)(w:World):Ret prog 30 #[str k,str v] w fun r w'=>Ext [] w w'/\∃m:Wm,r=.agg (CZ m).toArray/\m.x=⟨k,v,false⟩/\Rd w' m.ka 1 B8 k/\Rd w' m.va 1 B8 v/\k.length<=m.kc/\v.length<=m.vc/\(k=[]\/w.heap.size<=(adr m.ka).block)/\(v=[]\/w.heap.size<=(adr m.va).block):=by
 obtain⟨w0,rfl,H⟩:=qE w;refine Ax (fn:=f30) func30 U [str k,str v] U (Ad (Bf GR H ?_));rintro b4 w - H;refine qA (Ad (BU U (NS (l:=k) U Fp AO Gz U ?_)));rintro b6 c6 w hb6 hc6 hx6 R6;have hs6:=H.size;have hb46:=Al (H.get at0);replace H:=H.call hx6;refine BU U (NS (l:=v) U Fp AO Gz U ?_);rintro b8 c8 w8 hb8 hc8 hx8 R8;have hs8:=H.size;have hb48:=Al (H.get at0);replace H:=H.call hx8;replace R6:=R6.ext0 hx8;have HX:=H.ext;have hb4:=(H.own _ (qad ..)).resolve_left (by simp);have hb4':=Al (H.get at0);replace H:=Ctx.start1 (H.get at0);refine Bw (CZ ⟨some ⟨b6,0,none⟩,c6,some ⟨b8,0,none⟩,c8,⟨k,v,false⟩⟩) Tt GR ?_;refine Bc EA U U U (by exact GI ⟨some ⟨b6,0,none⟩,c6,some ⟨b8,0,none⟩,c8,⟨k,v,false⟩⟩) H at0 U ?_;rintro w H;refine qA (Aw (KO U U U Ob EA H at0 U ?_))
 exact⟨HX.then H.ext fun x hx => .inr (by rw[qab.1 hx];exact hb4),_,rfl,rfl,R6.ext H.ext (by simp[adr];omega),R8.ext H.ext (by simp[adr];omega),hc6,hc8,.inr (by show _<=b6;omega),.inr (by show _<=b8;omega)⟩
def S7(kf kt k:Byt):Bool:=(!decide (Lib.compareBytes k kf = -1)) && (decide (kt.length=0) || decide (Lib.compareBytes k kt = -1))
def QP(l:List (Byt × Sv))(kf kt:Byt)(ks:List Byt):List Pr:=(ks.filter (S7 kf kt)).map fun k=>(k,J3 l k)
def Pv(l:List (Byt × Sv))(kf kt:Byt):List Pr:=QP l kf kt (Eh (mv l))
theorem VR{l:List (Byt × Sv)}{kf kt k:Byt}{ks:List Byt}:QP l kf kt (ks++[k])=QP l kf kt ks++if S7 kf kt k=true then[(k,J3 l k)]else[]:=by
 unfold QP;rw[qbj,qa0]
 by_cases h:S7 kf kt k=true
 .rw[if_pos h,qbo,if_pos h];rfl
 .rw[if_neg h,qbo,if_neg h];rfl
theorem Pw:∀{q:List Im},(q.flatMap K1).length=2*q.length
 | []=>rfl
 |x::q=>by rw[qcc,qam,Pw (q:=q),qaw];simp[K1];omega
def Mk(wK:World)(e:List (Nat × Obj)):Mut:=fun x=>x<wK.heap.size\/x∈e.map (·.1)
theorem LU{wK w1 wb w:World}{e9 e28:List (Nat × Obj)}{a:Option Addr}{l:Byt}(h:Rdx w1 (Mk wK e9) a l)(hx:Ext [] w1 wb)(H:Ctx wb (e9.map (·.1)) w e28):Rdx w (Mk wK e28) a l:=by
 have h1:=h.call hx;refine⟨Rdx.read h1 H.ext fun y hy => .inr hy,?_⟩
 rcases Rd.lt8 h1.1 with h2|h2
 .exact .inl h2
 .refine h.2.imp id fun h3 h4=>?_
  rcases h4 with h4|h4
  .exact h3 (.inl h4)
  .obtain⟨y,hy,he⟩:=qak.1 h4
   rcases H.own y hy with h5|h5
   .rw[he]at h5;exact h3 (.inr h5)
   .omega
theorem Xj{wK w1 wb w:World}{e9 e28:List (Nat × Obj)}{m:Im}(h:m.Ok w1 (Mk wK e9))(hx:Ext [] w1 wb)(H:Ctx wb (e9.map (·.1)) w e28):m.Ok w (Mk wK e28) :=
 ⟨LU h.k hx H,LU h.v hx H,h.kc,h.vc⟩
structure Scj(wK:World)(l:List (Byt × Sv))(kf kt:Byt)(i:Nat)(a9:Option Addr)(n9 c9:Nat)(f9:List Value)(qs:List Im)(w':World):Prop where
 ext:Ext [] wK w'
 blk:∀y∈ent a9 68 f9,w'.heap[y.1]?=some y.2/\wK.heap.size<=y.1
 os:OS a9 n9 c9 2 f9 (qs.flatMap K1)
 eq:qs.map (fun m=>prI m.it)=QP l kf kt ((Eh (mv l)).take i)
 ok:∀m∈qs,m.Ok w' (Mk wK (ent a9 68 f9))
theorem Ac1{w:World}{bs m1 m2 gen:Nat}{n root:Int}{vd vj vp vt:Value}{o1:Obj}{M:Mut}{l:List (Byt × Sv)}(hs:w.heap[bs]?=some (Bl CV (CK vd vj vp vt gen root m1 m2 n false)))(h1m:w.heap[m1]?=some o1)(K:KvAt w M l o1)(hnd:((mv l).map (·.1)).Nodup)(hsz:l.length<=100000)(fa ta:Option Addr)(fc tc:Nat)(kf kt:Byt)(Rf:Rd w fa 1 B8 kf)(Rt:Rd w ta 1 B8 kt) :
  Ret prog 20 #[ptr bs,.slice fa kf.length fc,.slice ta kt.length tc] w fun v w'=>∃a c,v=.tuple #[.slice a (Pv l kf kt).length c,.int .i64 0]/\Prs w' (Old w) a (Pv l kf kt).length c (Pv l kf kt)/\Ext [] w w':=by
 obtain⟨wI,rfl,H⟩:=qE w;refine Ax (fn:=f20) func20 U [ptr bs,.slice fa kf.length fc,.slice ta kt.length tc] U (Ad (Ai U (Ac U (qA (Aq (Ad (Ao U (Ah qB (JY hs) U ?_))))))));rintro v w ⟨rfl,rfl⟩;refine Ac U (qA (Ad (Ae U (AN U U (qA (Ar _ U ?_ ?_))))))
 .intro h1;replace h1:=Bh h1;exact absurd U h1
 .intro h1;replace h1:=Bi h1;refine Ap (Aa (Ad (Ai U (qA (Aq (Ad (Ao U (AD U (Af Hn U (Bq MS U ((by rw[Au hs];rfl)) ?_))))))))));refine Ah qB (YQ (some m1) _) U ?_;rintro v w ⟨rfl,rfl⟩;replace H:=H.alloc (Bl 91 [.map (some m1)]);refine Ah qB (U7 (H.get at0) (H.ext.to h1m (by simp)) K.m hnd (by simpa using hsz) (fun p hp=>by obtain⟨q,hq,rfl⟩:=qak.1 hp;exact(K.few q hq).1)) U ?_;rintro v w ⟨aK,cK,rfl,RK,hcK,-,hx22⟩;replace H:=H.call hx22;have hxK:=H.ext;clear H;refine AP Aad U (Ae U (qA (AB ?_)));obtain⟨wK,rfl⟩:=qD w;have hkl:(Eh (mv l)).length<=100000:=by rw[YP];simpa using hsz
  refine BE 144115188059081216 (α:=Nat × Option Addr × Nat × Nat × List Value × List Im) (fun s=>[(24,.int .i64 (s.1:Int)),(9,.slice s.2.1 s.2.2.1 s.2.2.2.1)]) (fun s w'=>s.1<=(Eh (mv l)).length/\s.2.2.1<=s.1/\Scj wK l kf kt s.1 s.2.1 s.2.2.1 s.2.2.2.1 s.2.2.2.2.1 s.2.2.2.2.2 w') (fun s=>(Eh (mv l)).length - s.1) (0,none,0,0,[],[]) U ?_ ?_ ?_
  .exact⟨rfl,rfl,trivial⟩
  .exact⟨qal _,qae _,Ext.refl _ _,(fun y hy=>by cases hy),OS.nil,rfl,fun m hm=>by cases hm⟩
  .rintro⟨i,a9,n9,c9,f9,qs⟩ j w1 ⟨hi,hn9,S⟩;dsimp only at hi hn9 S;dsimp only;have H:=Ctx.start w1 [];refine Ad (Bp U U (qA (Aq (Ar _ U ?_ ?_))))
   .intro h2;replace h2:=AV h2;obtain⟨k,hk⟩:=AY (l:=Eh (mv l)) (i:=i);have hI1:=hxK.trans S.ext;have hsn:=VR (l:=l) (kf:=kf) (kt:=kt) (k:=k) (ks:=(Eh (mv l)).take i);rw[<-Bt hk]at hsn;refine Ap (Aa (Aq (AB (Ad (Bo (RK.ext0 S.ext) Aad sz_9 U U (hn:=by rfl) ?_)))));refine Bq ag_9 U ((RK.ext0 S.ext).one (f:=str) hk) ?_;refine Kt U U (qA (Ad (B5 (α:=Unit) 8795824586752 (fun _=>[(42,.bool (S7 kf kt k))]) (fun _ w'=>w1=w') U ?_ ?_)))
    .refine BU U (Aj U (Ie AO Gz Fp U (Rf.ext0 hI1) ?_));refine Zz U U U ?_;refine A4 U (AU 32 U ?_ ?_)
     .intro h1;refine Aj U (AP AO U (B6 U U (A4 U (AU 36 U ?_ ?_))))
      .intro h2;replace h2:=AV h2;refine Ak U (Ak U (Ak U (Ak U (AR U (.bool _) U (AR U (.bool _) U (Ab ?_))))));exact⟨rfl,(),rfl,⟨qac Value.bool (by unfold S7;simp_all),trivial⟩,rfl⟩
      .intro h3;replace h3:=AW h3;refine BU U (Aj U (Ie AO Gz Fp U (Rt.ext0 hI1) ?_));refine Zy U U U (AJ U (.bool _) U (AR U (.bool _) U (Ab ?_)));exact⟨rfl,(),rfl,⟨qac Value.bool (by unfold S7;simp_all),trivial⟩,rfl⟩
     .intro h4;refine Ak U (Ak U (Ak U (Ak U (Ak U (Ak U (Ak U (Ak U (Ak U (AJ U (.bool _) U ?_)))))))));refine Ab ?_;exact⟨rfl,(),rfl,⟨qac Value.bool (by unfold S7;simp_all),trivial⟩,rfl⟩
    rintro - j42 w rfl;refine Ar _ U ?_ ?_
    .intro h3;rw[if_pos h3]at hsn
     obtain⟨A9,C9,hz,hR9,hlen9⟩:∃A9 C9,((B7 l k).map Sv.enc).getD (.slice none 0 0)=.slice A9 (J3 l k).length C9/\Rd wI A9 1 B8 (J3 l k)/\(J3 l k).length<=128:=by
      unfold J3
      cases hq:B7 l k with
      |none=>exact⟨none,0,rfl,Rd.nil,by simp⟩
      |some s=>exact⟨s.a,s.c,rfl,(K.ok _ (EF hq)).1.1,(K.few _ (EF hq)).2⟩
     refine A5 (Aj U (BU U (NS (l:=k) U Fp AO Gz U ?_)));rintro b45 c45 w hb45 hc45 hx45 R45;replace H:=H.call hx45;refine Ao U (AD U (Af Hn U (Bq MS U ((by rw[Au ((hI1.trans H.ext).to hs (by simp))];rfl)) ?_)));refine BU U (NW (m:=mv l) (n:=k) U Ov (EH Fp) Ty U U (Ctx.start1 ((hI1.trans H.ext).to h1m (by simp))) at0 K.m ?_);rw[EE (f:=Sv.enc),hz];refine Ah qB (HM A9 C9 _ (J3 l k) _ ((hR9.ext0 hI1).ext0 H.ext) U) U ?_;rintro v wb ⟨F52,-⟩;have hsz45:=H.size;obtain⟨a52,c52,rfl,R52,hc52,hn52⟩:=Fresh.newB F52;replace R45:=R45.ext0 F52.ext;have Hb:=H.call F52.ext;obtain⟨im,him⟩:=qD (⟨some ⟨b45,0,none⟩,c45,a52,c52,⟨k,J3 l k,0⟩⟩:Im);have hblk:∀y∈ent a9 68 f9,wb.heap[y.1]?=some y.2:=(fun y hy=>Hb.ext.to (S.blk y hy).1 (by simp));clear H;have H:=Ctx.startL hblk IZ;refine Bw (K1 ⟨some ⟨b45,0,none⟩,c45,a52,c52,⟨k,J3 l k,0⟩⟩) Aag Ki ?_
     rw[<-him];refine C3 (K1 im) (.agg _) EY Gv Ki U U U U H ?_;rintro b54 w - H;refine Df (L:=[]) EY EY Gv Afz Ki U U U H S.os U (LJ im) ?_;clear H;rintro a28 c28 f28 w2 H O28;refine Ai U (Ab (AH (Aa (A5 (A8 U U ?_)))));refine Ae U (qA ?_);have hltm:∀y∈ent a9 68 f9,y.1<w1.heap.size:=fun y hy=>Al (S.blk y hy).1;have hKs:=S.ext.size
     have himk:im.Ok wb (Mk wK (ent a9 68 f9)):=by
      subst him;refine⟨⟨R45,.inr fun h=>?_⟩,⟨R52,hn52.imp id fun h5 h=>?_⟩,hc45,hc52⟩
      .rcases h with h|h
       .have h6:b45<wK.heap.size:=h;omega
       .obtain⟨y,hy,he⟩:=qak.1 h;have h6:=hltm y hy;have h7:y.1=b45:=he;omega
      .rcases h with h|h
       .have h6:(adr a52).block<wK.heap.size:=h;omega
       .obtain⟨y,hy,he⟩:=qak.1 h;have h6:=hltm y hy;have h7:y.1=(adr a52).block:=he;omega
     refine⟨(i+1,a28,n9+1,c28,f28,qs++[im]),rfl,⟨rfl,rfl,trivial⟩,⟨by dsimp only;omega,by dsimp only;omega,⟨?_,?_,?_,?_,?_⟩⟩,by dsimp only;omega⟩
     .exact(S.ext.trans Hb.ext).then H.ext fun y hy=>by
       obtain⟨z,hz,he⟩:=qak.1 hy;rw[<-he];exact .inr (S.blk z hz).2
     .intro y hy;refine⟨H.blk y hy,?_⟩
      rcases H.own y hy with h|h
      .obtain⟨z,hz,he⟩:=qak.1 h;rw[<-he];exact(S.blk z hz).2
      .have:=Hb.size;omega
     .dsimp only;rw[qcg,qdm];exact O28
     .dsimp only;rw[qa0,S.eq,hsn,him];rfl
     .intro m hm;dsimp only at hm |-
      rcases qat.1 hm with hm|hm
      .exact Xj (S.ok m hm) Hb.ext H
      .rw[qab.1 hm];exact Xj himk (Ext.refl _ _) H
    .intro h3;rw[if_neg (by simp[h3]),qa2]at hsn;refine Ap (AH (Aa (A5 (A8 U U ?_))));refine Ae U (qA ?_);exact⟨(i+1,a9,n9,c9,f9,qs),rfl,⟨rfl,rfl,trivial⟩,⟨by dsimp only;omega,by dsimp only;omega,S.ext,S.blk,S.os,by dsimp only;rw[S.eq,hsn],S.ok⟩,by dsimp only;omega⟩
   .intro h2;replace h2:=AW h2;obtain rfl:i=(Eh (mv l)).length:=by omega
    have he:=S.eq;rw[qbf]at he
    have hnq:n9=(Pv l kf kt).length:=by
     have h5:=S.os.llen;rw[Pw]at h5;have h6:qs.length=(Pv l kf kt).length:=by rw[<-qan (f:=fun m:Im=>prI m.it),he];rfl
     omega
    have hKI:=hxK.size;refine B9 (A6 (A6 (Bd (Aa (Ad (Aj U (Ai U (Ac U (qA (Aw (BA (v1:=(.slice _ _ _)) (v2:=(.int _ _)) U U U U ?_)))))))))));refine⟨a9,c9,by rw[<-hnq],⟨⟨qs,OS.rd S.os (fun y hy=>(S.blk y hy).1) (fun _ _=>rfl) (by decide),?_,he,fun m hm=>(S.ok m hm).weak fun x hx => .inl (qas hx hKI)⟩,rfl,by rw[<-hnq];exact S.os.le⟩,hxK.trans S.ext⟩
    cases ha:a9 with
    |none =>
     left;have h5:=S.os.none' ha;have h6:=S.os.le;have h7:=S.os.llen;rw[Pw]at h7;exact qa8 (by omega)
    |some q =>
     right;intro h;have h5:=(S.blk (q.block,Bl 68 f9) (by rw[ha];exact qab.2 rfl)).2;have h6:q.block<wI.heap.size:=h;dsimp only at h5;omega
theorem Iw{α:Type}{k:Byt}:∀{m:List (Byt × α)},(m.map (·.1)).Nodup->((EN m k).map (·.1)).Nodup/\k∉(EN m k).map (·.1)
 | [],h=>⟨h,by simp[EN]⟩
 |p::m,h=>by
  rw[qau,qcf]at h;unfold EN
  split
  .rename_i he
   exact⟨h.2,he ▸ h.1⟩
  .rename_i he
   obtain⟨h1,h2⟩:=Iw (k:=k) h.2;refine⟨?_,?_⟩
   .rw[qau,qcf];refine⟨fun h3=>h.1 ?_,h1⟩;obtain⟨q,hq,e⟩:=qak.1 h3;exact qak.2 ⟨q,HV hq,e⟩
   .rw[qau,qaa];rintro(h3|h3)
    .exact he h3.symm
    .exact h2 h3
theorem KD{kv:Kvl}{x:Wr}(h:(kv.map (·.1)).Nodup):((JD kv x).map (·.1)).Nodup:=by
 obtain⟨h1,h2⟩:=Iw (k:=x.k) h;unfold JD
 split
 .exact h1
 .have h3:B7 (EN kv x.k) x.k=none:=by
   rw[<-qeb,GK]
   simpa using h2
  rw[G8 h3,qa0,qdh];refine⟨h1,by simp,fun a ha b hb=>?_⟩;simp only[qau,qbq,qab]at hb;rintro rfl;exact h2 (hb ▸ ha)
def JF(kv:Kvl)(kf kt:Byt):List Pr:=((Eh kv).filter (S7 kf kt)).map fun k=>(k,(B7 kv k).getD [])
theorem Xl(l:List (Byt × Sv))(k:Byt):J3 l k=(B7 (Gu l) k).getD []:=by rw[Pq];rfl
theorem Ac2(l:List (Byt × Sv)):Eh (mv l)=Eh (Gu l):=by simp[Eh,Gu,qek]
theorem Ac3(l:List (Byt × Sv))(kf kt:Byt):Pv l kf kt=JF (Gu l) kf kt:=by
 unfold Pv QP JF;rw[Ac2];simp only[Xl]
section
variable {w0 w w':World}{p:Sp}{A:Dev}{R:Rj}{x:Sx}{F:Mut}
theorem Xn(O:Sok w0 w p A R x F)(a:Option Addr)(c:Nat)(k:Byt)(Rk:Rd w a 1 B8 k) :
  Ret prog 26 #[ptr p.bs,.slice a k.length c] w fun v w'=>∃a' c',v=.tuple #[.slice a' ((B7 x.kv k).getD []).length c',.bool (B7 x.kv k).isSome,.int .i64 0]/\Rd w' a' 1 B8 ((B7 x.kv k).getD [])/\Sok w0 w' p A R x F/\Ext [] w w':=by
 obtain⟨l,o1,o2,hF,K,hk,hM⟩:=O.ex;refine(Ae5 (hF.blk _ (qad ..)) (hF.blk (p.m1,o1) (by simp[Sp.blk])) K a c k Rk).mono fun v w' ⟨a',c',hv,hR,hx⟩=>?_;rw[Xl,hk]at hv hR;refine⟨a',c',?_,hR,O.call hx,hx⟩;rw[hv,<-hk,Pq,qet]
theorem YT(O:Sok w0 w p A R x F):Ret prog 25 #[ptr p.bs] w fun v w'=>v=.int .i64 x.n/\w=w':=by
 obtain⟨l,o1,o2,hF,-⟩:=O.ex;exact YA (hF.blk _ (qad ..))
theorem Ac4(O:Sok w0 w p A R x F)(hnd:(x.kv.map (·.1)).Nodup)(hsz:x.kv.length<=100000)(fa ta:Option Addr)(fc tc:Nat)(kf kt:Byt)(Rf:Rd w fa 1 B8 kf)(Rt:Rd w ta 1 B8 kt) :
  Ret prog 20 #[ptr p.bs,.slice fa kf.length fc,.slice ta kt.length tc] w fun v w'=>∃a c,v=.tuple #[.slice a (JF x.kv kf kt).length c,.int .i64 0]/\Prs w' (Old w) a (JF x.kv kf kt).length c (JF x.kv kf kt)/\Sok w0 w' p A R x F/\Ext [] w w':=by
 obtain⟨l,o1,o2,hF,K,hk,hM⟩:=O.ex
 have h1:((mv l).map (·.1)).Nodup:=by
  have h2:(mv l).map (·.1)=(Gu l).map (·.1):=by simp[Gu,qek]
  rw[h2,hk];exact hnd
 have h3:l.length<=100000:=by
  have:(Gu l).length=l.length:=qan ..
  rw[hk]at this;omega
 refine(Ac1 (hF.blk _ (qad ..)) (hF.blk (p.m1,o1) (by simp[Sp.blk])) K h1 h3 fa ta fc tc kf kt Rf Rt).mono fun v w' ⟨a,c,hv,hP,hx⟩=>?_;rw[Ac3,hk]at hv hP;exact⟨a,c,hv,hP,O.call hx,hx⟩
theorem VS(O:Sok w0 w p A R x F):Own w0 w p.bd A F/\SG A.B.length A R x.V:=⟨O.jone.own,O.good⟩
end
end Go.Proofs.YtcpgbcabmcbclaaGreatDoor
