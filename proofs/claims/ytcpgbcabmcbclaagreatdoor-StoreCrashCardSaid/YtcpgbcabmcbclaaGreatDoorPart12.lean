/- Part 12 of the proof. -/
import Derived.Test.YtcpgbcabmcbclaaGreatDoorPart11
set_option maxRecDepth 20000
set_option maxHeartbeats 4000000
namespace Go.Proofs.YtcpgbcabmcbclaaGreatDoor
open Go.GV Go.Proofs.Tryz
structure Base9(A0:Dev)(P0:List Nat)(A:Dev)(P:List Nat):Prop where
 back:P.map DE=P0
 blk:∀q,(∀x:Nat,P0[x]?=some 0->q≠362+x)->A.B.getD q (zeros,[])=A0.B.getD q (zeros,[])
 blen:A.B.length=A0.B.length
 left:A0.left = -1->A.left = -1
section
variable {A0 A A':Dev}{P0 P P':List Nat}{root:Int}{L M:List Pr}{mx:Nat}
theorem Base9.len(s:Base9 A0 P0 A P):P.length=P0.length:=by rw[<-s.back,qaj]
theorem Base9.after(s:Base9 A0 P0 A P)(af:After 362 A P A' P'):Base9 A0 P0 A' P' :=
 ⟨af.back.trans s.back,fun q hq=>(af.blk q fun x hx=>hq x (by rw[<-s.back,qat,hx];rfl)).trans (s.blk q hq),af.blen.trans s.blen,fun h=>af.left (s.left h)⟩
theorem Base9.start(h01:∀s∈P,s=0\/s=1):Base9 A P A P:=by
 refine⟨?_,fun q _=>rfl,rfl,id⟩
 have h:∀s∈P,DE s=id s:=fun s hs=>by rcases h01 s hs with rfl|rfl <;> rfl
 rw[qc0 h,List.map_id]
theorem Base9.old(s:Base9 A0 P0 A P)(T:TreeAt 362 A0 P0 root M):TreeAt 362 A P0 root M:=by
 obtain⟨S,h1,h2,h3⟩:=T.lies;refine⟨⟨S,h1.frame fun x hx=>?_,h2,h3⟩,T.rise,T.ok⟩;unfold RD;rw[s.blk _ fun y hy he=>?_];obtain rfl:x=y:=by omega
 rcases(h3 x).1 hx with h|h <;> (rw[hy]at h;cases h)
def MT(f:Byt->Option Byt)(M:List Pr)(k:Byt):List Pr:=match f k with|some v=>HO M k v|none=>JA M k
def PE(f:Byt->Option Byt)(M:List Pr)(ts:List Byt):List Pr:=ts.foldl (MT f) M
theorem W6(h:Rising M)(f:Byt->Option Byt)(k:Byt):Rising (MT f M k):=by
 unfold MT
 split
 .exact GI h _ _
 .exact HP h _
theorem Afk(h:Rising M)(f:Byt->Option Byt)(k k':Byt):DQ (MT f M k) k'=if k'=k then f k else DQ M k':=by
 unfold MT
 cases hf:f k with
 |none=>dsimp only;rw[YC h]
 |some v=>dsimp only;rw[YB h]
theorem TL(f:Byt->Option Byt):∀{ts:List Byt} {M:List Pr},Rising M->Rising (PE f M ts)/\∀k,DQ (PE f M ts) k=if k∈ts then f k else DQ M k
 | [],M,h=>⟨h,fun k=>by simp[PE]⟩
 |t::ts,M,h=>by
  obtain⟨h1,h2⟩:=TL f (ts:=ts) (W6 h f t);refine⟨h1,fun k=>?_⟩;show DQ (PE f (MT f M t) ts) k=_;rw[h2,Afk h]
  by_cases h3:k∈ts
  .rw[if_pos h3,if_pos (qai _ h3)]
  .rw[if_neg h3]
   by_cases h4:k=t
   .rw[if_pos h4,if_pos (by rw[h4];exact qaf ..),h4]
   .rw[if_neg h4,if_neg (by simp[h3,h4])]
theorem Vz{f:Byt->Option Byt}{ts:List Byt}(hM:Rising M)(hL:Rising L)(hf:∀k,f k=DQ L k)(hts:∀k,k∉ts->DQ M k=DQ L k):PE f M ts=L:=by
 obtain⟨h1,h2⟩:=TL f (ts:=ts) hM;refine YD h1 hL fun k=>?_;rw[h2]
 split
 .exact hf k
 .rename_i h;exact hts k h
def Ji(f:Byt->Option Byt)(k:Byt)(r:Int)(A:Dev)(P:List Nat):Int × Int × Dev × List Nat :=
 match f k with
 |some v=>JQ 362 A P r k v
 |none=>((Hg 362 A P r k).1,(Hg 362 A P r k).2.1,(Hg 362 A P r k).2.2.2.1,(Hg 362 A P r k).2.2.2.2)
def Dp(f:Byt->Option Byt):List Byt->Int->Dev->List Nat->Int × Int × Dev × List Nat
 | [],r,A,P=>(0,r,A,P)
 |k::ts,r,A,P=>if(Ji f k r A P).1=0 then Dp f ts (Ji f k r A P).2.1 (Ji f k r A P).2.2.1 (Ji f k r A P).2.2.2 else Ji f k r A P
theorem YH{f:Byt->Option Byt}{k:Byt}(hf:∀v,f k=some v->v.length<=128)(hk:1<=k.length/\k.length<=32)(T:TreeAt 362 A P root M)(hon:A.on=true)(hl:362+P.length<=A.B.length)(hP:P.length<=2000)(hfew:Few A mx) :
  Res9 A P (MT f M k) (Ji f k root A P).1 (Ji f k root A P).2.1 (Ji f k root A P).2.2.1 (Ji f k root A P).2.2.2 (mx+40):=by
 unfold Ji MT
 cases h:f k with
 |none =>
  dsimp only;exact Aj3 T hon hl hP hfew (by unfold Dh;simp only[qao,qap];omega)
 |some v =>
  dsimp only;have:=hf v h;exact Aj2 T hon hl hP hfew (by unfold Dh;simp only[qao,qap];omega)
theorem PF{f:Byt->Option Byt}(hf:∀k v,f k=some v->v.length<=128):∀(ts:List Byt) (root:Int) (A:Dev) (P:List Nat) (M:List Pr) (mx:Nat),(∀k∈ts,1<=k.length/\k.length<=32)->TreeAt 362 A P root M->A.on=true->362+P.length<=A.B.length->P.length<=2000->Few A mx->Base9 A0 P0 A P ->
  Base9 A0 P0 (Dp f ts root A P).2.2.1 (Dp f ts root A P).2.2.2/\Few (Dp f ts root A P).2.2.1 (mx+40*ts.length) /\
   (((Dp f ts root A P).1=0/\(Dp f ts root A P).2.2.1.on=true/\TreeAt 362 (Dp f ts root A P).2.2.1 (Dp f ts root A P).2.2.2 (Dp f ts root A P).2.1 (PE f M ts))\/((Dp f ts root A P).1=8/\A0.left ≠ -1/\(Dp f ts root A P).2.2.1.on=false)\/((Dp f ts root A P).1=7/\(Dp f ts root A P).2.2.1.on=true))
 | [],root,A,P,M,mx,_,T,hon,hl,hP,hfew,b=>⟨b,hfew,.inl ⟨rfl,hon,T⟩⟩
 |k::ts,root,A,P,M,mx,hts,T,hon,hl,hP,hfew,b=>by
  have h:=YH (f:=f) (hf k) (hts k (qaf ..)) T hon hl hP hfew;have b1:=b.after h.aft
  rcases h.out with⟨h1,h2,h3⟩|⟨h1,h2,h3⟩|⟨h1,h2⟩
  .have hst:Dp f (k::ts) root A P=Dp f ts (Ji f k root A P).2.1 (Ji f k root A P).2.2.1 (Ji f k root A P).2.2.2:=if_pos h1;rw[hst];obtain⟨i1,i2,i3⟩:=PF hf ts _ _ _ _ _ (fun k hk=>hts k (qai _ hk)) h3 h2 (by rw[h.aft.blen,h.aft.len];exact hl) (by rw[h.aft.len];exact hP) h.few b1;exact⟨i1,i2.mono (by rw[qaw];omega),i3⟩
  .have hst:Dp f (k::ts) root A P=Ji f k root A P:=if_neg (by rw[h1];decide);rw[hst];exact⟨b1,h.few.mono (by rw[qaw];omega),.inr (.inl ⟨h1,fun h=>h2 (b.left h),h3⟩)⟩
  .have hst:Dp f (k::ts) root A P=Ji f k root A P:=if_neg (by rw[h1];decide);rw[hst];exact⟨b1,h.few.mono (by rw[qaw];omega),.inr (.inr ⟨h1,h2⟩)⟩
def Hm(P:List Nat):Nat:=(Hj P P.length).length
theorem Afl{P S:List Nat}(hnd:S.Nodup)(hS:∀x:Nat,x∈S↔P[x]?=some 1\/P[x]?=some 2):S.Perm (Hj P P.length):=by
 refine(qd2 hnd (List.nodup_range.filter _)).2 fun x=>?_;rw[qbk,qdc,hS];unfold Jw;rw[qcf,qap,qap];refine⟨fun h=>⟨h.elim (fun h=>(qaq.1 h).1) fun h=>(qaq.1 h).1,h⟩,And.right⟩
theorem IB{P S:List Nat}(hnd:S.Nodup)(hS:∀x:Nat,x∈S↔P[x]?=some 1\/P[x]?=some 2):Hm P=S.length:=(Afl hnd hS).length_eq.symm
def JZ(A:Dev)(P:List Nat)(L:List Pr):Int × Ch × Int:=if L=[]then(0,⟨A,P,[],[]⟩,-1)else Cg 362 1500 ⟨A,P,[],[]⟩ false (L.map BL)
def TN(A:Dev)(P:List Nat)(L:List Pr):List Nat:=if L=[]then P else(DH (Cg 362 1500 ⟨A,P,[],[]⟩ false (L.map BL)).2.1 (Cg 362 1500 ⟨A,P,[],[]⟩ false (L.map BL)).1).P
theorem Aaw{P:List Nat}(h01:∀s∈P,s=0\/s=1):Hm P+DF P=P.length:=by
 have hs:P.map BM=P:=by
  have h:∀s∈P,BM s=id s:=fun s hs=>by rcases h01 s hs with rfl|rfl <;> rfl
  rw[qc0 h,List.map_id]
 have h1:=Ku (P:=P) (fun s hs=>by rcases h01 s hs with rfl|rfl <;> decide) P.length (qae _);rw[qa6 (by rw[qaj];omega),hs]at h1;exact h1
theorem Q2(hon:A.on=true)(hl:362+P.length<=A.B.length)(hP:P.length<=2000)(hfew:Few A mx)(h01:∀s∈P,s=0\/s=1)(hL:Rising L)(ho:OkP L){S:List Nat}(hnd:S.Nodup)(hS:∀x:Nat,x∈S↔P[x]?=some 1\/P[x]?=some 2){h:Nat}(hroom:S.length+h<=P.length)(hh:FL 1500 (2*B0 L / 503+1)<=h)(hb:2*B0 L / 503+1<=1500) :
  Base9 A P (JZ A P L).2.1.A (TN A P L)/\Few (JZ A P L).2.1.A (mx+2000)/\(((JZ A P L).1=8/\A.left ≠ -1/\(JZ A P L).2.1.A.on=false)\/((JZ A P L).1=0/\(JZ A P L).2.1.A.on=true/\TreeAt 362 (JZ A P L).2.1.A (S.foldl EE (TN A P L)) (JZ A P L).2.2 L/\Base9 A P (JZ A P L).2.1.A (S.foldl EE (TN A P L))/\Hm (S.foldl EE (TN A P L))<=h)):=by
 have hdrop:∀{A':Dev} {P':List Nat},Base9 A P A' P'->Base9 A P A' (S.foldl EE P'):=fun{A' P'} b=>by
  refine⟨?_,b.blk,b.blen,b.left⟩;rw[<-b.back];refine qci fun x=>?_;rw[qat,qat,JR S P' hnd x]
  split
  .cases P'[x]? with
   |none=>rfl
   |some s=>simp only[qbc];rw[Vb]
  .rfl
 have hfc:=Aaw h01;rw[IB hnd hS]at hfc;unfold JZ TN
 by_cases hne:L=[]
 .rw[if_pos hne,if_pos hne];subst hne;have b0:Base9 A P A P:=Base9.start h01
  have hT:∀x:Nat,(S.foldl EE P)[x]?=some 1\/(S.foldl EE P)[x]?=some 2->False:=fun x hx=>by
   rw[JR S P hnd x]at hx
   by_cases hxS:x∈S
   .rw[if_pos hxS]at hx
    cases hpx:P[x]? with
    |none=>rw[hpx]at hx;simp at hx
    |some s =>
     rw[hpx]at hx;simp only[qbc,qbb]at hx;have:=Mu s;omega
   .rw[if_neg hxS]at hx;exact hxS ((hS x).2 hx)
  refine⟨b0,hfew.mono (by omega),.inr ⟨rfl,hon,⟨⟨[],.inl ⟨rfl,rfl,rfl⟩,qcb,fun x=>⟨(fun h=>by cases h),fun hx=>(hT x hx).elim⟩⟩,hL,ho⟩,hdrop b0,?_⟩⟩;rw[IB (S:=[]) qcb fun x=>⟨(fun h=>by cases h),fun hx=>(hT x hx).elim⟩];exact qak _
 .rw[if_neg hne,if_neg hne];have hm0:=Tk 1500 (2*B0 L / 503+1);obtain⟨t,c1,c2⟩:=Qw (fr:=362) (n:=1500) (h:=0) (c:=⟨A,P,[],[]⟩) (i:=false) (M:=L.map BL) (L:=L) (S:=[]) (2*B0 L / 503+1) hb (qae _) ⟨rfl,rfl,rfl⟩ ho (fun x hx=>by cases hx) ⟨hon,hl,by show P.length<=4096;omega⟩ (by show L.map BL≠[];simpa using hne) (by rw[Tn];exact qae _) (by show _<=DF P;omega) (by show 0+DF P<=5000;omega);have ht:=Ou (fr:=362) (n:=1500) (c:=⟨A,P,[],[]⟩) (i:=false) (M:=L.map BL) hon
  have hft:t.length<=P.length:=by
   have:=c1.free;have h2:DF P<=P.length:=Ajf P;dsimp only at this;omega
  have hfw:Few (Cg 362 1500 ⟨A,P,[],[]⟩ false (L.map BL)).2.1.A (mx+2000):=by
   have h1:=Qx (fr:=362) (n:=1500) (c:=⟨A,P,[],[]⟩) (i:=false) (M:=L.map BL) (m:=mx) (hfew.mono (qcp ..));rw[c1.tk]at h1;exact h1.mono (by simp;omega)
  rcases c2 with⟨e8,el⟩|⟨d1,e0,d3,S',d5,d6,d7⟩
  .rw[e8]at ht |-;obtain⟨af,hPP⟩:=Tf (e:=8) c1 ⟨rfl,rfl⟩ (by decide);have b1:=(Base9.start (A:=A) h01).after af;exact⟨b1,hfw,.inl ⟨rfl,el,ht.off⟩⟩
  .rw[e0]at ht |-
   have hP2:(DH (Cg 362 1500 ⟨A,P,[],[]⟩ false (L.map BL)).2.1 0).P=(Cg 362 1500 ⟨A,P,[],[]⟩ false (L.map BL)).2.1.P:=by
    unfold DH;rw[if_neg (by decide)];have:=c1.gn;dsimp only at this |-;rw[this];rfl
   rw[hP2];have hnow:=c1.now;have hwas:=c1.was;dsimp only at hnow hwas
   have b1:Base9 A P (Cg 362 1500 ⟨A,P,[],[]⟩ false (L.map BL)).2.1.A (Cg 362 1500 ⟨A,P,[],[]⟩ false (L.map BL)).2.1.P:=by
    refine⟨qci fun x=>?_,fun q hq=>c1.blk q fun x hx=>hq x (hwas x hx),c1.blen,c1.left⟩;rw[qat,hnow x]
    by_cases hx:x∈t
    .rw[if_pos hx,hwas x hx];rfl
    .rw[if_neg hx]
     cases hpx:P[x]? with
     |none=>rfl
     |some s=>rcases h01 s (qad hpx)with rfl|rfl <;> rfl
   have hSt:S'.Perm t:=by simpa using d6
   have hm:∀x:Nat,x∈S'↔(S.foldl EE (Cg 362 1500 ⟨A,P,[],[]⟩ false (L.map BL)).2.1.P)[x]?=some 1\/(S.foldl EE (Cg 362 1500 ⟨A,P,[],[]⟩ false (L.map BL)).2.1.P)[x]?=some 2:=fun x=>by
    rw[hSt.mem_iff,JR S _ hnd x,hnow x]
    by_cases hx:x∈t
    .have h0:=hwas x hx
     have hxS:x∉S:=fun h=>by rcases(hS x).1 h with h|h <;> (rw[h0]at h;cases h)
     rw[if_neg hxS,if_pos hx];simp[hx]
    .rw[if_neg hx]
     by_cases hxS:x∈S
     .rw[if_pos hxS];refine⟨fun h=>absurd h hx,fun h=>?_⟩
      cases hpx:P[x]? with
      |none=>rw[hpx]at h;simp at h
      |some s =>
       rw[hpx]at h;simp only[qbc,qbb]at h;have:=Mu s;omega
     .rw[if_neg hxS];exact⟨fun h=>absurd h hx,fun h=>absurd ((hS x).2 h) hxS⟩
   have hnS:S'.Nodup:=hSt.nodup_iff.2 c1.nd;refine⟨b1,hfw,.inr ⟨rfl,ht.on (by decide),⟨⟨S',d5,hnS,hm⟩,hL,ho⟩,hdrop b1,?_⟩⟩;rw[IB hnS hm,hSt.length_eq];omega
def DZ(f:Byt->Option Byt)(ts:List Byt)(L:List Pr)(h:Nat)(A:Dev)(P:List Nat)(root:Int)(S:List Nat):Int × Int × Dev × List Nat :=
 let s:=Dp f ts root A P
 if s.1≠7/\(s.1≠0\/Hm s.2.2.2<=h)then(s.1,s.2.1,s.2.2.1,s.2.2.2)
 else
  let b:=JZ s.2.2.1 (s.2.2.2.map DE) L
  if b.1≠0 then(b.1,b.2.2,b.2.1.A,TN s.2.2.1 (s.2.2.2.map DE) L)
  else(0,b.2.2,b.2.1.A,S.foldl EE (TN s.2.2.1 (s.2.2.2.map DE) L))
theorem Afm{f:Byt->Option Byt}{ts:List Byt}{h:Nat}{S:List Nat}(T:TreeAt 362 A P root M)(h01:∀s∈P,s=0\/s=1)(hnd:S.Nodup)(hS:∀x:Nat,x∈S↔P[x]?=some 1\/P[x]?=some 2)(hon:A.on=true)(hfew:Few A 0)(hL:Rising L)(ho:OkP L)(hf:∀k,f k=DQ L k)(hts:∀k,k∉ts->DQ M k=DQ L k)(htk:∀k∈ts,1<=k.length/\k.length<=32)(hroom:S.length+h<=P.length)(hh:FL 1500 (2*B0 L / 503+1)<=h)(hb:2*B0 L / 503+1<=1500)(hl:362+P.length<=A.B.length:=by omega)(hP:P.length<=2000:=by omega):
  Base9 A P (DZ f ts L h A P root S).2.2.1 (DZ f ts L h A P root S).2.2.2/\Few (DZ f ts L h A P root S).2.2.1 (40*ts.length+2000)/\(((DZ f ts L h A P root S).1=8/\A.left ≠ -1/\(DZ f ts L h A P root S).2.2.1.on=false)\/((DZ f ts L h A P root S).1=0/\(DZ f ts L h A P root S).2.2.1.on=true/\TreeAt 362 (DZ f ts L h A P root S).2.2.1 (DZ f ts L h A P root S).2.2.2 (DZ f ts L h A P root S).2.1 L/\Hm (DZ f ts L h A P root S).2.2.2<=h)):=by
 obtain⟨s1,s2,s3⟩:=PF (A0:=A) (P0:=P) (f:=f) (fun k v hv=>(ho (k,v) ((ET hL).1 (by rw[<-hf,hv]))).2.2) ts root A P M 0 htk T hon hl hP hfew (Base9.start h01);rw[Vz T.rise hL hf hts]at s3;unfold DZ;dsimp only
 have hbld:(Dp f ts root A P).2.2.1.on=true->(Dp f ts root A P).1=7\/(Dp f ts root A P).1=0->¬((Dp f ts root A P).1≠7/\((Dp f ts root A P).1≠0\/Hm (Dp f ts root A P).2.2.2<=h)) ->
   Base9 A P (DZ f ts L h A P root S).2.2.1 (DZ f ts L h A P root S).2.2.2/\Few (DZ f ts L h A P root S).2.2.1 (40*ts.length+2000)/\(((DZ f ts L h A P root S).1=8/\A.left ≠ -1/\(DZ f ts L h A P root S).2.2.1.on=false)\/((DZ f ts L h A P root S).1=0/\(DZ f ts L h A P root S).2.2.1.on=true/\TreeAt 362 (DZ f ts L h A P root S).2.2.1 (DZ f ts L h A P root S).2.2.2 (DZ f ts L h A P root S).2.1 L/\Hm (DZ f ts L h A P root S).2.2.2<=h)):=fun hon2 _ hc=>by
  have hbk:(Dp f ts root A P).2.2.2.map DE=P:=s1.back;have hlen:=s1.blen;have b:=Q2 (A:=(Dp f ts root A P).2.2.1) (P:=P) (L:=L) (mx:=40*ts.length) hon2 (by rw[hlen];exact hl) hP (s2.mono (by omega)) h01 hL ho hnd hS hroom hh hb;have hlift:∀{A':Dev} {P':List Nat},Base9 (Dp f ts root A P).2.2.1 P A' P'->Base9 A P A' P':=fun b=>⟨b.back,fun q hq=>(b.blk q hq).trans (s1.blk q hq),b.blen.trans hlen,fun h=>b.left (s1.left h)⟩;unfold DZ;dsimp only;rw[if_neg hc,hbk];obtain⟨b1,b2,b3⟩:=b
  rcases b3 with⟨b3,b4,b5⟩|⟨b3,b4,b5,b6,b7⟩
  .rw[if_pos (by rw[b3];decide)];exact⟨hlift b1,b2,.inl ⟨b3,fun h=>b4 (s1.left h),b5⟩⟩
  .rw[if_neg (by rw[b3];simp)];exact⟨hlift b6,b2,.inr ⟨rfl,b4,b5,b7⟩⟩
 rcases s3 with⟨t1,t2,t3⟩|⟨t1,t2,t3⟩|⟨t1,t2⟩
 .by_cases hlo:Hm (Dp f ts root A P).2.2.2<=h
  .rw[if_pos ⟨by rw[t1];decide,.inr hlo⟩];exact⟨s1,s2.mono (by omega),.inr ⟨t1,t2,t3,hlo⟩⟩
  .have:=hbld t2 (.inr t1) (fun h=>h.2.elim (fun h=>h t1) hlo);unfold DZ at this;exact this
 .rw[if_pos ⟨by rw[t1];decide,.inl (by rw[t1];decide)⟩];exact⟨s1,s2.mono (by omega),.inl ⟨t1,t2,t3⟩⟩
 .have:=hbld t2 (.inl t1) (fun h=>h.1 t1);unfold DZ at this;exact this
end
def RV(V:Nat->Byt)(p:Nat):Option (Bool × List It):=Eu (V (362+p))
structure Dsk(N:Nat)(V:Nat->Byt)(R:Rj)(gen:Nat)(root:Int)(M:List Pr)(S:List Nat)(Ws:List (List Wr))(L:List Pr):Prop where
 n:442<=N/\N<=841
 z:R.size=360
 r1:Cy ((gen % 2:Nat):Int) (V (gen % 2))=gen
 rl:DI ((gen % 2:Nat):Int) (V (gen % 2))=tpB root R.first R.seq
 r0:Cy (((gen+1) % 2:Nat):Int) (V ((gen+1) % 2))<gen
 tr:Root (RV V) root M S
 nd:S.Nodup
 low:∀x∈S,x+362<N
 half:S.length<=(N - 362) / 2
 rise:Rising M
 ok:OkP M
 mx:M.length<=10000
 ws:R.L=Ws.map opB
 few:∀W∈Ws,W.length<=1000/\∀x∈W,x.Few/\1<=x.k.length
 l:L=DO M Ws.flatten
 room:(B0 L:Int)<=Cu N
structure Alv(N:Nat)(A:Dev)(R:Rj)(x:Sx)(M:List Pr)(S:List Nat)(Ws:List (List Wr))(L:List Pr)(b:Nat):Prop where
 sg:SG N A R x.V
 d:Dsk N x.V R x.gen x.root M S Ws L
 kl:KL x.kv L
 n:x.n=B0 L
 t:x.t=Ex [] Ws.flatten
 len:x.P.length=N - 362
 p01:∀s∈x.P,s=0\/s=1
 mem:∀y:Nat,y∈S↔x.P[y]?=some 1\/x.P[y]?=some 2
 gen:x.gen<=b
 seq:1<=R.seq/\R.seq+R.L.length<=b
def Bs(N:Nat)(b:Nat)(L:List Pr)(A:Dev):Prop :=
 ∃R V gen root M S Ws,SG N A R V/\Dsk N V R gen root M S Ws L/\gen<=b/\1<=R.seq/\R.seq+R.L.length<=b
def Bk(N:Nat)(b:Nat)(L:List Pr)(A:Dev):Prop :=
 A.left = -1/\Bs N b L A
section
variable {N b:Nat}{A:Dev}{R:Rj}{V V':Nat->Byt}{gen:Nat}{root:Int}{M L:List Pr}{S:List Nat}{Ws:List (List Wr)}{x:Sx}
theorem MA(h:442<=N/\N<=841):Jx N=(((N - 362) / 2:Nat):Int):=by unfold Jx;omega
theorem QO(h:442<=N/\N<=841):Cu N=(4*Jx N / 5 - 1)*251:=by unfold Cu;rw[if_neg (by rw[MA h];omega)]
theorem Dsk.lo(d:Dsk N V R gen root M S Ws L):1<=gen:=by have:=d.r0;omega
theorem Dsk.fewW(d:Dsk N V R gen root M S Ws L):∀y∈Ws.flatten,y.Few/\1<=y.k.length:=fun y hy=>by
 obtain⟨W,h1,h2⟩:=qe7.1 hy;exact(d.few W h1).2 y h2
theorem Dsk.riseL(d:Dsk N V R gen root M S Ws L):Rising L:=by rw[d.l];exact LL d.rise
theorem Dsk.okL(d:Dsk N V R gen root M S Ws L):OkP L:=by rw[d.l];exact OI d.ok d.fewW
theorem V0:∀{L:List Pr},OkP L->5*L.length<=B0 L
 | [],_=>qak _
 |p::L,h=>by
  have h1:=V0 (L:=L) fun q hq=>h q (qai _ hq);have h2:=(h p (qaf ..)).1;rw[FM,qaw];omega
theorem Dsk.num(d:Dsk N V R gen root M S Ws L):L.length<=10000/\B0 L<=50000:=by
 have h1:=V0 d.okL;have h2:=d.room;have h3:=d.n;rw[QO d.n,MA d.n]at h2;omega
theorem Dsk.most(d:Dsk N V R gen root M S Ws L):FL 1500 (2*B0 L / 503+1)<=(N - 362) / 2/\2*B0 L / 503+1<=1500:=by
 have h2:=d.room;have h3:=d.n;rw[QO d.n,MA d.n]at h2;have h4:=Aag (2*B0 L / 503+1) (by omega);have h5:max 40 ((5*(2*B0 L / 503+1)+3) / 4)<=(N - 362) / 2:=by omega
 omega
theorem Ac8:∀{Ws:List (List Wr)},(∀W∈Ws,∀y∈W,y.Few/\1<=y.k.length)->6*Ws.flatten.length<=480*BD (Ws.map opB)
 | [],_=>qak _
 |W::Ws,h=>by
  have h1:=Ac8 (Ws:=Ws) fun W hW=>h W (qai _ hW)
  have h2:∀{W:List Wr},(∀y∈W,y.Few/\1<=y.k.length)->6*W.length<=(opB W).length:=by
   intro W
   induction W with
   |nil=>intro _;exact qak _
   |cons y W ih =>
    intro h;have h3:=ih fun z hz=>h z (qai _ hz);have h4:=(h y (qaf ..)).2;have h5:=Wy y;unfold opB at h3 |-;rw[qcc,qan,qaw,h5];omega
  have h3:=h2 (h W (qaf ..));have h4:=Amu (opB W).length;rw[qe5,qan];have h5:BD ((W::Ws).map opB)=blk (opB W).length+BD (Ws.map opB):=by simp[BD]
  rw[h5];omega
theorem Dsk.num2(d:Dsk N V R gen root M S Ws L)(hR:R.Ok):Ws.flatten.length<=28800/\Ws.length<=180:=by
 have h1:=Ac8 (Ws:=Ws) fun W hW=>(d.few W hW).2;have h2:=hR.t;have h3:=Kx R.L;rw[d.z]at h2;rw[d.ws]at h2 h3;rw[qaj]at h3;omega
theorem Root.same{R1 R2:Nat->Option (Bool × List It)}(h:Root R1 root M S)(he:∀x∈S,R2 x=R1 x):Root R2 root M S:=h.frame he
theorem Dsk.congr(d:Dsk N V R gen root M S Ws L)(h0:∀q,q<2->V' q=V q)(hS:∀y∈S,V' (362+y)=V (362+y)):Dsk N V' R gen root M S Ws L :=
 ⟨d.n,d.z,by rw[h0 _ (qbl _ (by decide))];exact d.r1,by rw[h0 _ (qbl _ (by decide))];exact d.rl,by rw[h0 _ (qbl _ (by decide))];exact d.r0,d.tr.frame fun y hy=>by unfold RV;rw[hS y hy],d.nd,d.low,d.half,d.rise,d.ok,d.mx,d.ws,d.few,d.l,d.room⟩
theorem OJ{α:Type}{k:Byt}{v:α}:∀{m:List (Byt × α)},k∈m.map (·.1)->(J9 m k v).map (·.1)=m.map (·.1)
 | [],h=>by cases h
 |p::m,h=>by
  unfold J9
  by_cases hp:p.1=k
  .rw[if_pos hp];simp[hp]
  .rw[if_neg hp,qay,qay,OJ]
   rcases qac.1 h with h|h
   .exact absurd h.symm hp
   .exact h
theorem Q4:∀{W:List Wr} {t:List (Byt × Int)},(t.map (·.1)).Nodup->((Ex t W).map (·.1)).Nodup/\(∀k,k∈(Ex t W).map (·.1)↔k∈t.map (·.1)\/∃y∈W,y.k=k)/\(Ex t W).length<=t.length+W.length
 | [],t,h=>⟨h,fun k=>by simp[Ex],by simp[Ex]⟩
 |y::W,t,h=>by
  have hk:∀k,k∈(JU t y.k).map (·.1)↔k∈t.map (·.1)\/y.k=k:=fun k=>by
   unfold JU
   by_cases hy:y.k∈t.map (·.1)
   .rw[OJ hy];exact⟨.inl,fun h5=>h5.elim id fun h5=>h5 ▸ hy⟩
   .rw[FQ (by rw[<-qdf,FX];simpa using hy)];simp[eq_comm]
  have hn:((JU t y.k).map (·.1)).Nodup:=by
   unfold JU
   by_cases hy:y.k∈t.map (·.1)
   .rw[OJ hy];exact h
   .rw[FQ (by rw[<-qdf,FX];simpa using hy),qaz,qdm];refine⟨h,by simp,fun a ha c hc=>?_⟩;simp only[qay,qbn,qaa]at hc;rintro rfl;exact hy (hc ▸ ha)
  have hl:(JU t y.k).length<=t.length+1:=by
   unfold JU
   by_cases hy:y.k∈t.map (·.1)
   .have:=qab List.length (OJ (v:=(BI t y.k).getD 0+1) hy);rw[qaj,qaj]at this;omega
   .rw[FQ (by rw[<-qdf,FX];simpa using hy)];simp
  obtain⟨i1,i2,i3⟩:=Q4 (W:=W) hn;refine⟨i1,fun k=>?_,?_⟩
  .show k∈(Ex (JU t y.k) W).map (·.1)↔_;rw[i2,hk];simp only[qac,exists_eq_or_imp];exact or_assoc
  .show(Ex (JU t y.k) W).length<=_;rw[qaw];omega
structure Loo(N:Nat)(V:Nat->Byt)(FP:Nat->Prop)(D:Dev):Prop where
 len:D.B.length=N
 get:∀q,q<N->¬FP q->D.B[q]?=some (V q,[])
theorem Loo.on{FP:Nat->Prop}{D:Dev}(h:Loo N V FP D)(ho:D.on=false)(picks:List Int):(onD D picks).on=true/\(onD D picks).left = -1/\∃V',Pend (onD D picks) N V' (fun _=>[])/\∀q,q<N->¬FP q->V' q=V q:=by
 have hd:onD D picks=⟨Es D.B picks,-1,true⟩:=by unfold onD;rw[ho];rfl
 rw[hd];refine⟨rfl,rfl,fun q=>((Es D.B picks).getD q (zeros,[])).1,⟨(GM _ _).trans h.len,fun q hq=>?_⟩,fun q hq hn=>?_⟩
 .obtain⟨y,hy⟩:=AO (l:=Es D.B picks) (i:=q) (h:=by rw[GM,h.len];exact hq);have h2:=(Pm (qad hy)).1;show(Es D.B picks)[q]?=_;rw[qa8,hy];obtain⟨y1,y2⟩:=y;obtain rfl:y2=[]:=h2;rfl
 .obtain⟨y,hy,hy2⟩:=JW (picks:=picks) (h.get q hq hn);show((Es D.B picks).getD q (zeros,[])).1=V q;rw[qa8,hy];exact hy2.resolve_right fun h=>by cases h
end
attribute [local irreducible] AB W Wq Wt
theorem Ac9{wK w1 wb w:World}{e9 e28:List (Nat × Obj)}{m:Wm}(h:m.Ok w1 (Mk wK e9))(hx:Ext [] w1 wb)(H:Ctx wb (e9.map (·.1)) w e28):m.Ok w (Mk wK e28) :=
 ⟨JY h.k hx H,JY h.v hx H,h.kc,h.vc⟩
theorem Wm.Ok.weak{w:World}{M M':Mut}{m:Wm}(h:m.Ok w M)(hM:∀x,M' x->M x):m.Ok w M':=⟨⟨h.k.1,h.k.2.imp id fun h2 h3=>h2 (hM _ h3)⟩,⟨h.v.1,h.v.2.imp id fun h2 h3=>h2 (hM _ h3)⟩,h.kc,h.vc⟩
theorem Am3(d:Bool):Yp d<256:=by cases d <;> decide
theorem Afn{X B:Byt}{f p:Nat}(hp:X.length=p)(hf:f<256):Gi (X++(Bq f 1++B)) (p:Int) 1=.tuple #[.int .u64 (f:Int),.int .i64 ((p:Int)+1),.int .i64 0]:=by
 have hl:(X++(Bq f 1++B)).length=p+1+B.length:=by simp[AZ,hp];omega
 have he:Dj (X++(Bq f 1++B)) (p:Int) 1=0:=by
  unfold Dj;rw[hl,qal (show(0:Int)<=(p:Int)by omega),qal (show(p:Int)<=((p+1+B.length:Nat):Int)by omega),qal (show(1:Int)<=((p+1+B.length:Nat):Int) - (p:Int)by omega)];rfl
 have hd:((X++(Bq f 1++B)).drop p).take 1=Bq f 1:=by
  subst hp;rw[List.drop_left,qcs (by rw[AZ];decide),qa6 (by rw[AZ];decide)]
 have hn:numN (Bq f 1)=f:=by rw[Fm];exact qa9 (by simpa using hf)
 unfold Gi;rw[he];show Value.tuple #[.int .u64 (numN (((X++(Bq f 1++B)).drop (p:Int).toNat).take 1):Int),_,_]=_;rw[qbo,hd,hn]
theorem Ada{L:List Wr}{i:Nat}{x:Wr}(h:L[i]?=some x):opB L=opB (L.take i)++(Bq (Yp x.d) 1++(Bq x.k.length 2++(x.k++(Bq x.v.length 2++(x.v++opB (L.drop (i+1))))))):=by
 obtain⟨hlt,he⟩:=qaq.1 h;have h1:L=L.take i++(x::L.drop (i+1)):=by rw[<-he,<-qd0 hlt,qbj]
 conv=>lhs;rw[h1]
 unfold opB;rw[qbf,qcc];simp[wrB]
structure Wcj(wK:World)(L:List Wr)(i:Nat)(a9:Option Addr)(n9 c9:Nat)(f9:List Value)(qs:List Wm)(w':World):Prop where
 ext:Ext [] wK w'
 blk:∀y∈ent a9 56 f9,w'.heap[y.1]?=some y.2/\wK.heap.size<=y.1
 os:OS a9 n9 c9 3 f9 (qs.flatMap CO)
 eq:qs.map (·.x)=L.take i
 ok:∀m∈qs,m.Ok w' (Mk wK (ent a9 56 f9))
theorem Aqc{w:World}(a:Option Addr)(c n:Nat)(L:List Wr)(R:Rd w a 1 B8 (opB L))(hn:(opB L).length=n)(hc:n<=c)(hL:∀x∈L,x.Few)(hl:L.length<=1000) :
  Ret prog 64 #[.slice a n c] w fun v w'=>∃a' c',v=.slice a' L.length c'/\Wrs w' (Old w) a' L.length c' L/\Ext [] w w':=by
 obtain⟨wI,rfl⟩:=qD w;have hOL:=Ox hL;refine A6 (fn:=f64) func64 U [.slice a n c] U ?_;refine Ad (Ak U (qA (Aq (Ad (Ac U (qA (AE (B7 4611686018427387900 (α:=Nat × Option Addr × Nat × Nat × List Value × List Wm) (fun s=>[(3,.int .i64 ((opB (L.take s.1)).length:Int)),(2,.slice s.2.1 s.2.2.1 s.2.2.2.1)]) (fun s w'=>s.1<=L.length/\s.2.2.1=s.1/\Wcj wI L s.1 s.2.1 s.2.2.1 s.2.2.2.1 s.2.2.2.2.1 s.2.2.2.2.2 w') (fun s=>L.length - s.1) (0,none,0,0,[],[]) U ?_ ?_ ?_))))))))
 .exact⟨rfl,rfl,trivial⟩
 .exact⟨qak _,rfl,Ext.refl _ _,(fun y hy=>by cases hy),OS.nil,rfl,fun m hm=>by cases hm⟩
 .rintro⟨i,a9,n9,c9,f9,qs⟩ j w1 ⟨hi,hn9,S⟩;dsimp only at hi hn9 S;dsimp only;have H:=Ctx.start w1 [];refine Aq (Ad (Ae U (Aj U (AP AX U (Bn U U (qA (Au _ U ?_ ?_)))))))
  .intro h1;replace h1:=AV h1
   have hiL:i<L.length:=by
    by_cases h:i<L.length
    .exact h
    .rw[qa6 (by omega)]at h1;omega
   obtain⟨x,hx⟩:=AO (l:=L) (i:=i) (h:=hiL);have hcut:=Ada hx;have hxf:=hL x (qad hx);unfold Wr.Few at hxf;obtain⟨p,hp⟩:=qD ((opB (L.take i)).length);rw[<-hp];have hlen:=qab List.length hcut;simp only[qan,AZ]at hlen;have hv1:=Afn (X:=opB (L.take i)) (B:=Bq x.k.length 2++(x.k++(Bq x.v.length 2++(x.v++opB (L.drop (i+1)))))) hp.symm (Am3 x.d);rw[<-hcut]at hv1;have hcut2:opB L=(opB (L.take i)++(Bq (Yp x.d) 1++(Bq x.k.length 2++x.k)))++(Bq x.v.length 2++(x.v++opB (L.drop (i+1)))):=by rw[hcut];simp
   have ht1:tbO (opB L) (p+1)=some (x.k,p+1+2+x.k.length):=by rw[hcut,<-qa1];exact NU (by simp[AZ,hp]) (by omega)
   have ht2:tbO (opB L) (p+1+2+x.k.length)=some (x.v,p+1+2+x.k.length+2+x.v.length):=by rw[hcut2];exact NU (by simp[AZ,hp];omega) (by omega)
   refine Ap (Aa (AE (Ad (Aj U (Ae U (Ai qB (Hd a c _ (opB L) (p:Int) 1 _ (R.ext0 S.ext) hn (by omega)) U ?_))))));rintro v w ⟨rfl,hx18⟩;replace H:=H.call hx18;rw[hv1];refine AQ U (Ah U U (Ah U U (Ah U U (Ac U (Ac U (Ac U (qA (Ad (Aj U ?_)))))))));refine Ae U (Aj U (AP AX U (VL U U U ?_)));rw[show min ((p:Int)+1) (n:Int)=((p+1:Nat):Int)by omega];refine Ai qB (Hf a c n (opB L) (p+1) _ ((R.ext0 S.ext).ext0 H.ext) hn hc) U ?_;rintro v w ⟨ka,k,kc,nx,e,rfl,hx28,Xk,hkc,-,-,h0,h1e⟩;have e0:e=0:=Classical.byContradiction (fun h=>by have h5:=(h1e h).1;rw[ht1]at h5;cases h5);subst e0;have hk2:=h0 rfl;rw[ht1]at hk2;obtain⟨rfl,rfl⟩:x.k=k/\p+1+2+x.k.length=nx:=(by injection hk2 with h;injection h with h2 h3;exact⟨h2,h3⟩);have hs28:=H.size;replace H:=H.call hx28
   refine AQ U (Ah U U (Ah U U (Ah U U (Ak U (Ac U (Ac U (qA (Ad (Aj U ?_)))))))));refine Ae U (Aj U (AP AX U (VL U U U ?_)));rw[show min (((p+1+2+x.k.length:Nat)):Int) (n:Int)=((p+1+2+x.k.length:Nat):Int)by omega];refine Ai qB (Hf a c n (opB L) (p+1+2+x.k.length) _ ((R.ext0 S.ext).ext0 H.ext) hn hc) U ?_;rintro v w ⟨va,vl,vc,nx2,e2,rfl,hx38,Xv,hvc,-,-,h0v,h1v⟩;have e0:e2=0:=Classical.byContradiction (fun h=>by have h5:=(h1v h).1;rw[ht2]at h5;cases h5);subst e0;have hv2:=h0v rfl;rw[ht2]at hv2;obtain⟨rfl,rfl⟩:x.v=vl/\p+1+2+x.k.length+2+x.v.length=nx2:=(by injection hv2 with h;injection h with h2 h3;exact⟨h2,h3⟩);have hs38:=H.size;replace Xk:=Xk.call hx38;replace H:=H.call hx38
   refine AQ U (Ah U U (Ah U U (Ah U U (Ak U (Ac U (Ac U (qA (Aq (Ad (BE (α:=Unit) 4499201580859392 (fun _=>[(51,.bool (false))]) (fun _ w'=>w=w') U ?_ ?_))))))))))
   .refine Ae U (Ba U U (AA U (AR 44 U ?_ ?_)))
    .intro h1;replace h1:=Bu h1;refine Ag U (Ag U (AN U (.bool _) U (AA U (Ag U (Ag U (AN U (.bool _) U (Ab ?_)))))));exact⟨rfl,(),rfl,⟨qab Value.bool (by simp_all),trivial⟩,rfl⟩
    .intro h2;replace h2:=Bv h2;refine Ae U (Ba U U (AK U (.bool _) U (AA U (AR 48 U ?_ ?_))))
     .intro h3;replace h3:=Bu h3;refine Ag U (Ag U (AN U (.bool _) U (Ab ?_)));exact⟨rfl,(),rfl,⟨qab Value.bool (by simp_all),trivial⟩,rfl⟩
     .intro h4;replace h4:=Bv h4;refine Ae U (Ba U U (AK U (.bool _) U (Ab ?_)));exact⟨rfl,(),rfl,⟨qab Value.bool (by rfl),trivial⟩,rfl⟩
   rintro - j51 w rfl;obtain⟨wb,rfl⟩:=qD w;have Hb:=H;clear H;obtain⟨im,him⟩:=qD (⟨ka,kc,va,vc,x⟩:Wm);have hblk:∀y∈ent a9 56 f9,wb.heap[y.1]?=some y.2:=fun y hy=>Hb.ext.to (S.blk y hy).1 (by simp);have H:=Ctx.startL hblk KR;refine Bz U (Ap (Aa (Ad (Aj U (Aj U (Aj U (Ae U (B6 U U ?_))))))));rw[show decide ((Yp x.d:Int)=1)=x.d by(cases x.d <;> rfl)];refine B2 (CO ⟨ka,kc,va,vc,x⟩) Qk Fy ?_;rw[<-him];refine BJ (CO im) (.agg _) CD CQ Fy U U U U H ?_;rintro b59 w - H;refine BO (L:=[]) CD CD CQ Abp Fy U U U H S.os U (FW im) ?_;clear H;rintro a28 c28 f28 w2 H O28;refine Ak U (qA (Av (Ae U (Ac U (Ab (AF (Aa ?_)))))));have hltm:∀y∈ent a9 56 f9,y.1<w1.heap.size:=fun y hy=>Al (S.blk y hy).1;have hKs:=S.ext.size
   have hmk:∀q,Mk wI (ent a9 56 f9) q->q<w1.heap.size:=fun q h=>by
    rcases h with h|h
    .have h6:q<wI.heap.size:=h;omega
    .obtain⟨y,hy,he⟩:=qah.1 h;have h6:=hltm y hy;have h7:y.1=q:=he;omega
   have himk:im.Ok wb (Mk wI (ent a9 56 f9)):=by
    subst him;exact⟨⟨Xk.1,Xk.2.imp id fun h5 h=>h5 (qas (hmk _ h) hs28)⟩,⟨Xv.1,Xv.2.imp id fun h5 h=>h5 (qas (hmk _ h) hs38)⟩,hkc,hvc⟩
   have hnext:p+1+2+x.k.length+2+x.v.length=(opB (L.take (i+1))).length:=by rw[Yq hx,qan,Wy,<-hp];omega
   rw[hnext];refine⟨(i+1,a28,n9+1,c28,f28,qs++[im]),rfl,⟨rfl,rfl,trivial⟩,⟨by dsimp only;omega,by dsimp only;omega,⟨?_,?_,?_,?_,?_⟩⟩,by dsimp only;omega⟩
   .exact(S.ext.trans Hb.ext).then H.ext fun y hy=>by
     obtain⟨z,hz,he⟩:=qah.1 hy;rw[<-he];exact .inr (S.blk z hz).2
   .intro y hy;refine⟨H.blk y hy,?_⟩
    rcases H.own y hy with h|h
    .obtain⟨z,hz,he⟩:=qah.1 h;rw[<-he];exact(S.blk z hz).2
    .have:=Hb.size;omega
   .dsimp only;rw[qbf,qb8];exact O28
   .dsimp only;rw[qaz,S.eq,Bp hx,him];rfl
   .intro m hm;dsimp only at hm |-
    rcases qau.1 hm with hm|hm
    .exact Ac9 (S.ok m hm) Hb.ext H
    .rw[qaa.1 hm];exact Ac9 himk (Ext.refl _ _) H
  .intro h1;replace h1:=AW h1
   have hiL:i=L.length:=by
    by_cases h:i<L.length
    .obtain⟨x,hx⟩:=AO (l:=L) (i:=i) (h:=h);have hlen:=qab List.length (Ada hx);simp only[qan,AZ]at hlen;omega
    .omega
   subst hiL;have he:=S.eq;rw[qbe]at he;refine B3 (Ay (Ay (Bb (Aa (Ad (Aj U (Ak U (qA (Ax (AG (v:=(.slice _ _ _)) U U U ?_))))))))));subst hn9;have hq:qs.length=L.length:=by rw[<-he,qaj]
   refine⟨a9,c9,rfl,⟨⟨qs,OS.rd S.os (fun y hy=>(S.blk y hy).1) (fun _ _=>rfl) (by decide),?_,he,fun m hm=>(S.ok m hm).weak fun x hx => .inl hx⟩,rfl,S.os.le⟩,S.ext⟩
   cases ha:a9 with
   |none =>
    left;have h5:=S.os.none' ha;have h6:=S.os.le;exact qa4 (by omega)
   |some q =>
    right;intro h;have h5:=(S.blk (q.block,Bl 56 f9) (by rw[ha];exact qaa.2 rfl)).2;have h6:q.block<wI.heap.size:=h;dsimp only at h5;omega
section
variable {w:World}{bp ba:Nat}{P:List Nat}
theorem Am4(h:PgAt w bp ba P)(k:Nat)(hk:P[k]?=some 0):Ret prog 99 #[ptr bp,.int .i64 (k:Int)] w fun v w'=>v=.int .i64 0/\PgAt w' bp ba (P.set k 1)/\Ext [ba] w w':=by
 obtain⟨w0,rfl⟩:=qD w;have hlen:=h.len;have hlt:=(qaq.1 hk).1;have hh:Oj P (k:Int)=true:=by unfold Oj;simp;omega
 have H:=Ctx.start1 h.st;have hpz:∀{z:World},Ext [ba] w0 z->z.heap[bp]?=some (Bl TPg [.slice (some ⟨ba,0,none⟩) P.length P.length]):=fun{z} hz=>by rw[hz.block bp (Al h.hd) (by simpa using h.ne)];exact h.hd
 refine A6 (fn:=f99) func99 U [.pointer (some ⟨bp,0,none⟩),.int .i64 (k:Int)] U ?_;refine Ad (Ac U (qA (Aq (Ad (Am U (Ae U (Ai qB (Wj h (k:Int)) U ?_)))))));rintro v w ⟨rfl,rfl⟩;rw[hh];refine Ac U (qA (Ad (Ae U (Ba U U (qA (Bz U (Ap (Aa (Aq (Ad ?_))))))))));refine Am U (A8 U (Af DY U (Be Gd U (Ar (hpz H.ext) (0+0)) ?_)));refine Ae U (Ca EP Ep U U ?_);refine Be Pd U (Mp (H.get at0) hk) (Ba U U (qA (Au _ U ?_ ?_)))
 .intro h1;replace h1:=Bu h1;exact absurd U h1
 .intro h1;replace h1:=Bv h1;refine Ap (Aa (Ad (Am U (A8 U (Af DY U (Be Gd U (Ar (hpz H.ext) (0+0)) ?_))))));refine Ae U (Ca EP Ep U U ?_);refine Bf (.int _ _) Ep U U U H at0 (by(simp;omega)) ?_;rintro w H;refine qA (Ad (Ac U (qA (Ax (AG (v:=(.int _ _)) U U U ?_)))));exact⟨rfl,h.set H.ext (by decide) (by rw[H.get at0];simp[stv]),H.ext⟩
end
section
variable {wb w w' w1 w2:World}{bs m1 m2 gen:Nat}{vd vj vp vt:Value}{root n T:Int}{kv:Kvl}{t0:List (Byt × Int)}{W:List Wr}{M:Mut}{l:List (Byt × Sv)}{z1 z2:Obj}
structure Sr(wb:World)(M:Mut)(bs m1 m2:Nat)(vd vj vp vt:Value)(gen:Nat)(root:Int)(kv:Kvl)(n:Int)(t0:List (Byt × Int))(W:List Wr)(l:List (Byt × Sv))(z1 z2:Obj)(w':World):Prop where
 H:Ctx wb [bs,m1,m2] w' [(bs,Bl CU (CN vd vj vp vt gen root m1 m2 (Ek kv n W) false)),(m1,z1),(m2,z2)]
 K:KvAt w' M l z1
 k:EH l=Gb kv W
 m:En str (mi (Ex t0 W)) z2
theorem PG:∀{W:List Wr} {t:List (Byt × Int)} {T:Int},(∀p∈t,0<=p.2/\p.2<=T)->0<=T->∀p∈Ex t W,0<=p.2/\p.2<=T+W.length
 | [],t,T,h,_=>by simpa[Ex]using h
 |x::W,t,T,h,hT=>fun p hp=>by
  have:=PG (W:=W) (Ty (k:=x.k) h hT).1 (by omega) p hp;rw[qaw];omega
theorem Sr.step(S:Sr wb M bs m1 m2 vd vj vp vt gen root kv n t0 W l z1 z2 w)(hx:Ext [] w w1)(hS:∀x∈[bs,m1,m2],M x)(hMb:∀x,M x->x<wb.heap.size)(m:Wm)(hm:m.Ok w1 M)(hf:m.x.Few)(hT:0<=T/\T+W.length<=4000000)(ht:∀p∈t0,0<=p.2/\p.2<=T)(hn : -(200*T)<=n/\n<=200*T)(hkv:∀q∈kv,q.1.length<=32/\q.2.length<=128)(hW:∀x∈W,x.Few) :
  Ret prog 49 #[ptr bs,.agg (CO m).toArray] w1 fun v w'=>v=.tuple #[]/\∃l' z1' z2',Sr wb M bs m1 m2 vd vj vp vt gen root kv n t0 (W++[m.x]) l' z1' z2' w'/\Ext [bs,m1,m2] w1 w':=by
 have hn1:=Jf (m:=T) hkv hW hn.1 hn.2;have hb1:=S.H.ext.size;have hb2:=hx.size;refine(Acq (T:=T+W.length) (Ctx.startL (S.H.call hx).blk (S.H.call hx).nd) ⟨S.K.m,fun q hq=>⟨(S.K.ok q hq).1.call hx,(S.K.ok q hq).2⟩,S.K.few⟩ S.m hS (fun y hy=>by have:=hMb y hy;omega) hS m hm hf (PG ht hT.1)).mono fun v w' ⟨hv,s,z1',z2',H7,K7,hsv,hM7⟩=>⟨hv,_,z1',z2',⟨?_,K7,?_,?_⟩,H7.ext⟩
 .rw[Nw,<-S.k,<-W3];exact⟨(S.H.call hx).ext.trans H7.ext,H7.blk,H7.nd,fun y hy => .inl (by simp only[qac,qam,or_false]at hy |-;rcases hy with rfl|rfl|rfl <;> simp)⟩
 .rw[Acz hsv,S.k,TG]
 .rw[Q0];exact hM7
theorem Sr.call(S:Sr wb M bs m1 m2 vd vj vp vt gen root kv n t0 W l z1 z2 w)(hx:Ext [] w w'):Sr wb M bs m1 m2 vd vj vp vt gen root kv n t0 W l z1 z2 w' :=
 ⟨S.H.call hx,⟨S.K.m,fun q hq=>⟨(S.K.ok q hq).1.call hx,(S.K.ok q hq).2⟩,S.K.few⟩,S.k,S.m⟩
end
def toW(p:Pr):Wr:=⟨p.1,p.2,false⟩
def KH(P:List Nat)(l:List Int):List Nat:=l.foldl (fun P k=>P.set k.toNat 1) P
theorem Ka:∀(l:List Int) (P:List Nat),(KH P l).length=P.length
 | [],P=>rfl
 |k::l,P=>by rw[show KH P (k::l)=KH (P.set k.toNat 1) l from rfl,Ka l,qch]
theorem Afo{P:List Nat}{l:List Int}{k:Int}:KH P (l++[k])=(KH P l).set k.toNat 1:=by simp[KH]
theorem TO:∀(l:List Int) (P:List Nat) (x:Nat),(KH P l)[x]?=if(x:Int)∈l.map (fun k=>((k.toNat:Nat):Int))then P[x]?.map (fun _=>1)else P[x]?
 | [],P,x=>by simp[KH]
 |k::l,P,x=>by
  rw[show KH P (k::l)=KH (P.set k.toNat 1) l from rfl,TO l,qc6]
  by_cases h:k.toNat=x
  .rw[if_pos h];have h2:(x:Int)∈(k::l).map (fun k=>((k.toNat:Nat):Int)):=by rw[qay,h];exact qaf ..
   rw[if_pos h2]
   by_cases hl:k.toNat<P.length
   .rw[if_pos hl,qbd (by omega:x<P.length)]
    split <;> rfl
   .rw[if_neg hl,qbz (by omega:P.length<=x)]
    split <;> rfl
  .rw[if_neg h]
   have h2:(x:Int)∈(k::l).map (fun k=>((k.toNat:Nat):Int))↔(x:Int)∈l.map (fun k=>((k.toNat:Nat):Int)):=by
    rw[qay,qac];exact⟨fun h5=>h5.resolve_left (by omega),.inr⟩
   by_cases h3:(x:Int)∈l.map (fun k=>((k.toNat:Nat):Int))
   .rw[if_pos h3,if_pos (h2.2 h3)]
   .rw[if_neg h3,if_neg fun h5=>h3 (h2.1 h5)]
theorem V1(L:List Pr)(h:Rising L):KL (Gb [] (L.map toW)) L:=by
 have h1:=KL.nil.sets (W:=L.map toW)
 have h2:∀(B A:List Pr),Rising (A++B)->DO A (B.map toW)=A++B:=by
  intro B
  induction B with
  |nil=>intro A _;simp[DO]
  |cons p B ih =>
   intro A hA
   have hp:doP A (toW p)=A++[p]:=by
    show HO A p.1 p.2=_;have h3:=(Rising.append.1 hA).2.2;have:=QM (A:=A) (B:=[]) (k:=p.1) (v:=p.2) (L:=A) (fun q hq=>h3 q hq p (qaf ..)) (fun q hq=>by cases hq) (.inl (qa3 A).symm);exact this
   show DO (doP A (toW p)) (B.map toW)=_;rw[hp,ih (A++[p]) (by simpa using hA)];simp
 rw[h2 L [] (by simpa using h)]at h1;exact h1
theorem Akm{w:World}{bs bd bp ba bt m1 m2 gen m:Nat}{root:Int}{vj:Value}{A:Dev}{F:Mut}{o1 o2:Obj}{L:List Pr}{S:List Nat}(T:Tx w bt bd bp ba 362 A (List.replicate m 0) F [(bs,Bl CU (CN (ptr bd) vj (ptr bp) (ptr bt) gen root m1 m2 0 false)),(m1,o1),(m2,o2)])(hm1:En str (mv []) o1)(hm2:En str (mi []) o2)(td:Told 362 A (List.replicate m 0) root L S)(hS:∀x∈S,x<m)(hnd:S.Nodup)(_:Rising L)(ho:OkP L){mx:Nat}(hfew:Few A mx)(hLn:L.length<=50000)(hmx:mx<=1000000000:=by decide):
  Ret prog 61 #[ptr bs] w fun v w'=>v=.int .i64 0/\∃l z1 z2,Ctx w [bs,m1,m2,ba] w' [(bs,Bl CU (CN (ptr bd) vj (ptr bp) (ptr bt) gen root m1 m2 (Ek [] 0 (L.map toW)) false)),(m1,z1),(m2,z2),(ba,Bl TSt ((KH (List.replicate m 0) (Jd (S.map fun x:Nat=>(x:Int)))).map stv))]/\KvAt w' (Old w) l z1/\EH l=Gb [] (L.map toW)/\En str ([]:List (Byt × Value)) z2:=by
 obtain⟨wI,rfl⟩:=qD w;have hs:=T.blk (bs,Bl CU (CN (ptr bd) vj (ptr bp) (ptr bt) gen root m1 m2 0 false)) (qaf ..);have hb1:=T.blk (m1,o1) (by simp);have hb2:=T.blk (m2,o2) (by simp);have hoffs:=T.off;have hndT:=T.nd;dsimp only at hs hb1 hb2;have T0:Tx wI bt bd bp ba 362 A (List.replicate m 0) F []:=⟨T.tr,T.pg,T.dev,(fun x hx=>by cases hx),List.Pairwise.nil,(fun x hx=>by cases hx),T.nbt,T.nbp,T.nba,T.lt⟩;have hbsa:bs≠ba:=(hoffs _ (qaf ..)).2.1;have hm1a:m1≠ba:=(hoffs (m1,o1) (by simp)).2.1;have hm2a:m2≠ba:=(hoffs (m2,o2) (by simp)).2.1;have hbpa:=T.pg.ne;have halt:=Al T.pg.st;have hlen:(List.replicate m 0).length=m:=qba;have hw:=td.walk;have hsc:=td.scan [] [];have hnum:=td.num;have hSl:=td.len;have hr1:=td.rlo;have hr2:=td.rhi;have hPl:=T.pg.len;rw[P9]at hsc;obtain⟨ks,hks⟩:=qD (Jd (S.map fun x:Nat=>(x:Int)))
 have hperm:ks.Perm (S.map fun x:Nat=>(x:Int)):=by rw[hks];exact qce _ _
 have hkn:ks.Nodup:=hperm.nodup_iff.2 (qbs.2 (hnd.imp fun h e=>h (by omega)));have hkl:ks.length=S.length:=by rw[hperm.length_eq,qaj]
 rw[<-hks]at hw |-;have hwalk:=fun(z:World) (Tz:Tx z bt bd bp ba 362 A (List.replicate m 0) F [])=>XQ Tz root hfew hmx;simp only[hw]at hwalk;have hscan:=fun(z:World) (P:List Nat) (hP:P.length=(List.replicate m 0).length) (Tz:Tx z bt bd bp ba 362 A P F [])=>Ajt Tz root none none 0 0 0 0 [] [] Rd.nil rfl Rd.nil rfl hfew hmx (by rw[hP];omega);have H:=Ctx.start wI [];refine A6 (fn:=f61) func61 U [ptr bs] U ?_;refine Ad (Ac U (qA (BR [([0,1,2,3,4,5,6,7],8),([9,10,11,12],13)] (fun z=>z.heap[bs]?=some (Bl CU (CN (ptr bd) vj (ptr bp) (ptr bt) gen root m1 m2 0 false))) [] mixed (H.drew.ext.to hs (by simp)) ?_)));refine AC U U (Cs U (Bg U (AD Kq U (BG JK U (fun _ hx=>(by rw[Ar hx];rfl)) ?_))))
 refine Cs U (Bg U (AD Jt U (BG DW U (fun _ hx=>(by rw[Ar hx];rfl)) ?_)));refine AU ?_;replace H:=H.drew;refine Ai qB (hwalk _ (T0.call H.ext)) U ?_;rintro v w ⟨a20,c20,rfl,R20,hn20,hc20,hx20⟩;have hsz20:=H.size;replace H:=H.call hx20;refine Ab (Bc (H.ext.to hs (by simp)) ?_);refine AC U U (Ij U (CA U U (CA U U (Iv U U (AU (Ac U (Ab (Bc (H.ext.to hs (by simp)) ?_))))))));refine B1 (Aq (Ad (Ae U (Ba U U (qA (Au _ U ?_ ?_))))))
 .intro h1;replace h1:=Bu h1;exact absurd U h1
 .intro h1;replace h1:=Bv h1;have hs2:=H.ext.to hs (by simp);have T2:=T0.call H.ext;have hx2:=H.ext;obtain⟨wA,hwA⟩:=qD w;rw[<-hwA]at H hs2 T2 hx2 R20 |-;clear H
  have hka:∀{z:World},Ext [ba] wA z->Rd z a20 1 (fun x:Int=>[.int .i64 x]) ks:=fun{z} hz=>by
   rcases hn20 with h|h
   .rw[h];exact Rd.nil
   .exact R20.ext hz fun h5=>by rw[qaa.1 h5]at h;omega
  have hpg:∀{z:World} {P:List Nat},Ctx wA [ba] z [(ba,Bl TSt (P.map stv))]->P.length=m->(∀s∈P,s<=3)->PgAt z bp ba P:=fun{z P} Hz hP h3=>⟨by rw[Hz.ext.block bp (Al T2.pg.hd) (by simpa using hbpa),T2.pg.hd,hlen,hP],Hz.get at0,hbpa,h3,by omega⟩;refine Ap (Aa (Aq (Ad (Aj U (AP FB U (Ae U (qA (AE (B7 4397778075844 (α:=Nat) (fun i=>[(28,.int .i64 (i:Int))]) (fun i w'=>i<=ks.length/\Ctx wA [ba] w' [(ba,Bl TSt ((KH (List.replicate m 0) (ks.take i)).map stv))]) (fun i=>ks.length - i) 0 U ?_ ?_ ?_)))))))))
  .exact⟨rfl,trivial⟩
  .exact⟨qak _,by rw[qdw];exact Ctx.start1 T2.pg.st⟩
  .rintro i j w1 ⟨hi,H⟩
   have hget:∀x:Nat,(KH (List.replicate m 0) (ks.take i))[x]?=if(x:Int)∈ks.take i then(if x<m then some 1 else none)else if x<m then some 0 else none:=fun x=>by
    rw[TO]
    have h5:(ks.take i).map (fun k=>((k.toNat:Nat):Int))=ks.take i:=by
     have:∀k∈ks.take i,((k.toNat:Nat):Int)=id k:=fun k hk=>by
      obtain⟨y,hy,rfl⟩:=qah.1 (hperm.mem_iff.1 (qbp hk));simp
     rw[qc0 this,List.map_id]
    rw[h5,qeh]
    split <;> split <;> rfl
   have h03:∀s∈KH (List.replicate m 0) (ks.take i),s<=3:=fun s hs5=>by
    obtain⟨x,hx5⟩:=qcg.1 hs5;rw[hget]at hx5
    split at hx5 <;> split at hx5 <;> simp at hx5 <;> omega
   have hPG:=hpg H (by rw[Ka,hlen]) h03;refine Ad (Bn U U (qA (Aq (Au _ U ?_ ?_))))
   .intro h2;replace h2:=AV h2;obtain⟨k,hk⟩:=AO (l:=ks) (i:=i);obtain⟨y,hy,hyk⟩:=qah.1 (hperm.mem_iff.1 (qad hk));have hym:=hS y hy
    have hno:(y:Int)∉ks.take i:=fun h5=>by
     obtain⟨j,hj⟩:=qcg.1 h5;have hj2:=(qaq.1 hj).1;rw[qa0]at hj2;rw[qdt,if_pos (by omega)]at hj;obtain⟨q1,q2⟩:=qaq.1 hj;obtain⟨q3,q4⟩:=qaq.1 hk;exact qb9.1 hkn j i q1 q3 (by omega) (by rw[q2,q4,hyk])
    have h0:(KH (List.replicate m 0) (ks.take i))[y]?=some 0:=by rw[hget,if_neg hno,if_pos hym]
    refine Ap (Aa (Aq (AE (Ad (AY (hka H.ext) FB Hv U U (hn:=by rfl) ?_)))));refine Be DW U (((hka H.ext).one hk)) ?_;refine Ac U (qA (Ad (Am U (A8 U (Af Js U (Be K3 U ((by rw[Ar (H.ext.to hs2 (by simpa using hbsa))];rfl)) ?_))))));refine Ae U ?_;rw[<-hyk];refine Ai qB (Am4 hPG y h0) U ?_;rintro v w ⟨rfl,hP7,hx37⟩;replace H:Ctx wA [ba] w [(ba,Bl TSt ((KH (List.replicate m 0) (ks.take (i+1))).map stv))]:=⟨H.ext.trans hx37,(fun z hz=>by rw[qaa.1 hz,Bp hk,Afo,<-hyk,qbo];exact hP7.st),qem _ _,fun z hz => .inl (by rw[qaa.1 hz];exact qaa.2 rfl)⟩;refine Ac U (qA (Ad (Ae U (Ba U U (qA (Au _ U ?_ ?_))))))
    .intro h3;replace h3:=Bu h3;exact absurd U h3
    .intro h3;replace h3:=Bv h3;refine Ap (AF (Aa (Av (A7 U U ?_))));refine Ae U (qA ?_);exact⟨i+1,rfl,⟨rfl,trivial⟩,⟨by omega,H⟩,by omega⟩
   .intro h2;replace h2:=AW h2;obtain rfl:i=ks.length:=by omega
    rw[qbe]at H hPG;obtain⟨T3,-⟩:=T2.page hPG H.ext;have hxA:Ext [ba] wI w1:=(hx2.mono (by simp)).trans H.ext;have hs3:=H.ext.to hs2 (by simpa using hbsa);have hP3:=H.get at0;obtain⟨wC,hwC⟩:=qD w1;rw[<-hwC]at T3 hxA hs3 hP3 |-;clear H hPG hpg hka;have H:=Ctx.start wC [];refine B3 (Ay (Ay (Bb (Aa (BR [([0,1,2,3,4,5,6,7],8),([9,10,11,12],13)] (fun z=>z.heap[bs]?=some (Bl CU (CN (ptr bd) vj (ptr bp) (ptr bt) gen root m1 m2 0 false))) [] mixed (H.drew.ext.to hs3 (by simp)) ?_)))));refine AC U U (Cs U (Bg U (AD Kq U (BG JK U (fun _ hx=>(by rw[Ar hx];rfl)) ?_))));refine Cs U (Bg U (AD Jt U (BG DW U (fun _ hx=>(by rw[Ar hx];rfl)) ?_)));refine AU ?_;replace H:=H.drew;refine Ai qB (hscan _ _ (Ka _ _) (T3.call H.ext)) U ?_;rw[Ka,hsc];dsimp only;rintro v w ⟨a51,c51,rfl,P51,hx51⟩;have hsz51:=H.size;replace H:=H.call hx51
    refine Ab (Bc (H.ext.to hs3 (by simp)) ?_);refine AC U U (Ij U (CA U U (CA U U (Iv U U (AU (Ac U (Ab (Bc (H.ext.to hs3 (by simp)) ?_))))))));refine B1 (Aq (Ad (Aj U (AP Cv U (Ae U (qA (AE ?_)))))));obtain⟨ps,R9,hn9,hl9,hp9⟩:=P51.ex;have hpn:ps.length=L.length:=by rw[<-hl9,qaj]
    obtain⟨wB,hwB⟩:=qD w;rw[<-hwB]at H R9 hp9 |-;have hCB:=H.ext;have hIB:Ext [ba] wI wB:=hxA.trans (hCB.mono (by simp));clear H
    have hne:∀y∈[bs,m1,m2],y∉[ba]:=fun y hy=>by
     simp only[qac,qam,or_false]at hy |-
     rcases hy with rfl|rfl|rfl
     .exact hbsa
     .exact hm1a
     .exact hm2a
    have hS3:∀y∈[bs,m1,m2],Old wI y:=fun y hy=>by
     simp only[qac,qam,or_false]at hy
     rcases hy with rfl|rfl|rfl
     .exact Al hs
     .exact Al hb1
     .exact Al hb2
    have hIBs:=hIB.size;have hwIC:wI.heap.size<=wC.heap.size:=hxA.size;have hk0:∀x∈L,(toW x).Few:=fun x hx=>⟨(ho x hx).2.1,(ho x hx).2.2⟩;refine B7 295075847585314898944 (α:=Nat × List (Byt × Sv) × Obj × Obj) (fun s=>[(56,.int .i64 (s.1:Int))]) (fun s w'=>s.1<=L.length/\Sr wB (Old wI) bs m1 m2 (ptr bd) vj (ptr bp) (ptr bt) gen root [] 0 [] ((L.map toW).take s.1) s.2.1 s.2.2.1 s.2.2.2 w') (fun s=>L.length - s.1) (0,[],o1,o2) U ?_ ?_ ?_
    .exact⟨rfl,trivial⟩
    .refine⟨qak _,Ctx.startL (L:=[(bs,Bl CU (CN (ptr bd) vj (ptr bp) (ptr bt) gen root m1 m2 0 false)),(m1,o1),(m2,o2)]) (fun y hy=>?_) hndT,⟨hm1,(fun q hq=>by cases hq),fun q hq=>by cases hq⟩,rfl,hm2⟩;simp only[qac,qam,or_false]at hy
     rcases hy with rfl|rfl|rfl
     .exact hIB.to hs (by simpa using hbsa)
     .exact hIB.to hb1 (by simpa using hm1a)
     .exact hIB.to hb2 (by simpa using hm2a)
    .rintro⟨i,li,z1,z2⟩ j w1 ⟨hi,C⟩;dsimp only at hi C;dsimp only;have H:=Ctx.start w1 [];refine Ad (Bn U U (qA (Aq (Au _ U ?_ ?_))))
     .intro h4;replace h4:=AV h4;obtain⟨q,hq⟩:=AO (l:=ps) (i:=i);have hok:=hp9 q (qad hq);have hqL:L[i]?=some (prI q.it):=by rw[<-hl9,qat,hq];rfl
      have hqW:(L.map toW)[i]?=some (toW (prI q.it)):=by rw[qat,hqL];rfl
      have hqf:=hk0 _ (qad hqL);have hoff:∀y∈[bs,m1,m2],¬wB.heap.size<=y:=fun y hy=>by have:=hS3 y hy;have h5:y<wI.heap.size:=this;omega
      have hk9:Rdx w1 (Old wI) q.ka q.it.key:=⟨Rdx.read hok.k C.H.ext (fun y hy=>by have h5:y<wI.heap.size:=hS3 y hy;show y<_;omega),hok.k.2.imp id fun h5 h6=>h5 (by have h7:_<wI.heap.size:=h6;show _<_;omega)⟩;have hv9:Rdx w1 (Old wI) q.va q.it.val:=⟨Rdx.read hok.v C.H.ext (fun y hy=>by have h5:y<wI.heap.size:=hS3 y hy;show y<_;omega),hok.v.2.imp id fun h5 h6=>h5 (by have h7:_<wI.heap.size:=h6;show _<_;omega)⟩
      have R9w:Rd w1 a51 2 Hh ps:=by
       rcases hn9 with h5|h5
       .rw[h5];exact Rd.nil
       .exact R9.ext C.H.ext fun h6=>h5 (by have h7:_<wI.heap.size:=hS3 _ h6;show _<_;omega)
      refine Ap (Aa (Aq (AE (Ad (AY R9w Cv Dq U U ?_)))));refine EY _ Ag3 Dq U U (R9w.row hq U) (Bj FD H ?_);rintro b10 w - H;refine Bo Dq U U U (by exact Hi q) H at0 U ?_;rintro w H;refine qA (Av (Am U (Af FV U (AH B4 U H at0 U (Af Jq U (AH B4 U H at0 U (B2 (CO ⟨q.ka,q.kc,q.va,q.vc,toW (prI q.it)⟩) Qk Fy ?_)))))));refine Ai qB (C.step (T:=0) H.ext hS3 (fun y hy=>by have h5:y<wI.heap.size:=hy;omega) ⟨q.ka,q.kc,q.va,q.vc,toW (prI q.it)⟩ ⟨hk9.call H.ext,hv9.call H.ext,hok.kc,hok.vc⟩ hqf (by rw[qa0,qaj];omega) (fun y hy=>by cases hy) (by omega) (fun y hy=>by cases hy) (fun x hx=>by obtain⟨y,hy,rfl⟩:=qah.1 (qbp hx);exact hk0 y hy)) U ?_;rintro v w7 ⟨rfl,l7,z17,z27,C7,-⟩;refine Ab (AF (Aa (Av (A7 U U ?_))))
      refine Ae U (qA ?_);exact⟨(i+1,l7,z17,z27),rfl,⟨rfl,trivial⟩,⟨by dsimp only;omega,by dsimp only;rw[Bp hqW];exact C7⟩,by dsimp only;omega⟩
     .intro h4;replace h4:=AW h4;obtain rfl:i=L.length:=by omega
      have hLt:(L.map toW).take L.length=L.map toW:=qa6 (by rw[qaj];omega);rw[hLt]at C;refine B3 (Ay (Ay (Bb (Aa (Ad (Am U (A8 U (Af QJ U (Be Abo U ((by rw[Ar (C.H.get at0)];rfl)) ?_)))))))));refine U5 (V:=str) (κ:=Byt) U Sn U (Ctx.startL C.H.blk C.H.nd) at2 C.m ?_;rintro o2' w hM2 HM2;refine qA (Ad (Ae U (Ac U (qA (Ax (AG (v:=(.int _ _)) U U U ?_))))))
      have hab:w.heap[ba]?=some (Bl TSt ((KH (List.replicate m 0) ks).map stv)):=by
       have h6:=(C.H.ext.trans HM2.ext).to (hCB.to hP3 (by simp)) (fun h5=>hne _ h5 (by simp));exact h6
      have hw1:Ext [bs,m1,m2] w1 w:=HM2.ext;have hKw:KvAt w (Old wI) li z1:=⟨C.K.m,(fun p hp=>⟨⟨Rdx.read (C.K.ok p hp).1 hw1 (fun y hy=>hS3 y hy),(C.K.ok p hp).1.2⟩,(C.K.ok p hp).2⟩),C.K.few⟩;refine⟨rfl,li,z1,o2',⟨(hIB.mono (by simp)).trans ((C.H.ext.trans hw1).mono (by simp +contextual)),fun y hy=>?_,?_,fun y hy => .inl ?_⟩,hKw,C.k,hM2⟩
      .simp only[qac,qam,or_false]at hy
       rcases hy with rfl|rfl|rfl|rfl
       .exact HM2.get at0
       .exact HM2.get at1
       .exact HM2.get at2
       .exact hab
      .have h5:=HM2.nd;have h6:=hne bs (by simp);have h7:=hne m1 (by simp);have h8:=hne m2 (by simp);simp only[qaa]at h6 h7 h8;simp only[List.set_cons_succ,qe1,qbh,qac,qam,or_false,forall_eq_or_imp,forall_eq,List.Pairwise.nil,and_true]at h5 |-;exact⟨⟨h5.1.1,h5.1.2,h6⟩,⟨h5.2.1,h7⟩,h8,fun _ h=>h.elim⟩
      .simp only[qac,qam,or_false]at hy |-
       rcases hy with rfl|rfl|rfl|rfl <;> simp
section
variable {w0 w:World}{b16 b11 b10 b8 b1 bd bs gen m1 m2:Nat}{F:Mut}{A:Dev}{N frm:Nat}{R:Rj}{V:Nat->Byt}{fv:List Value}{vj vp vt:Value}{root n r0:Int}{pq qq:Nat}{Y:List (Nat × Obj)}
theorem Aax(O:Own w0 w bd A F)(g:Good N frm A R)(h1:1<=R.seq)(h2:R.seq<=4611686018427387904) :
  Ret prog 34 #[ptr bd,.int .i64 (frm:Int),.int .i64 (R.size:Int),.int .i64 (R.first:Int),.int .u64 (R.seq:Int)] w fun v w'=>∃bj a n c,v=.tuple #[ptr bj,.slice a n c,.int .i64 0]/\Ext [] w w'/\w.heap.size<=bj/\Jone w0 w' bd bj A (jrK frm R R.L) F/\StrsF w.heap.size w' a n c R.L:=by
 have hr:=g.right h1 h2;have hr2:=hr;simp only[Ew,qao,qap]at hr2;have hhi:=O.dev.wf.hi;refine(Vr (frm:Int) (R.size:Int) (R.first:Int) R.seq (by omega) (by omega) hhi g.on g.few (by decide) O.dev).mono fun v w' ⟨hx,h⟩=>?_
 rcases h with⟨h1,_⟩|⟨_,bj,a,n,c,hv,hb,hj,hs⟩
 .rw[hr]at h1;cases h1
 .have hsz:=O.ext.size;rw[g.open]at hj hs;exact⟨bj,a,n,c,hv,hx,hb,⟨O.call hx,hj,fun h5=>by have:=(O.own bj h5).2;omega,by omega⟩,hs⟩
abbrev Aay(b16 b11 b10 b8 b1 bs bd gen m1 m2 pq qq:Nat)(root n r0:Int)(fv:List Value)(vj vp vt vl:Value):List (Nat × Obj) :=
 [(b16,Bl 46 fv),(b11,Bl 69 [vl]),(b10,Bl 31 [ptr bs]),(b8,Bl Akg (tpC r0 pq qq)),(b1,Bl 27 [ptr bd]),(bs,Bl CU (CN (ptr bd) vj vp vt gen root m1 m2 n false))]
theorem Akn(O:Own w0 w bd A F)(hge:w0.heap.size<=bs/\w0.heap.size<=b11)(g:SG N A R V)(hR:R.size=360/\R.first=pq/\R.seq=qq/\1<=qq/\qq<=4611686018427387904)(Y:Fo w F (Aay b16 b11 b10 b8 b1 bs bd gen m1 m2 pq qq root n r0 fv vj vp vt (.slice none 0 0)++Y)) :
  Ret prog 62 #[ptr b1,ptr b8,ptr b10,ptr b11] w fun v w'=>v=.int .i64 0/\∃bj al nl cl,w.heap.size<=bj/\Jone w0 w' bd bj A (jrK 2 R R.L) F/\Ctx w [bs,b11] w' [(bs,Bl CU (CN (ptr bd) (ptr bj) vp vt gen root m1 m2 n false)),(b11,Bl 69 [.slice al nl cl])]/\StrsF w.heap.size w' al nl cl R.L:=by
 obtain⟨hz,rfl,rfl,hq1,hq2⟩:=hR;obtain⟨wI,rfl⟩:=qD w;have h1:=Fo.at Y (k:=4) rfl;have h10:=Fo.at Y (k:=2) rfl;have h8:=Fo.at Y (k:=3) rfl;have hs:=Fo.at Y (k:=5) rfl;have h11:=Fo.at Y (k:=1) rfl;have hnd:=Y.nd;simp only[qbx,qa7,qbh,qac,forall_eq_or_imp]at hnd;obtain⟨-,⟨n1,n2,n3,n4,-⟩,⟨n5,n6,n7,-⟩,⟨n8,n9,-⟩,⟨n10,-⟩,-⟩:=hnd;have hb1:b1∉[bs,b11]:=by simp only[qac,qam,or_false,not_or];exact⟨n10,fun h=>n3 h.symm⟩
 have hb10:b10∉[bs,b11]:=by simp only[qac,qam,or_false,not_or];exact⟨n7,fun h=>n1 h.symm⟩
 have hb8:b8∉[bs,b11]:=by simp only[qac,qam,or_false,not_or];exact⟨n9,fun h=>n2 h.symm⟩
 have hopen:=fun(w1:World) (O1:Own w0 w1 bd A F)=>Aax O1 g.good hq1 hq2;rw[hz]at hopen
 have H0:∀{z:World},Ext [] wI z->Ctx z [bs,b11] z [(bs,Bl CU (CN (ptr bd) vj vp vt gen root m1 m2 n false)),(b11,Bl 69 [.slice none 0 0])]:=fun hx=>Ctx.startL (L:=[(bs,Bl CU (CN (ptr bd) vj vp vt gen root m1 m2 n false)),(b11,Bl 69 [.slice none 0 0])]) (fun y hy=>by
  simp only[qac,qam,or_false]at hy
  rcases hy with rfl|rfl
  .exact hx.to hs (by simp)
  .exact hx.to h11 (by simp)) (List.Pairwise.cons (fun y hy=>by rw[qaa.1 hy];exact fun h=>n4 h.symm) (qem _ _))
 have H:=H0 (Ext.refl [] wI);refine A6 (fn:=f62) func62 U [ptr b1,ptr b8,ptr b10,ptr b11] U ?_;refine Ad (Ac U (qA (BR [([0,1,2,3,4,5],6),([7,8,9,10,11,12],13),([],14),([],15)] (fun z=>(z.heap[b1]?=some (Bl 27 [ptr bd])/\z.heap[b10]?=some (Bl 31 [ptr bs])/\z.heap[b8]?=some (Bl Akg (tpC r0 R.first R.seq)))) [13,14,15] mixed (⟨H.drew.ext.to h1 hb1,H.drew.ext.to h10 hb10,H.drew.ext.to h8 hb8⟩) ?_)));refine AC U U (BG Fc U (fun _ hx=>(by rw[Ar hx.2.1];rfl)) ?_);refine BG Dn U (fun _ hx=>(by rw[Ar hx.1];rfl)) ?_;refine AD NN U (BG DW U (fun _ hx=>(by rw[Ar hx.2.2];rfl)) ?_);refine AD Kp U (BG GC U (fun _ hx=>(by rw[Ar hx.2.2];rfl)) ?_);refine AU ?_;replace H:=H.drew;refine Ai qB (hopen _ (O.call (Ext.drew [] wI))) U ?_;clear H;rintro v w6 ⟨bj,aj,nj,cj,rfl,hx6,hbj,J6,S6⟩;have E6:=(Ext.drew [] wI).trans hx6
 have k1:=E6.to h1 (by simp);have k10:=E6.to h10 (by simp);have k8:=E6.to h8 (by simp);have H:=H0 E6;refine Ab (Bc ((by exact⟨H.ext.to k1 hb1,H.ext.to k10 hb10,H.ext.to k8 hb8⟩)) ?_);refine AC U U (Ij U (CA U U (CA U U (CA U U (Bg U (AD Mg U (AU (Bf (.pointer _) Aoc U U U H at0 (by(simp;done)) ?_))))))));rintro w H;refine Ab (De U (AC U U ?_));refine AU (Bf (.slice _ _ _) sz_69 U U U H at1 (by decide) ?_);rintro w H;refine Ab (De U (AC U U ?_));refine AU (Ac U (Ab (De U (B1 (Ad (Ae U (Ac U (qA (Ax (AG (v:=(.int _ _)) U U U ?_))))))))))
 have hlt:∀y∈[bs,b11],y<wI.heap.size:=fun y hy=>by
  simp only[qac,qam,or_false]at hy
  rcases hy with rfl|rfl
  .exact Al hs
  .exact Al h11
 have hoff:∀y∈[bs,b11],¬Fj F bj y:=fun y hy h=>by
  have h5:=hlt y hy;have h6:wI.heap.size<=bj:=hbj
  rcases h with h|h
  .simp only[qac,qam,or_false]at hy
   rcases hy with rfl|rfl
   .exact Y.off (y,Bl CU (CN (ptr bd) vj vp vt gen root m1 m2 n false)) (by simp) h
   .exact Y.off (y,Bl 69 [.slice none 0 0]) (by simp) h
  .omega
 refine⟨rfl,bj,aj,nj,cj,hbj,J6.over H.ext hoff (fun y hy=>?_),⟨(E6.mono (by simp)).trans H.ext,H.blk,H.nd,fun y hy => .inl ?_⟩,S6.side H.ext hlt⟩
 .simp only[qac,qam,or_false]at hy
  rcases hy with rfl|rfl
  .exact hge.1
  .exact hge.2
 .simp only[qac,qam,or_false]at hy |-
  rcases hy with rfl|rfl
  .exact .inl U
  .exact .inr U
end
theorem Aaz{α:Type}{L:List (List α)}{i:Nat}{x:List α}(h:L[i]?=some x):(L.take (i+1)).flatten=(L.take i).flatten++x:=by
 rw[Bp h,qcv,qcw]
theorem V4{α:Type}{L:List (List α)}{m:Nat}:(∀x∈L,x.length<=m)->L.flatten.length<=m*L.length:=by
 induction L with
 |nil=>intro _;simp
 |cons x L ih =>
  intro h;have h1:=ih fun y hy=>h y (qai _ hy);have h2:=h x (qaf ..);rw[qe5,qan,qaw,Nat.mul_add,qcj];omega
theorem Ako{w:World}{b10 b11 bs m1 m2 gen N nl cl:Nat}{al:Option Addr}{vd vj vp vt:Value}{root n T:Int}{M:Mut}{l:List (Byt × Sv)}{o1 o2:Obj}{Ws:List (List Wr)}(hb11:w.heap[b11]?=some (Bl 69 [.slice al nl cl]))(hb10:w.heap[b10]?=some (Bl 31 [ptr bs]))(S:StrsF N w al nl cl (Ws.map opB))(hN:∀y∈[bs,m1,m2],y<N)(h10:b10∉[bs,m1,m2])(_:b11∉[bs,m1,m2])(H:Ctx w [bs,m1,m2] w [(bs,Bl CU (CN vd vj vp vt gen root m1 m2 n false)),(m1,o1),(m2,o2)])(K:KvAt w M l o1)(hM2:En str (mi []) o2)(hS:∀y∈[bs,m1,m2],M y)(hMb:∀y,M y->y<w.heap.size)(hW:∀W∈Ws,W.length<=1000/\∀x∈W,x.Few)(hWn:Ws.length<=400)(hT:0<=T/\T<=1000000:=by omega)(hn: -(200*T)<=n/\n<=200*T:=by omega):
  Ret prog 63 #[ptr b11,ptr b10] w fun v w'=>v=.int .i64 0/\∃l' z1 z2,Sr w M bs m1 m2 vd vj vp vt gen root (EH l) n [] Ws.flatten l' z1 z2 w':=by
 obtain⟨wI,rfl⟩:=qD w;obtain⟨xs,RS,hxl,hxr,hxa,hxn⟩:=S.ex;have hnl:=S.num;have hxlen:xs.length=Ws.length:=by rw[<-qaj (f:=opB),<-hxl,qaj]
 rw[qaj]at hnl;have hkv:=K.fewK
 have hall:∀i,(∀x∈(Ws.take i).flatten,x.Few)/\(Ws.take i).flatten.length<=400000:=fun i=>by
  refine⟨fun x hx=>?_,?_⟩
  .obtain⟨W,hW1,hW2⟩:=qe7.1 hx;exact(hW W (qbp hW1)).2 x hW2
  .have h5:=V4 (L:=Ws.take i) (m:=1000) fun W hW1=>(hW W (qbp hW1)).1;have h6:=List.length_take_le' i Ws;have h7:1000*(Ws.take i).length<=1000*400:=qb6 _ (by omega);omega
 have hx9:∀{z:World},Ext [bs,m1,m2] wI z->Rd z al 1 Ai3 xs:=fun{z} hz=>by
  rcases hxa with h5|h5
  .rw[h5];exact Rd.nil
  .exact RS.ext hz fun h6=>by have:=hN _ h6;omega
 refine A6 (fn:=f63) func63 U [ptr b11,ptr b10] U (Ad (Ac U (qA (Aq (Ad (Be U9 U ((by rw[Ar hb11];rfl)) ?_))))));refine AP EX U (Ae U (qA (AE (B7 33554000 (α:=Nat × List (Byt × Sv) × Obj × Obj) (fun s=>[(9,.int .i64 (s.1:Int))]) (fun s w'=>s.1<=nl/\Sr wI M bs m1 m2 vd vj vp vt gen root (EH l) n [] (Ws.take s.1).flatten s.2.1 s.2.2.1 s.2.2.2 w') (fun s=>nl - s.1) (0,l,o1,o2) U ?_ ?_ ?_))))
 .exact⟨rfl,trivial⟩
 .exact⟨qak _,H,K,rfl,hM2⟩
 .clear H K hM2;rintro⟨i,li,z1,z2⟩ j w1 ⟨hi,C⟩;dsimp only at hi C;dsimp only;refine Ad (Bn U U (qA (Aq (Au _ U ?_ ?_))))
  .intro h1;replace h1:=AV h1;obtain⟨x,hx⟩:=AO (l:=xs) (i:=i);obtain⟨W,hWi⟩:=AO (l:=Ws) (i:=i)
   have hxW:x.2.1=opB W:=by
    have h5:(xs.map fun x=>x.2.1)[i]? = (Ws.map opB)[i]? := by rw[hxl]
    rw[qat,qat,hx,hWi]at h5;exact qbw h5
   obtain⟨hW1,hW2⟩:=hW W (qad hWi);have hxR:=hxr x (qad hx);obtain⟨xa,xb,xc⟩:=x;dsimp only at hxW;subst hxW
   have hRx:Rd w1 xa 1 B8 (opB W):=by
    rcases hxn _ (qad hx)with h5|h5
    .dsimp only at h5;rw[h5];exact Rd.nil
    .exact hxR.1.ext C.H.ext fun h6=>by have:=hN _ h6;dsimp only at h5 this;omega
   refine Ap (Aa (Aq (AE (Ad (AY (hx9 C.H.ext) EX Gh U U ?_)))));refine Be B4 U (((hx9 C.H.ext).one hx)) (Ak U (qA (Ad (Aj U (Ai qB (Aqc xa xc (opB W).length W hRx U hxR.2 hW2 hW1) U ?_)))));rintro v w ⟨a14,c14,rfl,X14,hx14⟩;refine AP CD U (Ae U (qA (AE ?_)));obtain⟨ps,R9,hn9,hl9,hp9⟩:=X14.ex;have hpn:ps.length=W.length:=by rw[<-hl9,qaj]
   obtain⟨wB,hwB⟩:=qD w;rw[<-hwB]at hx14 R9 hp9 |-;have CB:=C.call hx14;have hsz1:=C.H.ext.size;have hfl:=hall i;refine B7 16711744 (α:=Nat × List (Byt × Sv) × Obj × Obj) (fun s=>[(16,.int .i64 (s.1:Int))]) (fun s w'=>s.1<=W.length/\Ext [bs,m1,m2] wB w'/\Sr wI M bs m1 m2 vd vj vp vt gen root (EH l) n [] ((Ws.take i).flatten++W.take s.1) s.2.1 s.2.2.1 s.2.2.2 w') (fun s=>W.length - s.1) (0,li,z1,z2) U ?_ ?_ ?_
   .exact⟨rfl,trivial⟩
   .exact⟨qak _,Ext.refl _ _,by rw[qdw,qa3];exact CB⟩
   .rintro⟨k,lk,y1,y2⟩ jj w2 ⟨hk,hE,D⟩;dsimp only at hk hE D;dsimp only;have H:=Ctx.start w2 [];refine Ad (Bn U U (qA (Aq (Au _ U ?_ ?_))))
    .intro h2;replace h2:=AV h2;obtain⟨q,hq⟩:=AO (l:=ps) (i:=k);have hok:=hp9 q (qad hq);have hqW:W[k]?=some q.x:=by rw[<-hl9,qat,hq];rfl
     have hqf:=hW2 _ (qad hqW);have hMw:∀y,M y->y<w1.heap.size:=fun y hy=>by have:=hMb y hy;omega
     have hok2:q.Ok w2 M:=⟨⟨Rdx.read hok.k hE fun y hy=>hMw y (hS y hy),hok.k.2.imp id fun h5 h6=>h5 (hMw _ h6)⟩,⟨Rdx.read hok.v hE fun y hy=>hMw y (hS y hy),hok.v.2.imp id fun h5 h6=>h5 (hMw _ h6)⟩,hok.kc,hok.vc⟩
     have R9w:Rd w2 a14 3 CO ps:=by
      rcases hn9 with h5|h5
      .rw[h5];exact Rd.nil
      .exact R9.ext hE fun h6=>h5 (hMw _ (hS _ h6))
     have hbs2:=D.H.get at0;refine Ap (Aa (Aq (AE (Ad (AY R9w CD CQ U U ?_)))));refine EY _ RZ CQ U U (R9w.row hq U) (Bj Fy H ?_);rintro b6 w - H;refine Bo CQ U U U (by exact FW q) H at0 U ?_;rintro w H;refine qA (Av (Be Fc U ((by rw[Ar (H.ext.to (D.H.ext.to hb10 h10) (by simp))];rfl)) ?_));refine BN RZ CQ U H at0 U (Ai qB (D.step (T:=T) H.ext hS hMb q (hok2.call H.ext) hqf (by rw[qan];have:=List.length_take_le' k W;omega) (fun y hy=>by cases hy) hn hkv (fun y hy=>(qau.1 hy).elim (hfl.1 y) fun h=>hW2 y (qbp h))) U ?_);rintro v w7 ⟨rfl,l7,z17,z27,C7,E7⟩;refine Ab (AF (Aa (Av (A7 U U ?_))));refine Ae U (qA ?_)
     refine⟨(k+1,l7,z17,z27),rfl,⟨rfl,trivial⟩,⟨by dsimp only;omega,?_,by dsimp only;rw[Bp hqW,<-qa1];exact C7⟩,by dsimp only;omega⟩;exact hE.trans ((H.ext.mono (by simp)).trans E7)
    .intro h2;replace h2:=AW h2;obtain rfl:k=W.length:=by omega
     refine B3 (Ay (Ay (Bb (AF (Aa (Av (A7 U U ?_)))))));refine Ae U (qA ?_);exact⟨(i+1,lk,y1,y2),rfl,⟨rfl,trivial⟩,⟨by dsimp only;omega,by dsimp only;rw[Aaz hWi];rw[qbe]at D;exact D⟩,by dsimp only;omega⟩
  .intro h1;replace h1:=AW h1;obtain rfl:i=nl:=by omega
   rw[qa6 (by omega)]at C;refine B3 (Ay (Ay (Bb (Aa (Ad (Ac U (qA (Ax (AG (v:=(.int _ _)) U U U ?_)))))))));exact⟨rfl,li,z1,z2,C⟩
theorem W7{P:Program}{r:Option Nat}{ops rest:List Oper}{Q:Exit->Env->World->Prop}{e:Env}{w:World}{dst:Option Tmp}{ty:TypeId}{pos:String}{af:Array Edge}{g:Option (Nat × Bool)}{fn:Fn}{x:Operand}(v:Value)(hg:AJ ⟨dst,.makeFunc fn #[x] #[],ty,pos,af,g⟩ ops e=true)(hx:ev e x=v)(h:AB P r ops Q rest (put e dst (.func fn #[v] #[])) w) :
  AB P r ops Q (⟨dst,.makeFunc fn #[x] #[],ty,pos,af,g⟩::rest) e w:=by
 refine PW hg ?_;have h1:(#[x]:Array Operand).map (ev e)=#[v]:=by simp[hx]
 have h2:(#[]:Array Operand).map (ev e)=#[]:=by simp
 rw[h1,h2];exact h
section
variable {w0 wI wb w w':World}{b16 b11 b10 b8 b1 bd bs bp ba bt gen m1 m2 m:Nat}{F:Mut}{A:Dev}{R:Rj}{V:Nat->Byt}{root:Int}{pq qq:Nat}{o1 o2:Obj}{L0:List Pr}{S:List Nat}{Ws:List (List Wr)}
theorem MB{M:Mut}{T:List Nat}{Z Z':List (Nat × Obj)}(h:Fo w M Z)(hx:Ext T w w')(hk:Z'.map (·.1)=Z.map (·.1))(hb:∀y∈Z',w'.heap[y.1]?=some y.2\/(y∈Z/\y.1∉T)):Fo w' M Z':=by
 refine⟨fun y hy=>?_,?_,fun y hy=>?_⟩
 .rcases hb y hy with h1|⟨h1,h2⟩
  .exact h1
  .exact hx.to (h.blk y h1) h2
 .have h1:(Z.map (·.1)).Pairwise (·≠·):=qbs.2 h.nd;rw[<-hk]at h1;exact qbs.1 h1
 .have h1:y.1∈Z'.map (·.1):=qah.2 ⟨y,hy,rfl⟩;rw[hk]at h1;obtain⟨z,hz,he⟩:=qah.1 h1;rw[<-he];exact h.off z hz
theorem fo_lt{M:Mut}{Z Z':List (Nat × Obj)}(h:Fo w M Z)(hk:Z'.map (·.1)=Z.map (·.1)):∀y∈Z',y.1<w.heap.size:=fun y hy=>by
 have h1:y.1∈Z'.map (·.1):=qah.2 ⟨y,hy,rfl⟩;rw[hk]at h1;obtain⟨z,hz,he⟩:=qah.1 h1;rw[<-he];exact Al (h.blk z hz)
theorem CV{M:Mut}{Z:List (Nat × Obj)}(h:Fo w M Z){k:Nat}{y:Nat × Obj}(hk:Z[k]?=some y)(I:List Nat)(hI:(I.all fun i=>decide (i≠k))=true):y.1∉I.filterMap fun i=>Z[i]?.map (·.1):=fun hm=>by
 obtain⟨i,hi,he⟩:=List.mem_filterMap.1 hm;obtain⟨z,hz,he⟩:=qey.1 he;have hik:i≠k:=by simpa using qb0.1 hI i hi
 obtain⟨q1,q2⟩:=qaq.1 hz;obtain⟨q3,q4⟩:=qaq.1 hk
 rcases Nat.lt_or_gt_of_ne hik with h5|h5
 .exact qb9.1 h.nd i k q1 q3 h5 (by rw[q2,q4];exact he)
 .exact qb9.1 h.nd k i q3 q1 h5 (by rw[q2,q4];exact he.symm)
theorem Dd{M:Mut}{Z:List (Nat × Obj)}(h:Fo w M Z)(i j:Nat){a b:Nat}{o o':Obj}(hi:Z[i]?=some (a,o))(hj:Z[j]?=some (b,o'))(hij:i≠j:=by decide):a≠b:=fun e=>by
 obtain⟨q1,q2⟩:=qaq.1 hi;obtain⟨q3,q4⟩:=qaq.1 hj
 rcases Nat.lt_or_gt_of_ne hij with h5|h5
 .exact qb9.1 h.nd i j q1 q3 h5 (by rw[q2,q4];exact e)
 .exact qb9.1 h.nd j i q3 q1 h5 (by rw[q2,q4];exact e.symm)
theorem YI{a b c:Nat}{x y z:Obj}(h1:a≠b)(h2:a≠c)(h3:b≠c):[(a,x),(b,y),(c,z)].Pairwise fun p q=>p.1≠q.1:=by
 simp[h1,h2,h3]
theorem fo_fj{bj:Nat}{Z:List (Nat × Obj)}(h:Fo w F Z)(hb:∀y∈Z,y.1≠bj):Fo w (Fj F bj) Z:=⟨h.blk,h.nd,fun y hy h5=>h5.elim (h.off y hy) (hb y hy)⟩
theorem Own.over{T:List Nat}(O:Own w0 w bd A F)(hx:Ext T w w')(hS:∀y∈T,¬F y)(hge:∀y∈T,w0.heap.size<=y):Own w0 w' bd A F :=
 ⟨O.ext.then hx fun y hy => .inr (hge y hy),O.dev.keep hx hS,fun y h=>by have:=O.own y h;have:=hx.size;omega⟩
abbrev opF(b11 b10 b8 b1 bs:Nat):List Value:=[.func (.func 61) #[ptr bs] #[],.func (.func 62) #[] #[ptr b1,ptr b8,ptr b10,ptr b11],.func (.func 63) #[] #[ptr b11,ptr b10]]
abbrev opY(m1 m2 bp ba bt bd m:Nat)(P:List Nat)(z1 z2:Obj):List (Nat × Obj):=[(m2,z2),(m1,z1),(bp,Bl TPg [.slice (some ⟨ba,0,none⟩) m m]),(ba,Bl TSt (P.map stv)),(bt,Bl TT (Qq bd bp 362))]
abbrev kv1(L0:List Pr):Kvl:=Gb [] (L0.map toW)
abbrev pgU(m:Nat)(S:List Nat):List Nat:=KH (List.replicate m 0) (Jd (S.map fun x:Nat=>(x:Int)))
def Mb(wb:World)(bj:Nat):Mut:=fun y=>y<wb.heap.size\/y=bj
def opI(w0 wI wb:World)(b16 b11 b10 b8 b1 bs bd bp ba bt gen m1 m2 m:Nat)(root:Int)(L0:List Pr)(S:List Nat)(Ws:List (List Wr))(o1 o2:Obj)(A:Dev)(R:Rj)(F:Mut):Nat->World->Prop
 |0,w'=>Own w0 w' bd A F/\Ext [] wI w'/\Ext [] wb w'/\Fo w' F (Aay b16 b11 b10 b8 b1 bs bd gen m1 m2 R.first R.seq root 0 root (opF b11 b10 b8 b1 bs) Gl (ptr bp) (ptr bt) (.slice none 0 0)++opY m1 m2 bp ba bt bd m (List.replicate m 0) o1 o2)
 |1,w'=>∃l z1 z2,Own w0 w' bd A F/\Ext [] wI w'/\wb.heap.size<=w'.heap.size/\Fo w' F (Aay b16 b11 b10 b8 b1 bs bd gen m1 m2 R.first R.seq root (Ek [] 0 (L0.map toW)) root (opF b11 b10 b8 b1 bs) Gl (ptr bp) (ptr bt) (.slice none 0 0)++opY m1 m2 bp ba bt bd m (pgU m S) z1 z2)/\KvAt w' (Old wb) l z1/\EH l=kv1 L0/\En str (mi []) z2
 |2,w'=>∃l z1 z2 bj al nl cl N,Jone w0 w' bd bj A (jrK 2 R R.L) F/\Ext [] wI w'/\wb.heap.size<=bj/\wb.heap.size<=N/\bj<w'.heap.size/\StrsF N w' al nl cl R.L/\Fo w' (Fj F bj) (Aay b16 b11 b10 b8 b1 bs bd gen m1 m2 R.first R.seq root (Ek [] 0 (L0.map toW)) root (opF b11 b10 b8 b1 bs) (ptr bj) (ptr bp) (ptr bt) (.slice al nl cl)++opY m1 m2 bp ba bt bd m (pgU m S) z1 z2)/\KvAt w' (Mb wb bj) l z1/\EH l=kv1 L0/\En str (mi []) z2
 |_,w'=>∃l z1 z2 bj al nl cl,Jone w0 w' bd bj A (jrK 2 R R.L) F/\Ext [] wI w'/\wb.heap.size<=bj/\Fo w' (Fj F bj) (Aay b16 b11 b10 b8 b1 bs bd gen m1 m2 R.first R.seq root (Ek (kv1 L0) (Ek [] 0 (L0.map toW)) Ws.flatten) root (opF b11 b10 b8 b1 bs) (ptr bj) (ptr bp) (ptr bt) (.slice al nl cl)++opY m1 m2 bp ba bt bd m (pgU m S) z1 z2)/\KvAt w' (Mb wb bj) l z1/\EH l=Gb (kv1 L0) Ws.flatten/\En str (mi (Ex [] Ws.flatten)) z2
theorem Aqd{i:Nat}(h:opI w0 wI wb b16 b11 b10 b8 b1 bs bd bp ba bt gen m1 m2 m root L0 S Ws o1 o2 A R F i w):w.heap[b16]?=some (Bl 46 (opF b11 b10 b8 b1 bs)):=by
 match i,h with
 |0,h=>exact Fo.at h.2.2.2 (k:=0) rfl
 |1,⟨_,_,_,h⟩=>exact Fo.at h.2.2.2.1 (k:=0) rfl
 |2,⟨_,_,_,_,_,_,_,_,h⟩=>exact Fo.at h.2.2.2.2.2.2.1 (k:=0) rfl
 |_+3,⟨_,_,_,_,_,_,_,h⟩=>exact Fo.at h.2.2.2.1 (k:=0) rfl
theorem Am5(hw0:w0.heap.size<=wI.heap.size)(h0:opI w0 wI wb b16 b11 b10 b8 b1 bs bd bp ba bt gen m1 m2 m root L0 S Ws o1 o2 A R F 0 wb)(_:Ext [] wI wb)(g:SG (m+362) A R V)(hR:R.size=360/\1<=R.seq/\R.seq<=4611686018427387904)(hnew:∀y∈[bs,m1,m2,ba,b11],wI.heap.size<=y)(hm1:En str (mv []) o1)(hm2:En str (mi []) o2)(td:Told 362 A (List.replicate m 0) root L0 S)(hS:∀x∈S,x<m)(hnd:S.Nodup)(hL:Rising L0)(ho:OkP L0)(hLn:L0.length<=50000)(hRL:R.L=Ws.map opB)(hW:∀W∈Ws,W.length<=1000/\∀x∈W,x.Few)(hWn:Ws.length<=400) :
  Ret prog 37 #[.slice (some ⟨b16,0,none⟩) 3 3] wb fun v w'=>∃e,v=.int .i64 e/\((e=0/\opI w0 wI wb b16 b11 b10 b8 b1 bs bd bp ba bt gen m1 m2 m root L0 S Ws o1 o2 A R F 3 w')\/(e≠0/\False)):=by
 have FY0:=h0.2.2.2;have lt:∀(k b:Nat) (o:Obj),(Aay b16 b11 b10 b8 b1 bs bd gen m1 m2 R.first R.seq root 0 root (opF b11 b10 b8 b1 bs) Gl (ptr bp) (ptr bt) (.slice none 0 0)++opY m1 m2 bp ba bt bd m (List.replicate m 0) o1 o2)[k]?=some (b,o)->b<wb.heap.size:=fun k b o h=>Al (Fo.at FY0 h);have lbs:=lt 5 bs _ rfl;have lm1:=lt 7 m1 _ rfl;have lm2:=lt 6 m2 _ rfl;have lba:=lt 9 ba _ rfl;have l11:=lt 1 b11 _ rfl;have lbt:=lt 10 bt _ rfl;have lbp:=lt 8 bp _ rfl;have nF:∀(k b:Nat) (o:Obj),(Aay b16 b11 b10 b8 b1 bs bd gen m1 m2 R.first R.seq root 0 root (opF b11 b10 b8 b1 bs) Gl (ptr bp) (ptr bt) (.slice none 0 0)++opY m1 m2 bp ba bt bd m (List.replicate m 0) o1 o2)[k]?=some (b,o)->¬F b:=fun k b o h=>FY0.off (b,o) (qad h);have fbs:=nF 5 bs _ rfl;have fm1:=nF 7 m1 _ rfl;have fm2:=nF 6 m2 _ rfl;have fba:=nF 9 ba _ rfl;have f11:=nF 1 b11 _ rfl;have fbt:=nF 10 bt _ rfl
 have fbp:=nF 8 bp _ rfl
 have fs4:∀y∈[bs,m1,m2,ba],¬F y:=fun y hy=>by
  simp only[qac,qam,or_false]at hy
  rcases hy with rfl|rfl|rfl|rfl <;> assumption
 refine Wx (E:=fun _ _=>False) (opF b11 b10 b8 b1 bs) wb (by simp) (I:=opI w0 wI wb b16 b11 b10 b8 b1 bs bd bp ba bt gen m1 m2 m root L0 S Ws o1 o2 A R F) h0 (fun i w' h=>Aqd h) (fun v hv=>?_) (fun i f fi caps w' hi h=>?_)
 .simp only[qac,qam,or_false]at hv
  rcases hv with rfl|rfl|rfl <;> exact⟨_,_,_,rfl⟩
 .match i,hi,h with
  |0,hi,⟨O,hxI,hxb,FY⟩ =>
   cases hi
   have hT:Tx w' bt bd bp ba 362 A (List.replicate m 0) F [(bs,Bl CU (CN (ptr bd) Gl (ptr bp) (ptr bt) gen root m1 m2 0 false)),(m1,o1),(m2,o2)]:=by
    refine⟨Fo.at FY (k:=10) rfl,⟨?_,Fo.at FY (k:=9) rfl,?_,?_,?_⟩,O.dev,fun x hx=>?_,?_,fun x hx=>?_,⟨fbt,?_⟩,fbp,fba,fun x hx=>(O.own x hx).2⟩
    .rw[qba];exact Fo.at FY (k:=8) rfl
    .exact Dd FY 8 9 U U
    .intro s hs;rw[(qeg.1 hs).2];decide
    .rw[qba];have:=g.lim;omega
    .simp only[qac,qam,or_false]at hx
     rcases hx with rfl|rfl|rfl
     .exact Fo.at FY (k:=5) U
     .exact Fo.at FY (k:=7) U
     .exact Fo.at FY (k:=6) U
    .exact YI (Dd FY 5 7 U U) (Dd FY 5 6 U U) (Dd FY 7 6 U U)
    .simp only[qac,qam,or_false]at hx
     rcases hx with rfl|rfl|rfl
     .exact⟨fbs,Dd FY 5 9 U U,Dd FY 5 10 U U,Dd FY 5 8 U U⟩
     .exact⟨fm1,Dd FY 7 9 U U,Dd FY 7 10 U U,Dd FY 7 8 U U⟩
     .exact⟨fm2,Dd FY 6 9 U U,Dd FY 6 10 U U,Dd FY 6 8 U U⟩
    .exact Dd FY 10 9 U U
   refine⟨by kernel_rfl,(Akm hT hm1 hm2 td hS hnd hL ho g.good.few hLn).mono fun v w'' ⟨hv,l,z1,z2,H,K,hk,hM⟩=>⟨0,hv,.inl ⟨rfl,l,z1,z2,?_,?_,?_,?_,?_,hk,hM⟩⟩⟩
   .exact O.over H.ext fs4 fun y hy=>qav hw0 (hnew y (by simp only[qac,qam,or_false]at hy |-;rcases hy with h|h|h|h <;> simp[h]))
   .exact hxI.then H.ext fun y hy => .inr (hnew y (by simp only[qac,qam,or_false]at hy |-;rcases hy with h|h|h|h <;> simp[h]))
   .exact qav hxb.size H.ext.size
   .refine MB FY H.ext U fun y hy=>?_;simp only[qbx,qa7,qac,qam,or_false]at hy
    rcases hy with rfl|rfl|rfl|rfl|rfl|rfl|rfl|rfl|rfl|rfl|rfl
    .exact .inr ⟨qad (i:=0) rfl,CV FY (k:=0) U [5,7,6,9] rfl⟩
    .exact .inr ⟨qad (i:=1) rfl,CV FY (k:=1) U [5,7,6,9] rfl⟩
    .exact .inr ⟨qad (i:=2) rfl,CV FY (k:=2) U [5,7,6,9] rfl⟩
    .exact .inr ⟨qad (i:=3) rfl,CV FY (k:=3) U [5,7,6,9] rfl⟩
    .exact .inr ⟨qad (i:=4) rfl,CV FY (k:=4) U [5,7,6,9] rfl⟩
    .exact .inl (H.get at0)
    .exact .inl (H.get at2)
    .exact .inl (H.get at1)
    .exact .inr ⟨qad (i:=8) rfl,CV FY (k:=8) U [5,7,6,9] rfl⟩
    .exact .inl (H.get at3)
    .exact .inr ⟨qad (i:=10) rfl,CV FY (k:=10) U [5,7,6,9] rfl⟩
   .exact⟨K.m,(fun q hq=>⟨⟨(K.ok q hq).1.1,(K.ok q hq).1.2.imp id fun h5 h6=>h5 (qas h6 hxb.size)⟩,(K.ok q hq).2⟩),K.few⟩
  |1,hi,⟨l,z1,z2,O,hxI,hsz,FY,K,hk,hM⟩ =>
   cases hi;refine⟨by kernel_rfl,(Akn O ⟨qav hw0 (hnew bs (by simp)),qav hw0 (hnew b11 (by simp))⟩ g ⟨hR.1,rfl,rfl,hR.2⟩ FY).mono fun v w'' ⟨hv,bj,al,nl,cl,hbj,J,H,SF⟩=>⟨0,hv,.inl ⟨rfl,l,z1,z2,bj,al,nl,cl,w'.heap.size,J,?_,qav hsz hbj,hsz,Al J.jr,SF,fo_fj (MB FY H.ext rfl fun y hy=>?_) (fun y hy=>?_),?_,hk,hM⟩⟩⟩
   .exact hxI.then H.ext fun y hy => .inr (hnew y (by simp only[qac,qam,or_false]at hy |-;rcases hy with h|h <;> simp[h]))
   .simp only[qbx,qa7,qac,qam,or_false]at hy
    rcases hy with rfl|rfl|rfl|rfl|rfl|rfl|rfl|rfl|rfl|rfl|rfl
    .exact .inr ⟨qad (i:=0) rfl,CV FY (k:=0) U [5,1] rfl⟩
    .exact .inl (H.get at1)
    .exact .inr ⟨qad (i:=2) rfl,CV FY (k:=2) U [5,1] rfl⟩
    .exact .inr ⟨qad (i:=3) rfl,CV FY (k:=3) U [5,1] rfl⟩
    .exact .inr ⟨qad (i:=4) rfl,CV FY (k:=4) U [5,1] rfl⟩
    .exact .inl (H.get at0)
    .exact .inr ⟨qad (i:=6) rfl,CV FY (k:=6) U [5,1] rfl⟩
    .exact .inr ⟨qad (i:=7) rfl,CV FY (k:=7) U [5,1] rfl⟩
    .exact .inr ⟨qad (i:=8) rfl,CV FY (k:=8) U [5,1] rfl⟩
    .exact .inr ⟨qad (i:=9) rfl,CV FY (k:=9) U [5,1] rfl⟩
    .exact .inr ⟨qad (i:=10) rfl,CV FY (k:=10) U [5,1] rfl⟩
   .exact Nat.ne_of_lt (qas (fo_lt FY (by rfl) y hy) hbj)
   .refine⟨K.m,(fun q hq=>?_),K.few⟩;have h5:=(K.ok q hq).1;refine⟨⟨Rdx.read h5 H.ext fun y hy=>?_,?_⟩,(K.ok q hq).2⟩
    .simp only[qac,qam,or_false]at hy
     rcases hy with rfl|rfl
     .exact lbs
     .exact l11
    .rcases Rd.lt8 h5.1 with h6|h6
     .exact .inl h6
     .exact h5.2.imp id fun h7 h8=>h8.elim h7 fun h9=>by omega
  |2,hi,⟨l,z1,z2,bj,al,nl,cl,N,J,hxI,hbj,hN,hbw,SF,FY,K,hk,hM⟩ =>
   cases hi
   have hkW:∀x∈L0.map toW,x.Few:=fun x hx=>by
    obtain⟨y,hy,rfl⟩:=qah.1 hx;exact⟨(ho y hy).2.1,(ho y hy).2.2⟩
   have hn0:=Jf (m:=0) (kv:=[]) (n:=0) (L:=L0.map toW) (fun q hq=>by cases hq) hkW (by decide) (by decide);rw[qaj,Int.zero_add]at hn0
   have hm3:∀y∈[bs,m1,m2],y<wb.heap.size:=fun y hy=>by
    simp only[qac,qam,or_false]at hy
    rcases hy with rfl|rfl|rfl <;> assumption
   have hg3:∀y∈[bs,m1,m2],wI.heap.size<=y:=fun y hy=>hnew y (by simp only[qac,qam,or_false]at hy |-;rcases hy with h|h|h <;> simp[h])
   have hno:∀y∈[bs,m1,m2],¬Fj F bj y:=fun y hy h5=>by
    have h6:=hm3 y hy
    rcases h5 with h5|h5
    .exact fs4 y (by simp only[qac,qam,or_false]at hy |-;rcases hy with h|h|h <;> simp[h]) h5
    .omega
   refine⟨by kernel_rfl,(Ako (bs:=bs) (m1:=m1) (m2:=m2) (gen:=gen) (vd:=ptr bd) (vj:=ptr bj) (vp:=ptr bp) (vt:=ptr bt) (root:=root) (n:=Ek [] 0 (L0.map toW)) (N:=N) (T:=L0.length) (Fo.at FY (k:=1) rfl) (Fo.at FY (k:=2) rfl) (by rw[hRL]at SF;exact SF) (fun y hy=>qas (hm3 y hy) hN) ?_ ?_ (Ctx.startL (L:=[(bs,Bl CU (CN (ptr bd) (ptr bj) (ptr bp) (ptr bt) gen root m1 m2 (Ek [] 0 (L0.map toW)) false)),(m1,z1),(m2,z2)]) (fun y hy=>?_) ?_) K hM (fun y hy => .inl (hm3 y hy)) (fun y hy=>hy.elim (fun h=>qas h (by omega)) fun h=>by omega) hW hWn).mono fun v w'' ⟨hv,l',z1',z2',D⟩=>⟨0,hv,.inl ⟨rfl,l',z1',z2',bj,al,nl,cl,J.over D.H.ext hno (fun y hy=>qav hw0 (hg3 y hy)),hxI.then D.H.ext (fun y hy => .inr (hg3 y hy)),hbj,MB FY D.H.ext rfl (fun y hy=>?_),D.K,by rw[D.k,hk],D.m⟩⟩⟩
   .exact CV FY (k:=2) U [5,7,6] U
   .exact CV FY (k:=1) U [5,7,6] U
   .simp only[qac,qam,or_false]at hy
    rcases hy with rfl|rfl|rfl
    .exact Fo.at FY (k:=5) U
    .exact Fo.at FY (k:=7) U
    .exact Fo.at FY (k:=6) U
   .exact YI (Dd FY 5 7 U U) (Dd FY 5 6 U U) (Dd FY 7 6 U U)
   .have Hb:=D.H;rw[hk]at Hb;simp only[qbx,qa7,qac,qam,or_false]at hy
    rcases hy with rfl|rfl|rfl|rfl|rfl|rfl|rfl|rfl|rfl|rfl|rfl
    .exact .inr ⟨qad (i:=0) rfl,CV FY (k:=0) U [5,7,6] rfl⟩
    .exact .inr ⟨qad (i:=1) rfl,CV FY (k:=1) U [5,7,6] rfl⟩
    .exact .inr ⟨qad (i:=2) rfl,CV FY (k:=2) U [5,7,6] rfl⟩
    .exact .inr ⟨qad (i:=3) rfl,CV FY (k:=3) U [5,7,6] rfl⟩
    .exact .inr ⟨qad (i:=4) rfl,CV FY (k:=4) U [5,7,6] rfl⟩
    .exact .inl (Hb.get at0)
    .exact .inl (Hb.get at2)
    .exact .inl (Hb.get at1)
    .exact .inr ⟨qad (i:=8) rfl,CV FY (k:=8) U [5,7,6] rfl⟩
    .exact .inr ⟨qad (i:=9) rfl,CV FY (k:=9) U [5,7,6] rfl⟩
    .exact .inr ⟨qad (i:=10) rfl,CV FY (k:=10) U [5,7,6] rfl⟩
theorem YJ(O:Own w0 w bd A F)(g:SG (m+362) A R V)(hmay:KB A=0)(hm:1<=m)(hE:EK A=0)(hLo:DU A=tpB root R.first R.seq)(hG:F6 A=gen)(hroot : -1<=root/\root<=4294967294)(hR:R.size=360/\1<=R.seq/\R.seq<=4611686018427387904)(td:Told 362 A (List.replicate m 0) root L0 S)(hS:∀x∈S,x<m)(hnd:S.Nodup)(hL:Rising L0)(ho:OkP L0)(hLn:L0.length<=50000)(hRL:R.L=Ws.map opB)(hW:∀W∈Ws,W.length<=1000/\∀x∈W,x.Few)(hWn:Ws.length<=400) :
  Ret prog 19 #[ptr bd] w fun v w'=>∃p,v=.tuple #[ptr p.bs,.int .i64 0]/\p.bd=bd/\Sok w0 w' p A R ⟨gen,root,Ek (kv1 L0) (Ek [] 0 (L0.map toW)) Ws.flatten,Gb (kv1 L0) Ws.flatten,Ex [] Ws.flatten,pgU m S,L0.length+Ws.flatten.length,V⟩ F/\Ext [] w w'/\(∀y,Ms F p y->F y\/w.heap.size<=y)/\(∀y,y<w.heap.size->p.z y):=by
 obtain⟨wI,rfl⟩:=qD w;have hN:=g.lim;have hlen:=g.len;have hok:=g.ok;have H:=Ctx.start wI []
 have hrt:tpR (tpB root R.first R.seq)=tpC root R.first R.seq:=Ac2 hroot (by have:=hok.a;omega)
 have htl:=Eg root R.first R.seq
 refine A6 (fn:=f19) func19 U [ptr bd] U (Ad (Cn _ (.pointer _) U U H ?_));rintro b1 w - H;refine Bx U (Ac U (qA (Aq (Ad (AH Dn U H at0 U (Ai qB (Ww (O.call H.ext).dev) U ?_))))));rintro v w ⟨rfl,rfl⟩;rw[hmay];refine Ac U (qA (Ad (Ae U (Ba U U (qA (Au _ U ?_ ?_))))))
 .intro h1;replace h1:=Bu h1;exact absurd U h1
 .intro h1;replace h1:=Bv h1;refine Ap (Aa (Ad (AH Dn U H at0 U (Ai qB (Tt g.good.few (O.call H.ext).dev) U ?_))));rw[hG,hE,hLo];rintro v w ⟨a19,c19,rfl,R19,h19,-,hx19⟩;replace H:=H.call hx19;refine AQ U (Ah U U (Ah U U (Ah U U (Ac U (Ak U (Ac U (qA (Aq (Ad ?_)))))))));refine Ae U (Ba U U (qA (Au _ U ?_ ?_)))
  .intro h2;replace h2:=Bu h2;exact absurd U h2
  .intro h2;replace h2:=Bv h2;refine Ap (Aa (Ad (Aj U (Ai qB (Yo a19 c19 (tpB root R.first R.seq) _ R19 h19) U ?_))));rw[hrt,qal htl];rintro v w ⟨rfl,hx28⟩;replace H:=H.call hx28;refine AQ U (Ah U U (Ah U U (Bj Su H ?_)));rintro b8 w - H;refine Bo NP U U U (by simp[Bi]) H at0 U ?_;rintro w H;refine An U (qA (Aq (Ad (AA U (BX U (qA (Au _ U ?_ ?_)))))))
   .intro h3;replace h3:=Cz h3;exact absurd h3 (by decide)
   .intro h3;replace h3:=C0 h3;refine Ap (Aa (Ad (AH Dn U H at1 U (Ae U (Ai qB (Yj _ (O.call H.ext).dev hlen ⟨hm,by omega⟩ gen) U ?_)))));rintro v w ⟨bs,m1,m2,o1,o2,bp,ba,bt,rfl,hm1,hm2,HE⟩;replace H:=H.callEnt HE.ext (fun x hx=>⟨HE.blk x hx,(HE.own x hx).resolve_left (by simp)⟩) HE.nd;refine AQ U (Ah U U (Ah U U (Bj Aic H ?_)));rintro b10 w - H;refine Bf (.pointer _) Ah7 U U U H at0 (by decide) ?_;rintro w H;refine Ac U (qA (Aq (Ad (Ae U (Ba U U (qA (Au _ U ?_ ?_)))))))
    .intro h4;replace h4:=Bu h4;exact absurd U h4
    .intro h4;replace h4:=Bv h4;refine Ap (Aa (Ad (AH Fc U H at0 U (Af Abw U (AH DW U H at1 U (A8 U (Af Jt U (Bf (.int _ _) Hv U U U H at3 (by(simp;done)) ?_))))))));rintro w H;refine qA (Ad (Bj zc_69 H ?_));rintro b11 w - H;refine qA (Ad (AH Fc U H at1 U (W7 (ptr bs) U U ?_)));refine CG [.pointer _,.pointer _,.pointer _,.pointer _] U (CG [.pointer _,.pointer _] U (Cb (opF b11 b10 b8 b1 bs) Pg Xp Abz H ?_));rintro b51 w - H;have hall:=(fun(k:Nat) (b:Nat) (o:Obj) (hy)=>(H.own (b,o) (qad (i:=k) hy)).resolve_left (by simp));have hnw:∀y∈[bs,m1,m2,ba,b11],wI.heap.size<=y:=(by simp only[qac,qam,or_false,forall_eq_or_imp,forall_eq];exact⟨hall 5 bs _ rfl,hall 7 m1 _ rfl,hall 6 m2 _ rfl,hall 9 ba _ rfl,hall 1 b11 _ rfl⟩)
     have hnp:wI.heap.size<=bp/\wI.heap.size<=bt:=⟨hall 8 bp _ rfl,hall 10 bt _ rfl⟩;have hFw:=(O.call H.ext);have hlw:=(fun(k:Nat) (b:Nat) (o:Obj) (hy)=>Al (H.blk (b,o) (qad (i:=k) hy)));have hlow:=And.intro (hlw 5 bs _ rfl) (And.intro (hlw 7 m1 _ rfl) (And.intro (hlw 6 m2 _ rfl) (And.intro (hlw 8 bp _ rfl) (And.intro (hlw 9 ba _ rfl) (hlw 10 bt _ rfl)))));clear hlw;refine Ai qB (Am5 (wI:=wI) (b16:=b51) (b11:=b11) (b10:=b10) (b8:=b8) (b1:=b1) (bs:=bs) (bp:=bp) (ba:=ba) (bt:=bt) (gen:=gen) (m1:=m1) (m2:=m2) (m:=m) (root:=root) (L0:=L0) (S:=S) (Ws:=Ws) (o1:=o1) (o2:=o2) O.ext.size ⟨O.call H.ext,H.ext,Ext.refl _ _,Aas H (fun x h=>(O.own x h).2) (List.Sublist.refl _)⟩ H.ext g hR hnw hm1 hm2 td hS hnd hL ho hLn hRL hW hWn) U ?_;rintro v w ⟨e,rfl,he⟩;obtain⟨rfl,l,z1,z2,bj,al,nl,cl,J,hxI,hbj,FY,K,hk,hM⟩:=he.resolve_right (fun h=>h.2);clear he;clear hall;clear H
     refine Ac U (qA (Aq (Ad (Ae U (Ba U U (qA (Au _ U ?_ ?_)))))))
     .intro h5;replace h5:=Bu h5;exact absurd U h5
     .intro h5;replace h5:=Bv h5;refine Ap (Aa (Ad (Be Fc U ((by rw[Ar (Fo.at FY (k:=2) rfl)];rfl)) ?_)));refine Bx U (Ac U (qA (Ax (Ce (v1:=(.pointer _)) (v2:=(.int _ _)) U U U U ?_))));have hpl:(pgU m S).length=m:=by rw[Ka,qba]
      have hge:∀q∈[bs,m1,m2,bp,ba,bt],wI.heap.size<=q:=fun q hq=>by
       simp only[qac,qam,or_false]at hq
       rcases hq with h|h|h|h|h|h <;> rw[h]
       .exact hnw _ (by simp)
       .exact hnw _ (by simp)
       .exact hnw _ (by simp)
       .exact hnp.1
       .exact hnw _ (by simp)
       .exact hnp.2
      have hkW:∀x∈L0.map toW,x.Few:=fun x hx=>by
       obtain⟨y,hy,rfl⟩:=qah.1 hx;exact⟨(ho y hy).2.1,(ho y hy).2.2⟩
      have hfW:∀x∈Ws.flatten,x.Few:=fun x hx=>by
       obtain⟨W,hW1,hW2⟩:=qe7.1 hx;exact(hW W hW1).2 x hW2
      have hfl:Ws.flatten.length<=400000:=by
       have h6:=V4 (L:=Ws) (m:=1000) fun W hW1=>(hW W hW1).1;have h7:1000*Ws.length<=1000*400:=qb6 _ hWn;omega
      have hk1:∀q∈kv1 L0,q.1.length<=32/\q.2.length<=128:=fun q hq=>by
       have h6:=(V1 L0 hL).perm.mem_iff.1 hq;exact(ho q h6).2
      have hn0:=Jf (m:=0) (kv:=[]) (n:=0) (L:=L0.map toW) (fun q hq=>by cases hq) hkW (by decide) (by decide);rw[qaj,Int.zero_add]at hn0;have hn1:=Jf (m:=L0.length) (n:=Ek [] 0 (L0.map toW)) hk1 hfW (by omega) (by omega);have htt:=PG (W:=Ws.flatten) (t:=[]) (T:=0) (fun q hq=>by cases hq) (by decide);refine⟨⟨bd,bs,bj,bp,ba,bt,m1,m2,fun y=>y<wI.heap.size⟩,rfl,rfl,⟨J,by rw[hlen];exact g,⟨l,z1,z2,?_,K.weak fun y hy=>?_,hk,hM⟩,fun q hq=>qav O.ext.size (hge q hq),hn1,(fun q hq=>by have:=htt q hq;dsimp only;omega),by dsimp only;omega,fun y hy=>qas hy hxI.size⟩,hxI,fun y hy=>?_,fun y hy=>hy⟩
      .refine Ac1 FY (fun y hy=>?_) ?_
       .simp only[Sp.blk,qac,qam,or_false,hpl]at hy
        rcases hy with rfl|rfl|rfl|rfl|rfl|rfl
        .exact qad (i:=5) U
        .exact qad (i:=7) U
        .exact qad (i:=6) U
        .exact qad (i:=8) U
        .exact qad (i:=9) U
        .exact qad (i:=10) U
       .have hp6:=FY.nd.sublist (List.drop_sublist 5 _);simp only[Sp.blk,hpl];exact(List.Perm.pairwise_iff (fun h=>Ne.symm h) ((List.Perm.swap _ _ _).cons _)).1 hp6
      .rcases hy with((hy|hy)|hy)|hy
       .exact .inl (hFw.own y hy).2
       .exact .inr hy
       .simp only[Sp.own,qac,qam,or_false]at hy;left
        rcases hy with h|h|h|h|h|h <;> rw[h]
        .exact hlow.1
        .exact hlow.2.1
        .exact hlow.2.2.1
        .exact hlow.2.2.2.1
        .exact hlow.2.2.2.2.1
        .exact hlow.2.2.2.2.2
       .left;have h1:=hnw bs (by simp);have h2:=hlow.1;have h3:y<wI.heap.size:=hy;omega
      .rcases hy with(hy|hy)|hy
       .exact .inl hy
       .right;have h1:=hnw bs (by simp);have h2:=hlow.1;have h3:y=bj:=hy;omega
       .exact .inr (hge y hy)
end
open Go.GV Go.Proofs.Tryz Go.Maps Go.Sort Go.Shelf Go.RowKit
theorem Afp(mb:Option Nat)(w:World):Ret prog 119 #[.map mb] w fun v w'=>v=.func (.func 143) #[] #[.pointer (some ⟨w.heap.size,0,none⟩)]/\w'=w.alloc (Bl 92 [.map mb]):=by
 have h:=AnyZ.keys_in keysT Fence.wide 5 trivial rfl mb w;exact CallsIn.mono (callsIn_wide.2 (callsIn_wide.1 h)) fun e w' ⟨h1,h2⟩=>⟨_,h1,rfl,h2⟩
theorem YK{w:World}{bx bm:Nat}{m:List (Byt × Value)}{o:Obj}(hx:w.heap[bx]?=some (Bl 92 [.map (some bm)]))(hb:w.heap[bm]?=some o)(hM:En str m o)(nd:(m.map (·.1)).Nodup)(hsz:m.length<=100000)(hr:∀p∈m,p.1.length<=32) :
  Ret prog 65 #[.func (.func 143) #[] #[.pointer (some ⟨bx,0,none⟩)]] w fun v w'=>∃a c,v=.slice a (CF m).length c/\Rd w' a 1 (fun x:Byt=>[str x]) (CF m)/\(CF m).length<=c/\(CF m=[]\/w.heap.size<=(adr a).block)/\Ext [] w w':=by
 obtain⟨D0,hown,hperm,hsize⟩:=Qf (P:=prog) F7 hb hM nd (qav hsz (by decide)) (fun p hp=>qav (hr p hp) (by decide))
 have hseq:SeqGives Fence.wide 2 prog 143 #[.pointer (some ⟨bx,0,none⟩)] encStr (fun ss=>ss.Perm (strKeys D0)) (Maps.size D0) w :=
  AnyZ.keys_gives (ρ:=keysT_ren) { keysT with } Fence.wide _ trivial rfl (by omega) bx bm m.length D0 w (Al hx) (by rw[Ar hx];rfl) hown
 have cS:=AnyZ.sorted_in sortedS Fence.wide 5 trivial trivial trivial trivial rfl (by omega) (sortsS _) (enters_of func103 (by kernel_rfl) rfl) 143 #[.pointer (some ⟨bx,0,none⟩)] trivial (enters_of func143 (by kernel_rfl) rfl) _ (Maps.size D0) (by rw[hsize];exact qav hsz (by decide)) (by rw[hsize];omega) _ hseq;refine CallsIn.mono (callsIn_wide.2 (callsIn_wide.1 cS)) ?_;rintro e w' ⟨v,ss,rfl,hS,hrow,_,hbel⟩;have he:ss.mergeSort (fun x y=>decide (x<=y))=CF m:=mergeSort_of_perm (hS.trans hperm);rw[he]at hrow;obtain⟨a,c,rfl,R,hc,hnew⟩:=Qg (by rw[<-he,qcu]) hrow;exact⟨_,rfl,a,c,rfl,R,hc,hnew,Kl hbel⟩
structure Gk(w0 w:World)(p:Sp)(A:Dev)(P:List Nat)(F:Mut)(J:Jr)(gen:Nat)(root n:Int)(l:List (Byt × Sv))(o1 o2:Obj):Prop where
 T:Tx w p.bt p.bd p.bp p.ba 362 A P F []
 O:Fo w (TM F p.ba p.bt p.bp []) [(p.bs,Bl CU (CN (ptr p.bd) (ptr p.bj) (ptr p.bp) (ptr p.bt) gen root p.m1 p.m2 n false)),(p.m1,o1),(p.m2,o2),(p.bj,Bl TJ (JB p.bd J))]
 K:KvAt w (Mv F p) l o1
 x0:Ext [] w0 w
 ge:∀y,Ms F p y->w0.heap.size<=y
section
variable {w0 w w':World}{p:Sp}{A A':Dev}{P P':List Nat}{F F':Mut}{J:Jr}{gen:Nat}{root n:Int}{l:List (Byt × Sv)}{o1 o2:Obj}
theorem V5(x:Nat)(h:TM F p.ba p.bt p.bp [] x):Ms F p x:=by
 rcases h with h|rfl|rfl|rfl|h
 .exact .inl (.inl h)
 .exact .inr (by simp[Sp.own])
 .exact .inr (by simp[Sp.own])
 .exact .inr (by simp[Sp.own])
 .cases h
theorem Kb(t:Grown (TM F p.ba p.bt p.bp []) (TM F' p.ba p.bt p.bp []) w w'):Grown (Ms F p) (Ms F' p) w w':=by
 obtain⟨⟨S,hS,hx⟩,g⟩:=t;refine⟨⟨S,fun y hy=>V5 y (hS y hy),hx⟩,fun y hy=>?_⟩
 rcases hy with(hy|rfl)|hy
 .exact(g y (.inl hy)).imp (V5 y) id
 .exact .inl (.inl (.inr U))
 .exact .inl (.inr hy)
theorem Gk.call(g:Gk w0 w p A P F J gen root n l o1 o2)(hx:Ext [] w w'):Gk w0 w' p A P F J gen root n l o1 o2 :=
 ⟨g.T.call hx,(g.O.call (Grown.call hx)).1,⟨g.K.m,fun q hq=>⟨(g.K.ok q hq).1.call hx,(g.K.ok q hq).2⟩,g.K.few⟩,g.x0.trans hx,g.ge⟩
theorem Akp{M M':Mut}(h:∀y,M y->w0.heap.size<=y)(hs:w0.heap.size<=w.heap.size)(t:Grown M M' w w'):∀y,M' y->w0.heap.size<=y:=fun y hy=>(t.2 y hy).elim (h y) fun h=>by omega
theorem Gk.tree(g:Gk w0 w p A P F J gen root n l o1 o2)(T:Tx w' p.bt p.bd p.bp p.ba 362 A' P' F' [])(t:Grown (TM F p.ba p.bt p.bp []) (TM F' p.ba p.bt p.bp []) w w'):Gk w0 w' p A' P' F' J gen root n l o1 o2:=by
 have t2:=Kb (p:=p) t;refine⟨T,(g.O.call t).1,⟨g.K.m,fun q hq=>⟨(g.K.ok q hq).1.turn (TH t2),(g.K.ok q hq).2⟩,g.K.few⟩,?_,Akp g.ge g.x0.size t2⟩;obtain⟨⟨S,hS,hx⟩,-⟩:=t2;exact g.x0.then hx fun y hy => .inr (g.ge y (hS y hy))
theorem Gk.mlt(g:Gk w0 w p A P F J gen root n l o1 o2):∀y,Ms F p y->y<w.heap.size:=fun y hy=>by
 have h1:=fun i b o hi=>Al (Fo.at g.O (k:=i) (b:=b) (o:=o) hi)
 rcases hy with(hy|rfl)|hy
 .exact g.T.lt y hy
 .exact h1 3 _ _ U
 .simp only[Sp.own,qac,qam,or_false]at hy
  rcases hy with rfl|rfl|rfl|rfl|rfl|rfl
  .exact h1 0 _ _ U
  .exact h1 1 _ _ U
  .exact h1 2 _ _ U
  .exact Al g.T.pg.hd
  .exact Al g.T.pg.st
  .exact Al g.T.tr
theorem Gk.set{root':Int}(g:Gk w0 w p A P F J gen root n l o1 o2)(H:Ctx w [p.bs] w' [(p.bs,Bl CU (CN (ptr p.bd) (ptr p.bj) (ptr p.bp) (ptr p.bt) gen root' p.m1 p.m2 n false))]):Gk w0 w' p A P F J gen root' n l o1 o2:=by
 have hb:∀y∈[p.bs],Ms F p y:=fun y hy => .inr (by rw[qaa.1 hy];simp[Sp.own]);have hoff:¬TM F p.ba p.bt p.bp [] p.bs:=g.O.off _ (qaf ..)
 have hT:Tx w' p.bt p.bd p.bp p.ba 362 A P F []:=by
  have h:=hoff;unfold TM at h;simp only[not_or]at h;obtain⟨h1,h2,h3,h4,-⟩:=h;refine⟨H.ext.to g.T.tr (by simp;exact fun e=>h3 e.symm),g.T.pg.keep H.ext (by simp;exact fun e=>h4 e.symm) (by simp;exact fun e=>h2 e.symm),g.T.dev.keep H.ext (fun y hy=>by rw[qaa.1 hy];exact h1),(fun x hx=>by cases hx),List.Pairwise.nil,(fun x hx=>by cases hx),g.T.nbt,g.T.nbp,g.T.nba,fun x hx=>qas (g.T.lt x hx) H.ext.size⟩
 refine⟨hT,MB g.O H.ext U fun y hy=>?_,⟨g.K.m,fun q hq=>⟨⟨Rdx.read (g.K.ok q hq).1 H.ext (fun y hy => .inl (hb y hy)),(g.K.ok q hq).1.2⟩,(g.K.ok q hq).2⟩,g.K.few⟩,g.x0.then H.ext fun y hy => .inr (g.ge y (hb y hy)),g.ge⟩;simp only[qac,qam,or_false]at hy
 rcases hy with rfl|rfl|rfl|rfl
 .exact .inl (H.get at0)
 .exact .inr ⟨by simp,CV g.O (k:=1) rfl [0] rfl⟩
 .exact .inr ⟨by simp,CV g.O (k:=2) rfl [0] rfl⟩
 .exact .inr ⟨by simp,CV g.O (k:=3) rfl [0] rfl⟩
theorem PH{root':Int}(H:Ctx w [p.bs] w' [(p.bs,Bl CU (CN (ptr p.bd) (ptr p.bj) (ptr p.bp) (ptr p.bt) gen root' p.m1 p.m2 n false))]):Grown (Ms F p) (Ms F p) w w' :=
 ⟨Turn.of H.ext fun y hy => .inr (by rw[qaa.1 hy];simp[Sp.own]),fun _ h => .inl h⟩
theorem Aqe{a:Option Addr}{b:Byt}(h:Rdx w (Ms F p) a b):Rdx w (TM F p.ba p.bt p.bp []) a b:=⟨h.1,h.2.imp id fun h1 h2=>h1 (V5 _ h2)⟩
theorem Akq{M:List Pr}{t:List (Byt × Int)}(g:Gk w0 w p A P F J gen root n l o1 o2)(hM:En str (mi t) o2)(hnd:(t.map (·.1)).Nodup)(htn:t.length<=100000)(htk:∀q∈t,1<=q.1.length/\q.1.length<=32)(TT:TreeAt 362 A P root M)(hon:A.on=true)(hl:362+P.length<=A.B.length)(hP:P.length<=2000)(hfew:Few A 0) :
  Ret prog 89 #[ptr p.bs] w fun v w'=>v=.int .i64 (Dp (BI (EH l)) (CF (mi t)) root A P).1/\∃F',Gk w0 w' p (Dp (BI (EH l)) (CF (mi t)) root A P).2.2.1 (Dp (BI (EH l)) (CF (mi t)) root A P).2.2.2 F' J gen (if(Dp (BI (EH l)) (CF (mi t)) root A P).1=0 then(Dp (BI (EH l)) (CF (mi t)) root A P).2.1 else root) n l o1 o2/\Grown (Ms F p) (Ms F' p) w w':=by
 obtain⟨wI,rfl⟩:=qD w;obtain⟨f,hf⟩:=qD (BI (EH l));obtain⟨ts,hts⟩:=qD (CF (mi t));rw[<-hf,<-hts]
 have htm:∀k∈ts,1<=k.length/\k.length<=32:=fun k hk=>by
  rw[hts]at hk;have h1:=(qce _ _).mem_iff.1 hk;simp only[qbi,qah,Function.comp]at h1;obtain⟨q,hq,rfl⟩:=h1;exact htk q hq
 have htl:ts.length<=100000:=by rw[hts,M6,qaj];exact htn
 have hkf:=g.K.fewK;have hfv:∀k v,f k=some v->v.length<=128:=fun k v hv=>(hkf (k,v) (EU (by rw[<-hf];exact hv))).2;have H:=Ctx.start wI [];have hs:=Fo.at g.O (k:=0) rfl;have hm2:=Fo.at g.O (k:=2) rfl;refine A6 (fn:=f89) func89 U [ptr p.bs] U (Ad (Ac U (qA (Ad (Am U (A8 U (Af Jt U (Be DW U ((by rw[Ar hs];rfl)) ?_))))))));refine Ac U (qA (Aq (Ad (Am U (A8 U (Af QJ U (Be Abo U ((by rw[Ar hs];rfl)) ?_)))))));refine Ai qB (Afp (some p.m2) _) U ?_;rintro v w ⟨rfl,rfl⟩;replace H:=H.alloc (Bl 92 [.map (some p.m2)]);refine Ai qB (YK (H.get at0) (H.ext.to hm2 (by simp)) hM (by simpa[qbi,qcr]using hnd) (by simpa using htn) (fun q hq=>by obtain⟨y,hy,rfl⟩:=qah.1 hq;exact(htk y hy).2)) U ?_;rw[<-hts];rintro v w ⟨a18,c18,rfl,R18,hc18,hn18,hx18⟩;have hsz18:=H.size;replace H:=H.call hx18
 refine AP Si U (Ae U (qA (AE ?_)));obtain⟨wA,hwA⟩:=qD w;rw[<-hwA]at H R18 |-;have gA:=g.call H.ext;have hxA:=H.ext;have hMlt:=g.mlt
 have X18:∀{z:World} {F1:Mut},Grown (Ms F p) (Ms F1 p) wA z->Rd z a18 1 (fun x:Byt=>[str x]) ts:=fun{z F1} hz=>by
  rcases hn18 with h|h
  .rw[h];exact Rd.nil
  .exact(Rd.turnM R18 (.inr fun h5=>by have:=hMlt _ h5;omega) (by decide) (fun _ _=>rfl) hz).1
 clear H;refine B7 4611686018426339820 (α:=Nat × Int × Dev × List Nat × Mut × List Pr) (fun s=>[(20,.int .i64 (s.1:Int)),(3,.int .i64 s.2.1)]) (fun s w'=>s.1<=ts.length/\Gk w0 w' p s.2.2.1 s.2.2.2.1 s.2.2.2.2.1 J gen root n l o1 o2/\Grown (Ms F p) (Ms s.2.2.2.2.1 p) wA w'/\Dp f (ts.drop s.1) s.2.1 s.2.2.1 s.2.2.2.1=Dp f ts root A P/\TreeAt 362 s.2.2.1 s.2.2.2.1 s.2.1 s.2.2.2.2.2/\s.2.2.1.on=true/\s.2.2.1.B.length=A.B.length/\s.2.2.2.1.length=P.length/\Few s.2.2.1 (40*s.1)) (fun s=>ts.length - s.1) (0,root,A,P,F,M) U ?_ ?_ ?_
 .exact⟨rfl,rfl,trivial⟩
 .exact⟨qak _,gA,Grown.call (Ext.refl _ _),rfl,TT,hon,rfl,rfl,hfew⟩
 .rintro⟨i,r,A1,P1,F1,M1⟩ j w1 ⟨hi,g1,G1,hst,T1,hon1,hB1,hP1,IZ⟩;dsimp only at hi g1 G1 hst T1 hon1 hB1 hP1 IZ;dsimp only;have H:=Ctx.start w1 [];refine Ad (Bn U U (qA (Aq (Au _ U ?_ ?_))))
  .intro h1;replace h1:=AV h1;obtain⟨k,hk⟩:=AO (l:=ts) (i:=i);obtain⟨hk1,hk2⟩:=htm k (qad hk)
   have hdr:ts.drop i=k::ts.drop (i+1):=by
    obtain⟨hlt,he⟩:=qaq.1 hk;rw[qd0 hlt,he]
   rw[hdr]at hst;have hres:=YH (f:=f) (k:=k) (hfv k) ⟨hk1,hk2⟩ T1 hon1 (by rw[hB1,hP1];exact hl) (by rw[hP1];exact hP) IZ;obtain⟨S1,td1,-,-⟩:=T1.told hon1 (by rw[hB1,hP1];exact hl) (by rw[hP1];exact hP);have hr1:=td1.rlo;have hr2:=td1.rhi;have hs1:=Fo.at g1.O (k:=0) rfl;have hm1:=Fo.at g1.O (k:=1) rfl;have hmx:40*i<=800000000:=by omega
   have hcons:Dp f (k::ts.drop (i+1)) r A1 P1=if(Ji f k r A1 P1).1=0 then Dp f (ts.drop (i+1)) (Ji f k r A1 P1).2.1 (Ji f k r A1 P1).2.2.1 (Ji f k r A1 P1).2.2.2 else Ji f k r A1 P1:=rfl;rw[hcons]at hst;obtain⟨e',r',A',P',hone⟩:∃e' r' A' P',Ji f k r A1 P1=(e',r',A',P'):=⟨_,_,_,_,rfl⟩;rw[hone]at hst hres;dsimp only at hst hres
   have h99:e'≠99:=by rcases hres.out with h|h|h <;> omega
   have hlt1:=g1.mlt
   rcases hq:BI l k with _|s
   .skip
    have hfk:f k=none:=by rw[hf,LJ,hq];rfl
    have hc:(Hg 362 A1 P1 r k).1=e'/\(Hg 362 A1 P1 r k).2.1=r'/\(Hg 362 A1 P1 r k).2.2.2.1=A'/\(Hg 362 A1 P1 r k).2.2.2.2=P':=by
     unfold Ji at hone;rw[hfk]at hone
     simpa only[qdb]using hone
    refine Ap (Aa (Aq (AE (Ad (AY (X18 G1) Si sz_9 U U (hn:=by rfl) ?_)))));refine Be ag_9 U (((X18 G1).one (f:=str) hk)) (IG U U (qA (Ad (Ac U (qA (Aq (Ad (Am U (A8 U (Af HF U ?_))))))))));refine Be ML U ((by rw[Ar (H.ext.to hs1 (by simp))];rfl)) ?_;refine Cd U (FR (m:=mv l) (n:=k) U NO (Fx F7) Sw U U (Ctx.start1 (H.ext.to hm1 (by simp))) at0 g1.K.m ?_);rw[Fh (f:=Sv.enc),hq];refine AQ U (Ah U U (Ah U U (Ak U (An U (qA (Ad (AA U (qA (Bz U ?_)))))))));refine Av (Am U (A8 U (Af Kq U (Be JK U ((by rw[Ar (H.ext.to hs1 (by simp))];rfl)) ?_))));refine Ae U (Cd U (KV (l:=k) U F7 AX GR U ?_));rintro b53 c53 w53 hb53 hc53 hx53 R53;have hsz53:=H.size;replace H:=H.call hx53
    refine Ai qB (Acg (by decide) (g1.T.call H.ext) r (some ⟨b53,0,none⟩) c53 k.length k ⟨R53,.inr fun h=>by have:=hlt1 _ (V5 _ h);dsimp only[adr]at this;omega⟩ U IZ hmx (by rw[hc.1];exact h99)) U ?_;rw[hc.1,hc.2.1,hc.2.2.1,hc.2.2.2];rintro v w9 ⟨F',rfl,T9,t9⟩;have g2:=(g1.call H.ext).tree T9 t9;have G2:Grown (Ms F1 p) (Ms F' p) w1 w9:=Grown.trans (Grown.call H.ext) (Kb t9);clear H;refine AQ U (Ah U U (Ah U U (Ah U U (Ac U (Ac U (qA (Ad (Ae U (Ba U U ?_)))))))));refine qA (Au _ U ?_ ?_)
    .intro h3;replace h3:=Bu h3;rw[if_neg h3]at hst;refine Ad (Ae U (Ac U (qA (Ax (AL (Ao (Ao (AL (Ao (AG (v:=(.int _ _)) U U U ?_))))))))));rw[<-hst];dsimp only;rw[if_neg h3];exact⟨rfl,F',g2,Grown.trans (Grown.trans (Grown.call hxA) G1) G2⟩
    .intro h3;replace h3:=Bv h3;rw[if_pos h3]at hst;obtain⟨-,hon2,T2⟩:=hres.out.resolve_right (fun h=>h.elim (fun h=>by have:=h.1;omega) fun h=>by have:=h.1;omega);refine Ap (AF (Aa (Av (A7 U U ?_))));refine Ae U (qA ?_);exact⟨(i+1,r',A',P',F',MT f M1 k),rfl,⟨rfl,rfl,trivial⟩,⟨by dsimp only;omega,g2,Grown.trans G1 G2,hst,T2,hon2,hres.aft.blen.trans hB1,hres.aft.len.trans hP1,hres.few⟩,by dsimp only;omega⟩
   .skip
    have hfk:f k=some s.v:=by rw[hf,LJ,hq];rfl
    have hsf:=g1.K.few _ (EU hq);have hsk:=g1.K.ok _ (EU hq);dsimp only at hsf hsk;have hsk1:=(show Rdx _ (Ms _ p) s.a s.v from⟨hsk.1.1,hsk.1.2.imp id fun h h5=>h (.inl h5)⟩)
    have hc:JQ 362 A1 P1 r k s.v=(e',r',A',P'):=by
     unfold Ji at hone;rw[hfk]at hone;exact hone
    refine Ap (Aa (Aq (AE (Ad (AY (X18 G1) Si sz_9 U U (hn:=by rfl) ?_)))));refine Be ag_9 U (((X18 G1).one (f:=str) hk)) (IG U U (qA (Ad (Ac U (qA (Aq (Ad (Am U (A8 U (Af HF U ?_))))))))));refine Be ML U ((by rw[Ar (H.ext.to hs1 (by simp))];rfl)) ?_;refine Cd U (FR (m:=mv l) (n:=k) U NO (Fx F7) Sw U U (Ctx.start1 (H.ext.to hm1 (by simp))) at0 g1.K.m ?_);rw[Fh (f:=Sv.enc),hq];refine AQ U (Ah U U (Ah U U (Ak U (An U (qA (Ad (AA U (qA (EA U ?_)))))))));refine Av (Am U (A8 U (Af Kq U (Be JK U ((by rw[Ar (H.ext.to hs1 (by simp))];rfl)) ?_))));refine Ae U (Cd U (KV (l:=k) U F7 AX GR U ?_));rintro b53 c53 w53 hb53 hc53 hx53 R53;have hsz53:=H.size;replace H:=H.call hx53
    refine Aj U (Ai qB (Acf (by decide) (g1.T.call H.ext) r (some ⟨b53,0,none⟩) s.a c53 s.c k.length s.v.length k s.v ⟨R53,.inr fun h=>by have:=hlt1 _ (V5 _ h);dsimp only[adr]at this;omega⟩ (Aqe (hsk1.call H.ext)) U U hc53 hsk.2 IZ hmx (by rw[hc];exact h99)) U ?_);rw[hc];rintro v w9 ⟨F',rfl,T9,t9⟩;dsimp only at T9;have g2:=(g1.call H.ext).tree T9 t9;have G2:Grown (Ms F1 p) (Ms F' p) w1 w9:=Grown.trans (Grown.call H.ext) (Kb t9);clear H;refine AQ U (Ah U U (Ah U U (Ac U (Ac U (qA (Ad (Ae U (Ba U U (qA ?_)))))))));refine Au _ U ?_ ?_
    .intro h3;replace h3:=Bu h3;rw[if_neg h3]at hst;refine Ad (Ae U (Ac U (qA (Ax (AL (Ao (Ao (AL (Ao (AG (v:=(.int _ _)) U U U ?_))))))))));rw[<-hst];dsimp only;rw[if_neg h3];exact⟨rfl,F',g2,Grown.trans (Grown.trans (Grown.call hxA) G1) G2⟩
    .intro h3;replace h3:=Bv h3;rw[if_pos h3]at hst;obtain⟨-,hon2,T2⟩:=hres.out.resolve_right (fun h=>h.elim (fun h=>by have:=h.1;omega) fun h=>by have:=h.1;omega);refine Ap (AF (Aa (Av (A7 U U ?_))));refine Ae U (qA ?_);exact⟨(i+1,r',A',P',F',MT f M1 k),rfl,⟨rfl,rfl,trivial⟩,⟨by dsimp only;omega,g2,Grown.trans G1 G2,hst,T2,hon2,hres.aft.blen.trans hB1,hres.aft.len.trans hP1,hres.few⟩,by dsimp only;omega⟩
  .intro h1;replace h1:=AW h1;obtain rfl:i=ts.length:=by omega
   rw[qb7 (qae _)]at hst;replace hst:((0,r,A1,P1):Int × Int × Dev × List Nat)=Dp f ts root A P:=hst;have hs1:=Fo.at g1.O (k:=0) rfl;have H:=Ctx.start1 hs1;refine B3 (Ay (Ay (Bb (Aa (Ad (Am U (Ae U (A8 U (Af Jt U (Bf (.int _ _) Hv U U U H at0 (by(simp;done)) ?_))))))))));rintro w H;refine qA (Ad (Ac U (qA (Ax (AG (v:=(.int _ _)) U U U ?_)))));rw[<-hst];dsimp only;rw[if_pos rfl];exact⟨rfl,F1,g1.set H,Grown.trans (Grown.trans (Grown.call hxA) G1) (PH H)⟩
end
end Go.Proofs.YtcpgbcabmcbclaaGreatDoor
