/- Part 14 of the proof. The last text: StorePlays: for every input the law answers true, and turns nothing. The tables that its row lists are premises, and tied to the text by its card. -/
import Derived.Test.YtcpgbcabmcbclaaGreatDoorPart13
import Derived.Test.YtcpgbcabmcbclaaGreatDoorCards
import Derived.Test.YtcpgbcabmcbclaaGreatDoorTie
import Derived.WalkKit
import Derived.ProofKit
import Derived.OpenShut
import Derived.Deep.DeepHandedRow
set_option maxRecDepth 20000
set_option maxHeartbeats 8000000
namespace Go.Proofs.YtcpgbcabmcbclaaGreatDoor
open Go.GV Go.Proofs.Tryz
section
variable {N b:Nat}{A:Dev}{R:Rj}{V V':Nat->Byt}{gen:Nat}{root:Int}{M L:List Pr}{S:List Nat}{Ws:List (List Wr)}{x:Sx}
theorem Alv.done(a:Alv N A R x M S Ws L b)(hb:b<=1000000)(h0:Gok (ckG N A x L))(h1:Ds (ckG N A x L).2.2.1=0)(h2:GO (OG (ckG N A x L)) (x.gen+1) (TG (ckG N A x L) R.at' (R.seq+R.L.length))=0) :
  ∃V3 S',Alv N (Y5 (ckG N A x L) x.gen R.at' (R.seq+R.L.length)) R.forget ⟨x.gen+1,(ckG N A x L).2.1,x.n,x.kv,[],(ckG N A x L).2.2.2.map BN,x.T,V3⟩ L S' [] L (b+1)/\(A.left = -1->(Y5 (ckG N A x L) x.gen R.at' (R.seq+R.L.length)).left = -1):=by
 obtain⟨hB,hF,hO⟩:=a.grow;obtain⟨-,on1,TT,hlo⟩:=hO.resolve_left (fun h=>by have:=h.1;have:=h0.1;omega);have hlen:(ckG N A x L).2.2.1.B.length=N:=hB.blen.trans a.sg.len;have hz:=a.d.z;have hn:=a.d.n;have hg:=a.gen;have hleft:=h0.2
 rcases PB on1 with⟨-,h3,-⟩|⟨f1,f2,f3,f4,f5⟩
 .rw[h3]at h1;cases h1
 .have g2:SG N (OG (ckG N A x L)) R (TU (ckG N A x L).2.2.1):=by
   have hp:=TH (N:=N) hlen;rw[<-f3]at hp;refine a.sg.put (by show(Cq _).on=true;rw[f3];exact f4) (by show -1<=(Cq _).left;rw[f3];show -1<=(Dev.less _).left;rw[f5];split <;> omega) hp fun q q1 q2=>?_;have h5:=hB.blk q fun y hy he=>by omega
   rw[HB a.sg.pend (by omega)]at h5;unfold TU;rw[h5];rfl
  have hl2:A.left = -1->(OG (ckG N A x L)).left = -1:=fun h=>by
   show(Cq _).left = -1;rw[f3];show(Dev.less _).left = -1;rw[f5,if_pos (hB.left h)]
  rcases g2.save (x.gen+1) (TG (ckG N A x L) R.at' (R.seq+R.L.length)) (by omega) (by omega) (by rw[DZ];decide)with⟨-,s2,s3⟩|⟨-,s2,-⟩
  .obtain⟨S',h6⟩:=a.saved hb hB TT hlo s3 fun q _=>rfl;exact⟨_,S',h6,fun h=>s2 (hl2 h)⟩
  .rw[s2]at h2;cases h2
theorem Alv.cut(a:Alv N A R x M S Ws L b)(hb:b<=1000000){e:Int}{A':Dev}(he:e≠0)(h:Akg (ckG N A x L) x.gen R.at' (R.seq+R.L.length) e A'):e=8/\A.left ≠ -1/\A'.on=false/\Few A' 10000000/\∀picks,Bk N (b+1) L (onD A' picks):=by
 obtain⟨hB,hF,hO⟩:=a.grow;have hlen:(ckG N A x L).2.2.1.B.length=N:=hB.blen.trans a.sg.len;have hz:=a.d.z;have hn:=a.d.n;have hg:=a.gen
 rcases h with⟨h1,rfl⟩|⟨h0,h1,rfl⟩|⟨h0,h1,h2,rfl⟩
 .obtain⟨o1,o2,o3⟩:=hO.resolve_right (fun h=>he (by rw[<-h1];exact h.1));exact⟨by rw[<-h1];exact o1,o2,o3,hF.mono (by decide),fun picks=>a.back (a.loo hB) o3 (qdd b) picks⟩
 .obtain⟨-,on1,TT,hlo⟩:=hO.resolve_left (fun h=>by have:=h.1;have:=h0.1;omega)
  rcases PB on1 with⟨f0,f1,f2⟩|⟨-,f2,-⟩
  .refine⟨by rw[<-h1];exact f1,fun h=>by have:=hB.left h;omega,by show(Cq _).on=false;rw[f2],(IF hF).mono (by decide),fun picks=>a.back ?_ (by show(Cq _).on=false;rw[f2]) (qdd b) picks⟩;have hl:=a.loo hB;show Loo N x.V _ (Cq _);rw[f2];exact⟨hl.len,hl.get⟩
  .exact absurd (h1.symm.trans f2) he
 .obtain⟨-,on1,TT,hlo⟩:=hO.resolve_left (fun h=>by have:=h.1;have:=h0.1;omega);have hleft:=h0.2
  rcases PB on1 with⟨-,h3,-⟩|⟨f1,f2,f3,f4,f5⟩
  .rw[h3]at h1;cases h1
  .have hold:∀q,q<N->(¬ ∃y:Nat,x.P[y]?=some 0/\q=362+y)->TU (ckG N A x L).2.2.1 q=x.V q:=fun q q1 q2=>by
    have h5:=hB.blk q fun y hy he=>q2 ⟨y,hy,he⟩;rw[HB a.sg.pend q1]at h5;unfold TU;rw[h5];rfl
   have hne:∀q,q<362->¬ ∃y:Nat,x.P[y]?=some 0/\q=362+y:=fun q hq ⟨y,_,he⟩=>by omega
   have g2:SG N (OG (ckG N A x L)) R (TU (ckG N A x L).2.2.1):=by
    have hp:=TH (N:=N) hlen;rw[<-f3]at hp;exact a.sg.put (by show(Cq _).on=true;rw[f3];exact f4) (by show -1<=(Cq _).left;rw[f3];show -1<=(Dev.less _).left;rw[f5];split <;> omega) hp fun q q1 q2=>hold q (by omega) (hne q (by omega))
   rcases g2.save (x.gen+1) (TG (ckG N A x L) R.at' (R.seq+R.L.length)) (by omega) (by omega) (by rw[DZ];decide)with⟨s1,-⟩|⟨s1,s2,s3,s4,-,s6⟩
   .exact absurd (h2.symm.trans s1) he
   .refine⟨by rw[<-h2];exact s2,fun h=>s1 ?_,s3,s4.mono (by decide),fun picks=>?_⟩
    .show(Cq _).left = -1;rw[f3];show(Dev.less _).left = -1;rw[f5,if_pos (hB.left h)]
    .obtain⟨p1,p2⟩:=s6 picks
     rcases p2 with p2|p2
     .refine⟨p1,R,_,x.gen,x.root,M,S,Ws,p2,a.d.congr (fun q hq=>hold q (by omega) (hne q (by omega))) (fun y hy=>hold _ (by have:=a.d.low y hy;omega) fun⟨z,q1,q2⟩=>?_),by omega,a.seq.1,by have:=a.seq.2;omega⟩;obtain rfl:y=z:=by omega
      rcases(a.mem y).1 hy with h|h <;> (rw[q1]at h;cases h)
     .obtain⟨S',h6⟩:=a.saved hb hB TT hlo p2 fun q _=>rfl;exact⟨p1,R.forget,_,x.gen+1,(ckG N A x L).2.1,L,S',[],h6.sg,h6.d,h6.gen,h6.seq.1,h6.seq.2⟩
theorem Alv.more(a:Alv N A R x M S Ws L b){W:List Wr}(hW:W.length<=1000/\∀y∈W,y.Few/\1<=y.k.length)(hroom:(Bx (Ep L W):Int)<=Da N){A':Dev}{V':Nat->Byt}(g:SG N A' (R.more (opB W)) V')(hV:∀q,(q<2\/2+R.size<=q)->q<N->V' q=x.V q){T:Int} :
  Alv N A' (R.more (opB W)) { x with n:=Eh x.kv x.n W,kv:=Gb x.kv W,t:=Ev x.t W,T:=T,V:=V' } M S (Ws++[W]) (Ep L W) (b+1):=by
 have hz:=a.d.z;have hn:=a.d.n;have hd:=a.d.congr (V':=V') (fun q hq=>hV q (.inl hq) (by omega)) (fun y hy=>hV _ (.inr (by omega)) (by have:=a.d.low y hy;omega));have hkl:=a.kl.sets (W:=W);refine⟨g,⟨hd.n,hz,hd.r1,hd.rl,hd.r0,hd.tr,hd.nd,hd.low,hd.half,hd.rise,hd.ok,hd.mx,?_,fun W' hW'=>?_,?_,hroom⟩,hkl,?_,?_,a.len,a.p01,a.mem,by have:=a.gen;show x.gen<=_;omega,a.seq.1,?_⟩
 .show R.L++[opB W]=_;rw[a.d.ws,qay];rfl
 .rcases qat.1 hW' with h|h
  .exact a.d.few W' h
  .rw[qaa.1 h];exact hW
 .rw[qcv,qcw,Ys,<-a.d.l]
 .show Eh x.kv x.n W=_;rw[Jk a.kl.nd,a.n,<-GS a.kl.perm,<-GS hkl.perm];omega
 .show Ev x.t W=_;rw[a.t,qcv,qcw];unfold Ev;rw[qdp]
 .show R.seq+(R.L++[opB W]).length<=_;have:=a.seq.2;rw[qan,qbu];omega
theorem Alv.torn(a:Alv N A R x M S Ws L b){W:List Wr}(hW:W.length<=1000/\∀y∈W,y.Few/\1<=y.k.length)(hroom:(Bx (Ep L W):Int)<=Da N){A':Dev}{V':Nat->Byt}(hl:A'.left = -1)(hV:∀q,(q<2\/2+R.size<=q)->q<N->V' q=x.V q)(g:SG N A' R V'\/SG N A' (R.more (opB W)) V') :
  Bk N (b+1) L A'\/Bk N (b+1) (Ep L W) A':=by
 have hz:=a.d.z;have hn:=a.d.n
 rcases g with g|g
 .exact .inl ⟨hl,R,V',x.gen,x.root,M,S,Ws,g,a.d.congr (fun q hq=>hV q (.inl hq) (by omega)) (fun y hy=>hV _ (.inr (by omega)) (by have:=a.d.low y hy;omega)),by have:=a.gen;omega,a.seq.1,by have:=a.seq.2;omega⟩
 .have h:=a.more (T:=0) hW hroom g hV;exact .inr ⟨hl,_,_,_,_,_,_,_,h.sg,h.d,h.gen,h.seq.1,h.seq.2⟩
theorem Alv.mono(a:Alv N A R x M S Ws L b){b':Nat}(h:b<=b'):Alv N A R x M S Ws L b':=⟨a.sg,a.d,a.kl,a.n,a.t,a.len,a.p01,a.mem,qaw a.gen h,a.seq.1,qaw a.seq.2 h⟩
theorem Bk.mono(h:Bk N b L A){b':Nat}(hb:b<=b'):Bk N b' L A:=by
 obtain⟨h1,R,V,gen,root,M,S,Ws,h2,h3,h4,h5,h6⟩:=h;exact⟨h1,R,V,gen,root,M,S,Ws,h2,h3,qaw h4 hb,h5,qaw h6 hb⟩
theorem Alv.off(a:Alv N A R x M S Ws L b)(picks:List Int):Bk N b L (onD (KF A) picks) :=
 ⟨rfl,R,x.V,x.gen,x.root,M,S,Ws,a.sg.off picks,a.d,a.gen,a.seq.1,a.seq.2⟩
end
attribute [local irreducible] AA W Wq Wt
section
variable {w0 w w':World}{p:Sp}{N b:Nat}{A A':Dev}{R R':Rj}{M L:List Pr}{S:List Nat}{Ws:List (List Wr)}{x:Sx}{F F':Mut}{P:List Nat}{J:Jr}{gen:Nat}{root n:Int}{l:List (Byt × Sv)}{o1 o2:Obj}
theorem Sok.gk(O:Sok w0 w p A R x F)(h3:∀s∈x.P,s<=3)(hP:x.P.length<=4096):∃l o1 o2,Gk w0 w p A x.P F (jrK 2 R R.L) x.gen x.root x.n l o1 o2/\EE l=x.kv/\Ek str (mi x.t) o2:=by
 obtain⟨l,o1,o2,hF,K,hk,hM⟩:=O.ex;have hoff:∀y∈p.blk x o1 o2,¬F y.1/\y.1≠p.bj:=fun y hy=>⟨fun h=>hF.off y hy (.inl h),fun h=>hF.off y hy (.inr h)⟩;have hb:=hoff (p.bs,Bl CU (CN (ptr p.bd) (ptr p.bj) (ptr p.bp) (ptr p.bt) x.gen x.root p.m1 p.m2 x.n false)) (qaf ..);have h1:=hoff (p.m1,o1) (by simp[Sp.blk]);have h2:=hoff (p.m2,o2) (by simp[Sp.blk]);have hbp:=hoff (p.bp,Bl TPg [.slice (some ⟨p.ba,0,none⟩) x.P.length x.P.length]) (by simp[Sp.blk]);have hba:=hoff (p.ba,Bl TSt (x.P.map stv)) (by simp[Sp.blk]);have hbt:=hoff (p.bt,Bl TT (Qd p.bd p.bp 362)) (by simp[Sp.blk]);dsimp only at hb h1 h2 hbp hba hbt
 have hno:∀{y:Nat},¬F y->y≠p.ba->y≠p.bt->y≠p.bp->¬TM F p.ba p.bt p.bp [] y:=fun q1 q2 q3 q4 h=>by
  rcases h with h|h|h|h|h
  .exact q1 h
  .exact q2 h
  .exact q3 h
  .exact q4 h
  .cases h
 refine⟨l,o1,o2,⟨⟨Fo.at hF (k:=5) rfl,⟨Fo.at hF (k:=3) rfl,Fo.at hF (k:=4) rfl,Dd hF 3 4 U U,h3,hP⟩,O.jone.own.dev,(fun y hy=>by cases hy),List.Pairwise.nil,(fun y hy=>by cases hy),⟨hbt.1,Dd hF 5 4 U U⟩,hbp.1,hba.1,fun y hy=>(O.jone.own.own y hy).2⟩,⟨fun y hy=>?_,?_,fun y hy=>?_⟩,K,O.jone.own.ext,fun y hy=>?_⟩,hk,hM⟩
 .simp only[qac,qam,or_false]at hy
  rcases hy with rfl|rfl|rfl|rfl
  .exact Fo.at hF (k:=0) U
  .exact Fo.at hF (k:=1) U
  .exact Fo.at hF (k:=2) U
  .exact O.jone.jr
 .have q1:=Dd hF 0 1 rfl rfl;have q2:=Dd hF 0 2 rfl rfl;have q3:=Dd hF 1 2 rfl rfl;simp[q1,q2,q3,hb.2,h1.2,h2.2]
 .simp only[qac,qam,or_false]at hy
  rcases hy with rfl|rfl|rfl|rfl
  .exact hno hb.1 (Dd hF 0 4 U U) (Dd hF 0 5 U U) (Dd hF 0 3 U U)
  .exact hno h1.1 (Dd hF 1 4 U U) (Dd hF 1 5 U U) (Dd hF 1 3 U U)
  .exact hno h2.1 (Dd hF 2 4 U U) (Dd hF 2 5 U U) (Dd hF 2 3 U U)
  .exact hno O.jone.nF (Ne.symm hba.2) (Ne.symm hbt.2) (Ne.symm hbp.2)
 .rcases hy with(hy|rfl)|hy
  .exact(O.jone.own.own y hy).1
  .exact O.jone.ge
  .exact O.ge y hy
theorem Gk.sok(g:Gk w0 w p A P F (jrK 2 R R.L) gen root n l o1 o2)(sg:SG N A R x.V)(h:x.gen=gen/\x.root=root/\x.n=n/\x.P=P/\x.kv=EE l)(hM:Ek str (mi x.t) o2)(hn : -(200*x.T)<=x.n/\x.n<=200*x.T)(ht:∀q∈x.t,0<=q.2/\q.2<=x.T)(hT:0<=x.T/\x.T<=4000000)(hz:∀y,p.z y->y<w.heap.size):Sok w0 w p A R x F:=by
 obtain⟨rfl,rfl,rfl,rfl,hkv⟩:=h;have hno:∀{y:Nat},¬TM F p.ba p.bt p.bp [] y->¬F y/\y≠p.ba/\y≠p.bt/\y≠p.bp:=fun h=>⟨fun q=>h (.inl q),fun q=>h (.inr (.inl q)),fun q=>h (.inr (.inr (.inl q))),fun q=>h (.inr (.inr (.inr (.inl q))))⟩;have hb:=hno (g.O.off _ (qad (i:=0) rfl));have h1:=hno (g.O.off _ (qad (i:=1) rfl));have h2:=hno (g.O.off _ (qad (i:=2) rfl));have hj:=hno (g.O.off _ (qad (i:=3) rfl));have b0:=Dd g.O 0 3 rfl rfl;have b1:=Dd g.O 1 3 rfl rfl;have b2:=Dd g.O 2 3 rfl rfl;have hfj:∀{y:Nat},¬F y->y≠p.bj->¬Fj F p.bj y:=fun q1 q2 h=>h.elim q1 q2
 have hpt:p.bp≠p.bt:=fun h=>by
  have h5:=g.T.pg.hd;rw[h,g.T.tr]at h5;simp[Bl,Qd]at h5
 refine⟨⟨g.own,Fo.at g.O (k:=3) rfl,hj.1,g.ge _ (.inl (.inr U))⟩,by rw[sg.len];exact sg,⟨l,o1,o2,⟨fun y hy=>?_,?_,fun y hy=>?_⟩,g.K,hkv.symm,hM⟩,fun q hq=>g.ge q (.inr hq),hn,ht,hT,hz⟩
 .simp only[Sp.blk,qac,qam,or_false]at hy
  rcases hy with rfl|rfl|rfl|rfl|rfl|rfl
  .exact Fo.at g.O (k:=0) U
  .exact Fo.at g.O (k:=1) U
  .exact Fo.at g.O (k:=2) U
  .exact g.T.pg.hd
  .exact g.T.pg.st
  .exact g.T.tr
 .have q1:=Dd g.O 0 1 rfl rfl;have q2:=Dd g.O 0 2 rfl rfl;have q3:=Dd g.O 1 2 rfl rfl;simp[Sp.blk,q1,q2,q3,hb.2.1,hb.2.2.1,hb.2.2.2,h1.2.1,h1.2.2.1,h1.2.2.2,h2.2.1,h2.2.2.1,h2.2.2.2,g.T.pg.ne,hpt,Ne.symm g.T.nbt.2]
 .simp only[Sp.blk,qac,qam,or_false]at hy
  rcases hy with rfl|rfl|rfl|rfl|rfl|rfl
  .exact hfj hb.1 b0
  .exact hfj h1.1 b1
  .exact hfj h2.1 b2
  .exact hfj g.T.nbp (Ne.symm hj.2.2.2)
  .exact hfj g.T.nba (Ne.symm hj.2.1)
  .exact hfj g.T.nbt.1 (Ne.symm hj.2.2.1)
theorem Afn(P:List Nat):((Hj P P.length).map fun x:Nat=>(x:Int)).Pairwise (·<=·):=by
 rw[qbs];unfold Hj;exact(List.Pairwise.filter _ List.pairwise_lt_range).imp fun h=>by omega
def CkC(N:Nat)(A:Dev)(x:Sx)(L:List Pr)(b:Nat)(A':Dev)(R':Rj)(x':Sx):Prop :=
 (∃M' S',Alv N A' R' x' M' S' [] L b)/\(A.left = -1->A'.left = -1)/\x'.kv=x.kv/\x'.n=x.n/\x'.T=x.T
def CkZ(N:Nat)(A:Dev)(L:List Pr)(b:Nat)(A':Dev):Prop:=A.left ≠ -1/\∀picks,Bk N b L (onD A' picks)
theorem TI(O:Sok w0 w p A R x F)(a:Alv N A R x M S Ws L b)(hb:b<=1000000:=by omega):
  Ret prog 16 #[ptr p.bs] w (CkOut w0 p F (CkC N A x L (b+1)) (CkZ N A L (b+1)) w):=by
 have h3:∀s∈x.P,s<=3:=fun s hs=>by rcases a.p01 s hs with rfl|rfl <;> decide
 have hn:=a.d.n;have hlen:=a.sg.len;have hP:=a.len;have hg:=a.gen;have hq:=a.seq;have hok:=a.sg.ok;obtain⟨l,o1,o2,g,hk,hM⟩:=O.gk h3 (by omega);obtain⟨k1,k2,k3,k4⟩:=a.keys;obtain⟨gb,gf,go⟩:=a.grow;obtain⟨m1,m2⟩:=a.d.most;have hnum:=a.d.num;have hhalf:=a.d.half;have hlo:=II a.d.nd a.mem;have hkl:KL (EE l) L:=by rw[hk];exact a.kl
 have hroot:(ckG N A x L).1=0 -> -1<=(ckG N A x L).2.1/\(ckG N A x L).2.1<=4294967294:=fun h0=>by
  obtain⟨-,on1,TT,-⟩:=go.resolve_left (fun h=>by have:=h.1;omega);have hl1:=gb.len;obtain⟨S1,td,-⟩:=TT.told on1 (by rw[gb.blen];omega) (by omega);have:=td.rlo;have:=td.rhi;omega
 have hat:R.at'<360:=by
  have h1:=a.d.z;unfold Rj.at';rw[h1];exact qbm _ (by decide)
 have hgrow:∀(z:World) (F1:Mut),Gk w0 z p A x.P F1 (jrK 2 R R.L) x.gen x.root x.n l o1 o2->Ret prog 53 #[ptr p.bs] z fun v w'=>v=.int .i64 (ckG N A x L).1/\∃F' root',Gk w0 w' p (ckG N A x L).2.2.1 (ckG N A x L).2.2.2 F' (jrK 2 R R.L) x.gen root' x.n l o1 o2/\((ckG N A x L).1=0->root'=(ckG N A x L).2.1)/\Grown (Ms F1 p) (Ms F' p) z w':=fun z F1 gz=>by
  have h:=Akf (h:=(N - 362) / 2) (S:=Hj x.P x.P.length) gz hM k1 k3 hkl a.d.okL k4 a.tree a.p01 (Acw _) (Y6 _) (Afn _) a.sg.on a.sg.good.few (by rw[hlen];exact(MB hn).symm) (by unfold Hl at hlo;omega) m1 m2;rw[hk]at h;exact h
 refine(Afl g hM U hgrow gf hroot (by show R.at'<_;omega) (by show R.seq+R.L.length<_;omega)).mono fun v w' h=>?_
 rcases h with⟨hv,⟨h0,h1,h2⟩,F',o2',g',hM',G'⟩|⟨e,A',F',root',hv,he,hbad,O',hnF,hbs,G'⟩
 .obtain⟨V3,S',a',hl'⟩:=a.done hb h0 h1 h2;refine⟨0,_,F',hv,G',.inl ⟨rfl,R.forget,_,?_,⟨L,S',a'⟩,hl',rfl,rfl,rfl⟩⟩;have hjr:jrK 2 R.forget R.forget.L={ jrK 2 R R.L with taken:=0 }:=ZV hok;rw[<-hjr]at g';exact g'.sok a'.sg ⟨rfl,rfl,rfl,rfl,hk.symm⟩ hM' O.nn (fun q hq=>by cases hq) O.tT (fun y hy=>qau (O.zl y hy) G'.1.size)
 .obtain⟨rfl,hl,hoff,hfw,hbk⟩:=a.cut hb he hbad;exact⟨8,A',F',hv,G',.inr ⟨rfl,⟨O',⟨_,_,_,_,_,_,hbs⟩,hnF,O.ge p.bs (by simp[Sp.own]),hoff,hfw⟩,hl,hbk⟩⟩
end
def DF(N:Nat)(L:List Pr)(W:List Wr):Int:=if 1000<W.length then 6 else if Hk [] W=true then(if Da N<Bx (Ep L W)then 7 else 0)else 1
def Lv(w0 w:World)(p:Sp)(A:Dev)(F:Mut)(N b:Nat)(L:List Pr):Prop :=
 ∃R x M S Ws,Sok w0 w p A R x F/\Alv N A R x M S Ws L b/\x.T<=80000+500*(b:Int)
section
variable {w0 w w':World}{p:Sp}{N b:Nat}{A A':Dev}{M L:List Pr}{F F':Mut}
theorem CkOut.weak{C C':Dev->Rj->Sx->Prop}{Z Z':Dev->Prop}{v:Value}(h:CkOut w0 p F C Z w v w')(hC:∀{A' R' x'},C A' R' x'->C' A' R' x')(hZ:∀{A'},Z A'->Z' A'):CkOut w0 p F C' Z' w v w':=by
 obtain⟨e,A',F',hv,hG,h⟩:=h;exact⟨e,A',F',hv,hG,h.imp (fun⟨h1,R',x',h2,h3⟩=>⟨h1,R',x',h2,hC h3⟩) fun⟨h1,h2,h3⟩=>⟨h1,h2,hZ h3⟩⟩
theorem Lv.call(O:Lv w0 w p A F N b L)(hx:Ext [] w w'):Lv w0 w' p A F N b L :=
 let ⟨R,x,M,S,Ws,h1,h2,h3⟩:=O;⟨R,x,M,S,Ws,h1.call hx,h2,h3⟩
theorem Lv.mono(O:Lv w0 w p A F N b L){b':Nat}(h:b<=b'):Lv w0 w p A F N b' L :=
 let ⟨R,x,M,S,Ws,h1,h2,h3⟩:=O;⟨R,x,M,S,Ws,h1,h2.mono h,by omega⟩
theorem Nx{W:List Wr}(h:DF N L W=0):W.length<=1000/\(∀y∈W,y.Few/\1<=y.k.length)/\(Bx (Ep L W):Int)<=Da N:=by
 unfold DF at h
 by_cases h1:1000<W.length
 .rw[if_pos h1]at h;cases h
 .rw[if_neg h1]at h
  by_cases h2:Hk [] W=true
  .rw[if_pos h2]at h
   by_cases h3:Da N<Bx (Ep L W)
   .rw[if_pos h3]at h;cases h
   .exact⟨by omega,Tu h2,by omega⟩
  .rw[if_neg h2]at h;cases h
def Cut9(w0 w:World)(p:Sp)(A:Dev)(F:Mut)(N b:Nat)(L L':List Pr)(w':World):Prop :=
 A.left ≠ -1/\∃A' F',Dd9 w0 w' p A' F'/\Grown (Ms F p) (Ms F' p) w w'/\∀picks,Bk N b L (onD A' picks)\/Bk N b L' (onD A' picks)
def Got9(w0 w:World)(p:Sp)(A:Dev)(F:Mut)(N b:Nat)(L':List Pr)(w':World):Prop :=
 ∃A' F',Lv w0 w' p A' F' N b L'/\Grown (Ms F p) (Ms F' p) w w'/\(A.left = -1->A'.left = -1)
theorem Y7(O:Lv w0 w p A F N b L)(a:Option Addr)(nn c:Nat)(W:List Wr)(X:Wrs w (Ms F p) a nn c W)(hb:b<=5000:=by omega)(hnn:nn<=1000000000:=by omega):
  Ret prog 13 #[ptr p.bs,.slice a nn c] w fun v w'=>(v=.int .i64 (DF N L W)/\Got9 w0 w p A F N (b+2) (if DF N L W=0 then Ep L W else L) w')\/(v=.int .i64 8/\DF N L W=0/\W≠[]/\Cut9 w0 w p A F N (b+2) L (Ep L W) w'):=by
 obtain⟨R,x,M,S,Ws,O,a1,hT⟩:=O;have hlen:=a1.sg.len;have hr:Ef x.kv x.n (Da A.B.length) W=DF N L W:=by rw[hlen,a1.n];exact a1.kl.right _ _
 have hz:=a1.d.z;refine(Nq (C:=fun A1 R1 x1=>(∃M' S' Ws',Alv N A1 R1 x1 M' S' Ws' L (b+1))/\(A.left = -1->A1.left = -1)/\x1.kv=x.kv/\x1.n=x.n/\x1.T=x.T/\BF R1.L+blk (opB W).length<=R1.size) (Z:=CkZ N A L (b+1)) O a nn c W X hnn (by omega) (fun⟨⟨M',S',Ws',h1⟩,h2,h3,h4,h5,h6⟩=>⟨h3,h4,h5,h1.sg.len.trans hlen.symm,h6⟩) (fun _ _ h=>⟨⟨M,S,Ws,a1.mono (qdd b)⟩,id,rfl,rfl,rfl,h⟩) (fun w1 hx h0 _ _=>(TI (O.call hx) a1).mono fun v w' h=>h.weak (fun⟨⟨M',S',h1⟩,h2,h3,h4,h5⟩=>⟨⟨M',S',[],h1⟩,h2,h3,h4,h5,?_⟩) id)).mono fun v w' h=>?_
 .rw[hr]at h0;obtain⟨r1,r2,-⟩:=Nx h0;have h6:=Om (L:=W) fun y hy=>(r2 y hy).1;have h7:=Er (opB W).length;have h8:=h1.d.ws;rw[h8,h1.d.z];show 0+blk _<=360;unfold blk at h7 |-;omega
 .unfold An4 at h;rw[hr]at h
  rcases h with⟨hv,h,O',hx⟩|⟨h0,hne,hv,A1,R1,x1,A',F',V',⟨⟨M',S',Ws',h1⟩,h2,h3,h4,h5,-⟩,O',hln,hle,hV,G⟩|⟨h0,hne,hv,A',F',O',G,h⟩
  .refine .inl ⟨hv,A,F,?_,Grown.call hx,id⟩
   have hL:(if DF N L W=0 then Ep L W else L)=L:=by
    rcases h with h|rfl
    .rw[if_neg h]
    .split <;> rfl
   rw[hL];exact⟨R,x,M,S,Ws,O',a1.mono (by omega),by omega⟩
  .obtain⟨r1,r2,r3⟩:=Nx h0
   have g:SG N A' (R1.more (opB W)) V':=by
    have:=O'.good;rw[hln,hlen]at this;exact this
   have h9:=h1.more (T:=x1.T+W.length) ⟨r1,r2⟩ r3 g fun q q1 q2=>hV q q1 (by omega);refine .inl ⟨by rw[hv,h0],A',F',?_,G,fun h=>hle (h2 h)⟩;rw[if_pos h0];exact⟨_,_,M',S',_,O',h9,by show x1.T+W.length<=_;omega⟩
  .obtain⟨r1,r2,r3⟩:=Nx h0
   rcases h with h|⟨A1,R1,x1,⟨⟨M',S',Ws',h1⟩,h2,h3,h4,h5,-⟩,h6,h7⟩
   .exact .inr ⟨hv,h0,hne,h.1,A',F',O',G,fun picks => .inl ((h.2 picks).mono (by omega))⟩
   .refine .inr ⟨hv,h0,hne,fun h=>h6 (h2 h),A',F',O',G,fun picks=>?_⟩;obtain⟨q1,V',q2,q3⟩:=h7 picks;rw[hlen]at q2 q3;exact h1.torn ⟨r1,r2⟩ r3 q1 q2 q3
theorem Aaj(O:Lv w0 w p A F N b L)(hb:b<=5000:=by omega):
  Ret prog 16 #[ptr p.bs] w fun v w'=>(v=.int .i64 0/\Got9 w0 w p A F N (b+2) L w')\/(v=.int .i64 8/\Cut9 w0 w p A F N (b+2) L L w'):=by
 obtain⟨R,x,M,S,Ws,O,a1,hT⟩:=O;refine(TI O a1).mono fun v w' ⟨e,A',F',hv,G,h⟩=>?_
 rcases h with⟨rfl,R',x',O',⟨M',S',h1⟩,h2,h3,h4,h5⟩|⟨rfl,O',h1,h2⟩
 .exact .inl ⟨hv,A',F',⟨R',x',M',S',[],O',h1.mono (by omega),by omega⟩,G,h2⟩
 .exact .inr ⟨hv,h1,A',F',O',G,fun picks => .inl ((h2 picks).mono (by omega))⟩
theorem Akh(O:Lv w0 w p A F N b L)(a:Option Addr)(c:Nat)(k:Byt)(Rk:Rd w a 1 B8 k) :
  Ret prog 26 #[ptr p.bs,.slice a k.length c] w fun v w'=>∃a' c',v=.tuple #[.slice a' ((DO L k).getD []).length c',.bool (DO L k).isSome,.int .i64 0]/\Rd w' a' 1 B8 ((DO L k).getD [])/\Ext [] w w':=by
 obtain⟨R,x,M,S,Ws,O,a1,hT⟩:=O;refine(Wo O a c k Rk).mono fun v w' ⟨a',c',hv,hR,_,hx⟩=>?_;rw[a1.kl.get]at hv hR;exact⟨a',c',hv,hR,hx⟩
theorem Aak(O:Lv w0 w p A F N b L):Ret prog 25 #[ptr p.bs] w fun v w'=>v=.int .i64 (Bx L:Int)/\w=w':=by
 obtain⟨R,x,M,S,Ws,O,a1,hT⟩:=O;have h:=Vf O;rw[a1.n]at h;exact h
theorem Lv.nums(O:Lv w0 w p A F N b L):442<=N/\N<=841/\L.length<=10000/\Bx L<=50000/\(Bx L:Int)<=Da N/\Rising L/\OkP L:=by
 obtain⟨R,x,M,S,Ws,O,a1,hT⟩:=O;exact⟨a1.d.n.1,a1.d.n.2,a1.d.num.1,a1.d.num.2,a1.d.room,a1.d.riseL,a1.d.okL⟩
theorem Vw(O:Lv w0 w p A F N b L)(fa ta:Option Addr)(fc tc:Nat)(kf kt:Byt)(Rf:Rd w fa 1 B8 kf)(Rt:Rd w ta 1 B8 kt) :
  Ret prog 20 #[ptr p.bs,.slice fa kf.length fc,.slice ta kt.length tc] w fun v w'=>∃a c,v=.tuple #[.slice a (Ga kf kt L).length c,.int .i64 0]/\Prs w' (Old w) a (Ga kf kt L).length c (Ga kf kt L)/\Ext [] w w':=by
 have hn:=O.nums;obtain⟨R,x,M,S,Ws,O,a1,hT⟩:=O;refine(Yi O a1.kl.nd (by rw[a1.kl.len];omega) fa ta fc tc kf kt Rf Rt).mono fun v w' ⟨a',c',hv,hP,_,hx⟩=>?_;rw[a1.kl.scan]at hv hP;exact⟨a',c',hv,hP,hx⟩
theorem Lv.off(O:Lv w0 w p A F N b L)(picks:List Int):Bk N b L (onD (KF A) picks):=by
 obtain⟨R,x,M,S,Ws,O,a1,hT⟩:=O;exact a1.off picks
theorem Lv.bs(O:Lv w0 w p A F N b L):Own w0 w p.bd A F/\Bs N b L A:=by
 obtain⟨R,x,M,S,Ws,O,a1,hT⟩:=O;exact⟨O.jone.own,R,x.V,x.gen,x.root,M,S,Ws,a1.sg,a1.d,a1.gen,a1.seq.1,a1.seq.2⟩
end
theorem Acx{k:Byt}:∀K:List Pr,(K.filter fun p=>decide (ltB p.1 k)).length+(K.filter fun p=>decide (ltB k p.1)).length<=K.length
 | []=>qae _
 |p::K=>by
  have ih:=Acx (k:=k) K;rw[qbk,qbk,qav]
  by_cases h8:ltB p.1 k
  .rw[qal h8,qag (Fp h8),if_pos rfl,if_neg (by decide),qav];omega
  .rw[qag h8,if_neg (by decide)]
   split
   .rw[qav];omega
   .omega
theorem Amu(K:List Pr)(x:Wr):(doP K x).length<=K.length+1:=by
 unfold doP
 split
 .exact Nat.le_succ_of_le (qel ..)
 .unfold HU;rw[qan,qav];exact Nat.succ_le_succ (Acx (k:=x.k) K)
theorem Y9:∀(V:List Wr) (K:List Pr),(Ep K V).length<=K.length+V.length
 | [],K=>qae _
 |x::V,K=>by
  have h5:=Y9 V (doP K x);have h6:=Amu K x;rw[qav];show(Ep (doP K x) V).length<=_;omega
abbrev TRf:TypeId:=38
theorem Aal{w:World}{M M2:Mut}{br:Nat}{a a2:Option Addr}{n c m c2 N:Nat}{L:List Pr}{W:List Wr}(hb:w.heap[br]?=some (Bl TRf [.slice a n c,.int .i64 (Da N)]))(hbr:M br)(PL:Prs w M a n c L)(X:Wrs w M2 a2 m c2 W)(hM:∀x,M x->x<w.heap.size)(hL:Rising L)(ho:OkP L)(hl:∀y∈W,y.k.length<=1000000)(hn:n<=100000)(hm:m<=1000000:=by omega):
  Ret prog 15 #[ptr br,.slice a2 m c2] w fun v w'=>v=.int .i64 (DF N L W)/\∃a' c',Prs w' M a' (if DF N L W=0 then Ep L W else L).length c' (if DF N L W=0 then Ep L W else L)/\w'.heap[br]?=some (Bl TRf [.slice a' (if DF N L W=0 then Ep L W else L).length c',.int .i64 (Da N)])/\Ext [br] w w':=by
 obtain⟨w0,rfl⟩:=qD w;have hmW:=X.num;have hnL:=PL.num
 have keep:∀{z:World} {e:Int},Ext [] w0 z->e≠0->DF N L W=e->∃a' c',Prs z M a' (if DF N L W=0 then Ep L W else L).length c' (if DF N L W=0 then Ep L W else L)/\z.heap[br]?=some (Bl TRf [.slice a' (if DF N L W=0 then Ep L W else L).length c',.int .i64 (Da N)])/\Ext [br] w0 z:=fun{z e} hz h1 h2=>by
  rw[h2,if_neg h1,<-hnL];exact⟨a,c,PL.turn (Grown.call hz),hz.to hb (by simp),hz.mono (by simp)⟩
 refine A8 (fn:=f15) func15 U [ptr br,.slice a2 m c2] U (Ad (Ac U (qA (Ar (Ad (Ah U (AO Cn U (BZ U U (qA (Av _ U ?_ ?_))))))))))
 .intro h1;replace h1:=AR h1;have hr:DF N L W=6:=by unfold DF;rw[if_pos (by omega)]
  refine Ad (Ac U (qA (A6 (Ao (AG (v:=(.int _ _)) U U U ?_)))));exact⟨by rw[hr],keep (.refl _ _) (by decide) hr⟩
 .intro h1;replace h1:=AU h1;refine Ap (Aa (Ar (Ad (Ah U (Aj qB (Amp X hl) U ?_)))));rintro v w ⟨rfl,hx10⟩;refine Cl U (qA (Av _ U ?_ ?_))
  .intro h2;replace h2:=C8 h2;have hr:DF N L W=1:=by unfold DF;rw[if_neg (by omega),if_neg (by simpa using h2)]
   refine Ad (Ac U (qA (A6 (Ao (AG (v:=(.int _ _)) U U U ?_)))));exact⟨by rw[hr],keep hx10 (by decide) hr⟩
  .intro h2;replace h2:=CA h2;have h2':Hk [] W=true:=by simpa using h2
   have hfew:=Tu h2';have hdo:=QD ho hfew;have hr:DF N L W=if Da N<Bx (Ep L W)then 7 else 0:=by unfold DF;rw[if_neg (by omega),if_pos h2']
   have hs:=hx10.to hb (by simp);have hlen17:=Y9 W L;refine Ap (Aa (Ad (An U (A7 U (Af HG U (Bd Il U ((by rw[Aq hs];rfl)) ?_))))));refine Ah U (Aj qB (Aj8 (PL.turn (Grown.call hx10)) (X.call hx10) (fun y hy=>qau (hM y hy) hx10.size) hL ho hfew) U ?_);rintro v w17 ⟨a17,c17,rfl,P17,hx17⟩;have hs17:=hx17.to hs (by simp);have hx2:=hx10.trans hx17;have H:=Ctx.start w17 [];refine Ak U (qA (Ar (BV [([0,2,3,4,5],1),([],6)] (fun z=>z.heap[br]?=some (Bl TRf [.slice a n c,.int .i64 (Da N)])) [] mixed ((H.drew.ext.to hs17 (by simp))) ?_)));refine AD U U (B9 U (C1 U (Bm U (AC Ak9 U (BC DV U (fun _ hx=>(by rw[Aq hx];rfl)) ?_)))));refine AV ?_;replace H:=H.drew;refine Aj qB (Vo (P17.turn (Grown.call H.ext)) (fun q hq=>by have:=hdo q hq;omega)) U ?_;rintro v w ⟨rfl,hx19⟩
   replace H:=H.call hx19;refine Ab (Bb ((H.ext.to hs17 (by simp))) ?_);refine AD U U (AV (BZ U U (Ab (Bb ((H.ext.to hs17 (by simp))) ?_))));refine B4 (Av _ U ?_ ?_)
   .intro h3;replace h3:=AR h3;have hr7:DF N L W=7:=by rw[hr,if_pos (by omega)]
    refine Ad (Ac U (qA (A6 (Ao (AG (v:=(.int _ _)) U U U ?_)))));exact⟨by rw[hr7],keep (hx2.trans H.ext) (by decide) hr7⟩
   .intro h3;replace h3:=AU h3;have hr0:DF N L W=0:=by rw[hr,if_neg (by omega)]
    have P18:=P17.turn (Grown.call H.ext);have hx3:=hx2.trans H.ext;have hs3:=hx3.to hb (by simp);clear H;have H:=Ctx.start1 hs3;refine Ap (Aa (Ad (An U (Ah U (A7 U (Af HG U (Bf (.slice _ _ _) Se U U U H at0 (by(simp;done)) ?_)))))));rintro w H;refine qA (Ad (Ac U (qA (A6 (AG (v:=(.int _ _)) U U U ?_)))));rw[hr0,if_pos rfl];refine⟨rfl,a17,c17,P18.turn ⟨Turn.of H.ext fun y hy=>?_,fun _ h => .inl h⟩,H.get at0,(hx3.mono (by simp)).trans H.ext⟩;rw[qaa.1 hy];exact hbr
theorem Aki{w:World}{M:Mut}(hM:∀x,M x->x<w.heap.size){br:Nat}{a fa ta:Option Addr}{n c fc tc:Nat}{room:Int}{L:List Pr}{kf kt:Byt}(hb:w.heap[br]?=some (Bl TRf [.slice a n c,.int .i64 room]))(PL:Prs w M a n c L)(Rf:Rd w fa 1 B8 kf)(Rt:Rd w ta 1 B8 kt)(hl:∀p∈L,p.1.length<=1000)(hn:n<=100000000:=by omega)(hf:kf.length<=1000000:=by omega)(ht:kt.length<=1000000:=by omega):
  Ret prog 22 #[ptr br,.slice fa kf.length fc,.slice ta kt.length tc] w fun v w'=>∃a' c',v=.slice a' (Ga kf kt L).length c'/\Prs w' M a' (Ga kf kt L).length c' (Ga kf kt L)/\Ext [] w w':=by
 obtain⟨w0,rfl⟩:=qD w;obtain⟨ps,Rp,-,hps,hp⟩:=PL.ex;have hnL:=PL.num;have hpn:ps.length=n:=by rw[hnL,<-hps,qai]
 refine A8 (fn:=Tryz.f22) func22 U [ptr br,.slice fa kf.length fc,.slice ta kt.length tc] U (Ad (Ak U (qA (Ad (Ak U (qA (Ar (Ad (Ac U (qA ?_))))))))));refine AB (B6 144115188075855744 (α:=Nat × Option Addr × Nat × Nat × List Value × List Im) (fun s=>[(8,.int .i64 (s.1:Int)),(7,.slice s.2.1 s.2.2.1 s.2.2.2.1)]) (fun s w'=>s.1<=n/\s.2.2.1<=s.1/\Ctx w0 [] w' (ent s.2.1 68 s.2.2.2.2.1)/\OS s.2.1 s.2.2.1 s.2.2.2.1 2 s.2.2.2.2.1 (s.2.2.2.2.2.flatMap Gz)/\s.2.2.2.2.2.map (fun m=>prI m.it)=Ga kf kt (L.take s.1)/\∀m∈s.2.2.2.2.2,m.Ok w0 M) (fun s=>n - s.1) (0,none,0,0,[],[]) U ?_ ?_ ?_)
 .exact⟨rfl,rfl,trivial⟩
 .exact⟨qak _,qae _,Ctx.start w0 [],OS.nil,rfl,fun m h=>by cases h⟩
 .rintro⟨i,a5,n5,c5,f5,qs⟩ j w ⟨hi,hn5,H,O,hq,hok⟩;dsimp only at hi hn5 H O hq hok;dsimp only;refine Ar (Ad (Ae U (An U (A7 U (Af HG U (Bd Il U ((by rw[Aq (H.ext.to hb (by simp))];rfl)) ?_))))));refine AO Cb U (Bj U U (qA (Av _ U ?_ ?_)))
  .intro hB;replace hB:=AR hB;obtain⟨x,hx1⟩:=AP (l:=ps) (i:=i);have hxo:=hp x (qad hx1);have hxL:L[i]?=some (prI x.it):=by rw[<-hps,qas,hx1];rfl
   have hxl:=hl _ (qad hxL);dsimp only[prI]at hxl;have hsn:=ZL (kf:=kf) (kt:=kt) (A:=L.take i) (p:=prI x.it);rw[<-Bp hxL]at hsn;simp only[show(prI x.it).1=x.it.key from rfl]at hsn;obtain⟨w1,rfl⟩:=qD w;have hx:=H.ext;refine Ap (Aa (Ar (AB (QP 140737488093184 (α:=Unit) (fun _=>[(46,.bool (inR kf kt x.it.key))]) (fun _ w'=>Ctx w0 [] w' (ent a5 68 f5)) U ?_ ?_))))
   .skip
    refine Au (An U (A7 U (Af HG U (Bd Il U ((by rw[Aq (H.ext.to hb (by simp))];rfl)) ?_))));refine Ae U (AY Rp Cb CR U U ?_);refine Af Fa U (Bd B1 U ((Rp.ext0 hx).fld hx1 U (j:=0) U) ?_);refine Ah U (Aj qB (M6 x.ka fa x.kc fc x.it.key kf _ (hxo.k.1.ext0 hx) (Rf.ext0 hx) (by omega)) U ?_);rintro v w ⟨rfl,hx27⟩;replace H:=H.call hx27;replace hx:=H.ext;refine Ie U U (AF U (AQ 29 U ?_ ?_))
    .intro hC;replace hC:=AR hC;have hC':¬ltB x.it.key kf:=Q7.1 hC;refine Ah U (AO AX U (BA U U (AF U (AQ 33 U ?_ ?_))))
     .intro hD;replace hD:=AR hD;refine Ag U (Ag U (Ag U (Ag U (Ag U (Ag U (Ag U (Ag U (Ag U (Ag U ?_)))))))));refine Ag U (AN U (.bool _) U (AN U (.bool _) U (qA ?_)));exact⟨(),rfl,⟨qab Value.bool (by unfold inR;rw[qag hC',qal (show kt.length=0 by omega)];rfl),trivial⟩,H⟩
     .intro hD;replace hD:=AU hD;refine An U (A7 U (Af HG U (Bd Il U ((by rw[Aq (H.ext.to hb (by simp))];rfl)) ?_)));refine Ae U (AY Rp Cb CR U U ?_);refine Af Fa U (Bd B1 U ((Rp.ext0 hx).fld hx1 U (j:=0) U) ?_);refine Ah U (Aj qB (M6 x.ka ta x.kc tc x.it.key kt _ (hxo.k.1.ext0 hx) (Rt.ext0 hx) (by omega)) U ?_);rintro v w ⟨rfl,hx43⟩;replace H:=H.call hx43;replace hx:=H.ext;refine Bj U U (AM U (.bool _) U (AN U (.bool _) U (qA ?_)));exact⟨(),rfl,⟨qab Value.bool (by unfold inR;rw[qag hC',qag (show ¬kt.length=0 by omega)];exact decide_eq_decide.2 Iw),trivial⟩,H⟩
    .intro hC;replace hC:=AU hC;have hC':ltB x.it.key kf:=Classical.not_not.1 fun h=>hC (Q7.2 h);refine Ag U (Ag U (Ag U (Ag U (Ag U (Ag U (Ag U (Ag U (Ag U (Ag U ?_)))))))));refine Ag U (Ag U (Ag U (Ag U (Ag U (Ag U (AM U (.bool _) U (qA ?_)))))));exact⟨(),rfl,⟨qab Value.bool (by unfold inR;rw[qal hC'];rfl),trivial⟩,H⟩
   .rintro - j46 w H;have hx:=H.ext;refine Av _ U ?_ ?_
    .intro hE;rw[if_pos hE]at hsn;refine Au (Ah U (An U (A7 U (Af HG U (Bd Il U ((by rw[Aq (H.ext.to hb (by simp))];rfl)) ?_)))));refine Ae U (AY Rp Cb CR U U ?_);refine EN _ Aa5 CR U U ((Rp.ext0 hx).row hx1 U) (BI (Gz x) (.agg _) Cb CR Fd U U U U H ?_);rintro b27 w - H;refine BL (L:=[]) Cb Cb CR NC Fd U U U H O U (Gl x) ?_;rintro a28 c28 f28 w H O28;refine Ak U (Ab (AE (Aa (Au (Ae U (Ay U U ?_))))));refine Ac U (qA ?_);refine⟨(i+1,a28,n5+1,c28,f28,qs++[x]),rfl,⟨rfl,rfl,trivial⟩,⟨by dsimp only;omega,by dsimp only;omega,H,by dsimp only;rw[qbc,qb0];exact O28,by dsimp only;rw[qay,hq,hsn];rfl,fun m hm=>?_⟩,by dsimp only;omega⟩;dsimp only at hm
     rcases qat.1 hm with hm|hm
     .exact hok m hm
     .rw[qaa.1 hm];exact hxo
    .intro hE;rw[if_neg (by rw[hE];simp),qa3]at hsn;refine Ap (AE (Aa (Au (Ae U (Ay U U ?_)))));refine Ac U (qA ?_);exact⟨(i+1,a5,n5,c5,f5,qs),rfl,⟨rfl,rfl,trivial⟩,⟨by dsimp only;omega,by dsimp only;omega,H,O,by dsimp only;rw[hsn];exact hq,hok⟩,by dsimp only;omega⟩
  .intro hB;replace hB:=AU hB;rw[qa6 (by omega)]at hq;have hl5:(Ga kf kt L).length=n5:=by rw[<-hq,qai];exact(O.numN (fun _ _=>rfl) (by decide)).symm
   refine B2 (Aw (Aw (AZ (Aa (Ad (Ah U (Ak U (qA (A6 (AG (v:=(.slice _ _ _)) U U U ?_))))))))));exact⟨a5,c5,by rw[hl5],Prs.of hM H O hok hq,H.ext⟩
structure Sg9 where
 d:Int
 la:Option Addr
 lc:Nat
 L:List Wr
 off:Bool
 pa:Option Addr
 pc:Nat
 P:List Int
def Vx(m:Sg9):List Value:=[.int .i64 m.d,.slice m.la m.L.length m.lc,.bool m.off,.slice m.pa m.P.length m.pc]
theorem Afo(m:Sg9):∀v∈Vx m,Bh v=true:=fun v hv=>by
 simp only[Vx,qac,qam,or_false]at hv
 rcases hv with rfl|rfl|rfl|rfl <;> rfl
structure Sg9.In(w:World)(m:Sg9):Prop where
 d : -9223372036854775808<=m.d/\m.d<=9223372036854775807
 l:Wrs w (fun _=>False) m.la m.L.length m.lc m.L
 ll:m.L.length<=1152921504606846976
 lw:∀y∈m.L,y.k.length<=1152921504606846976/\y.v.length<=1152921504606846976
 p:Rd w m.pa 1 (fun x:Int=>[.int .i64 x]) m.P
 pl:m.P.length<=1152921504606846976/\m.P.length<=m.pc
 pi:∀x∈m.P,-9223372036854775808<=x/\x<=9223372036854775807
def An5(m:Sg9):Prop:=m.L.length<=3000/\m.P.length<=3000/\∀y∈m.L,y.k.length+y.v.length<=300099
theorem Amv{w:World}{a:Option Addr}{n c:Nat}{ms:List Sg9}(R:Rd w a 4 Vx ms)(hn:ms.length=n)(hin:∀m∈ms,m.In w)(hn2:n<=1152921504606846976) :
  Ret prog 7 #[.slice a n c] w fun v w'=>∃bo:Bool,v=.bool bo/\(bo=true->n<=150/\∀m∈ms,An5 m)/\Ext [] w w':=by
 obtain⟨w0,rfl⟩:=qD w;refine A8 (fn:=f7) func7 U [.slice a n c] U (Ad (Am U (qA (Ad (Ac U (qA (Ar (Ad (Ac U (qA ?_))))))))));refine AB (B6 1180591620717411303416 (α:=Nat × Nat) (fun s=>[(4,.int .i64 (s.1:Int)),(3,.int .i64 (s.2:Int))]) (fun s w'=>s.1<=n/\Ext [] w0 w'/\20*s.1<=s.2/\s.2<=4000000000000000000/\(s.2<=3000->∀m∈ms.take s.1,An5 m)) (fun s=>n - s.1) (0,0) U ?_ ?_ ?_)
 .exact⟨rfl,rfl,trivial⟩
 .exact⟨qak _,.refl _ _,qae _,qak _,fun _ m h=>by cases h⟩
 .rintro⟨i,t⟩ j w ⟨hi,hE,ht,htb,hg⟩;dsimp only at hi ht htb hg;dsimp only;have hx:=hE;have H:=Ctx.start w [];refine Ar ?_;obtain⟨w1,rfl⟩:=qD w;refine QP 16320 (α:=Unit) (fun _=>[(13,.bool (decide (i<n) && decide (t<=3000)))]) (fun _ w'=>w'=w1) U ?_ ?_
  .skip
   refine Au (Ae U (Ah U (AO PV U (Bj U U (AF U (AQ 10 U ?_ ?_))))))
   .intro hA;replace hA:=AR hA;refine Ae U (MU U U (AN U (.bool _) U (qA ?_)));exact⟨(),rfl,⟨qab Value.bool (by rw[qal (show i<n by omega),qea];exact decide_eq_decide.2 (by omega)),trivial⟩,rfl⟩
   .intro hA;replace hA:=AU hA;refine Ag U (Ag U (AM U (.bool _) U (qA ?_)));exact⟨(),rfl,⟨qab Value.bool (by rw[qag (show ¬i<n by omega)];rfl),trivial⟩,rfl⟩
  .rintro - j13 w hw;rw[hw];clear hw;refine Av _ U ?_ ?_
   .intro hB;simp only[qao,qaq]at hB;obtain⟨x,hx1⟩:=AP (l:=ms) (i:=i);have hxi:=hin x (qad hx1);have hxl:=hxi.ll;have hxp:=hxi.pl;have hxd:=hE.trans (Ext.drew [] w1);obtain⟨ws,Rw,-,hws,hwo⟩:=hxi.l.ex;have hwn:ws.length=x.L.length:=by rw[<-hws,qai]
    refine Ap (Aa (Ar (AB (J9 (fun x=>x=_) mixed U ?_))));refine DK U (Fk U U ?_);refine Gm U (DK U (Ej R PV PX U U ?_));refine BP LZ U (Ig Ux U (by rintro _ rfl;exact((R.ext0 hxd).fld hx1 rfl (j:=1) rfl)) ?_);refine Ui U Cn U (Fk U U ?_);refine Gm U (DK U (Ej R PV PX U U ?_));refine BP Abg U (Ig IQ U (by rintro _ rfl;exact((R.ext0 hxd).fld hx1 rfl (j:=3) rfl)) ?_);refine Ui U FE U (Fk U U ?_);refine EO U (Js ?_);rintro _ rfl;replace H:=H.drew
    refine Ad (Ac U (qA (AB (B6 1180591620713116336168 (α:=Nat × Nat) (fun s=>[(5,.int .i64 (s.1:Int)),(3,.int .i64 (s.2:Int))]) (fun s w'=>s.1<=x.L.length/\Ext [] w0 w'/\t+20+x.L.length+x.P.length<=s.2/\s.2<=4000000000000000000/\(s.2<=3000->∀y∈x.L.take s.1,y.k.length+y.v.length<=300099)) (fun s=>x.L.length - s.1) (0,t+20+x.L.length+x.P.length) U ?_ ?_ ?_))))
    .exact⟨rfl,qab (Value.int .i64) (by push_cast;rfl),trivial⟩
    .exact⟨qak _,hxd,qae _,by omega,fun _ y h=>by cases h⟩
    .rintro⟨k,u⟩ j5 w ⟨hk,hE2,hu,hub,hgk⟩;dsimp only at hk hu hub hgk;dsimp only;have hx:=hE2;have H:=Ctx.start w [];refine Ar ?_;obtain⟨w2,rfl⟩:=qD w;refine QP 17587891077120 (α:=Unit) (fun _=>[(43,.bool (decide (k<x.L.length) && decide (u<=3000)))]) (fun _ w'=>w'=w2) U ?_ ?_
     .skip
      refine Au (Ae U (Ah U (Ae U (AY R PV PX U U ?_))));refine Af LZ U (Bd Ux U ((R.ext0 hx).fld hx1 U (j:=1) U) ?_);refine AO Cn U (Bj U U (AF U (AQ 40 U ?_ ?_)))
      .intro hA;replace hA:=AR hA;refine Ae U (MU U U (AN U (.bool _) U (qA ?_)));exact⟨(),rfl,⟨qab Value.bool (by rw[qal (show k<x.L.length by omega),qea];exact decide_eq_decide.2 (by omega)),trivial⟩,rfl⟩
      .intro hA;replace hA:=AU hA;refine Ag U (Ag U (AM U (.bool _) U (qA ?_)));exact⟨(),rfl,⟨qab Value.bool (by rw[qag (show ¬k<x.L.length by omega)];rfl),trivial⟩,rfl⟩
     .rintro - j43 w hw;rw[hw];clear hw;refine Av _ U ?_ ?_
      .intro hC;simp only[qao,qaq]at hC;obtain⟨y,hy1⟩:=AP (l:=ws) (i:=k);have hyL:x.L[k]?=some y.x:=by rw[<-hws,qas,hy1];rfl
       have hyl:=hxi.lw _ (qad hyL);have hyd:=hE2.trans (Ext.drew [] w2);refine Ap (Aa (Ar (AB (Aat (fun x=>x=_) mixed U ?_))));refine DK U (Gm U (DK U (Ej R PV PX U U ?_)));refine BP LZ U (Ig Ux U (by rintro _ rfl;exact((R.ext0 hyd).fld hx1 rfl (j:=1) rfl)) ?_);refine DK U (Ej Rw Cn Cw U U ?_);refine BP EK U (Ig B1 U (by rintro _ rfl;exact((Rw.ext0 hyd).fld hy1 rfl (j:=0) rfl)) ?_);refine Ui U AX U (Gm U (DK U (Ej R PV PX U U ?_)));refine BP LZ U (Ig Ux U (by rintro _ rfl;exact((R.ext0 hyd).fld hx1 rfl (j:=1) rfl)) ?_);refine DK U (Ej Rw Cn Cw U U ?_);refine BP EL U (Ig B1 U (by rintro _ rfl;exact((Rw.ext0 hyd).fld hy1 rfl (j:=1) rfl)) ?_)
       refine Ui U AX U (Fk U U ?_);refine q_quo U U U (by omega) (by omega) (show _<=(9223372036854775807:Int)by omega) (Fk U U ?_);refine EO U (Js ?_);rintro _ rfl;replace H:=H.drew;refine AE (Aa (Au (Ae U (Ay U U ?_))));refine Ac U (qA ?_);refine⟨(k+1,u+(y.x.k.length+y.x.v.length) / 100),rfl,⟨rfl,qab (Value.int .i64) (by push_cast;rfl),trivial⟩,⟨by dsimp only;omega,hyd,by dsimp only;omega,by dsimp only;omega,fun h z hz=>?_⟩,by dsimp only;omega⟩;dsimp only at h hz;rw[Bp hyL]at hz
       rcases qat.1 hz with hz|hz
       .exact hgk (by omega) z hz
       .rw[qaa.1 hz];omega
      .intro hC;simp only[qe5,qct]at hC;refine B2 (Aw (Aw (AZ (AE (Aa (Au (Ae U (Ay U U ?_))))))));refine Ac U (qA ?_);refine⟨(i+1,u),rfl,⟨rfl,rfl,trivial⟩,⟨by dsimp only;omega,hE2,by dsimp only;omega,hub,fun h m hm=>?_⟩,by dsimp only;omega⟩;dsimp only at h hm;rw[Bp hx1]at hm
       rcases qat.1 hm with hm|hm
       .exact hg (by omega) m hm
       .rw[qaa.1 hm];have hkl:k=x.L.length:=by omega
        have h9:=hgk h;rw[hkl,qbf]at h9;exact⟨by omega,by omega,h9⟩
   .intro hB;simp only[qe5,qct]at hB;refine B2 (Aw (Aw (AZ (Aa (Ad (Ae U (MU U U (Am U (qA (A6 (AG (v:=(.bool _)) U U U ?_)))))))))));refine⟨_,rfl,fun h=>?_,hE⟩;have h5:t<=3000:=by have:=qb6 h;omega
    have hin2:i=n:=by omega
    rw[hin2,<-hn,qbf]at hg;exact⟨by omega,hg h5⟩
def UB(w:World)(a:Option Addr)(n:Nat):Prop:=n=0\/∃b full,a=some ⟨b,0,none⟩/\w.heap[b]?=some (Bl 5 full)/\∀j,j<n->∃u:UInt8,full[j]?=some (bv u)
section
variable {ops rest:List Oper}{Q:Exit->Env->World->Prop}{e:Env}{w w':World}{dst:Option Tmp}{ty:TypeId}{pos:String}{af:Array Edge}{g:Option (Nat × Bool)}{r:Option Nat}
theorem UB.ext{S:List Nat}{a:Option Addr}{n:Nat}(h:UB w a n)(hx:Ext S w w')(hS:n=0\/(adr a).block∉S):UB w' a n:=by
 rcases h with h|⟨b,full,rfl,h1,h2⟩
 .exact .inl h
 .rcases hS with hS|hS
  .exact .inl hS
  .exact .inr ⟨b,full,rfl,hx.to h1 hS,h2⟩
theorem MC{x y:Operand}{b c2:Nat}{a2:Option Addr}{l:Byt}(hg:AJ ⟨dst,.call ⟨.builtin .append,#[x,y],#[24,24]⟩,ty,pos,af,g⟩ ops e=true)(hx:ev e x=.slice (some ⟨b,0,none⟩) 0 0)(hy:ev e y=.slice a2 l.length c2)(hb:w.heap[b]?=some (Bl 5 []))(R:Rd w a2 1 B8 l)(h:∀a' c' w',Ext [b] w w'->Rd w' a' 1 B8 l/\UB w' a' l.length->l.length<=c'->(l=[]\/(adr a').block=b\/w.heap.size<=(adr a').block)->AA prog r ops Q rest (put e dst (.slice a' l.length c')) w')(hl:l.length<=1000000:=by omega):
  AA prog r ops Q (⟨dst,.call ⟨.builtin .append,#[x,y],#[24,24]⟩,ty,pos,af,g⟩::rest) e w:=by
 refine DQ (L:=[]) (a:=some ⟨b,0,none⟩) (n:=0) (c:=0) (full:=[]) (l:=[]) hg AX AX CJ OZ IW U (l.map bv) hx hy (Ctx.start1 hb) ⟨(fun p hp=>by injection hp with hp;subst hp;rfl),(fun hp=>by cases hp),by simp,qae _,by simp⟩ (by simp) (Ht l) (Rd.appB R) fun a' c' full' w' H' O'=>?_;rw[qa2]at O' |-;have O2:OS a' l.length c' 1 full' (l.map bv):=by simpa using O'
 refine h a' c' w' H'.ext ⟨OS.rdB O2 fun y hy=>H'.blk y hy,?_⟩ O2.le ?_
 .cases ha:a' with
  |none =>
   left;have h8:=O2.none' ha;have h9:=O2.le;omega
  |some q =>
   right;have h8:=O2.zero q ha;have h7:=H'.blk (q.block,Bl 5 full') (by rw[ha];exact qaa.2 rfl);refine⟨q.block,full',by rw[h8],h7,fun j hj=>?_⟩;have h6:=qab (fun z:List Value=>z[j]?) O2.pre;rw[qdt,if_pos (by omega),qas,qbe hj]at h6;exact⟨_,h6⟩
 .cases ha:a' with
  |none =>
   left;have h8:=O2.none' ha;have h9:=O2.le;exact qa4 (by omega)
  |some q =>
   have h8:=H'.own (q.block,Bl 5 full') (by rw[ha];exact qaa.2 rfl);obtain⟨qb,qo,qs⟩:=q;exact .inr (h8.imp (fun h=>qaa.1 h) id)
end
structure Cpi(wi w:World)(e:List (Nat × Obj))(m:Wm):Prop where
 ok:m.Ok w (Mk wi e)
 uk:UB w m.ka m.x.k.length
 uv:UB w m.va m.x.v.length
section
variable {wi w1 wb wd w:World}{e9 e28 e:List (Nat × Obj)}{m:Wm}
theorem OH{l:Byt}{a:Option Addr}{S:List Nat}(h:l=[]\/(adr a).block∉S):l.length=0\/(adr a).block∉S:=h.imp (fun h=>by rw[h];rfl) id
theorem Cpi.step(h:Cpi wi w1 e9 m)(hx:Ext [] w1 wb)(H:Ctx wb (e9.map (·.1)) w e28):Cpi wi w e28 m :=
 ⟨⟨Ka h.ok.k hx H,Ka h.ok.v hx H,h.ok.kc,h.ok.vc⟩,(h.uk.ext hx (.inr (by simp))).ext H.ext (OH (h.ok.k.2.imp id fun h5 h6=>h5 (.inr h6))),(h.uv.ext hx (.inr (by simp))).ext H.ext (OH (h.ok.v.2.imp id fun h5 h6=>h5 (.inr h6)))⟩
theorem Cpi.call(h:Cpi wi w1 e m)(hx:Ext [] w1 w):Cpi wi w e m :=
 ⟨h.ok.call hx,h.uk.ext hx (.inr (by simp)),h.uv.ext hx (.inr (by simp))⟩
theorem Cpi.cons{b:Nat}{o:Obj}(h:Cpi wi wd e m)(Hb:Ctx wd [] w [(b,o)]):Cpi wi w ((b,o)::e) m:=by
 have hb:wd.heap.size<=b:=(Hb.own _ (qaa.2 rfl)).resolve_left (by simp)
 have key:∀{a:Option Addr} {l:Byt},Rdx wd (Mk wi e) a l->Rdx w (Mk wi ((b,o)::e)) a l:=fun{a l} ⟨R,hn⟩=>⟨R.ext0 Hb.ext,by
  rcases Rd.lt8 R with h5|h5
  .exact .inl h5
  .refine hn.imp id fun h6 h7=>?_
   rcases h7 with h7|h7
   .exact h6 (.inl h7)
   .rw[qaz,qac]at h7
    rcases h7 with h7|h7
    .omega
    .exact h6 (.inr h7)⟩
 exact⟨⟨key h.ok.k,key h.ok.v,h.ok.kc,h.ok.vc⟩,h.uk.ext Hb.ext (.inr (by simp)),h.uv.ext Hb.ext (.inr (by simp))⟩
end
theorem Wz{w w':World}{l:Byt}{b:Nat}{a:Option Addr}(U:UB w a l.length)(h:l=[]\/(adr a).block≠b)(hx:Ext [b] w w'):UB w' a l.length:=U.ext hx (OH (h.imp id fun h=>by simpa using h))
theorem Akj{w:World}{M:Mut}{a:Option Addr}{n c:Nat}{W:List Wr}(X:Wrs w M a n c W)(hl:∀y∈W,y.k.length<=1000000/\y.v.length<=1000000)(hn:n<=1000000:=by omega):
  Ret prog 12 #[.slice a n c] w fun v w'=>∃a' c' f',∃ms:List Wm,v=.slice a' W.length c'/\Ctx w [] w' (ent a' 56 f')/\OS a' W.length c' 3 f' (ms.flatMap CE)/\ms.map (·.x)=W/\∀m∈ms,Cpi w w' (ent a' 56 f') m:=by
 obtain⟨w0,rfl⟩:=qD w;obtain⟨ps,Rp,-,hps,hp⟩:=X.ex;have hmW:=X.num;have hpn:ps.length=n:=by rw[hmW,<-hps,qai]
 refine A8 (fn:=f12) func12 U [.slice a n c] U (Ad (Ak U (qA (Ad (Ak U (qA (Ar (Ad (Ac U (qA ?_))))))))));refine AB (B6 17179869176 (α:=Nat × Option Addr × Nat × List Value × List Wm) (fun s=>[(4,.int .i64 (s.1:Int)),(3,.slice s.2.1 s.1 s.2.2.1)]) (fun s w'=>s.1<=n/\Ctx w0 [] w' (ent s.2.1 56 s.2.2.2.1)/\OS s.2.1 s.1 s.2.2.1 3 s.2.2.2.1 (s.2.2.2.2.flatMap CE)/\s.2.2.2.2.map (·.x)=W.take s.1/\∀m∈s.2.2.2.2,Cpi w0 w' (ent s.2.1 56 s.2.2.2.1) m) (fun s=>n - s.1) (0,none,0,[],[]) U ?_ ?_ ?_)
 .exact⟨rfl,rfl,trivial⟩
 .exact⟨qak _,Ctx.start w0 [],OS.nil,rfl,fun m h=>by cases h⟩
 .rintro⟨i,a3,c3,f3,ms⟩ j w ⟨hi,H,O,hms,hok⟩;dsimp only at hi H O hms hok;dsimp only;have hx:=H.ext;refine Ar (Ad (Ae U (Ah U (AO Cn U (Bj U U (qA (Av _ U ?_ ?_)))))))
  .intro hB;replace hB:=AR hB;obtain⟨x,hx1⟩:=AP (l:=ps) (i:=i);have hxo:=hp x (qad hx1);have hxL:W[i]?=some x.x:=by rw[<-hps,qas,hx1];rfl
   have hxl:=hl _ (qad hxL);have hE2:=H.ext;obtain⟨w2,rfl⟩:=qD w;refine Ap (Aa (Ar (AB (Am5 (.two [0,2,3,4,5,6,9,10,11,12,13,15,16,17,18,19] 1 (.two [] 7 (.one [] 8 (.one [] 14 (.one [20] 21 (.one [] 22 (.one [] 23 .stop))))) 8 (.one [] 7 (.one [] 14 (.one [20] 21 (.one [] 22 (.one [] 23 .stop)))))) 8 (.one [] 1 (.one [] 7 (.one [] 14 (.one [20] 21 (.one [] 22 (.one [] 23 .stop))))))) (fun z=>Ext [] w0 z) mixed (hE2.trans (Ext.drew [] w2)) ?_))));refine V5 U U U (B9 U (B9 U (B0 U (BX Rp Cn Cw U U ?_))));refine AC EK U (BC B1 U (fun _ hx=>(Rp.ext0 hx).fld hx1 rfl (j:=0) rfl) ?_);refine B9 U (B0 U (BX Rp Cn Cw U U ?_));refine AC EL U (BC B1 U (fun _ hx=>(Rp.ext0 hx).fld hx1 rfl (j:=1) rfl) ?_)
   refine B9 U (B0 U (BX Rp Cn Cw U U ?_));refine AC Jt U (BC Ge U (fun _ hx=>(Rp.ext0 hx).fld hx1 rfl (j:=2) rfl) ?_);refine AV ?_;have E:=Ext.drew [] w2;refine⟨?_,?_⟩
   .skip
    refine HK ?_;rintro b1 wa Ea hn1 hb1;have hs1a:=E.size;replace E:=E.trans Ea;have E0:=hE2.trans E;refine Ab (Dh (E0) (V5 U U U ?_));refine AV ?_;refine⟨?_,?_⟩
    .skip
     refine MC U U U hb1 (hxo.k.1.ext0 (hE2.trans E)) ?_;rintro a1 c1 wc Ec R1 hc1 hs1;have hs3:=E.size;have hf1:=Ex (w2:=w2) hs1 hs3;replace E:=E.then Ec (fun x h => .inr (by rw[qaa.1 h];omega));have E0:=hE2.trans E;refine Ab (Dh (E0) (CT U U ?_));refine AV (HK ?_);rintro b2 wb Eb hn2 hb2;have hs2a:=E.size;replace E:=E.trans Eb;have hne:=Ajr R1.1 hn2;replace R1:=And.intro (R1.1.ext0 Eb) (R1.2.ext Eb (.inr (by simp)));have E0:=hE2.trans E;refine Ab (Dh (E0) (CT U U ?_));refine AV (MC U U U hb2 (hxo.v.1.ext0 (hE2.trans E)) ?_);rintro a2' c2' wd Ed R2 hc2 hs2;have hs4:=E.size;have hf2:=Ex (w2:=w2) hs2 hs4;replace R1:=And.intro (JU R1.1 hne Ed) (Wz R1.2 hne Ed);replace E:=E.then Ed (fun x h => .inr (by rw[qaa.1 h];omega));have E0:=hE2.trans E;refine Ab (Dh (E0) (CT U U ?_))
     refine EP (CE ⟨a1,c1,a2',c2',x.x⟩) PW F7 ?_;refine AV ?_;have hz:Cpi w0 wd (ent a3 56 f3) ⟨a1,c1,a2',c2',x.x⟩:=⟨⟨⟨R1.1,LL H hf1⟩,⟨R2.1,LL H hf2⟩,hc1,hc2⟩,R1.2,R2.2⟩;have HE:=H.call E;have Hs:=Ctx.start wd [];refine BI (CE ⟨a1,c1,a2',c2',x.x⟩) (.agg _) Cn Cw F7 U U U U Hs ?_;rintro b32 w32 - Hb;have HE2:=Ctx.comm (HE.callEnt Hb.ext (fun x hx=>⟨Hb.blk x hx,(Hb.own x hx).resolve_left (by simp)⟩) Hb.nd);replace hz:=hz.cons Hb;have E0:=HE2.ext;refine Ab (Dh (E0) (CT U U ?_));refine AV ?_;have Hs:=Ctx.startL HE2.blk HE2.nd;refine BL (L:=[]) Cn Cn Cw Aa8 F7 U U U Hs O U (FV ⟨a1,c1,a2',c2',x.x⟩) ?_;rintro a33 c33 f33 w33 H33 O33;have H34:=Nw HE2 H33;have E0:=H34.ext;refine Ab (Dh (E0) (CT U U ?_));refine AV (Ak U (Ab (Dh (E0) (LR ?_))));refine AE (Aa (Au (Ae U (Ay U U ?_))))
     refine Ac U (qA ?_);refine⟨(i+1,a33,c33,f33,ms++[⟨a1,c1,a2',c2',x.x⟩]),rfl,⟨rfl,rfl,trivial⟩,⟨by dsimp only;omega,H34,by dsimp only;rw[qbc,qb0];exact O33,by dsimp only;rw[qay,hms,Bp hxL];rfl,fun q hq=>?_⟩,by dsimp only;omega⟩
     rcases qat.1 hq with hq|hq
     .exact(((hok q hq).call E).cons Hb).step (.refl _ _) H33
     .rw[qaa.1 hq];exact hz.step (.refl _ _) H33
    .skip
     refine HK ?_;rintro b2 wb Eb hn2 hb2;have hs2a:=E.size;replace E:=E.trans Eb;have h12:b1≠b2:=(by have:=Al hb1;omega);replace hb1:wb.heap[b1]?=some (Bl 5 []):=(by rw[Eb.block b1 (Al hb1) (by simp)];exact hb1);have E0:=hE2.trans E;refine Ab (Dh (E0) (CT U U ?_));refine AV (MC U U U hb1 (hxo.k.1.ext0 (hE2.trans E)) ?_);rintro a1 c1 wc Ec R1 hc1 hs1;have hs3:=E.size;have hf1:=Ex (w2:=w2) hs1 hs3;replace E:=E.then Ec (fun x h => .inr (by rw[qaa.1 h];omega));have hne:x.x.k=[]\/(adr a1).block≠b2:=hs1.imp id (fun h=>h.elim (fun h=>by omega) fun h=>by have:=Al hb2;omega);replace hb2:wc.heap[b2]?=some (Bl 5 []):=(by rw[Ec.block b2 (Al hb2) (by simpa using Ne.symm h12)];exact hb2);have E0:=hE2.trans E;refine Ab (Dh (E0) (CT U U ?_));refine AV (MC U U U hb2 (hxo.v.1.ext0 (hE2.trans E)) ?_);rintro a2' c2' wd Ed R2 hc2 hs2
     have hs4:=E.size;have hf2:=Ex (w2:=w2) hs2 hs4;replace R1:=And.intro (JU R1.1 hne Ed) (Wz R1.2 hne Ed);replace E:=E.then Ed (fun x h => .inr (by rw[qaa.1 h];omega));have E0:=hE2.trans E;refine Ab (Dh (E0) (CT U U ?_));refine EP (CE ⟨a1,c1,a2',c2',x.x⟩) PW F7 ?_;refine AV ?_;have hz:Cpi w0 wd (ent a3 56 f3) ⟨a1,c1,a2',c2',x.x⟩:=⟨⟨⟨R1.1,LL H hf1⟩,⟨R2.1,LL H hf2⟩,hc1,hc2⟩,R1.2,R2.2⟩;have HE:=H.call E;have Hs:=Ctx.start wd [];refine BI (CE ⟨a1,c1,a2',c2',x.x⟩) (.agg _) Cn Cw F7 U U U U Hs ?_;rintro b32 w32 - Hb;have HE2:=Ctx.comm (HE.callEnt Hb.ext (fun x hx=>⟨Hb.blk x hx,(Hb.own x hx).resolve_left (by simp)⟩) Hb.nd);replace hz:=hz.cons Hb;have E0:=HE2.ext;refine Ab (Dh (E0) (CT U U ?_));refine AV ?_;have Hs:=Ctx.startL HE2.blk HE2.nd
     refine BL (L:=[]) Cn Cn Cw Aa8 F7 U U U Hs O U (FV ⟨a1,c1,a2',c2',x.x⟩) ?_;rintro a33 c33 f33 w33 H33 O33;have H34:=Nw HE2 H33;have E0:=H34.ext;refine Ab (Dh (E0) (CT U U ?_));refine AV (Ak U (Ab (Dh (E0) (LR ?_))));refine AE (Aa (Au (Ae U (Ay U U ?_))));refine Ac U (qA ?_);refine⟨(i+1,a33,c33,f33,ms++[⟨a1,c1,a2',c2',x.x⟩]),rfl,⟨rfl,rfl,trivial⟩,⟨by dsimp only;omega,H34,by dsimp only;rw[qbc,qb0];exact O33,by dsimp only;rw[qay,hms,Bp hxL];rfl,fun q hq=>?_⟩,by dsimp only;omega⟩
     rcases qat.1 hq with hq|hq
     .exact(((hok q hq).call E).cons Hb).step (.refl _ _) H33
     .rw[qaa.1 hq];exact hz.step (.refl _ _) H33
   .skip
    refine HK ?_;rintro b2 wb Eb hn2 hb2;have hs2a:=E.size;replace E:=E.trans Eb;have E0:=hE2.trans E;refine Ab (Dh (E0) (CT U U ?_));refine AV (HK ?_);rintro b1 wa Ea hn1 hb1;have hs1a:=E.size;replace E:=E.trans Ea;have h12:b1≠b2:=(by have:=Al hb2;omega);replace hb2:wa.heap[b2]?=some (Bl 5 []):=(by rw[Ea.block b2 (Al hb2) (by simp)];exact hb2);have E0:=hE2.trans E;refine Ab (Dh (E0) (CT U U ?_));refine AV (MC U U U hb1 (hxo.k.1.ext0 (hE2.trans E)) ?_);rintro a1 c1 wc Ec R1 hc1 hs1;have hs3:=E.size;have hf1:=Ex (w2:=w2) hs1 hs3;replace E:=E.then Ec (fun x h => .inr (by rw[qaa.1 h];omega));have hne:x.x.k=[]\/(adr a1).block≠b2:=hs1.imp id (fun h=>h.elim (fun h=>by omega) fun h=>by have:=Al hb2;omega);replace hb2:wc.heap[b2]?=some (Bl 5 []):=(by rw[Ec.block b2 (Al hb2) (by simpa using Ne.symm h12)];exact hb2);have E0:=hE2.trans E
    refine Ab (Dh (E0) (CT U U ?_));refine AV (MC U U U hb2 (hxo.v.1.ext0 (hE2.trans E)) ?_);rintro a2' c2' wd Ed R2 hc2 hs2;have hs4:=E.size;have hf2:=Ex (w2:=w2) hs2 hs4;replace R1:=And.intro (JU R1.1 hne Ed) (Wz R1.2 hne Ed);replace E:=E.then Ed (fun x h => .inr (by rw[qaa.1 h];omega));have E0:=hE2.trans E;refine Ab (Dh (E0) (CT U U ?_));refine EP (CE ⟨a1,c1,a2',c2',x.x⟩) PW F7 ?_;refine AV ?_;have hz:Cpi w0 wd (ent a3 56 f3) ⟨a1,c1,a2',c2',x.x⟩:=⟨⟨⟨R1.1,LL H hf1⟩,⟨R2.1,LL H hf2⟩,hc1,hc2⟩,R1.2,R2.2⟩;have HE:=H.call E;have Hs:=Ctx.start wd [];refine BI (CE ⟨a1,c1,a2',c2',x.x⟩) (.agg _) Cn Cw F7 U U U U Hs ?_;rintro b32 w32 - Hb;have HE2:=Ctx.comm (HE.callEnt Hb.ext (fun x hx=>⟨Hb.blk x hx,(Hb.own x hx).resolve_left (by simp)⟩) Hb.nd);replace hz:=hz.cons Hb;have E0:=HE2.ext;refine Ab (Dh (E0) (CT U U ?_))
    refine AV ?_;have Hs:=Ctx.startL HE2.blk HE2.nd;refine BL (L:=[]) Cn Cn Cw Aa8 F7 U U U Hs O U (FV ⟨a1,c1,a2',c2',x.x⟩) ?_;rintro a33 c33 f33 w33 H33 O33;have H34:=Nw HE2 H33;have E0:=H34.ext;refine Ab (Dh (E0) (CT U U ?_));refine AV (Ak U (Ab (Dh (E0) (LR ?_))));refine AE (Aa (Au (Ae U (Ay U U ?_))));refine Ac U (qA ?_);refine⟨(i+1,a33,c33,f33,ms++[⟨a1,c1,a2',c2',x.x⟩]),rfl,⟨rfl,rfl,trivial⟩,⟨by dsimp only;omega,H34,by dsimp only;rw[qbc,qb0];exact O33,by dsimp only;rw[qay,hms,Bp hxL];rfl,fun q hq=>?_⟩,by dsimp only;omega⟩
    rcases qat.1 hq with hq|hq
    .exact(((hok q hq).call E).cons Hb).step (.refl _ _) H33
    .rw[qaa.1 hq];exact hz.step (.refl _ _) H33
  .intro hB;replace hB:=AU hB;have hiW:W.take i=W:=qa6 (by omega);rw[hiW]at hms;have hin:i=W.length:=by omega
   refine B2 (Aw (Aw (AZ (Aa (Ad (Ah U (Ak U (qA (A6 (AG (v:=(.slice _ _ _)) U U U ?_))))))))));exact⟨a3,c3,f3,ms,by rw[hin],H,hin ▸ O,hms,hok⟩
def blkW(m:Wm):List Nat:=(if m.x.k=[]then[]else[(adr m.ka).block])++(if m.x.v=[]then[]else[(adr m.va).block])
def Jn(ms:List Wm):List Nat:=ms.flatMap blkW
theorem Amw{ms:List Wm}{m:Wm}(h:m∈ms)(hk:m.x.k≠[]):(adr m.ka).block∈Jn ms:=qem.2 ⟨m,h,by unfold blkW;rw[if_neg hk];simp⟩
theorem Amx{ms:List Wm}{m:Wm}(h:m∈ms)(hk:m.x.v≠[]):(adr m.va).block∈Jn ms:=qem.2 ⟨m,h,by unfold blkW;rw[if_neg hk];simp⟩
theorem UB.set{w w':World}{a:Option Addr}{n b j:Nat}{full:List Value}{u:UInt8}(h:UB w a n)(hb:w.heap[b]?=some (Bl 5 full))(hx:Ext [b] w w')(hb':w'.heap[b]?=some (Bl 5 (full.set j (bv u)))):UB w' a n:=by
 rcases h with h|⟨b2,full2,rfl,h1,h2⟩
 .exact .inl h
 .right
  by_cases he:b2=b
  .subst he;rw[hb]at h1
   obtain rfl:full=full2:=by
    have:=qbw h1
    injection this with h3
    simpa using h3
   refine⟨b2,_,rfl,hb',fun i hi=>?_⟩;obtain⟨u2,hu⟩:=h2 i hi;rw[qc6]
   by_cases hij:j=i
   .rw[if_pos hij,if_pos (by rw[hij];exact(qap.1 hu).1)];exact⟨u,rfl⟩
   .rw[if_neg hij];exact⟨u2,hu⟩
  .exact⟨b2,full2,rfl,hx.to h1 (by simpa using he),h2⟩
theorem YA(u:UInt8):Value.int .u8 ((u.toNat ^^^ 17:Nat):Int)=bv (u ^^^ 17):=by
 unfold bv;rw[UInt8.toNat_xor];rfl
theorem Afp{w:World}{a:Option Addr}{n c:Nat}{ms:List Wm}(R:Rd w a 3 CE ms)(hn:ms.length=n)(hU:∀m∈ms,UB w m.ka m.x.k.length/\UB w m.va m.x.v.length)(hh:(adr a).block∉Jn ms)(hl:∀m∈ms,m.x.k.length<=1000000/\m.x.v.length<=1000000)(hn2:n<=1000000:=by omega):
  Ret prog 14 #[.slice a n c] w fun v w'=>v=.tuple #[]/\Ext (Jn ms) w w':=by
 obtain⟨w0,rfl⟩:=qD w;refine A8 (fn:=f14) func14 U [.slice a n c] U ?_;refine Ad (Ac U (qA (AB (B6 9223372036854775804 (α:=Nat) (fun i=>[(2,.int .i64 (i:Int))]) (fun i w'=>i<=n/\Ext (Jn ms) w0 w'/\∀m∈ms,UB w' m.ka m.x.k.length/\UB w' m.va m.x.v.length) (fun i=>n - i) 0 U ?_ ?_ ?_))))
 .exact⟨rfl,trivial⟩
 .exact⟨qak _,.refl _ _,hU⟩
 .rintro i j w ⟨hi,hE,hU1⟩;refine Ar (Ad (Ae U (Ah U (AO Cn U (Bj U U (qA (Av _ U ?_ ?_)))))))
  .intro hB;replace hB:=AR hB;obtain⟨x,hx1⟩:=AP (l:=ms) (i:=i);have hxm:=qad hx1;have hxl:=hl x hxm;refine Ap (Aa (Ar (AB (Ar (Ad (Ac U (qA (AB (B6 137438951432 (α:=Nat) (fun k=>[(3,.int .i64 (k:Int))]) (fun k w'=>k<=x.x.k.length/\Ext (Jn ms) w0 w'/\∀m∈ms,UB w' m.ka m.x.k.length/\UB w' m.va m.x.v.length) (fun k=>x.x.k.length - k) 0 U ?_ ?_ ?_)))))))))
   .exact⟨rfl,trivial⟩
   .exact⟨qak _,hE,hU1⟩
   .rintro k j3 w ⟨hk,hE2,hU2⟩;have hx:=hE2;refine Ar (Ad (Ae U (Ah U (Ae U (AY R Cn Cw U U ?_)))));refine Af EK U (Bd B1 U ((R.ext hx hh).fld hx1 U (j:=0) U) ?_);refine AO AX U (Bj U U (qA (Av _ U ?_ ?_)))
    .intro hC;replace hC:=AR hC;have hkne:x.x.k≠[]:=fun h=>by rw[h]at hC;simp at hC;omega
     obtain⟨b,full,ha,hb,hu⟩:=(hU2 x hxm).1.resolve_left (by omega);obtain⟨u,huk⟩:=hu k (by omega);have hbS:=Amw hxm hkne;rw[ha]at hbS;have hkl:=(qap.1 huk).1;have H:=Ctx.start1 hb;refine Ap (Aa (Ar (AB (IK [([0,1,2,3,4,5,6,7,8,9,10,11,12,13,14,15],16)] (fun z=>(z.heap[b]?=some (Bl 5 full)/\Ext (Jn ms) w0 z)) [16] mixed (⟨H.drew.get at0,hE2.trans (Ext.drew _ w)⟩) ?_))));refine AD U U (B9 U (B0 U (BX R Cn Cw U U ?_)));refine AC EK U (BC B1 U (fun _ hx=>(by have h9:=(R.ext hx.2 hh).fld hx1 rfl (j:=0) rfl;rw[ha]at h9;exact h9)) ?_);refine B0 U (B9 U (B0 U (BX R Cn Cw U U ?_)));refine AC EK U (BC B1 U (fun _ hx=>(by have h9:=(R.ext hx.2 hh).fld hx1 rfl (j:=0) rfl;rw[ha]at h9;exact h9)) ?_);refine B0 U (FC U AX CJ U U ?_)
     refine BC Qu U (fun _ hx=>(by rw[Aq hx.1,show 0+((k:Int)).toNat*1=k by omega];exact huk)) ?_;refine WC (a:=u.toNat) (b:=17) U U U u.toNat_lt ?_;rw[YA];refine FC U AX CJ U U (AV ?_);replace H:=H.drew;refine Bf (.int _ _) CJ U U U H at0 (by(simp;omega)) ?_;rintro w H;refine Ab (CQ U (B4 (AE (Aa (Au (Ae U (Ay U U ?_)))))));refine Ac U (qA ?_);exact⟨k+1,rfl,⟨rfl,trivial⟩,⟨by omega,hE2.trans (H.ext.mono fun y hy=>by rw[qaa.1 hy];exact hbS),fun m hm=>⟨(hU2 m hm).1.set hb H.ext (H.get at0),(hU2 m hm).2.set hb H.ext (H.get at0)⟩⟩,by omega⟩
    .intro hC;replace hC:=AU hC;have hE3:=hE2;have hU3:=hU2;clear hx;refine B2 (Aw (Aw (AZ (Aa (Ad (Ac U (qA (AB (B6 9223371899415822352 (α:=Nat) (fun k=>[(4,.int .i64 (k:Int))]) (fun k w'=>k<=x.x.v.length/\Ext (Jn ms) w0 w'/\∀m∈ms,UB w' m.ka m.x.k.length/\UB w' m.va m.x.v.length) (fun k=>x.x.v.length - k) 0 U ?_ ?_ ?_)))))))))
     .exact⟨rfl,trivial⟩
     .exact⟨qak _,hE3,hU3⟩
     .rintro l j4 w ⟨hl,hE2,hU2⟩;have hx:=hE2;refine Ar (Ad (Ae U (Ah U (Ae U (AY R Cn Cw U U ?_)))));refine Af EL U (Bd B1 U ((R.ext hx hh).fld hx1 U (j:=1) U) ?_);refine AO AX U (Bj U U (qA (Av _ U ?_ ?_)))
      .intro hD;replace hD:=AR hD;have hkne:x.x.v≠[]:=fun h=>by rw[h]at hD;simp at hD;omega
       obtain⟨b,full,ha,hb,hu⟩:=(hU2 x hxm).2.resolve_left (by omega);obtain⟨u,huk⟩:=hu l (by omega);have hbS:=Amx hxm hkne;rw[ha]at hbS;have hkl:=(qap.1 huk).1;have H:=Ctx.start1 hb;refine Ap (Aa (Ar (AB (IK [([0,1,2,3,4,5,6,7,8,9,10,11,12,13,14,15],16)] (fun z=>(z.heap[b]?=some (Bl 5 full)/\Ext (Jn ms) w0 z)) [16] mixed (⟨H.drew.get at0,hE2.trans (Ext.drew _ w)⟩) ?_))));refine AD U U (B9 U (B0 U (BX R Cn Cw U U ?_)));refine AC EL U (BC B1 U (fun _ hx=>(by have h9:=(R.ext hx.2 hh).fld hx1 rfl (j:=1) rfl;rw[ha]at h9;exact h9)) ?_);refine B0 U (B9 U (B0 U (BX R Cn Cw U U ?_)));refine AC EL U (BC B1 U (fun _ hx=>(by have h9:=(R.ext hx.2 hh).fld hx1 rfl (j:=1) rfl;rw[ha]at h9;exact h9)) ?_);refine B0 U (FC U AX CJ U U ?_)
       refine BC Qu U (fun _ hx=>(by rw[Aq hx.1,show 0+((l:Int)).toNat*1=l by omega];exact huk)) ?_;refine WC (a:=u.toNat) (b:=17) U U U u.toNat_lt ?_;rw[YA];refine FC U AX CJ U U (AV ?_);replace H:=H.drew;refine Bf (.int _ _) CJ U U U H at0 (by(simp;omega)) ?_;rintro w H;refine Ab (CQ U (B4 (AE (Aa (Au (Ae U (Ay U U ?_)))))));refine Ac U (qA ?_);exact⟨l+1,rfl,⟨rfl,trivial⟩,⟨by omega,hE2.trans (H.ext.mono fun y hy=>by rw[qaa.1 hy];exact hbS),fun m hm=>⟨(hU2 m hm).1.set hb H.ext (H.get at0),(hU2 m hm).2.set hb H.ext (H.get at0)⟩⟩,by omega⟩
      .intro hD;replace hD:=AU hD;refine B2 (Aw (Aw (AZ (AE (Aa (Au (Ae U (Ay U U ?_))))))));refine Ac U (qA ?_);exact⟨i+1,rfl,⟨rfl,trivial⟩,⟨by omega,hE2,hU2⟩,by omega⟩
  .intro hB;replace hB:=AU hB;refine B2 (Aw (Aw (AZ (HC U U ?_))));exact⟨rfl,hE⟩
section
variable {w0 w w':World}{p:Sp}{N b bd m:Nat}{A A':Dev}{M L:List Pr}{F F':Mut}{R:Rj}{V:Nat->Byt}{gen:Nat}{root:Int}{S:List Nat}{Ws:List (List Wr)}
theorem YB(hn:442<=N/\N<=841)(hl:A.B.length=N)(ho:A.on=true):K3 A=0:=by
 unfold K3;rw[if_neg (by rw[ho];decide),hl,if_neg (by rw[QF hn,MB hn];omega)]
theorem Dsk.load(d:Dsk N V R gen root M S Ws L)(g:SG N A R V):EG A=0/\F8 A=gen/\DS A=tpB root R.first R.seq:=by
 have lo:=d.lo;have r0:=d.r0;have r1:=d.r1;have rl:=d.rl
 rcases Nat.mod_two_eq_zero_or_one gen with hp|hp
 .have hp1:(gen+1) % 2=1:=by omega
  rw[hp]at r1 rl;rw[hp1]at r0;obtain⟨e1,e2,e3⟩:=g.load (g0:=gen) (g1:=Cy 1 (V 1)) (l0:=tpB root R.first R.seq) (l1:=DG 1 (V 1)) r1 rfl (fun _=>rl) (fun _ _=>rfl);have r0':Cy 1 (V 1)<gen:=r0;rw[if_neg (by omega)]at e1;rw[if_pos r0']at e2 e3;exact⟨e1,e2,e3⟩
 .have hp1:(gen+1) % 2=0:=by omega
  rw[hp]at r1 rl;rw[hp1]at r0;obtain⟨e1,e2,e3⟩:=g.load (g0:=Cy 0 (V 0)) (g1:=gen) (l0:=DG 0 (V 0)) (l1:=tpB root R.first R.seq) rfl r1 (fun _=>rfl) (fun _ _=>rl);have r0':Cy 0 (V 0)<gen:=r0;rw[if_neg (by omega)]at e1;rw[if_neg (by omega)]at e2;rw[if_neg (by omega),if_neg (by omega)]at e3;exact⟨e1,e2,e3⟩
theorem YC(S:List Nat)(y:Nat):((y:Int)∈(Jh (S.map fun x:Nat=>(x:Int))).map (fun k=>((k.toNat:Nat):Int)))↔y∈S:=by
 have hp:(Jh (S.map fun x:Nat=>(x:Int))).Perm (S.map fun x:Nat=>(x:Int)):=qce _ _;rw[(hp.map _).mem_iff,qbi];simp only[qah,qcr,qbp];refine⟨fun⟨a,h1,h2⟩=>?_,fun h=>⟨y,h,rfl⟩⟩;obtain rfl:a=y:=by omega
 exact h1
theorem Amy(m:Nat)(S:List Nat)(y:Nat):(pgU m S)[y]?=if y∈S then(if y<m then some 1 else none)else if y<m then some 0 else none:=by
 unfold pgU;rw[Tv,qee]
 by_cases h:y∈S
 .rw[if_pos ((YC S y).2 h),if_pos h]
  split <;> rfl
 .rw[if_neg (fun h5=>h ((YC S y).1 h5)),if_neg h]
theorem Afq(O:Own w0 w bd A F)(h:Bs N b L A)(hb:b<=5000:=by omega):
  Ret prog 19 #[ptr bd] w fun v w'=>∃p,v=.tuple #[ptr p.bs,.int .i64 0]/\p.bd=bd/\Lv w0 w' p A F N b L/\Ext [] w w'/\(∀y,Ms F p y->F y\/w.heap.size<=y)/\∀y,y<w.heap.size->p.z y:=by
 obtain⟨R,V,gen,root,M,S,Ws,g,d,h1,h2,h3⟩:=h;have hn:=d.n;obtain⟨m,rfl⟩:∃m,N=m+362:=⟨N - 362,by omega⟩;obtain⟨e1,e2,e3⟩:=d.load g;have hlow:∀x∈S,x<m:=fun x hx=>by have:=d.low x hx;omega
 have hlen:=g.len;have hmx:=d.mx
 have td:=told (fr:=362) (A:=A) (P:=List.replicate m 0) (root:=root) (L:=M) (S:=S) (d.tr.frame fun y hy=>by
  unfold RD RV;rw[HB g.pend (by have:=d.low y hy;omega)]
  rfl) g.on (by rw[hlen,qa8];omega) (by rw[qa8];omega) d.nd (fun x hx=>by rw[qa8];exact hlow x hx) d.rise
 have hr1:=td.rlo;have hr2:=td.rhi;rw[qa8]at hr2;obtain⟨n1,n2⟩:=d.num2 g.ok;refine(Yu (m:=m) (gen:=gen) (root:=root) (L0:=M) (S:=S) (Ws:=Ws) O g (YB hn hlen g.on) (by omega) e1 e3 e2 ⟨hr1,by omega⟩ ⟨d.z,h2,by omega⟩ td hlow d.nd d.rise d.ok (by omega) d.ws (fun W hW=>⟨(d.few W hW).1,fun x hx=>((d.few W hW).2 x hx).1⟩) (by omega)).mono fun v w' ⟨p,hv,hp,O',hx,hms,hz⟩=>?_;have k0:=Vm M d.rise;have k1:=k0.sets (W:=Ws.flatten);rw[<-d.l]at k1;have hget:=Amy m S;refine⟨p,hv,hp,⟨R,_,M,S,Ws,O',⟨g,d,k1,?_,rfl,?_,fun s hs=>?_,fun y=>?_,h1,h2,h3⟩,?_⟩,hx,hms,hz⟩
 .show Eh (kv1 M) (Eh [] 0 (M.map toW)) Ws.flatten=Bx L;rw[Jk k0.nd,Jk (kv:=[]) qcb,GS k1.perm];show(0:Int) - ((Bx []:Nat):Int)+(Bx (kv1 M):Int) - (Bx (kv1 M):Int)+(Bx L:Int)=_
  have:Bx []=0:=rfl
  omega
 .show(pgU m S).length=_;rw[Kb,qa8];omega
 .obtain⟨y,hy⟩:=qcg.1 hs;rw[hget]at hy
  split at hy <;> split at hy <;> simp at hy <;> omega
 .show y∈S↔(pgU m S)[y]?=some 1\/(pgU m S)[y]?=some 2;rw[hget]
  by_cases h:y∈S
  .rw[if_pos h,if_pos (hlow y h)];simp[h]
  .rw[if_neg h];constructor
   .exact fun h5=>absurd h5 h
   .intro h5
    split at h5 <;> simp at h5
 .show((M.length:Nat):Int)+((Ws.flatten.length:Nat):Int)<=_;omega
theorem YD(O:Own w0 w bd A F)(hn:442<=m+362/\m+362<=841){pq qq:Nat}(g:SG (m+362) A ⟨[],360,pq,qq⟩ V)(hl:A.left = -1)(hpq:pq<360)(hqq:1<=qq/\qq<=b)(hgn:F8 A+1<=b)(hb:b<=5000)(h0:Cy (((F8 A+1+1) % 2:Nat):Int) (V ((F8 A+1+1) % 2))<F8 A+1)(hT:(EG A=4/\DS A=[]/\pq=0/\qq=1)\/(EG A=0/\∃r0 R0,DS A=tpB r0 R0.first R0.seq/\(-1<=r0/\r0<=4294967294)/\SG (m+362) A R0 V/\R0.size=360/\(1<=R0.seq/\R0.seq<=4611686018427387904)/\pq=R0.at'/\qq=R0.seq+R0.L.length+1)) :
  Ret prog 10 #[ptr bd] w fun v w'=>∃p A' F',v=.tuple #[ptr p.bs,.int .i64 0]/\p.bd=bd/\Lv w0 w' p A' F' (m+362) b []/\A'.left = -1/\Grown F (Ms F' p) w w'/\(∀y,y<w.heap.size->p.z y):=by
 refine(Acl (pq:=pq) (qq:=qq) O g hl ⟨rfl,rfl,rfl,rfl⟩ hpq ⟨hqq.1,by omega⟩ (by omega) (by omega) (YB hn g.len g.on) hT).mono fun v w' ⟨p,F',hv,hp,O',G,hz⟩=>?_;obtain⟨-,s2,s3⟩:=g.save0 hl (F8 A+1) (tpB (-1) pq qq) (by omega) (by omega) (by rw[DZ];decide);generalize F8 A=gl at *;have p2:=par2 gl;refine⟨p,_,F',hv,hp,⟨_,_,[],[],[],O',⟨s3,⟨hn,rfl,?_,?_,?_,.inl ⟨rfl,rfl,rfl⟩,qcb,(fun x hx=>by cases hx),qak _,List.Pairwise.nil,(fun x hx=>by cases hx),qak _,rfl,(fun x hx=>by cases hx),rfl,?_⟩,KL.nil,rfl,rfl,?_,fun s hs => .inl (List.eq_of_mem_replicate hs),fun y=>?_,hgn,hqq.1,hqq.2⟩,?_⟩,s2,G,hz⟩
 .show Cy (((gl+1) % 2:Nat):Int) (if(gl+1) % 2=(gl+1) % 2 then _ else _)=gl+1;rw[if_pos rfl];exact Ng (gen:=gl+1) (by rw[DZ];decide)
 .show DG (((gl+1) % 2:Nat):Int) (if(gl+1) % 2=(gl+1) % 2 then _ else _)=tpB (-1) pq qq;rw[if_pos rfl];exact Nh (gen:=gl+1) (by rw[DZ];decide)
 .show Cy (((gl+1+1) % 2:Nat):Int) (if(gl+1+1) % 2=(gl+1) % 2 then _ else V ((gl+1+1) % 2))<gl+1;rw[if_neg (by omega)];exact h0
 .show((0:Nat):Int)<=_;rw[QF hn,MB hn];omega
 .show(List.replicate m 0).length=_;rw[qa8];omega
 .show y∈[]↔(List.replicate m 0)[y]?=some 1\/(List.replicate m 0)[y]?=some 2;rw[qee]
  split <;> simp
 .show(0:Int)<=_;omega
theorem YE(hn:442<=N/\N<=841)(O:Own w0 w bd (Fu N) F) :
  Ret prog 10 #[ptr bd] w fun v w'=>∃p A' F',v=.tuple #[ptr p.bs,.int .i64 0]/\p.bd=bd/\Lv w0 w' p A' F' N 1 []/\A'.left = -1/\Grown F (Ms F' p) w w'/\(∀y,y<w.heap.size->p.z y):=by
 obtain⟨m,rfl⟩:∃m,N=m+362:=⟨N - 362,by omega⟩;have g0:SG (m+362) (Fu (m+362)) ⟨[],360,0,1⟩ (fun _=>zeros):=SG.new ⟨by decide,by decide,by decide,by decide,by decide⟩ rfl (by show 2+360<=_;omega) (by omega);obtain⟨e1,e2,e3⟩:=g0.load (g0:=0) (g1:=0) (l0:=[]) (l1:=[]) (GP _) (GP _) (fun h=>absurd h (by decide)) (fun _ h=>absurd h (by decide));rw[if_pos ⟨rfl,rfl⟩]at e1;rw[if_neg (by decide)]at e2 e3;rw[if_pos rfl]at e3;exact YD O hn g0 U (by decide) ⟨qae _,qae _⟩ (by rw[e2];decide) (by decide) (by rw[GP];omega) (.inl ⟨e1,e3,rfl,rfl⟩)
theorem Aam(O:Own w0 w bd A F)(h:Bs N b L A)(hl:A.left = -1)(hb:b<=4900:=by omega):
  Ret prog 10 #[ptr bd] w fun v w'=>∃p A' F',v=.tuple #[ptr p.bs,.int .i64 0]/\p.bd=bd/\Lv w0 w' p A' F' N (b+1) []/\A'.left = -1/\Grown F (Ms F' p) w w'/\(∀y,y<w.heap.size->p.z y):=by
 obtain⟨R,V,gen,root,M,S,Ws,g,d,h1,h2,h3⟩:=h;have hn:=d.n;have hz:=d.z;obtain⟨m,rfl⟩:∃m,N=m+362:=⟨N - 362,by omega⟩;obtain⟨e1,e2,e3⟩:=d.load g;have hlen:=g.len;have hok:=g.ok
 have hat:R.at'<360:=by
  unfold Rj.at';rw[hz];exact qbm _ (by decide)
 have td:=told (fr:=362) (A:=A) (P:=List.replicate m 0) (root:=root) (L:=M) (S:=S) (d.tr.frame fun y hy=>by
  unfold RD RV;rw[HB g.pend (by have:=d.low y hy;omega)]
  rfl) g.on (by rw[hlen,qa8];omega) (by rw[qa8];omega) d.nd (fun x hx=>by rw[qa8];have:=d.low x hx;omega) d.rise
 have hr1:=td.rlo;have hr2:=td.rhi;rw[qa8]at hr2
 have g2:SG (m+362) A ⟨[],360,R.at',R.seq+R.L.length+1⟩ V:=by
  refine⟨⟨by show 2<=360;decide,by show 360<=4096;decide,hat,by show R.seq+R.L.length+1<=_;omega,qak _⟩,by show 2+360<=_;omega,g.lim,g.on,g.left,g.pend,⟨fun k s hs=>(by cases hs),fun p q1 q2 q3=>?_⟩⟩;have:=g.held.old p q1 (by rw[hz];exact q2) q3;show _<R.seq+R.L.length+1+0;omega
 exact YD O hn g2 hl hat ⟨by omega,by omega⟩ (by rw[e2];omega) (by omega) (by
  rw[e2,(par2 gen).1];have:=d.r1
  omega) (.inr ⟨e1,root,R,e3,⟨hr1,by omega⟩,g,hz,⟨h2,by omega⟩,rfl,rfl⟩)
end
section
variable {w0 w w':World}{p:Sp}{N b:Nat}{A:Dev}{R:Rj}{x:Sx}{M:Mut}{L:List Pr}{F F':Mut}
def Sp.zone(p:Sp)(w w':World):Sp:={ p with z:=fun y=>p.z y\/(w.heap.size<=y/\y<w'.heap.size) }
theorem Sok.zone(O:Sok w0 w p A R x F)(hx:Ext [] w w'):Sok w0 w' (p.zone w w') A R x F:=by
 obtain⟨l,o1,o2,hF,K,hk,hM⟩:=O.ex;refine⟨O.jone.call hx,O.good,⟨l,o1,o2,(hF.call (Grown.call hx)).1,⟨K.m,fun q hq=>⟨⟨(K.ok q hq).1.1.ext0 hx,?_⟩,(K.ok q hq).2⟩,K.few⟩,hk,hM⟩,O.ge,O.nn,O.tt,O.tT,fun y hy=>hy.elim (fun h=>qau (O.zl y h) hx.size) fun h=>h.2⟩
 rcases Rd.lt8 (K.ok q hq).1.1 with h|h
 .exact .inl h
 .exact(K.ok q hq).1.2.imp id fun h2 h3=>h3.elim (fun h4=>h2 (.inl h4)) fun h4=>h4.elim (fun h5=>h2 (.inr h5)) fun h5=>by have:=h5.1;omega
theorem Sok.turned{S:List Nat}(O:Sok w0 w p A R x F)(hx:Ext S w w')(hS:∀y∈S,p.z y/\¬Ms F p y/\w0.heap.size<=y):Sok w0 w' p A R x F:=by
 obtain⟨l,o1,o2,hF,K,hk,hM⟩:=O.ex;refine⟨O.jone.over hx (fun y hy h=>(hS y hy).2.1 (.inl h)) fun y hy=>(hS y hy).2.2,O.good,⟨l,o1,o2,My hF hx rfl fun y hy => .inr ⟨hy,fun h=>(hS _ h).2.1 (.inr ?_)⟩,⟨K.m,fun q hq=>⟨⟨Rdx.read (K.ok q hq).1 hx fun y hy => .inr (hS y hy).1,(K.ok q hq).1.2⟩,(K.ok q hq).2⟩,K.few⟩,hk,hM⟩,O.ge,O.nn,O.tt,O.tT,fun y hy=>qau (O.zl y hy) hx.size⟩;have h5:y.1∈(p.blk x o1 o2).map (·.1):=qah.2 ⟨y,hy,rfl⟩;exact h5
theorem Lv.zone(O:Lv w0 w p A F N b L)(hx:Ext [] w w'):Lv w0 w' (p.zone w w') A F N b L :=
 let ⟨R,x,M,S,Ws,h1,h2,h3⟩:=O;⟨R,x,M,S,Ws,h1.zone hx,h2,h3⟩
theorem Lv.turned{S:List Nat}(O:Lv w0 w p A F N b L)(hx:Ext S w w')(hS:∀y∈S,p.z y/\¬Ms F p y/\w0.heap.size<=y):Lv w0 w' p A F N b L :=
 let ⟨R,x,M,S,Ws,h1,h2,h3⟩:=O;⟨R,x,M,S,Ws,h1.turned hx hS,h2,h3⟩
theorem Lv.lt(O:Lv w0 w p A F N b L):∀q,Ms F p q->q<w.heap.size:=by
 obtain⟨R,x,M,S,Ws,O,-⟩:=O;exact O.lt
theorem Lv.ge(O:Lv w0 w p A F N b L):∀q,Ms F p q->w0.heap.size<=q:=by
 obtain⟨R,x,M,S,Ws,O,-⟩:=O;rintro q ((h|rfl)|h)
 .exact(O.jone.own.own q h).1
 .exact O.jone.ge
 .exact O.ge q h
theorem Prs.more{a:Option Addr}{n c:Nat}{K:List Pr}(h:Prs w M a n c K)(hx:Ext [] w w'):Prs w' (fun y=>M y\/w.heap.size<=y) a n c K:=by
 obtain⟨ps,R,hs,hl,hm⟩:=h.ex
 have hlt:∀{a:Option Addr} {l:Byt},Rdx w M a l->Rdx w' (fun y=>M y\/w.heap.size<=y) a l:=fun{a l} ⟨q1,q2⟩=>⟨q1.ext0 hx,by
  rcases Rd.lt8 q1 with h|h
  .exact .inl h
  .exact q2.imp id fun h2 h3=>h3.elim h2 fun h4=>by omega⟩
 refine⟨⟨ps,R.ext0 hx,?_,hl,fun m hm'=>⟨hlt (hm m hm').k,hlt (hm m hm').v,(hm m hm').kc,(hm m hm').vc⟩⟩,h.num,h.le⟩
 rcases ps with _|⟨m,ps⟩
 .exact .inl U
 .have h9:=World.block_lt_of_cell? w ⟨(adr a).block,_,none⟩ (R.cell 0 m rfl 0 _ rfl (by decide));exact hs.imp id fun h2 h3=>h3.elim h2 fun h4=>by dsimp only at h9;omega
theorem Aan{M M':Mut}{k:Nat}(h:Grown M M' w w')(hk:k<=w.heap.size):Grown (fun y=>M y\/k<=y) (fun y=>M' y\/k<=y) w w':=by
 obtain⟨⟨S,hS,hx⟩,g⟩:=h;exact⟨⟨S,fun y hy => .inl (hS y hy),hx⟩,fun y hy => .inl (hy.elim (fun h=>(g y h).imp id fun h=>by omega) .inr)⟩
end
theorem Akk{w0 w:World}{p:Sp}{A:Dev}{F:Mut}{N b:Nat}{L K:List Pr}(O:Lv w0 w p A F N b L){M:Mut}{br n c:Nat}{a:Option Addr}{room:Int}(hb:w.heap[br]?=some (Bl TRf [.slice a n c,.int .i64 room]))(PK:Prs w M a n c K)(hK:∀q∈K,q.1.length<=1000/\q.2.length<=1000)(hn:n<=100000:=by omega):
  Ret prog 23 #[ptr p.bs,ptr br] w fun v w'=>v=.bool (decide (L=K))/\Ext [] w w':=by
 obtain⟨wI,rfl⟩:=qD w;have hnum:=O.nums;have hok:=hnum.2.2.2.2.2.2;have hL:∀q∈L,q.1.length<=1000/\q.2.length<=1000:=fun q hq=>by have:=hok q hq;omega
 obtain⟨ys,Ry,-,hys,hyo⟩:=PK.ex;have hnK:=PK.num;refine A8 (fn:=f23) func23 U [ptr p.bs,ptr br] U (Ad (Am U (qA (Ad (An U (Aj qB (Vw O none none 0 0 [] [] Rd.nil Rd.nil) U ?_))))));rw[Px];rintro v w13 ⟨a13,c13,rfl,P13,hx13⟩;have hs13:=hx13.to hb (by simp);have H:=Ctx.start w13 [];refine AW U (Ai U U (Ai U U (Ak U (Ac U (qA (Ar (BV [([0,1,2,3,4,5,6,7],8),([9,10,11,12,14,15,16,17],13),([],18),([19],20)] (fun z=>z.heap[br]?=some (Bl TRf [.slice a n c,.int .i64 room])) [] mixed ((H.drew.ext.to hs13 (by simp))) ?_)))))));refine AD U U (B0 U (Am7 U U U (LV U U (B9 U (C1 U (Bm U (AC HG U (BC Il U (fun _ hx=>(by rw[Aq hx];rfl)) ?_))))))));refine AV ?_;replace H:=H.drew;refine Aj qB (Ty (Ib P13 H.ext) (Ib PK (hx13.trans H.ext)) hL hK) U ?_;rintro v w ⟨rfl,hx24⟩
 replace H:=H.call hx24;refine Ab (Bb ((H.ext.to hs13 (by simp))) ?_);refine AD U U (Af8 U U (Aa0 U U (.bool _) U (LV U U (KS 27 U ?_ ?_))))
 .intro h1;replace h1:=C8 h1;have hne:¬L=K:=by simpa using h1
  refine Cp U (Cp U (Cp U (Cp U (Cp U (AV (Ag U (Ab (Bb ((H.ext.to hs13 (by simp))) ?_))))))));refine AD U U (AV (Ag U (Ab (Bb ((H.ext.to hs13 (by simp))) ?_))));refine AD U U (Cp U (AV (AN U (.bool _) U (Ab (Bb ((H.ext.to hs13 (by simp))) ?_)))));refine B4 (EI U (Ad (Am U (qA (A6 (Ao (AG (v:=(.bool _)) U U U ?_)))))));exact⟨by rw[qag hne],hx13.trans H.ext⟩
 .intro h1;replace h1:=CA h1;obtain rfl:L=K:=by simpa using h1
  refine C1 U (C1 U (Bm U (AC HG U (BC Il U (fun _ hx=>(by rw[Aq hx];rfl)) ?_))));refine AV (Aj qB (Aak (O.call (hx13.trans H.ext))) U ?_);rintro v w29 ⟨rfl,h29⟩;rw[<-h29];refine Ab (Bb ((H.ext.to hs13 (by simp))) ?_);refine AD U U (AV (Aj qB (Vo (Ib PK (hx13.trans H.ext)) hK) U ?_));rintro v w ⟨rfl,hx34⟩;replace H:=H.call hx34;refine Ab (Bb ((H.ext.to hs13 (by simp))) ?_);refine AD U U (Am7 U U U (AV (AM U (.bool _) U (Ab (Bb ((H.ext.to hs13 (by simp))) ?_)))));refine B4 (Av _ U ?_ ?_)
  .intro h2;replace h2:=Bv h2;exact absurd U h2
  .intro h2;replace h2:=Bw h2;obtain⟨xs,Rx,-,hxs,hxo⟩:=P13.ex;have hxn:xs.length=L.length:=by rw[<-hxs,qai]
   have hyn:ys.length=n:=by rw[hnK,<-hys,qai]
   have hE:=hx13.trans H.ext;have hE13:=H.ext;clear H;refine Ap (Aa (Ar (Ad (Ac U (qA (AB (B6 302231454903519854725008 (α:=Nat) (fun i=>[(7,.int .i64 (i:Int))]) (fun i w'=>i<=L.length/\Ext [] w13 w') (fun i=>L.length - i) 0 U ?_ ?_ ?_)))))))
   .exact⟨rfl,trivial⟩
   .exact⟨qak _,hE13⟩
   .rintro i j w ⟨hi,hE2⟩;have hx:=hE2;refine Ar (Ad (Ae U (Ah U (AO Cb U (Bj U U (AF U (AQ 41 U ?_ ?_)))))))
    .intro hB;replace hB:=AR hB;refine Ae U (Bj U U (AN U (.bool _) U (qA (Av _ U ?_ ?_))))
     .intro hC;replace hC:=AR hC;obtain⟨x,hx1⟩:=AP (l:=xs) (i:=i);obtain⟨y,hy1⟩:=AP (l:=ys) (i:=i);have hxi:=hxo x (qad hx1);have hyi:=hyo y (qad hy1);have hxL:L[i]?=some (prI x.it):=by rw[<-hxs,qas,hx1];rfl
      have hyL:L[i]?=some (prI y.it):=by rw[<-hys,qas,hy1];rfl
      have hxy:x.it.val=y.it.val:=qab Prod.snd (qbw (hxL.symm.trans hyL));have hget:DO L x.it.key=some x.it.val:=(EU hnum.2.2.2.2.2.1).2 (qad hxL);refine Ap (Aa (Ar (AB (Ad (An U (Ah U (Ae U (AY Rx Cb CR U U ?_))))))));refine Af Fa U (Bd B1 U ((Rx.ext0 hx).fld hx1 U (j:=0) U) ?_);refine Aj qB (Akh (O.call (hx13.trans hE2)) x.ka x.kc x.it.key (hxi.k.1.ext0 hE2)) U ?_;rw[hget];rintro v w54 ⟨a54,c54,rfl,R54,hx54⟩;have hE54:=(hE2.trans hx54);replace R54:Rd w54 a54 1 B8 x.it.val:=R54;have hd54:=hE54.trans (Ext.drew [] w54);have H:=Ctx.start w54 [];refine AW U (Ai U U (Ai U U (Ai U U (Ak U (Am U (Ac U (qA (J9 (fun x=>x=_) mixed U ?_))))))))
      refine DK U (q_neq U U U (VA U U (VA U U (q_not U U (Aav U U (.bool _) U (VA U U (Gm U (Zd (l:=x.it.val) U AX Hm FA U (by rintro _ rfl;exact R54.ext0 (Ext.drew [] w54)) ?_))))))));refine Ha U (El U (BP HG U (Ig Il U (by rintro _ rfl;exact((by rw[Aq ((hx13.trans hd54).to hb (by simp))];rfl))) ?_)));refine DK U (Ej Ry Cb CR U U ?_);refine BP Ju U (Ig B1 U (by rintro _ rfl;exact((Ry.ext0 (hx13.trans hd54)).fld hy1 rfl (j:=1) rfl)) ?_);refine Zd (l:=y.it.val) U AX Hm FA U (by rintro _ rfl;exact hyi.v.1.ext0 (hx13.trans hd54)) ?_;refine Ak7 U U U (Aav U U (.bool _) U (Js ?_));rintro _ rfl;replace H:=H.drew;refine Av _ U ?_ ?_
      .intro hD;exact absurd hxy (by simpa using hD)
      .intro hD;refine Ap (AE (Aa (Au (Ae U (Ay U U ?_)))));refine Ac U (qA ?_);exact⟨i+1,rfl,⟨rfl,trivial⟩,⟨by omega,hd54⟩,by omega⟩
     .intro hC;replace hC:=AU hC;refine B2 (Aw (Aw (AZ (Aa (Ad (Am U (qA (A6 (AG (v:=(.bool _)) U U U ?_)))))))));exact⟨by rw[qal rfl],hx13.trans hE2⟩
    .intro hB;replace hB:=AU hB;refine Ag U (Ag U (AM U (.bool _) U (qA (Bz U (B2 (Aw (Aw (AZ (Aa (Ad (Am U (qA (A6 (AG (v:=(.bool _)) U U U ?_))))))))))))));exact⟨by rw[qal rfl],hx13.trans hE2⟩
theorem Wrs.weak{w:World}{M M':Mut}{a:Option Addr}{n c:Nat}{W:List Wr}(h:Wrs w M a n c W)(hM:∀y,M' y->M y):Wrs w M' a n c W:=by
 obtain⟨ps,R,hs,hl,hm⟩:=h.ex;exact⟨⟨ps,R,hs.imp id fun h h2=>h (hM _ h2),hl,fun m hx=>⟨⟨(hm m hx).k.1,(hm m hx).k.2.imp id fun h h2=>h (hM _ h2)⟩,⟨(hm m hx).v.1,(hm m hx).v.2.imp id fun h h2=>h (hM _ h2)⟩,(hm m hx).kc,(hm m hx).vc⟩⟩,h.num,h.le⟩
section
variable {w0 w w' w1 w2 w3 w4:World}{p:Sp}{N b b' br:Nat}{A A':Dev}{L L':List Pr}{F F':Mut}{a':Option Addr}{c':Nat}{f':List Value}{ms:List Wm}{W:List Wr}
structure Own9(w1 w2:World)(a':Option Addr)(c':Nat)(ms:List Wm)(W:List Wr):Prop where
 rd:Rd w2 a' 3 CE ms
 hd:ms=[]\/(w1.heap.size<=(adr a').block/\(adr a').block<w2.heap.size)
 eq:ms.map (·.x)=W
 le:W.length<=c'
 nh:(adr a').block∉Jn ms
 in':∀y∈Jn ms,w1.heap.size<=y/\y<w2.heap.size
 ok:∀m∈ms,m.Ok w2 (fun y=>y<w1.heap.size\/w2.heap.size<=y)
 ub:∀m∈ms,UB w2 m.ka m.x.k.length/\UB w2 m.va m.x.v.length
theorem Amz(H:Ctx w1 [] w2 (ent a' 56 f'))(Os:OS a' W.length c' 3 f' (ms.flatMap CE))(hms:ms.map (·.x)=W)(hok:∀m∈ms,Cpi w1 w2 (ent a' 56 f') m):Own9 w1 w2 a' c' ms W:=by
 have hb:∀{a:Option Addr} {l:Byt},Rdx w2 (Mk w1 (ent a' 56 f')) a l->l≠[]->w1.heap.size<=(adr a).block/\(adr a).block<w2.heap.size/\¬(adr a).block∈(ent a' 56 f').map (·.1):=fun{a l} ⟨R,hn⟩ hne=>by
  have h1:=hn.resolve_left hne;have h2:=(Rd.lt8 R).resolve_left hne;exact⟨Nat.not_lt.1 fun h=>h1 (.inl h),h2,fun h=>h1 (.inr h)⟩
 have hbl:∀y∈Jn ms,∃(a:Option Addr) (l:Byt),Rdx w2 (Mk w1 (ent a' 56 f')) a l/\l≠[]/\y=(adr a).block:=fun y hy=>by
  obtain⟨m,hm,hy⟩:=qem.1 hy;unfold blkW at hy
  rcases qat.1 hy with h|h
  .by_cases hk:m.x.k=[]
   .rw[if_pos hk]at h;cases h
   .rw[if_neg hk]at h;exact⟨_,_,(hok m hm).ok.k,hk,qaa.1 h⟩
  .by_cases hk:m.x.v=[]
   .rw[if_pos hk]at h;cases h
   .rw[if_neg hk]at h;exact⟨_,_,(hok m hm).ok.v,hk,qaa.1 h⟩
 have hx:∀{a:Option Addr} {l:Byt},Rdx w2 (Mk w1 (ent a' 56 f')) a l->Rdx w2 (fun y=>y<w1.heap.size\/w2.heap.size<=y) a l:=fun{a l} R=>⟨R.1,by
  by_cases hne:l=[]
  .exact .inl hne
  .obtain⟨h1,h2,-⟩:=hb R hne
   exact .inr fun h=>h.elim (fun h=>by omega) fun h=>by omega⟩
 have hh:ms=[]\/∃q,a'=some q/\(q.block,Bl 56 f')∈ent a' 56 f':=by
  cases ha:a' with
  |none =>
   left;have h8:=Os.none' ha;have h9:=Os.le;have h7:=qab List.length hms;rw[qai]at h7;exact qa4 (by omega)
  |some q=>exact .inr ⟨q,rfl,qaa.2 rfl⟩
 refine⟨OS.rd Os H.blk (fun _ _=>rfl) (by decide),?_,hms,Os.le,fun h=>?_,fun y hy=>?_,fun m hm=>⟨hx (hok m hm).ok.k,hx (hok m hm).ok.v,(hok m hm).ok.kc,(hok m hm).ok.vc⟩,fun m hm=>⟨(hok m hm).uk,(hok m hm).uv⟩⟩
 .refine hh.imp id fun⟨q,hq,hm⟩=>?_;rw[hq];exact⟨(H.own _ hm).resolve_left (by simp),Al (H.blk _ hm)⟩
 .rcases hh with h5|⟨q,hq,hm⟩
  .rw[h5]at h;cases h
  .obtain⟨a,l,R,hne,he⟩:=hbl _ h;refine(hb R hne).2.2 ?_;rw[<-he];refine qah.2 ⟨_,hm,?_⟩;rw[hq];rfl
 .obtain⟨a,l,R,hne,rfl⟩:=hbl y hy;exact⟨(hb R hne).1,(hb R hne).2.1⟩
theorem Own9.wrs(o:Own9 w1 w2 a' c' ms W):Wrs w2 (fun y=>y<w1.heap.size\/w2.heap.size<=y) a' W.length c' W :=
 ⟨⟨ms,o.rd,o.hd.imp id fun h h2=>h2.elim (fun h=>by omega) fun h=>by omega,o.eq,o.ok⟩,rfl,o.le⟩
theorem Own9.turn(o:Own9 w1 w2 a' c' ms W)(hM:∀y,Ms F p y->y<w1.heap.size)(G:Grown (Ms F p) (Ms F' p) w2 w3):Rd w3 a' 3 CE ms/\∀m∈ms,UB w3 m.ka m.x.k.length/\UB w3 m.va m.x.v.length:=by
 obtain⟨⟨S,hS,hx⟩,-⟩:=G;refine⟨?_,fun m hm=>⟨(o.ub m hm).1.ext hx (OH ((o.ok m hm).k.2.imp id fun h h5=>h (.inl (hM _ (hS _ h5))))),(o.ub m hm).2.ext hx (OH ((o.ok m hm).v.2.imp id fun h h5=>h (.inl (hM _ (hS _ h5)))))⟩⟩
 rcases o.hd with h|h
 .rw[h];exact Rd.nil
 .exact o.rd.ext hx fun h5=>by have:=hM _ (hS _ h5);omega
structure Pl(w0 w:World)(p:Sp)(A:Dev)(F:Mut)(N b br:Nat)(L K:List Pr):Prop where
 O:Lv w0 w p A F N b L
 l:A.left = -1
 z:p.z br
 nb:¬Ms F p br
 ge:w0.heap.size<=br
 r:∃a c,w.heap[br]?=some (Bl TRf [.slice a K.length c,.int .i64 (Da N)])/\Prs w (fun y=>Ms F p y\/y=br) a K.length c K
theorem Pl.call{K:List Pr}(P:Pl w0 w p A F N b br L K)(hx:Ext [] w w'):Pl w0 w' p A F N b br L K:=by
 obtain⟨a,c,h1,h2⟩:=P.r;exact⟨P.O.call hx,P.l,P.z,P.nb,P.ge,a,c,hx.to h1 (by simp),h2.turn (Grown.call hx)⟩
theorem YF(h:Grown (Ms F p) (Ms F' p) w w'):Grown (fun y=>Ms F p y\/y=br) (fun y=>Ms F' p y\/y=br) w w':=by
 obtain⟨⟨S,hS,hx⟩,g⟩:=h;exact⟨⟨S,fun y hy => .inl (hS y hy),hx⟩,fun y hy=>hy.elim (fun h=>(g y h).imp .inl id) fun h => .inl (.inr h)⟩
theorem Pl.got{K:List Pr}(P:Pl w0 w p A F N b br L K)(G:Grown (Ms F p) (Ms F' p) w w')(O:Lv w0 w' p A' F' N b' L')(hl:A'.left = -1):Pl w0 w' p A' F' N b' br L' K:=by
 obtain⟨a,c,h1,h2⟩:=P.r;have hlt:=Al h1;have h3:=h2.turn (YF (br:=br) G);obtain⟨⟨S,hS,hx⟩,g⟩:=G;exact⟨O,hl,P.z,fun h=>(g _ h).elim P.nb fun h=>by omega,P.ge,a,c,hx.to h1 fun h=>P.nb (hS _ h),h3⟩
theorem Pl.commit{K:List Pr}(P:Pl w0 w1 p A F N b br L K)(hx:Ext [] w1 w2)(o:Own9 w1 w2 a' c' ms W)(G:Grown (Ms F (p.zone w1 w2)) (Ms F' (p.zone w1 w2)) w2 w3)(O:Lv w0 w3 (p.zone w1 w2) A' F' N b' L')(hl:A'.left = -1)(h34:Ext (Jn ms) w3 w4):Pl w0 w4 (p.zone w1 w2) A' F' N b' br L' K:=by
 obtain⟨a,c,h1,h2⟩:=P.r;have hlt:=Al h1;have hM:=P.O.lt;have hs:=hx.size;have h01:=P.O.bs.1.ext.size;have hS34:∀y∈Jn ms,w1.heap.size<=y/\y<w2.heap.size:=o.in'
 have hn34:∀y∈Jn ms,¬Ms F' (p.zone w1 w2) y:=fun y hy h=>by
  have:=hS34 y hy
  rcases G.2 y h with h5|h5
  .have:=hM y h5;omega
  .omega
 have h3:=((h2.more hx).turn (Aan (YF (br:=br) G) (k:=w1.heap.size) hs)).turn (M':=fun y=>(Ms F' (p.zone w1 w2) y\/y=br)\/w1.heap.size<=y) ⟨Turn.of h34 fun y hy => .inr (hS34 y hy).1,fun y hy => .inl hy⟩;obtain⟨⟨S,hS,hx3⟩,g⟩:=G;refine⟨O.turned h34 fun y hy=>⟨.inr (hS34 y hy),hn34 y hy,by have:=hS34 y hy;omega⟩,hl,.inl P.z,fun h=>(g _ h).elim P.nb fun h=>by omega,P.ge,a,c,h34.to (hx3.to (hx.to h1 (by simp)) fun h=>P.nb (hS _ h)) fun h=>by have:=hS34 _ h;omega,h3.weak fun y hy => .inl hy⟩
theorem Pl.turn{K K':List Pr}{a:Option Addr}{c:Nat}(P:Pl w0 w p A F N b br L K)(hx:Ext [br] w w')(h1:w'.heap[br]?=some (Bl TRf [.slice a K'.length c,.int .i64 (Da N)]))(h2:Prs w' (fun y=>Ms F p y\/y=br) a K'.length c K'):Pl w0 w' p A F N b br L K' :=
 ⟨P.O.turned hx fun y hy=>by rw[qaa.1 hy];exact⟨P.z,P.nb,P.ge⟩,P.l,P.z,P.nb,P.ge,a,c,h1,h2⟩
end
def Qx(st k:Nat):Byt:=[UInt8.ofNat (k / 256),UInt8.ofNat k,UInt8.ofNat (k*st)]
def wrF(st n k:Nat):Wr:=⟨Qx st k,List.replicate (n - 7) 0,false⟩
theorem Am0{st a b:Nat}(ha:a<800)(hb:b<800)(h:a≠b):Qx st a≠Qx st b:=fun e=>by
 unfold Qx at e;simp only[qdl]at e;have h1:=qab UInt8.toNat e.1;have h2:=qab UInt8.toNat e.2.1;rw[UInt8.toNat_ofNat',UInt8.toNat_ofNat']at h1 h2;omega
theorem Afr{L:List Pr}(h:Rising L){k v:Byt}(hk:∀q∈L,q.1≠k):(HU L k v).Perm ((k,v)::L):=by
 have n1:=Fs (Jj (GR h k v));have n2:((k,v)::L).Nodup:=qck.2 ⟨fun h5=>hk _ h5 rfl,Fs (Jj h)⟩;refine(qd2 n1 n2).2 fun⟨k',u⟩=>?_;rw[Acr,qac,qdb];exact or_congr Iff.rfl ⟨fun h5=>h5.1,fun h5=>⟨h5,hk _ h5⟩⟩
structure FuL(st n:Nat)(f:Nat->Nat)(i count:Nat)(L:List Pr):Prop where
 bytes:Bx L=count*n
 len:L.length=count
 keys:∀q∈L,∃j,j<i/\q.1=Qx st (f j)
section
variable {st n i count:Nat}{f:Nat->Nat}{L:List Pr}
theorem FuL.fresh(h:FuL st n f i count L)(hf:∀j,j<800->f j<800)(hi:∀j k,j<k->k<800->f j≠f k)(h8:i<800):∀q∈L,q.1≠Qx st (f i):=fun q hq=>by
 obtain⟨j,hj,he⟩:=h.keys q hq;rw[he];exact Am0 (hf j (by omega)) (hf i h8) (hi j i hj h8)
theorem FuL.perm(h:FuL st n f i count L)(hr:Rising L)(hk:∀q∈L,q.1≠Qx st (f i)):(Ep L [wrF st n (f i)]).Perm ((Qx st (f i),List.replicate (n - 7) 0)::L):=Afr hr hk
theorem FuL.bytes1(h:FuL st n f i count L)(hr:Rising L)(hk:∀q∈L,q.1≠Qx st (f i))(hn:8<=n):Bx (Ep L [wrF st n (f i)])=(count+1)*n:=by
 rw[GS (h.perm hr hk),FO,h.bytes,qa8,qco];show 4+3+(n - 7)+count*n=_;omega
theorem FuL.more(h:FuL st n f i count L)(hr:Rising L)(hk:∀q∈L,q.1≠Qx st (f i))(hn:8<=n):FuL st n f (i+1) (count+1) (Ep L [wrF st n (f i)]):=by
 refine⟨h.bytes1 hr hk hn,by rw[(h.perm hr hk).length_eq,qav,h.len],fun q hq=>?_⟩
 rcases qac.1 ((h.perm hr hk).mem_iff.1 hq)with rfl|hq
 .exact⟨i,by omega,rfl⟩
 .obtain⟨j,hj,he⟩:=h.keys q hq;exact⟨j,by omega,he⟩
theorem FuL.skip(h:FuL st n f i count L):FuL st n f (i+1) count L :=
 ⟨h.bytes,h.len,fun q hq=>let ⟨j,hj,he⟩:=h.keys q hq;⟨j,by omega,he⟩⟩
theorem Am1:Da ((442:Nat):Int)=7781:=by decide
theorem FuL.right(h:FuL st n f i count L)(hr:Rising L)(hk:∀q∈L,q.1≠Qx st (f i))(hn:8<=n/\n<=135):DF 442 L [wrF st n (f i)]=if 7781<(count+1)*n then 7 else 0:=by
 have hm:Hk [] [wrF st n (f i)]=true:=by
  simp[Hk,HA,wrF,Qx];omega
 unfold DF;rw[if_neg (by show ¬1000<1;decide),if_pos hm,h.bytes1 hr hk hn.1,Am1]
 by_cases h5:7781<(count+1)*n
 .rw[if_pos h5,if_pos (by omega)]
 .rw[if_neg h5,if_neg (by omega)]
end
section
variable {w0 w w':World}{p p2:Sp}{N b b' br:Nat}{A A':Dev}{L L' K:List Pr}{F F':Mut}
theorem Pl.mono(P:Pl w0 w p A F N b br L K)(h:b<=b'):Pl w0 w p A F N b' br L K:=⟨P.O.mono h,P.l,P.z,P.nb,P.ge,P.r⟩
def Rp9(w:World)(F:Mut)(N br:Nat)(K:List Pr):Prop:=∃a c,w.heap[br]?=some (Bl TRf [.slice a K.length c,.int .i64 (Da N)])/\Prs w (fun y=>F y\/y=br) a K.length c K
theorem YG(h:Grown F F' w w'):Grown (fun y=>F y\/y=br) (fun y=>F' y\/y=br) w w':=by
 obtain⟨⟨S,hS,hx⟩,g⟩:=h;exact⟨⟨S,fun y hy => .inl (hS y hy),hx⟩,fun y hy=>hy.elim (fun h=>(g y h).imp .inl id) fun h => .inl (.inr h)⟩
theorem Rp9.turn(h:Rp9 w F N br K)(G:Grown F F' w w')(hn:¬F br):Rp9 w' F' N br K:=by
 obtain⟨a,c,h1,h2⟩:=h;exact⟨a,c,G.keep h1 hn,h2.turn (YG G)⟩
theorem Pl.rp(P:Pl w0 w p A F N b br L K):Rp9 w F N br K/\¬F br/\br<w.heap.size:=by
 obtain⟨a,c,h1,h2⟩:=P.r;exact⟨⟨a,c,h1,h2.weak fun y hy=>hy.imp (fun h => .inl (.inl h)) id⟩,fun h=>P.nb (.inl (.inl h)),Al h1⟩
theorem Pl.few(P:Pl w0 w p A F N b br L K):Few A 0/\A.on=true:=by
 obtain⟨-,R,V,gen,root,M,S,Ws,g,-⟩:=P.O.bs;exact⟨g.good.few,g.on⟩
theorem Pl.opened(O:Lv w0 w' p2 A F' N b L)(hl:A.left = -1)(hR:Rp9 w F N br K)(hn:¬F br)(hge:w0.heap.size<=br)(hx:Ext [] w w')(hms:∀y,Ms F' p2 y->F y\/w.heap.size<=y)(hz:∀y,y<w.heap.size->p2.z y):Pl w0 w' p2 A F' N b br L K:=by
 obtain⟨a,c,h1,h2⟩:=hR;have hlt:=Al h1;exact⟨O,hl,hz _ hlt,fun h=>(hms _ h).elim hn fun h=>by omega,hge,a,c,hx.to h1 (by simp),(h2.more hx).weak fun y hy=>hy.elim (fun h=>(hms y h).imp .inl id) fun h => .inl (.inr h)⟩
theorem Pl.made(O:Lv w0 w' p2 A' F' N b L)(hl:A'.left = -1)(hR:Rp9 w F N br K)(hn:¬F br)(hge:w0.heap.size<=br)(G:Grown F (Ms F' p2) w w')(hz:∀y,y<w.heap.size->p2.z y):Pl w0 w' p2 A' F' N b br L K:=by
 obtain⟨a,c,h1,h2⟩:=hR;have hlt:=Al h1;exact⟨O,hl,hz _ hlt,fun h=>(G.2 _ h).elim hn fun h=>by omega,hge,a,c,G.keep h1 hn,h2.turn (YG G)⟩
end
set_option maxRecDepth 100000 in
theorem TV(blocks:Nat)(hb:blocks<=65535){sa fa ta:Option Addr}{sc fc tc:Nat}{ms:List Sg9}{kf kt:Byt}(w:World)(R:Rd w sa 4 Vx ms)(hin:∀m∈ms,m.In w)(hn2:ms.length<=1152921504606846976)(Rf:Rd w fa 1 B8 kf)(Rt:Rd w ta 1 B8 kt)(hf:kf.length<=9000000000000000000:=by omega)(ht:kt.length<=9000000000000000000:=by omega):
  Ret prog 3 #[.int .u16 (blocks:Int),.slice sa ms.length sc,.slice fa kf.length fc,.slice ta kt.length tc] w fun v w'=>v=.bool true/\Ext [] w w':=by
 obtain⟨w0,rfl⟩:=qD w;obtain⟨N,hN⟩:=qD (442+blocks % 400:Nat);have hN1:442<=N/\N<=841:=by omega
 have hNI:(442:Int)+(blocks:Int) % 400=(N:Int):=by omega
 have hrr:=Adv (N:Int) (by omega);refine A8 (fn:=Tryz.f3) func3 U [.int .u16 (blocks:Int),.slice sa ms.length sc,.slice fa kf.length fc,.slice ta kt.length tc] U (Ad (Am U (qA (Ar (Ad (Ah U (Aj qB (Amv R U hin hn2) U ?_)))))));rintro v w25 ⟨bo,rfl,hbo,hx25⟩;refine Cl U (AF U (AQ 27 U ?_ ?_))
 .intro h1;replace h1:=C8 h1;refine Ag U (Ag U (Ag U (AN U (.bool _) U (AF U (Ag U (Ag U (Ag U (AN U (.bool _) U (qA ?_)))))))));refine EI U (Ad (Aj qB (M8 _) U ?_));rintro v w37 ⟨rfl,hx37⟩;refine Am U (qA (A6 (Ao (AG (v:=(.bool _)) U U U ?_))));exact⟨rfl,hx25.trans hx37⟩
 .intro h1;replace h1:=CA h1;refine Ah U (AO AX U (BZ U U (AM U (.bool _) U (AF U (AQ 32 U ?_ ?_)))))
  .intro h2;replace h2:=AR h2;refine Ag U (Ag U (Ag U (AN U (.bool _) U (qA (EI U (Ad (Aj qB (M8 _) U ?_)))))));rintro v w37 ⟨rfl,hx37⟩;refine Am U (qA (A6 (Ao (AG (v:=(.bool _)) U U U ?_))));exact⟨rfl,hx25.trans hx37⟩
  .intro h2;replace h2:=AU h2;refine Ah U (AO AX U (BZ U U (AM U (.bool _) U (qA (Av _ U ?_ ?_)))))
   .intro h3;replace h3:=AR h3;refine Ad (Aj qB (M8 _) U ?_);rintro v w37 ⟨rfl,hx37⟩;refine Am U (qA (A6 (Ao (AG (v:=(.bool _)) U U U ?_))));exact⟨rfl,hx25.trans hx37⟩
   .intro h3;replace h3:=AU h3;obtain⟨hn150,hgood⟩:=hbo (by simpa using h1);refine Ap (Aa (Ad (Ae U (EX U un_22 Gs ?_))));refine YT U U U (Ay U U ?_);rw[hNI];refine Ac U (qA (Ad (Ae U (Aj qB (Abp (n:=(N:Int)) (by omega) (by omega) _) U ?_))));rw[qbp];rintro v w44 ⟨bd,F,rfl,D⟩;refine AW U (Ai U U (Ai U U (B7 U (Ac U (qA (Ad (An U (Aj qB (YE hN1 D) U ?_))))))));rintro v w49 ⟨p,A,F1,rfl,hpb,O,hl,-⟩;refine AW U (Ai U U (Ai U U (B7 U (Ac U (qA (Ad (Ae U (Aj qB (hrr _) U ?_))))))));rintro v w53 ⟨rfl,h53⟩;rw[h53]at O;have H:=Ctx.start w53 [];refine B5 [.slice none 0 0,.int .i64 (Da N)] pl_38 zc_38 (Cu [.slice none 0 0,.int .i64 (Da N)] (.agg _) U U H ?_);rintro br w55 - H
    refine B7 U (qA (Ar (Ad (Ae U (Be U U (AF U (Ae U (Be U U (AM U (.bool _) U ?_)))))))));refine AF U (An U (BU U2 U ?_));refine AM U (.bool _) U (qA (Bz U (Ap (Aa (Ar (Ad (Ac U (qA (AB ?_)))))))));have hx0:Ext [] w0 w25:=hx25;have hbr:=(H.own _ (qaa.2 rfl)).resolve_left (by simp);dsimp only at hbr;have O1:Lv w25 w55 (p.zone w53 w55) A F1 N 1 []:=O.zone H.ext;have P0:Pl w25 w55 (p.zone w53 w55) A F1 N 1 br [] []:=⟨O1,hl,.inr ⟨hbr,Al (H.get at0)⟩,fun h=>by have:=O.lt _ h;omega,qaw O.bs.1.ext.size hbr,none,0,H.get at0,Prs.nil⟩;clear H O O1;refine B6 22300745198530623141535644485672066676134144 (α:=Nat × Nat) (fun s=>[(15,.int .i64 (s.1:Int)),(12,ptr s.2)]) (fun s w'=>s.1<=ms.length/\∃p A F L,p.bs=s.2/\p.bd=bd/\Pl w25 w' p A F N (1+3*s.1) br L L) (fun s=>ms.length - s.1) (0,p.bs) U ?_ ?_ ?_
    .exact⟨rfl,rfl,trivial⟩
    .exact⟨qak _,p.zone w53 w55,A,F1,[],rfl,hpb,P0⟩
    .rintro⟨i,bs⟩ j w ⟨hi,p1,A1,F2,L,hps,hpd,P⟩;dsimp only at hi hps P;dsimp only;subst hps hpd;refine Ar (Ad (Ae U (Ah U (AO PV U (Bj U U (qA (Av _ U ?_ ?_)))))))
     .intro hB;replace hB:=AR hB;obtain⟨x,hx1⟩:=AP (l:=ms) (i:=i);have hxi:=hin x (qad hx1);obtain⟨g1,g2,g3⟩:=hgood x (qad hx1);have hE:=hx25.trans P.O.bs.1.ext;have H:=Ctx.start w [];obtain⟨w1,rfl⟩:=qD w;refine Ap (Aa (Ar (AB (Ad (Ah U (Ae U (AY R PV PX U U (hn:=by rfl) ?_)))))));refine EN _ ag_42 PX U U ((R.ext0 hE).row hx1 U) (Bi zc_42 H ?_);rintro b16 w - H;refine Bo PX U U U (by exact Afo x) H at0 U ?_;rintro w H;refine qA (Ad (Af Ala U (AH DV U H at0 U (qA (AB ?_)))));have P1:=P.call H.ext;have hb16:=H.get at0;have hn16:w1.heap.size<=b16:=(H.own _ (qaa.2 rfl)).resolve_left (by simp);have hm16:¬Ms F2 p1 b16:=fun h=>by have:=P.O.lt _ h;omega
      have hlw:∀y∈x.L,y.k.length<=1000000/\y.v.length<=1000000:=fun y hy=>by have:=g3 y hy;omega
      have hEx:=hE.trans H.ext;have hxl:=hxi.ll;clear P;obtain⟨wA,rfl⟩:=qD w;refine Ad (BA U U (Am U (qA (Av _ U ?_ ?_))))
      .intro hC;replace hC:=AR hC;refine Ad (Af LZ U (AH Ux U H at0 U (Aj qB (Akj (hxi.l.call hEx) hlw) U ?_)));rintro v w2 ⟨a2,c2,f2,ms2,rfl,Hc,Oc,hmc,hokc⟩;have ow:=Amz Hc Oc hmc hokc;replace H:=H.call Hc.ext;refine Ak U (qA (Ad (An U (Ah U (Aj qB (Y7 (P1.O.zone Hc.ext) a2 _ c2 x.L (ow.wrs.weak fun y hy => .inl (P1.O.lt y hy))) U ?_)))));rintro v w3 h3;obtain⟨rfl,A2,F3,O3,G3,hl3⟩:=h3.resolve_right (fun h=>h.2.2.2.1 P1.l);clear h3;have ht3:=ow.turn (p:=p1.zone wA w2) P1.O.lt G3;refine Ac U (qA (Ad (Ah U (Aj qB (Afp ht3.1 (by rw[<-hmc,qai]) ht3.2 ow.nh (fun m hm=>hlw m.x (by rw[<-hmc];exact qah.2 ⟨m,hm,rfl⟩))) U ?_))));rintro v w4 ⟨rfl,h34⟩;have P4:=P1.commit Hc.ext ow G3 O3 (hl3 P1.l) h34
       replace hb16:=h34.to (G3.keep (Hc.ext.to hb16 (by simp)) hm16) (fun h=>by have h5:=ow.in' _ h;have h6:=Al hb16;omega);have H:=Ctx.start1 hb16;refine qA (Ad (Ae U (An U (Af LZ U (AH Ux U H at0 U ?_)))));obtain⟨ar,cr,hr1,hr2⟩:=P4.r;refine Aj qB (Aal (M:=fun y=>Ms F3 (p1.zone wA w2) y\/y=br) hr1 (.inr U) hr2 (hxi.l.call (hx25.trans P4.O.bs.1.ext)) (fun y hy=>hy.elim (P4.O.lt y) fun h=>h ▸ Al hr1) P1.O.nums.2.2.2.2.2.1 P1.O.nums.2.2.2.2.2.2 (fun y hy=>(hlw y hy).1) (by have:=P1.O.nums.2.2.1;omega)) U ?_;rintro v w5 ⟨rfl,ar5,cr5,hp5,hb5,hx5⟩;have P5:=P4.turn hx5 hb5 hp5;refine Be U U ?_;rw[qal (rfl:DF N L x.L=DF N L x.L)];refine qA (Bz U (Ap (AE (AE (Aa (Au (Ae U (Ay U U ?_))))))));refine Ac U (qA ?_)
       exact⟨(i+1,p1.bs),rfl,⟨rfl,rfl,trivial⟩,⟨by dsimp only;omega,p1.zone wA w2,A2,F3,_,rfl,rfl,P5.mono (by dsimp only;omega)⟩,by dsimp only;omega⟩
      .intro hC;replace hC:=AU hC;refine Ad (BA U U (Am U (qA (Av _ U ?_ ?_))))
       .intro hD;replace hD:=AR hD;refine Ad (An U (Aj qB (Aaj P1.O) U ?_));rintro v w97 h97;obtain⟨rfl,A2,F3,O3,G3,hl3⟩:=h97.resolve_right (fun h=>h.2.1 P1.l);clear h97;refine Be U U (qA (Bz U (Ap (AE (AE (Aa (Au (Ae U (Ay U U ?_)))))))));refine Ac U (qA ?_);exact⟨(i+1,p1.bs),rfl,⟨rfl,rfl,trivial⟩,⟨by dsimp only;omega,p1,A2,F3,L,rfl,rfl,(P1.got G3 O3 (hl3 P1.l)).mono (by dsimp only;omega)⟩,by dsimp only;omega⟩
       .intro hD;replace hD:=AU hD;refine Ad (BA U U (Am U (qA (Av _ U ?_ ?_))))
        .intro hF;replace hF:=AR hF;obtain⟨hrp,hnF,hlt⟩:=P1.rp;obtain⟨hfew,hon⟩:=P1.few;have hD0:=P1.O.bs.1;have hlp:=hxi.pl;have hF16:¬F2 b16:=fun h=>hm16 (.inl (.inl h));refine Ar (Ad (BG (α:=Unit) 41535839567078164569440977227350016 (fun _=>[(114,.bool (false))]) (fun _ w'=>∃A,Own w25 w' p1.bd A F2/\Bs N (1+3*i) L A/\A.left = -1/\Rp9 w' F2 N br L) U ?_ ?_))
         .refine Af Alb U (AH Ge U H at0 U (AF U (AQ 103 U ?_ ?_)))
          .intro h1;refine An U (Aj qB (Abo hD0) U ?_);rw[hon];rintro v wB ⟨rfl,D1,G1⟩;replace hb16:=G1.keep hb16 hF16;have hrp1:=hrp.turn G1 hnF;refine Be U U (AF U (An U (Af Abg U (Bd IQ U ((by rw[Aq hb16];rfl)) ?_))));refine Aj qB (Aie D1 x.pa x.pc _ x.P (hxi.p.ext0 (hx25.trans D1.ext)) U (by omega) hlp.2 ((Pi (hxi.p.ext0 hx25) (fun _ _=>rfl)).imp id fun h h5=>by have:=(D1.own _ h5).1;omega) hxi.pi (show Few (KF A1) 0 from hfew)) U ?_;rw[show onE (KF A1)=0 from rfl];rintro v wC ⟨rfl,D2,G2⟩;have hrp2:=hrp1.turn G2 hnF;refine Be U U (AM U (.bool _) U (AN U (.bool _) U (Ab ?_)));exact⟨rfl,(),rfl,⟨qab Value.bool (by simp_all),trivial⟩,by exact⟨_,D2,(P1.O.off x.P).2,(P1.O.off x.P).1,hrp2⟩⟩
          .intro h2;refine Ag U (Ag U (Ag U (Ag U (Ag U (Ag U (Ag U (Ag U (Ag U (Ag U ?_)))))))));refine AM U (.bool _) U (Ab ?_);exact⟨rfl,(),rfl,⟨qab Value.bool (by simp_all),trivial⟩,by exact⟨_,hD0,P1.O.bs.2,P1.l,hrp⟩⟩
         rintro - j114 w ⟨A3,D3,B3,l3,r3⟩;refine Bz U (Ap (Aa (Ad (An U (Aj qB (Afq D3 B3) U ?_)))));rintro v w117 ⟨p2,rfl,hp2,O2,hx2,hms2,hz2⟩;refine AW U (Ai U U (Ai U U (B7 U (Ac U (qA (Ar (Ad (Ae U (Be U U ?_)))))))));refine AF U (An U (BU U2 U ?_));refine AM U (.bool _) U (qA (Bz U (Ap (Aa (Au (An U (B7 U (Ab (AE (AE (Aa (Au (Ae U ?_)))))))))))));refine Ay U U (Ac U (qA ?_));exact⟨(i+1,p2.bs),rfl,⟨rfl,rfl,trivial⟩,⟨by dsimp only;omega,p2,A3,F2,L,rfl,hp2,(Pl.opened O2 l3 r3 hnF P1.ge hx2 hms2 hz2).mono (by dsimp only;omega)⟩,by dsimp only;omega⟩
        .intro hF;replace hF:=AU hF;refine Ad (BA U U (Am U (qA (Av _ U ?_ ?_))))
         .intro hG;replace hG:=AR hG;obtain⟨hrp,hnF,hlt⟩:=P1.rp;refine Ad (An U (Aj qB (Aam P1.O.bs.1 P1.O.bs.2 P1.l) U ?_));rintro v w131 ⟨p2,A2,F3,rfl,hp2,O2,hl2,G2,hz2⟩;have P2:=Pl.made O2 hl2 hrp hnF P1.ge G2 hz2;obtain⟨ar,cr,hr1,hr2⟩:=P2.r;have H:=Ctx.start1 hr1;refine AW U (Ai U U (Ai U U (B7 U (Ac U (qA (Ar (Ad (Ae U (Be U U ?_)))))))));refine AF U (An U (BU U2 U ?_));refine AM U (.bool _) U (qA (Bz U (Ap (Aa (Ad (An U (B7 U (qA (Au (An U ?_))))))))));refine A7 U (Af HG U (Bf (.slice _ _ _) Se U U U H at0 (by(simp;done)) ?_));rintro w H;refine Ab (AE (AE (Aa (Au (Ae U (Ay U U ?_))))));refine Ac U (qA ?_);exact⟨(i+1,p2.bs),rfl,⟨rfl,rfl,trivial⟩,⟨by dsimp only;omega,p2,A2,F3,[],rfl,hp2,(P2.turn H.ext (K':=[]) (H.get at0) Prs.nil).mono (by dsimp only;omega)⟩,by dsimp only;omega⟩
         .intro hG;replace hG:=AU hG;refine Ap (AE (AE (Aa (Au (Ae U (Ay U U ?_))))));refine Ac U (qA ?_);exact⟨(i+1,p1.bs),rfl,⟨rfl,rfl,trivial⟩,⟨by dsimp only;omega,p1,A1,F2,L,rfl,rfl,P1.mono (by dsimp only;omega)⟩,by dsimp only;omega⟩
     .intro hB;replace hB:=AU hB;obtain⟨ar,cr,hr1,hr2⟩:=P.r;have hnum:=P.O.nums;have hok:=hnum.2.2.2.2.2.2;have hkl:∀q∈L,q.1.length<=1000/\q.2.length<=1000:=fun q hq=>by have:=hok q hq;omega
      have hfl:∀q∈Ga kf kt L,q.1.length<=1000/\q.2.length<=1000:=fun q hq=>hkl q (qbj.1 hq).1;have hfn:(Ga kf kt L).length<=L.length:=qel ..;have hE:=hx25.trans P.O.bs.1.ext;refine B2 (Aw (Aw (AZ (Aa (Ad (An U (Ah U (Ah U (Aj qB (Vw P.O fa ta fc tc kf kt (Rf.ext0 hE) (Rt.ext0 hE)) U ?_)))))))));rintro v w148 ⟨a148,c148,rfl,P148,hx148⟩;replace P:=P.call hx148;replace hE:=hE.trans hx148;replace hr1:=hx148.to hr1 (by simp);replace hr2:=Ib hr2 hx148;refine AW U (Ai U U (Ai U U (Ak U (Ac U (qA (Ad (Ae U (BA U U (AF U ?_)))))))));refine Ah U (An U (Ah U (Ah U (Aj qB (Aki (fun y hy=>hy.elim (P.O.lt y) fun h=>h ▸ Al hr1) hr1 hr2 (Rf.ext0 hE) (Rt.ext0 hE) (fun q hq=>(hkl q hq).1)) U ?_))));rintro v w158 ⟨a158,c158,rfl,P158,hx158⟩;replace P:=P.call hx158;replace P148:=Ib P148 hx158
      replace hr1:=hx158.to hr1 (by simp);replace hr2:=Ib hr2 hx158;refine Aj qB (Ty P148 P158 hfl hfl) U ?_;rw[qal (rfl:Ga kf kt L=Ga kf kt L)];rintro v w159 ⟨rfl,hx159⟩;replace P:=P.call hx159;replace hr1:=hx159.to hr1 (by simp);replace hr2:=Ib hr2 hx159;refine AN U (.bool _) U (AF U (An U (An U (Aj qB (Akk P.O hr1 hr2 hkl) U ?_))));rw[qal (rfl:L=L)];rintro v w164 ⟨rfl,hx164⟩;replace P:=P.call hx164;refine AN U (.bool _) U (AF U (Aj qB (M8 _) U ?_));rintro v w167 ⟨rfl,hx167⟩;replace P:=P.call hx167;refine AN U (.bool _) U (Am U (qA (A6 (AG (v:=(.bool _)) U U U ?_))));exact⟨rfl,hx25.trans P.O.bs.1.ext⟩
open Go.GV Go.Proofs.Tryz Go.ChangeShapes Go.WideShapes Go.ChangeAt Go.RowKit
theorem own:ownKnob Tryz.prog.godebug=none:=by kernel_rfl
theorem Am2:laidOutB prog=true:=by kernel_rfl
def Apz:List Nat:=[128,191,160,191,128,159,144,191,128,143]++List.replicate 22 0
def layO(l:List Nat):Obj->Obj
 | .cells _ t frozen => .cells (l.map fun(n:Nat)=>Value.int .u8 (n:Int)).toArray t frozen
 |o=>o
noncomputable def laidWorld(os:Os):World :=
 { World.holding prog os ⟨#[],#[],[]⟩with heap:=((World.holding prog os ⟨#[],#[],[]⟩).heap.modify 1 (layO Go.Pinned.utf8FirstZ)).modify 2 (layO Apz) }
theorem OI{H:Type}{enc:TypeId × Value->H}{w:World}{base:Nat}{spare:Nat->Bool}{held:Bool}:∀n cs y,DataW.trod enc prog w base spare held n 5 cs=some y->∃b:UInt8,cs=B8 b/\True:=by
 intro n cs y h;obtain⟨d,rfl,h1,h2⟩:=Aa4 underlying5 n cs y h;have h1:(0:Int)<=d:=h1;have h2:d<=255:=h2;refine⟨UInt8.ofNat d.toNat,?_,trivial⟩
 have:(UInt8.ofNat d.toNat).toNat=d.toNat:=by simp[UInt8.toNat_ofNat'];omega
 rw[B8,bv,this,Int.toNat_of_nonneg h1]
theorem MD:Tryz.prog.cellsOf 5=1:=by kernel_rfl
theorem Afs:∃fs,Tryz.prog.underlying 56=some (.struct fs)/\(List.range 3).map (fun i=>fs[i]?.map fun f=>(f.type,f.offset))=[some (24,0),some (24,1),some (4,2)]:=⟨_,underlying56,by kernel_rfl⟩
theorem YH:Tryz.prog.cellsOf 56=3:=by kernel_rfl
theorem TK:Tryz.prog.cellsOf 24=1:=by kernel_rfl
theorem PC:Tryz.prog.bytesOf 5=1:=by kernel_rfl
theorem Ap0{k:Int}{m:Nat}(h1:0<=k)(h2:k<=m):∃n:Nat,k=n/\n<=m:=⟨k.toNat,by omega,by omega⟩
structure Wm.In(w:World)(m:Wm):Prop where
 k:Rd w m.ka 1 B8 m.x.k
 v:Rd w m.va 1 B8 m.x.v
 kc:m.x.k.length<=m.kc
 vc:m.x.v.length<=m.vc
theorem YI:Tryz.prog.cellsOf 39=1:=by kernel_rfl
theorem Aft:Tryz.prog.cellsOf 40=1:=by kernel_rfl
theorem Akl:Tryz.prog.cellsOf 3=1:=by kernel_rfl
theorem Akm:1<=Tryz.prog.bytesOf 56:=qb6 (by kernel_rfl)
theorem Akn:1<=Tryz.prog.bytesOf 3:=qb6 (by kernel_rfl)
theorem Ako:1<=Tryz.prog.bytesOf 42:=qb6 (by kernel_rfl)
theorem Afu:∃fs,Tryz.prog.underlying 42=some (.struct fs)/\(List.range 4).map (fun i=>fs[i]?.map fun f=>(f.type,f.offset))=[some (3,0),some (39,1),some (4,2),some (40,3)]:=⟨_,underlying42,by kernel_rfl⟩
theorem YJ:Tryz.prog.cellsOf 42=4:=by kernel_rfl
theorem LM{n b:Nat}(h:n*b<=reachBytes)(hb:1<=b):n<=1152921504606846976:=by
 unfold reachBytes at h;have:=qb7 n hb;omega
set_option maxRecDepth 100000 in
theorem Akp{H:Type}{enc:TypeId × Value->H}{w:World}{base:Nat}{spare:Nat->Bool}{held:Bool}:∀n cs y,DataW.trod enc prog w base spare held n 56 cs=some y->Light prog 56 y.1->∃d:Wm,cs=CE d/\(d.In w/\d.x.k.length<=1152921504606846976/\d.x.v.length<=1152921504606846976):=by
 intro n cs y h hL;obtain⟨fs,ht,hf⟩:=Afs;have hl:=Uv ht h;rw[YH]at hl;simp only[List.range,List.range.loop,qaz,qbo,qdl,and_true]at hf;obtain⟨f0,f1,f2⟩:=hf;obtain⟨ca,cc,cl,hc,cR,cle,_,cw,_⟩:=LY ht h hL 0 0 f0 underlying24 TK MD (fun n cs y h _=>OI n cs y h);obtain⟨ga,gc,gl,hg,gR,gle,_,gw,_⟩:=LY ht h hL 1 1 f1 underlying24 TK MD (fun n cs y h _=>OI n cs y h);obtain⟨e,he⟩:=WM ht h 2 2 f2 underlying4;rw[PC]at cw gw;refine⟨⟨ca,cc,ga,gc,⟨cl,gl,e⟩⟩,?_,⟨cR,gR,cle,gle⟩,LM cw (qae _),LM gw (qae _)⟩
 match cs,hl with
 | [_,_,_],_ =>
  simp at hc hg he;simp[CE,hc,hg,he]
set_option maxRecDepth 100000 in
theorem Am3{H:Type}{enc:TypeId × Value->H}{w:World}{base:Nat}{spare:Nat->Bool}{held:Bool}:∀n cs y,DataW.trod enc prog w base spare held n 42 cs=some y->Light prog 42 y.1->∃d:Sg9,cs=Vx d/\d.In w:=by
 intro n cs y h hL;obtain⟨fs,ht,hf⟩:=Afu;have hl:=Uv ht h;rw[YJ]at hl;simp only[List.range,List.range.loop,qaz,qbo,qdl,and_true]at hf;obtain⟨f0,f1,f2,f3⟩:=hf;obtain⟨d,hd,d1,d2⟩:=Ak8 ht h 0 0 f0 underlying3;obtain⟨la,lc,ll,hll,lR,lle,_,lw,lG⟩:=LY ht h hL 1 1 f1 underlying39 YI YH Akp;obtain⟨e,he⟩:=WM ht h 2 2 f2 underlying4;obtain⟨pa,pc,pl,hpl,pR,ple,_,pw,pG⟩:=LY (encd:=fun x:Int=>[.int .i64 x]) (Good:=fun x:Int=>IntKind.min .i64<=x/\x<=IntKind.max .i64) ht h hL 3 3 f3 underlying40 Aft Akl (fun n cs y h _=>Aa4 underlying3 n cs y h);have hln:(ll.map (·.x)).length=ll.length:=qai ..
 refine⟨⟨d,la,lc,ll.map (·.x),e,pa,pc,pl⟩,?_,⟨⟨d1,d2⟩,⟨⟨ll,lR,.inr id,rfl,fun m hm=>⟨⟨(lG m hm).1.k,.inr id⟩,⟨(lG m hm).1.v,.inr id⟩,(lG m hm).1.kc,(lG m hm).1.vc⟩⟩,rfl,by rw[hln];exact lle⟩,by rw[hln];exact LM lw Akm,fun y hy=>?_,pR,⟨LM pw Akn,ple⟩,fun x hx=>pG x hx⟩⟩
 .match cs,hl with
  | [_,_,_,_],_ =>
   simp at hd hll he hpl;simp[Vx,hd,hll,he,hpl]
 .obtain⟨m,hm,rfl⟩:=qah.1 hy;exact(lG m hm).2
end Go.Proofs.YtcpgbcabmcbclaaGreatDoor
namespace Go.Proofs.YtcpgbcabmcbclaaGreatDoor.storePlays
open Go.GV Go.Proofs.Tryz Go.ChangeShapes Go.WideShapes Go.ChangeAt Go.RowKit
theorem Akq(os:Os):laidMet prog Rows.storePlaysRow.laid ((laidWorld os).forCall (fun _ _=>0) ⟨#[],#[.int .u16 0,.slice none 0 0,.slice none 0 0,.slice none 0 0],[]⟩).memory :=
 laidMet_of_run' 8 (by kernel_rfl) (by kernel_rfl)
theorem reads(os:Os){H:Type}(enc:TypeId × Value->H):∃ds places,DataW.whole enc prog ((laidWorld os).forCall (fun _ _=>0) ⟨#[],#[.int .u16 0,.slice none 0 0,.slice none 0 0,.slice none 0 0],[]⟩).memory Tryz.f3.params.toList Rows.storePlaysSpec.vars false (#[.int .u16 0,.slice none 0 0,.slice none 0 0,.slice none 0 0]:Array Value).toList 8=some (ds,[],places) :=
 ⟨[.lit (.int .u16 0),.nil,.nil,.nil],[],by kernel_rfl⟩
set_option maxRecDepth 100000 in
theorem Ap1(os:Os)(started:os.Started)(H:Type)(enc:TypeId × Value->H)(F:Stop.Interp) :
  ReturnsInHanded {} checked os 3 .any ((OpenSpec.ofChange Rows.storePlaysSpec).preRow enc prog Tryz.f3 Rows.storePlaysRow.domain false Rows.storePlaysRow.laid) (((OpenSpec.ofChange Rows.storePlaysSpec).at F).post enc prog Tryz.f3 false true false false):=by
 obtain⟨ds,places,hx⟩:=reads os enc
 refine returnsInHanded_of_row (C:=checked) (s:=OpenSpec.ofChange Rows.storePlaysSpec) own started (by kernel_rfl) func3
  (witness_row_at (enc:=enc) (C:=checked) false (laidWorld os) #[.int .u16 0,.slice none 0 0,.slice none 0 0,.slice none 0 0] rfl (by kernel_rfl) (by kernel_rfl) (by kernel_rfl)
   (OpenSpec.preRow_of_cond 8 hx (by kernel_rfl) (fun k hk=>by cases hk) (by kernel_rfl) (Akq os))) ?_
 intro W base args ds gs before hval0 hW _ _ hLt _ _ _;have hval:∀(j:Nat) t v,Tryz.f3.params[j]?=some t->args[j]?=some v->Value.okWide prog W .any base t v:=hval0;have hW':=hW;obtain⟨p,q,hA0,hV,rfl,hfz,hnd⟩:=hW;have hA:DataW.TrodAll enc prog W 0 (fun _=>true) true Tryz.f3.params.toList args.toList ds p:=hA0;rw[params3]at hA hval;obtain⟨v0,vs0,d0,ds0,p0,q0,hargs,rfl,rfl,h0,r0⟩:=trodAll_cons hA;obtain⟨v1,vs1,d1,ds1,p1,q1,rfl,rfl,rfl,h1,r1⟩:=trodAll_cons r0;obtain⟨v2,vs2,d2,ds2,p2,q2,rfl,rfl,rfl,h2,r2⟩:=trodAll_cons r1;obtain⟨v3,vs3,d3,ds3,p3,q3,rfl,rfl,rfl,h3,r3⟩:=trodAll_cons r2;obtain⟨rfl,rfl,rfl⟩:=trodAll_nil r3;obtain rfl:args=#[v0,v1,v2,v3]:=by cases args;simp_all
 obtain⟨k0,rfl,rfl,rfl,hg0⟩:=open_int underlying22 (hval 0 _ v0 rfl rfl) h0;obtain⟨n0,rfl,hb0⟩:=Ap0 (m:=65535) (LX hg0).1 (LX hg0).2;have hL1:Light prog 23 d1:=RJ hLt (i:=1) rfl rfl;obtain⟨a1,c1,l1,rfl,R1,hc1,hm1,hw1,H1⟩:=RM underlying23 YJ Am3 (okWide_slice underlying23 (hval 1 _ v1 rfl rfl)) h1 hL1;unfold maxLen at hm1;have hL2:Light prog 24 d2:=RJ hLt (i:=2) rfl rfl;obtain⟨a2,c2,l2,rfl,R2,hc2,_,hw2,_⟩:=RM underlying24 MD (fun n cs y h _=>OI n cs y h) (okWide_slice underlying24 (hval 2 _ v2 rfl rfl)) h2 hL2;rw[PC]at hw2;unfold reachBytes at hw2;have hL3:Light prog 24 d3:=RJ hLt (i:=3) rfl rfl;obtain⟨a3,c3,l3,rfl,R3,hc3,_,hw3,_⟩:=RM underlying24 MD (fun n cs y h _=>OI n cs y h) (okWide_slice underlying24 (hval 3 _ v3 rfl rfl)) h3 hL3;rw[PC]at hw3;unfold reachBytes at hw3
 refine(TV n0 hb0 W R1 H1 (LM hw1 Ako) R2 R3).calls.mono ?_;rintro e W' ⟨v,rfl,rfl,hx⟩;exact⟨_,rfl,Agk Am2 U U underlying4 (fun ds h=>match ds,h with | [_,_,_,_],_=>rfl) hW' hx⟩
theorem said:Rows.StorePlaysSaid :=
 OpenClaim.holds_of_cond 3 Tryz.f3 rfl rfl rfl rfl rfl rfl rfl ⟨rfl,rfl,rfl,rfl,rfl⟩ rfl rfl rfl rfl rfl (by kernel_rfl) func3 (by kernel_rfl)
  (qb6 (by kernel_rfl)) (by unfold Func.isWrapper;(rw[if_neg (by decide +kernel)];exact⟨rfl,rfl⟩))
  (fun os started H enc _ F=>by rw[OpenClaim.pre_eq_preRow];exact Ap1 os started H enc F)
theorem plain(f:FuncId)(fn:Func)(hf:Tryz.pinned.checked.prog.funcNamed "gablet/gabletlaw09.StorePlays" = some f)(hfn:Tryz.pinned.checked.prog.funcs[f]?=some fn) :
  false=Tryz.pinned.checked.prog.looks []/\∀(j:Nat) t,fn.params[j]?=some t->Tryz.pinned.checked.prog.wantsStandIn t=false:=by
 obtain rfl:f=3:=qbw ((show Tryz.prog.funcNamed "gablet/gabletlaw09.StorePlays" = some 3 by kernel_rfl).symm.trans hf) |>.symm
 obtain rfl:fn=Tryz.f3:=(qbw (Tryz.func3.symm.trans hfn)).symm;refine⟨by kernel_rfl,fun j t ht=>?_⟩;rw[params3]at ht;have hm:=Array.mem_of_getElem? ht
 exact qb5.1 (show(Tryz.f3.params.toList.all fun t => !Tryz.prog.wantsStandIn t)=true by kernel_rfl) t (by rw[params3];simpa using hm) |> fun h=>(qd5 _).mp h
theorem card:Rows.StorePlaysCardSaid :=
 Claim7.holds_tied_plain_at .later [] _ _ _ _ said (fun _ h=>by cases h) (by kernel_rfl) (fun _ h=>by cases h) storePlays_row_tie rfl ⟨rfl,rfl⟩ (by kernel_rfl) rfl plain (by kernel_rfl)
end Go.Proofs.YtcpgbcabmcbclaaGreatDoor.storePlays
namespace Go.Proofs.YtcpgbcabmcbclaaGreatDoor
theorem storePlays_holds:Rows.StorePlaysCardSaid:=storePlays.card
#print axioms storePlays_holds
end Go.Proofs.YtcpgbcabmcbclaaGreatDoor
