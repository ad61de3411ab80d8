/- Part 7 of the proof. -/
import Derived.Test.YtcpgbcabmcbclaaGreatDoorPart6
set_option maxRecDepth 20000
set_option maxHeartbeats 16000000
namespace Go.Proofs.YtcpgbcabmcbclaaGreatDoor
open Go.GV Go.Proofs.Tryz
attribute [local irreducible] Ay W Wq Wt
structure PS where
 i:Nat
 a:Option Addr
 c:Nat
 full:List Value
 ms:List Im
 F:Mut
 L:List (Nat × Obj)
 ch:Ch
theorem MYZ{M Z:Mut}{Y:List (Nat × Obj)}:∀x,MZ M (MY Z Y) x->MY (MZ M Z) Y x:=fun _ h=>h.elim (fun h => .inl (.inl h)) fun h=>h.elim (fun h => .inl (.inr h)) .inr
theorem Ab0{M Z:Mut}{Y:List (Nat × Obj)}:∀x,MY (MZ M Z) Y x->MZ M (MY Z Y) x:=fun _ h=>h.elim (fun h=>h.elim .inl fun h => .inr (.inl h)) fun h => .inr (.inr h)
theorem MY.nil{M:Mut}:∀x,MY M [] x->M x:=fun x h=>h.elim id fun h=>by cases h
theorem Grown.side{w0 w w':World}{M M':Mut}{S:List Nat}(t:Grown M M' w0 w)(hx:Ext S w w')(hy:∀y∈S,w0.heap.size<=y):Grown M M' w0 w':=by
 obtain⟨⟨S,hS,h1⟩,g⟩:=t;exact⟨⟨S,hS,h1.then hx fun y h => .inr (hy y h)⟩,g⟩
theorem Ab1(inner:Bool)(x:SN):∀v∈Yn inner x,AX v=true:=fun v hv=>by
 simp only[Yn,qaa,qaj,or_false]at hv
 rcases hv with rfl|rfl <;> rfl
theorem WL{w0 w w':World}{Y Y':List (Nat × Obj)}(h:∀y∈Y.map (·.1),w0.heap.size<=y)(hle:w0.heap.size<=w.heap.size)(H:Ctx w (Y.map (·.1)) w' Y'):∀y∈Y'.map (·.1),w0.heap.size<=y:=fun y hy=>by
 obtain⟨z,hz,rfl⟩:=qak.1 hy;exact(H.own z hz).elim (h _) fun h5=>by omega
abbrev PY(b3:Nat)(inner:Bool)(a:Option Addr)(n cc:Nat)(s:PS):List (Nat × Obj) :=
 (b3,Bl 183 [.bool inner,.slice a n cc])::ent s.a 185 s.full
theorem WM{w:World}{bt bd bp ba fr bc:Nat}{c:Ch}{F:Mut}{L:List (Nat × Obj)}(X:Cx w bt bd bp ba fr bc c F L)(hfr:fr<=5000)(htk:c.tk.length<=99990)(inner:Bool){a:Option Addr}{n cc:Nat}{M:List It}(Z:Mut)(hZ:∀x,Z x->x<w.heap.size)(I:Its w (MZ (TM F ba bt bp L) Z) a n cc M)(hsz:∀x∈M,x.key.length<=65535/\x.val.length<=65535)(hpg:∀x∈M,x.page<9223372036854775808)(hne:M≠[]->∀h∈CQ inner M,h≠[]){mx:Nat}(hfew:Few c.A mx)(hm:n<=1000:=by omega)(hmx:mx<=999999990:=by omega):
  Ret prog 202 #[ptr bc,.agg #[.bool inner,.slice a n cc]] w fun v w'=>∃(a':Option Addr) (n' c':Nat) (F':Mut) (L':List (Nat × Obj)),v=.tuple #[.slice a' n' c',.int .i64 (II fr c inner M).1]/\Cx w' bt bd bp ba fr bc (II fr c inner M).2.1 F' L'/\Grown (TM F ba bt bp L) (TM F' ba bt bp L') w w'/\Its w' (MZ (TM F' ba bt bp L') Z) a' n' c' (II fr c inner M).2.2:=by
 obtain⟨w0,rfl⟩:=qD w;have hnum:=I.num;have hlt0:∀x,MZ (TM F ba bt bp L) Z x->x<w0.heap.size:=fun x h=>h.elim (X.T.mlt x) (hZ x);obtain⟨pc,hpc⟩:=qD (II fr c inner M);rw[<-hpc];unfold II at hpc;have H:=Ctx.start w0 [];refine Ax (fn:=f202) func202 U [.pointer (some ⟨bc,0,none⟩),.agg #[.bool inner,.slice a n cc]] U ?_;refine Ad (BN [.bool inner,.slice a n cc] (.agg _) U U H ?_);rintro b3 w - H;refine Ai U (Ac U (qA (Aq (Ad (Af B0 U (AG BV U H at0 U (AP Bu U (B6 U U (qA ?_)))))))));refine Ar _ U ?_ ?_
 .intro h1;replace h1:=AV h1;have hM0:M=[]:=qa8 (by omega);rw[if_pos hM0]at hpc;refine Ad (Ai U (Ac U (qA (Aw (An (BA (v1:=(.slice _ _ _)) (v2:=(.int _ _)) U U U U ?_))))));have hx0:=H.ext;obtain⟨O1,G1⟩:=Fo.nil.own hlt0 H;exact⟨none,0,0,F,L,by rw[hpc],by rw[hpc];exact X.side Fo.nil H.ext,.call0 H.ext,by rw[hpc];exact Its.nil⟩
 .intro h1;replace h1:=AW h1;have hM0:M≠[]:=fun h=>h1 (by have h5:=qac List.length h;rw[qbt]at h5;omega);rw[if_neg hM0]at hpc;replace hne:=hne hM0;refine Ap (Aa (Aq (Ad (BH BJ Bm U H at0 U ?_))));obtain⟨O1,G1⟩:=Fo.nil.own hlt0 H;have X1:=X.side Fo.nil H.ext;have hyo2:=WL (w0:=w0) (Y:=[]) (fun y h=>by cases h) (qae _) H;have hsz1:=H.ext.size;have GT1:Grown (TM F ba bt bp L) (TM F ba bt bp L) w0 w := .call0 H.ext;refine Ah qB (Yo (O1.lt fun x h=>h.elim (X1.T.mlt x) fun h=>qas (hZ x h) hsz1) inner ((I.weak MY.nil).turn G1) hsz) U ?_;rintro v w2 ⟨an,nn,cn,rfl,N,hx2⟩;obtain⟨ms,R,hs,hl,hok⟩:=N.ex;have hnn:=N.num;have h2:=OY inner M;have hml:ms.length=nn:=by rw[hnn,<-hl,qan]
  obtain⟨O2,G2⟩:=O1.call (.call0 hx2);have X2:=X1.side Fo.nil hx2;have hsz2:=qav hsz1 hx2.size;replace H:=O2.ctx
  refine AP RL U (Ae U (qA (AB (BE 34359608240 (α:=PS) (fun s=>[(17,.int .i64 (s.i:Int)),(4,.slice s.a s.ms.length s.c)]) (fun s w'=>s.i<=nn/\Cx w' bt bd bp ba fr bc s.ch s.F s.L/\Fo w' (MZ (TM s.F ba bt bp s.L) Z) (PY b3 inner a n cc s)/\Nds w' (MY (MZ (TM s.F ba bt bp s.L) Z) (PY b3 inner a n cc s)) inner an nn cn (CQ inner M)/\OS s.a s.ms.length s.c 3 s.full (s.ms.flatMap Im.enc)/\(∀m∈s.ms,m.Ok w' (MY (MZ (TM s.F ba bt bp s.L) Z) (PY b3 inner a n cc s)))/\Grown (TM F ba bt bp L) (TM s.F ba bt bp s.L) w0 w'/\pc=De fr inner ((CQ inner M).drop s.i) s.ch (s.ms.map (·.it))/\Few s.ch.A (mx+s.i)/\s.ch.tk.length<=c.tk.length+s.i/\s.ms.length=s.i/\(∀y∈(PY b3 inner a n cc s).map (·.1),w0.heap.size<=y)/\w0.heap.size<=w'.heap.size) (fun s=>nn - s.i) ⟨0,none,0,[],[],F,L,c⟩ U ?_ ?_ ?_))))
  .exact⟨rfl,rfl,trivial⟩
  .exact⟨qal _,X2,O2,N,OS.nil,(fun m h=>by cases h),GT1.trans (.call0 hx2),hpc,hfew,qae _,rfl,hyo2,hsz2⟩
  .rintro⟨i,a4,c4,f4,qs,F1,L1,c1⟩ j w ⟨hi,X3,O3,N3,OA,hqo,GT3,hpc3,hfew3,htk3,hqi,hyo,hsz3⟩;dsimp only at hi X3 O3 N3 OA hqo GT3 hpc3 hfew3 htk3 hqi hyo hsz3;dsimp only;obtain⟨ns,R3,hs3,hl3,hok3⟩:=N3.ex;have hnl:ns.length=nn:=by rw[hnn,<-hl3,qan]
   have H:=O3.ctx;refine Ad (Bp U U (qA (Aq (Ar _ U ?_ ?_))))
   .intro h3;replace h3:=AV h3;obtain⟨x,hx1⟩:=AY (l:=ns) (i:=i);have hxL:(CQ inner M)[i]?=some x.2.1:=by rw[<-hl3,qax,hx1];rfl
    have hxm:=qaf hxL;obtain⟨hx2,hx3⟩:=OX hxm;have Ix:=hok3 x (qaf hx1);rw[JS hxL,De]at hpc3;refine Ap (Aa (Aq (AB (Ad (Bo R RL Bm U U ?_)))));refine EK (Yn inner x) BJ Bm U U (R3.row hx1 U) (Bf CJ H ?_);rintro b7 w - H;refine Bc Bm U U U (by exact(by exact Ab1 _ _)) H at0 U ?_;rintro w H;refine qA (Ad (Ao U (BH BJ Bm U H at0 U ?_)));obtain⟨O4,G4⟩:=O3.own (fun x h=>h.elim (X3.T.mlt x) fun h=>qas (hZ x h) hsz3) H;have X4:=X3.side (O3.weak fun _ h => .inl h) H.ext;have GT4:=GT3.side H.ext hyo;have hyo4:=WL hyo hsz3 H;have Iy:=Ix.turn G4;refine Ah qB (Q6 X4 hfr inner (MY Z _) (Iy.weak MYZ) (hne _ hxm) (fun y hy=>hsz y (hx3 y hy)) (fun y hy=>hpg y (hx3 y hy)) hfew3) U ?_;rintro v w5 ⟨m,F5,L5,rfl,X5,G5,hmo,hmp,hmi⟩;have hmo:=hmo.weak Ab0
    obtain⟨O5,GY5⟩:=O4.call (G5.or Z);have GT5:=GT4.trans G5;have GY:=G4.trans GY5;replace H:=O5.ctx;refine AL U (Ag U U (Ag U U (Bf Dn H ?_)));rintro b8 w - H;refine Bc Bn U U U (by exact(by exact Im.oneE _)) H at0 U ?_;rintro w H;refine Ac U (qA (Aq (Ad (Ae U (AN U U (qA (Ar _ U ?_ ?_)))))))
    .intro h4;replace h4:=Bh h4;rw[if_neg (show ¬(wrC fr c1 inner x.2.1).1=0 from h4)]at hpc3;refine Ad (Ae U (Ai U (Ac U (qA (Aw (An (AK (An (An (AK (An (BA (v1:=(.slice _ _ _)) (v2:=(.int _ _)) U U U U ?_))))))))))));exact⟨none,0,0,F5,L5,by rw[hpc3],by rw[hpc3];exact X5.side (O5.weak fun _ h => .inl h) H.ext,GT5.side H.ext hyo4,by rw[hpc3];exact Its.nil⟩
    .intro h4;replace h4:=Bi h4;have h5:(wrC fr c1 inner x.2.1).1=0:=by simpa using h4
     rw[if_pos h5]at hpc3;have hmi':=hmi h5;refine Ap (Aa (A5 (Aj U (BH Dg Bn U H at0 U (C3 _ (.agg _) Bu Bn Dn U U U U H ?_)))));rintro b32 w - H;refine Df (L:=[_,_,_]) Bu Bu Bn RH Dn U U U H OA U (Im.oneE m) ?_;rintro a33 c33 f33 w H OB;refine Ai U (Ab (AH (Aa (A5 (A8 U U ?_)))));refine Ae U (qA ?_);have H6:=H.tail.tail;have hsz5:w0.heap.size<=w5.heap.size:=GT5.1.choose_spec.2.size;obtain⟨O6,G6⟩:=O5.own (fun x h=>h.elim (X5.T.mlt x) fun h=>qas (hZ x h) hsz5) H6;have GG:=GY.trans G6;have hql:(qs++[m]).length=qs.length+1:=by simp
     refine⟨⟨i+1,a33,c33,f33,qs++[m],F5,L5,(wrC fr c1 inner x.2.1).2⟩,rfl,⟨rfl,by rw[hql];rfl,trivial⟩,⟨by dsimp only;omega,X5.side (O5.weak fun _ h => .inl h) H6.ext,O6,N3.turn GG,by dsimp only;rw[hql,qcg];simpa using OB,fun q hq=>?_,GT5.side H6.ext hyo4,?_,by dsimp only;exact(Nz hfew3).mono (by omega),by dsimp only;have:=V8 (fr:=fr) (c:=c1) (inner:=inner) (M:=x.2.1);omega,by dsimp only;rw[hql,hqi],WL hyo4 hsz5 H6,qav hsz5 H6.ext.size⟩,by dsimp only;omega⟩
     .dsimp only at hq |-
      rcases qat.1 hq with hq|hq
      .exact(hqo q hq).turn GG
      .rw[qab.1 hq];exact hmo.turn G6
     .dsimp only;rw[hpc3,qa0,<-hmi'];rfl
   .intro h3;replace h3:=AW h3;have hii:i=nn:=by omega
    rw[qb6 (by omega),De]at hpc3;have Rm:=OS.rd OA (fun y hy=>O3.blk y (qah _ hy)) (fun _ _=>rfl) (by decide);refine B9 (A6 (A6 (Bd (Aa (Ad (Aj U (Ai U (Ac U (qA (Aw (BA (v1:=(.slice _ _ _)) (v2:=(.int _ _)) U U U U ?_)))))))))));refine⟨a4,qs.length,c4,F1,L1,by rw[hpc3],by rw[hpc3];exact X3,GT3,?_⟩;rw[hpc3];refine⟨⟨qs,Rm,?_,rfl,fun m hm=>(hqo m hm).weak MY.le⟩,by simp,OA.le⟩
    cases ha4:a4 with
    |none=>exact .inl (qa8 (by have h8:=OA.le;have h9:=OA.none' ha4;omega))
    |some q =>
     subst ha4;exact .inr fun h=>O3.off (q.block,_) (qah _ (qab.2 rfl)) h
def RD(A:Dev)(fr:Nat)(p:Nat):Option (Bool × List It):=DK (stands (A.B.getD (fr+p) (zeros,[])))
theorem Uh{A:Dev}{q:Nat}(hon:A.on=true)(hq:q<A.B.length):F6 A (q:Int)=0:=by
 have:A.has (q:Int)=true:=by
  unfold Dev.has;rw[qai (by omega),qai (by omega)];rfl
 unfold F6;rw[hon,this];rfl
theorem Ab2{A:Dev}{q:Nat}(hon:A.on=true)(hq:q<A.B.length:=by omega):Fb A (q:Int)=stands (A.B.getD q (zeros,[])):=by
 unfold Fb;rw[Uh hon hq,qbi];rfl
theorem Ju{A:Dev}{fr sz p d:Nat}{n:Bool × List It}(hon:A.on=true)(hp:p<sz)(hl:fr+sz<=A.B.length)(hd:d<=16)(h:RD A fr p=some n):CM A fr sz (p:Int) (d:Int)=(0,some n):=by
 unfold CM;rw[if_neg (by omega)];rw[show(fr:Int)+(p:Int)=((fr+p:Nat):Int)by omega,Uh hon (by omega),Ab2 hon,if_pos rfl];unfold RD at h;rw[h]
structure Fits(inner:Bool)(M:List It):Prop where
 ne:M≠[]
 ok:∀x∈M,OkI inner x
 sz:AQ inner M<=503
theorem Fits.seal{inner:Bool}{M:List It}(h:Fits inner M):OW inner M=0/\(Ho inner M).length=512/\DK (Ho inner M)=some (inner,M):=by
 have hb:=JW inner M;have hz:=h.sz;have hk:(Gh inner M).toNat≠0:=by unfold Gh;split <;> decide
 refine⟨?_,En (by omega),V2 h.ok h.ne h.sz⟩;unfold OW F4;rw[qag hk,qag (by omega)];rfl
theorem V9{P:List Nat}(h:Co P<P.length):P[Co P]?=some 0:=by
 unfold Co at *
 have h2:∀(P:List Nat),(P.takeWhile fun s=>decide (s≠0)).length<P.length->P[(P.takeWhile fun s=>decide (s≠0)).length]?=some 0:=by
  intro P
  induction P with
  |nil=>intro h;cases h
  |cons s P ih =>
   intro h
   by_cases hs:s=0
   .subst hs;rfl
   .rw[qcn,qai hs]at h |-;simp only[if_true,qaw]at h |-;rw[qez];exact ih (by omega)
 exact h2 P h
theorem VA{P:List Nat}(h:Co P=P.length):Dt P=0:=by
 have h2:∀(P:List Nat),(P.takeWhile fun s=>decide (s≠0)).length=P.length->Dt P=0:=by
  intro P
  induction P with
  |nil=>intro _;rfl
  |cons s P ih =>
   intro h
   by_cases hs:s=0
   .subst hs;simp at h
   .rw[qcn,qai hs]at h;simp only[if_true,qaw]at h;unfold Dt;rw[qd9,qag hs];have:=ih (by omega);unfold Dt at this;simp[this]
 exact h2 P h
theorem Ab3(P:List Nat):Co P<=P.length:=(qe1 (l:=P) (fun s=>decide (s≠0))).length_le
theorem Ab4{P:List Nat}:∀{k s:Nat},P[k]?=some 0->s≠0->Dt (P.set k s)+1=Dt P:=by
 unfold Dt
 induction P with
 |nil=>intro k s h;simp at h
 |cons x P ih =>
  intro k s h hs
  cases k with
  |zero =>
   simp only[qcs,qba]at h;subst h;rw[List.set_cons_zero,qd9,qd9,qag hs];simp
  |succ k =>
   rw[List.set_cons_succ,qd9,qd9];have:=ih (k:=k) (s:=s) (by simpa using h) hs;omega
theorem Yr{A:Dev}(h:A.left = -1):A.less=A:=by
 unfold Dev.less;rw[if_neg (by omega),if_pos h]
structure CI(fr:Nat)(c0 c:Ch)(t g:List Nat):Prop where
 tk:c.tk=c0.tk++t
 gn:c.gn=c0.gn++g
 nd:t.Nodup
 was:∀x∈t,c0.P[x]?=some 0
 now:∀x:Nat,c.P[x]?=if x∈t then some 2 else c0.P[x]?
 len:c.P.length=c0.P.length
 blen:c.A.B.length=c0.A.B.length
 blk:∀q,(∀x∈t,q≠fr+x)->c.A.B.getD q (zeros,[])=c0.A.B.getD q (zeros,[])
 left:c0.A.left = -1->c.A.left = -1
 free:Dt c.P+t.length=Dt c0.P
section
variable {fr:Nat}{c0 c c1 c2:Ch}{t t' g g':List Nat}
theorem CI.refl(fr:Nat)(c:Ch):CI fr c c [] []:=⟨by simp,by simp,qcv,by simp,by simp,rfl,rfl,fun _ _=>rfl,fun h=>h,rfl⟩
theorem CI.trans(h1:CI fr c0 c1 t g)(h2:CI fr c1 c2 t' g'):CI fr c0 c2 (t++t') (g++g'):=by
 have hd:∀x∈t',x∉t:=fun x h3 h4=>by
  have h5:=h2.was x h3;rw[h1.now x,if_pos h4]at h5;cases h5
 refine⟨by rw[h2.tk,h1.tk,qa1],by rw[h2.gn,h1.gn,qa1],?_,fun x hx=>?_,fun x=>?_,h2.len.trans h1.len,h2.blen.trans h1.blen,fun q hq=>?_,fun h=>h2.left (h1.left h),?_⟩
 .rw[qdh];exact⟨h1.nd,h2.nd,fun a ha b hb e=>hd b hb (e ▸ ha)⟩
 .rcases qat.1 hx with h|h
  .exact h1.was x h
  .have:=h2.was x h
   rwa [h1.now x,if_neg (hd x h)]at this
 .rw[h2.now x,h1.now x]
  by_cases ha:x∈t'
  .rw[if_pos ha,if_pos (qaz _ ha)]
  .rw[if_neg ha]
   by_cases hb:x∈t
   .rw[if_pos hb,if_pos (qbb _ hb)]
   .rw[if_neg hb,if_neg (fun h=>(qat.1 h).elim hb ha)]
 .rw[h2.blk q fun x hx=>hq x (qaz _ hx),h1.blk q fun x hx=>hq x (qbb _ hx)]
 .have:=h1.free;have:=h2.free;rw[qam];omega
theorem CI.gone(fr:Nat)(c:Ch)(p:Nat):CI fr c { c with gn:=c.gn++[p] } [] [p]:=⟨by simp,rfl,qcv,by simp,by simp,rfl,rfl,fun _ _=>rfl,fun h=>h,rfl⟩
def Held(P S:List Nat):Prop:=∀x∈S,∃s,P[x]?=some s/\s≠0
theorem Held.keep{S:List Nat}(h:Held c0.P S)(h1:CI fr c0 c t g):Held c.P S:=fun x hx=>by
 obtain⟨s,h2,h3⟩:=h x hx;rw[h1.now x]
 split
 .exact⟨2,rfl,by decide⟩
 .exact⟨s,h2,h3⟩
theorem CI.rd(h1:CI fr c0 c t g){S:List Nat}(h:Held c0.P S):∀x∈S,RD c.A fr x=RD c0.A fr x:=fun x hx=>by
 unfold RD;rw[h1.blk (fr+x) fun y hy e=>?_];obtain⟨s,h2,h3⟩:=h x hx;have h4:=h1.was y hy;rw[show y=x by omega,h2]at h4;exact h3 (qbr h4)
theorem CI.held(h1:CI fr c0 c t g):Held c.P t:=fun x hx=>⟨2,by rw[h1.now x,if_pos hx],by decide⟩
theorem Held.lt{P S:List Nat}(h:Held P S){x:Nat}(hx:x∈S):x<P.length:=by
 obtain⟨s,h2,_⟩:=h x hx;exact(qar.1 h2).1
theorem CI.apart(h1:CI fr c0 c t g){S:List Nat}(h:Held c0.P S):∀x∈S,x∉t:=fun x hx ht=>by
 obtain⟨s,h2,h3⟩:=h x hx;have h4:=h1.was x ht;rw[h2]at h4;exact h3 (qbr h4)
theorem OZ{α:Type}{l:List α}{f:α->α}{i q:Nat}{d:α}(h:q≠i):(l.modify i f).getD q d=l.getD q d:=by
 rw[qa5,qa5,qcd];simp only[if_neg (fun e:i=q=>h e.symm)];cases l[q]? <;> rfl
theorem Pa{α:Type}{l:List α}{f:α->α}{i:Nat}{d:α}(h:i<l.length:=by omega):(l.modify i f).getD i d=f (l.getD i d):=by
 rw[qa5,qa5,qcd,qa9 h];simp
theorem Aev{inner:Bool}{M:List It}(hon:c.A.on=true)(hl:fr+c.P.length<=c.A.B.length)(hM:Fits inner M) :
  ((wrC fr c inner M).1=7/\(wrC fr c inner M).2=c/\Dt c.P=0) \/
  (CI fr c (wrC fr c inner M).2 [BZ c.P] [] /\
   (((wrC fr c inner M).1=0/\(wrC fr c inner M).2.A.on=true/\RD (wrC fr c inner M).2.A fr (BZ c.P)=some (inner,M))\/((wrC fr c inner M).1=8/\c.A.left ≠ -1))):=by
 obtain⟨hs1,hs2,hs3⟩:=hM.seal
 by_cases hf:Co c.P=c.P.length
 .left;have h7:HA c.P=7:=by unfold HA;rw[if_pos hf]
  have h8:wrC fr c inner M=(7,c):=by unfold wrC;rw[if_pos (by omega),h7]
  rw[h8];exact⟨rfl,rfl,VA hf⟩
 .right;have hlt:Co c.P<c.P.length:=by have:=Ab3 c.P;omega
  have h7:HA c.P=0:=by unfold HA;rw[if_neg hf]
  have hk:BZ c.P=Co c.P:=by unfold BZ;rw[if_neg hf]
  have hP:GZ c.P=c.P.set (Co c.P) 2:=by unfold GZ;rw[if_neg hf]
  have h0:=V9 hlt
  have h8:wrC fr c inner M=(CS c.A (((fr+Co c.P:Nat)):Int) (Ho inner M),⟨Cf c.A (((fr+Co c.P:Nat)):Int) (Ho inner M),c.P.set (Co c.P) 2,c.tk++[Co c.P],c.gn⟩):=by
   unfold wrC;rw[if_neg (by omega),if_neg (by rw[hs1];simp),hk,hP]
  have hh:c.A.has (((fr+Co c.P:Nat)):Int)=true:=by unfold Dev.has;rw[qai (by omega),qai (by omega)];rfl
  have hB:∀(D:Dev),D.B=c.A.B\/D.B=c.A.B.modify (fr+Co c.P) (fun p=>(p.1,p.2++[Ho inner M]))->(c.A.left = -1->D.left = -1)->CI fr c ⟨D,c.P.set (Co c.P) 2,c.tk++[Co c.P],c.gn⟩ [Co c.P] []:=fun D hD hDl=>by
   refine⟨rfl,by simp,qcf.2 ⟨by simp,qcv⟩,fun x hx=>?_,fun x=>?_,by simp,?_,fun q hq=>?_,hDl,?_⟩
   .rw[qab.1 hx];exact h0
   .show(c.P.set (Co c.P) 2)[x]?=_
    by_cases hx:x=Co c.P
    .subst hx;rw[if_pos (by simp),qem hlt]
    .rw[if_neg (by simpa using hx),qen (fun e=>hx e.symm)]
   .show D.B.length=_
    rcases hD with h|h <;> rw[h]
    rw[qd3]
   .show D.B.getD q _=_
    rcases hD with h|h <;> rw[h]
    exact OZ (hq _ (by simp))
   .exact Ab4 h0 (by decide)
  rw[h8,hk]
  by_cases hg:c.A.goes=true
  .have hw:Cf c.A (((fr+Co c.P:Nat)):Int) (Ho inner M)=c.A.less:=by unfold Cf;rw[hon,hh,hs2,hg];rfl
   have he:CS c.A (((fr+Co c.P:Nat)):Int) (Ho inner M)=8:=by unfold CS;rw[hon,hh,hs2,hg];rfl
   have hl0:c.A.left=0:=by simpa[Dev.goes]using hg
   rw[hw,he];exact⟨hB _ (.inl (FF _)) fun h=>by omega,.inr ⟨rfl,by omega⟩⟩
  .have hg:c.A.goes=false:=by simpa using hg
   have hw:Cf c.A (((fr+Co c.P:Nat)):Int) (Ho inner M)=OD c.A.less (fr+Co c.P) (Ho inner M):=by unfold Cf;rw[hon,hh,hs2,hg,qbi];rfl
   have he:CS c.A (((fr+Co c.P:Nat)):Int) (Ho inner M)=0:=by unfold CS;rw[hon,hh,hs2,hg];rfl
   have hl0:¬c.A.left=0:=by simpa[Dev.goes]using hg
   rw[hw,he];refine⟨hB _ (.inr (by show(c.A.less.B).modify _ _=_;rw[FF])) fun h=>by show c.A.less.left = -1;rw[Yr h];exact h,.inl ⟨rfl,?_,?_⟩⟩
   .show c.A.less.on=true;unfold Dev.less;rw[if_neg hl0]
    split <;> exact hon
   .unfold RD;show DK (stands ((c.A.less.B.modify (fr+Co c.P) _).getD (fr+Co c.P) _))=_;rw[FF,Pa];show DK ((((c.A.B.getD (fr+Co c.P) (zeros,[])).2++[Ho inner M]).getLast?).getD _)=_;rw[List.getLast?_concat];exact hs3
end
def BK(p:Pr):It:=⟨p.1,p.2,0⟩
def Kids(Q:Nat->List Pr->List Nat->Prop):List It->List Pr->List Nat->Prop
 | [],L,S=>L=[]/\S=[]
 |x::l,L,S=>∃L1 L2 S1 S2,L=L1++L2/\S=S1++S2/\Q x.page L1 S1/\L1[0]?.map (·.1)=some x.key/\x.val=[]/\Kids Q l L2 S2
def Many(i:Bool)(M:List It):Prop:=if i=true then 2<=M.length else M≠[]
def Part(R:Nat->Option (Bool × List It)):Nat->Bool->List It->List Pr->List Nat->Prop
 |0,i,M,L,S=>i=false/\M=L.map BK/\S=[]
 |h+1,i,M,L,S=>i=true/\Kids (fun p L S=>∃i' M' S',Part R h i' M' L S'/\R p=some (i',M')/\S=p::S'/\Many i' M'/\AQ i' M'<=503) M L S
def Lies(R:Nat->Option (Bool × List It))(h:Nat)(p:Nat)(L:List Pr)(S:List Nat):Prop :=
 ∃i' M' S',Part R h i' M' L S'/\R p=some (i',M')/\S=p::S'/\Many i' M'/\AQ i' M'<=503
def OkP(L:List Pr):Prop:=∀p∈L,1<=p.1.length/\p.1.length<=32/\p.2.length<=128
section
variable {R R':Nat->Option (Bool × List It)}{Q Q':Nat->List Pr->List Nat->Prop}{h:Nat}{i:Bool}{M l a b:List It}{L:List Pr}{S:List Nat}
theorem Es:Kids Q (a++b) L S↔∃La Lb Sa Sb,L=La++Lb/\S=Sa++Sb/\Kids Q a La Sa/\Kids Q b Lb Sb:=by
 induction a generalizing L S with
 |nil =>
  constructor
  .intro h;exact⟨[],L,[],S,rfl,rfl,⟨rfl,rfl⟩,h⟩
  .rintro⟨La,Lb,Sa,Sb,rfl,rfl,⟨rfl,rfl⟩,h⟩;exact h
 |cons x a ih =>
  constructor
  .rintro⟨L1,L2,S1,S2,rfl,rfl,h1,h2,h3,h4⟩;obtain⟨La,Lb,Sa,Sb,rfl,rfl,h5,h6⟩:=ih.1 h4;exact⟨L1++La,Lb,S1++Sa,Sb,by simp,by simp,⟨L1,La,S1,Sa,rfl,rfl,h1,h2,h3,h5⟩,h6⟩
  .rintro⟨La,Lb,Sa,Sb,rfl,rfl,⟨L1,L2,S1,S2,rfl,rfl,h1,h2,h3,h4⟩,h5⟩;exact⟨L1,L2++Lb,S1,S2++Sb,by simp,by simp,h1,h2,h3,ih.2 ⟨L2,Lb,S2,Sb,rfl,rfl,h4,h5⟩⟩
theorem Kids.mono(hk:Kids Q l L S)(hq:∀p L' S',(∀x∈S',x∈S)->Q p L' S'->Q' p L' S'):Kids Q' l L S:=by
 induction l generalizing L S with
 |nil=>exact hk
 |cons x l ih =>
  obtain⟨L1,L2,S1,S2,rfl,rfl,h1,h2,h3,h4⟩:=hk;exact⟨L1,L2,S1,S2,rfl,rfl,hq _ _ _ (fun x hx=>qbb _ hx) h1,h2,h3,ih h4 fun p L' S' hs=>hq p L' S' fun x hx=>qaz _ (hs x hx)⟩
theorem Part.frame:∀{h:Nat} {i:Bool} {M:List It} {L:List Pr} {S:List Nat},Part R h i M L S->(∀x∈S,R' x=R x)->Part R' h i M L S
 |0,_,_,_,_,hp,_=>hp
 |h+1,i,M,L,S,hp,hr=>⟨hp.1,hp.2.mono fun p L' S' hs ⟨i',M',S2,h1,h2,h3,h4⟩=>⟨i',M',S2,h1.frame fun x hx=>hr x (hs x (by rw[h3];exact qah _ hx)),by rw[hr p (hs p (by rw[h3];exact qad ..))];exact h2,h3,h4⟩⟩
theorem Lies.frame{p:Nat}(hp:Lies R h p L S)(hr:∀x∈S,R' x=R x):Lies R' h p L S:=by
 obtain⟨i',M',S2,h1,h2,h3,h4⟩:=hp;exact⟨i',M',S2,h1.frame fun x hx=>hr x (by rw[h3];exact qah _ hx),by rw[hr p (by rw[h3];exact qad ..)];exact h2,h3,h4⟩
theorem Kids.frame(hk:Kids (Lies R h) l L S)(hr:∀x∈S,R' x=R x):Kids (Lies R' h) l L S :=
 hk.mono fun _ _ _ hs hq=>hq.frame fun x hx=>hr x (hs x hx)
theorem Lies.page{p:Nat}(hp:Lies R h p L S):p∈S:=by
 obtain⟨i',M',S2,h1,h2,h3,h4⟩:=hp;rw[h3];exact qad ..
theorem Kids.ne(hk:Kids Q l L S)(hl:l≠[]):L≠[]:=by
 cases l with
 |nil=>exact absurd rfl hl
 |cons x l =>
  obtain⟨L1,L2,S1,S2,rfl,rfl,h1,h2,h3,h4⟩:=hk
  cases L1 with
  |nil=>cases h2
  |cons y L1=>simp
theorem Many.ne(h:Many i M):M≠[]:=by
 unfold Many at h
 split at h
 .intro e;rw[e]at h;simp at h
 .exact h
theorem Part.ne(hp:Part R h i M L S)(hm:M≠[]):L≠[]:=by
 cases h with
 |zero=>obtain⟨_,rfl,_⟩:=hp;exact fun e=>hm (by rw[e];rfl)
 |succ h=>exact hp.2.ne hm
theorem Lies.ne{p:Nat}(hp:Lies R h p L S):L≠[]:=by
 obtain⟨i',M',S2,h1,h2,h3,h4,h5⟩:=hp;exact h1.ne h4.ne
theorem Kids.items(hk:Kids (Lies R h) l L S)(ho:OkP L):∀x∈l,x.val=[]/\x.key.length<=32/\x.page∈S:=by
 induction l generalizing L S with
 |nil=>intro x hx;cases hx
 |cons y l ih =>
  obtain⟨L1,L2,S1,S2,rfl,rfl,h1,h2,h3,h4⟩:=hk;intro x hx
  rcases qaa.1 hx with rfl|hx
  .refine⟨h3,?_,qbb _ h1.page⟩
   cases L1 with
   |nil=>cases h2
   |cons z L1 =>
    simp only[qcs,qbd,qba]at h2;rw[<-h2];exact(ho z (by simp)).2.1
  .have:=ih h4 (fun p hp=>ho p (qaz _ hp)) x hx;exact⟨this.1,this.2.1,qaz _ this.2.2⟩
theorem Part.ok(hp:Part R h i M L S)(ho:OkP L){P:List Nat}(hh:Held P S)(hP:P.length<=4096):∀x∈M,OkI i x/\Cn i x<=164/\(i=true->Cn i x<=38):=by
 cases h with
 |zero =>
  obtain⟨rfl,rfl,_⟩:=hp;intro x hx;obtain⟨p,hp,rfl⟩:=qak.1 hx;obtain⟨h1,h2,h3⟩:=ho p hp;refine⟨⟨?_,?_,by show(0:Nat)<_;omega,by simp[BK]⟩,?_,fun h=>by cases h⟩
  .show p.1.length<_;omega
  .show p.2.length<_;omega
  .show 4+p.1.length+p.2.length<=_;omega
 |succ h =>
  obtain⟨rfl,hk⟩:=hp;intro x hx;obtain⟨h1,h2,h3⟩:=Kids.items hk ho x hx;have:=hh.lt h3;have h38:Cn true x<=38:=by show 6+x.key.length<=38;omega
  refine⟨⟨by omega,by rw[h1];simp,by omega,by simp[h1]⟩,by omega,fun _=>h38⟩
theorem Part.key(hp:Part R h i M L S)(hm:M≠[]):L[0]?.map (·.1)=some (Gt M):=by
 cases h with
 |zero =>
  obtain⟨rfl,rfl,_⟩:=hp
  cases L with
  |nil=>exact absurd rfl hm
  |cons p L=>rfl
 |succ h =>
  obtain⟨rfl,hk⟩:=hp
  cases M with
  |nil=>exact absurd rfl hm
  |cons x M =>
   obtain⟨L1,L2,S1,S2,rfl,rfl,h1,h2,h3,h4⟩:=hk
   cases L1 with
   |nil=>cases h2
   |cons y L1=>exact h2
theorem Part.append(h1:Part R h i (a++b) L S):∃La Lb Sa Sb,L=La++Lb/\S=Sa++Sb/\Part R h i a La Sa/\Part R h i b Lb Sb:=by
 cases h with
 |zero =>
  obtain⟨rfl,he,rfl⟩:=h1;obtain⟨La,Lb,rfl,ha,hb⟩:=List.append_eq_map_iff.1 he;exact⟨La,Lb,[],[],rfl,rfl,⟨rfl,ha.symm,rfl⟩,⟨rfl,hb.symm,rfl⟩⟩
 |succ h =>
  obtain⟨La,Lb,Sa,Sb,e1,e2,ha,hb⟩:=Es.1 h1.2;exact⟨La,Lb,Sa,Sb,e1,e2,⟨h1.1,ha⟩,⟨h1.1,hb⟩⟩
end
theorem Sn{inner:Bool}{half m:Nat}:∀{l:List It} {sum:Nat},(∀x∈l,Cn inner x<=m)->sum<half+m->sum+AQ inner (l.take (IA inner half l sum))<half+m
 | [],sum,_,h=>by simpa[IA,AQ]using h
 |x::l,sum,hl,h=>by
  rw[IA]
  split
  .rename_i h1
   rw[qeq,Cr,<-qb9];exact Sn (fun y hy=>hl y (qah _ hy)) (by have:=hl x (qad ..);omega)
  .simpa[AQ]using h
theorem WN{inner:Bool}{half:Nat}:∀{l:List It} {sum:Nat},half<=sum+AQ inner l->half<=sum+AQ inner (l.take (IA inner half l sum))
 | [],sum,h=>by simpa[IA,AQ]using h
 |x::l,sum,h=>by
  rw[IA]
  split
  .rename_i h1
   rw[qeq,Cr,<-qb9];exact WN (by rw[Cr]at h;omega)
  .rename_i h1;rw[qdj];show half<=sum+0;omega
theorem Ey{inner:Bool}{m:Nat}:∀{l:List It},(∀x∈l,Cn inner x<=m)->AQ inner l<=m*l.length
 | [],_=>qal _
 |x::l,h=>by
  have h1:=Ey (l:=l) fun y hy=>h y (qah _ hy);have h2:=h x (qad ..);rw[Cr,qaw,Nat.mul_succ];omega
theorem Na{i:Bool}{M:List It}(hM:Many i M)(hT:AQ i M<=667)(hs:∀x∈M,Cn i x<=164/\(i=true->Cn i x<=38)) :
  (AQ i M<=503/\CQ i M=[M])\/(∃a b,M=a++b/\CQ i M=[a,b]/\Many i a/\Many i b/\AQ i a<=503/\AQ i b<=503):=by
 unfold CQ
 by_cases h1:AQ i M<=503
 .left;rw[if_pos h1];exact⟨h1,rfl⟩
 .right;rw[if_neg h1];refine⟨M.take (ED i M),M.drop (ED i M),(qbp ..).symm,rfl,?_⟩;have hsum:=Bs i (M.take (ED i M)) (M.drop (ED i M));rw[qbp]at hsum
  have hge:AQ i M / 2<=AQ i (M.take (ED i M)):=by
   have:=WN (inner:=i) (half:=AQ i M / 2) (l:=M) (sum:=0) (by omega);rw[qa4]at this;exact this
  have hlt:AQ i (M.take (ED i M))<AQ i M / 2+164:=by
   have:=Sn (inner:=i) (half:=AQ i M / 2) (m:=164) (l:=M) (sum:=0) (fun x hx=>(hs x hx).1) (by omega);rw[qa4]at this;exact this
  cases i with
  |false =>
   refine⟨?_,?_,by omega,by omega⟩
   .show _≠[];intro e;have e0:AQ false (M.take (ED false M))=0:=(by rw[e];rfl);omega
   .show _≠[];intro e;have e0:AQ false (M.drop (ED false M))=0:=(by rw[e];rfl);omega
  |true =>
   have hlt:AQ true (M.take (ED true M))<AQ true M / 2+38:=by
    have:=Sn (inner:=true) (half:=AQ true M / 2) (m:=38) (l:=M) (sum:=0) (fun x hx=>(hs x hx).2 rfl) (by omega);rw[qa4]at this;exact this
   have ha:=Ey (inner:=true) (m:=38) (l:=M.take (ED true M)) fun x hx=>(hs x (qbm hx)).2 rfl;have hb:=Ey (inner:=true) (m:=38) (l:=M.drop (ED true M)) fun x hx=>(hs x (qcr hx)).2 rfl;refine⟨?_,?_,by omega,by omega⟩
   .show 2<=_
    rcases qbl (M.take (ED true M)).length 2 with h5|h5
    .have:38*(M.take (ED true M)).length<=38*1:=qb0 _ (by omega)
     omega
    .exact h5
   .show 2<=_
    rcases qbl (M.drop (ED true M)).length 2 with h5|h5
    .have:38*(M.drop (ED true M)).length<=38*1:=qb0 _ (by omega)
     omega
    .exact h5
def Bad(c:Ch)(e:Int)(m:Nat):Prop:=(e=8/\c.A.left ≠ -1)\/(e=7/\Dt c.P<m)
theorem Bad.ne{c:Ch}{e:Int}{m:Nat}(h:Bad c e m):e≠0:=by
 rcases h with⟨h,_⟩|⟨h,_⟩ <;> omega
theorem Bad.back{c c1:Ch}{fr:Nat}{t g:List Nat}{e:Int}{m m':Nat}(h:Bad c1 e m)(h1:CI fr c c1 t g)(hm:m+t.length<=m'):Bad c e m':=by
 rcases h with⟨h,h2⟩|⟨h,h2⟩
 .exact .inl ⟨h,fun h3=>h2 (h1.left h3)⟩
 .exact .inr ⟨h,by have:=h1.free;omega⟩
theorem Bad.mono{c:Ch}{e:Int}{m m':Nat}(h:Bad c e m)(hm:m<=m'):Bad c e m':=h.imp id fun h=>⟨h.1,by omega⟩
structure On(fr:Nat)(c:Ch):Prop where
 on:c.A.on=true
 has:fr+c.P.length<=c.A.B.length
 few:c.P.length<=4096
theorem On.keep{fr:Nat}{c c1:Ch}{t g:List Nat}(h:On fr c)(h1:CI fr c c1 t g)(hon:c1.A.on=true):On fr c1 :=
 ⟨hon,by rw[h1.len,h1.blen];exact h.has,by rw[h1.len];exact h.few⟩
theorem LH{fr:Nat}{c:Ch}{h:Nat}{i:Bool}{M:List It}{L:List Pr}{S:List Nat}(hp:Part (RD c.A fr) h i M L S)(ho:OkP L)(hh:Held c.P S)(hn:On fr c)(hm:Many i M)(ht:AQ i M<=503) :
  ∃t,CI fr c (wrC fr c i M).2 t []/\t.length<=1 /\
   (((wrC fr c i M).1=0/\t=[BZ c.P]/\On fr (wrC fr c i M).2/\Lies (RD (wrC fr c i M).2.A fr) h (BZ c.P) L (BZ c.P::S)/\L[0]?.map (·.1)=some (Gt M))\/Bad c (wrC fr c i M).1 1):=by
 have hM:Fits i M:=⟨hm.ne,fun x hx=>(hp.ok ho hh hn.few x hx).1,ht⟩
 rcases Aev hn.on hn.has hM with⟨h1,h2,h3⟩|⟨h1,h2⟩
 .exact⟨[],by rw[h2];exact CI.refl _ _,by simp,.inr (.inr ⟨h1,by omega⟩)⟩
 .refine⟨_,h1,by simp,?_⟩
  rcases h2 with⟨h3,h4,h5⟩|⟨h3,h4⟩
  .exact .inl ⟨h3,rfl,hn.keep h1 h4,⟨i,M,S,hp.frame (h1.rd hh),h5,rfl,hm,ht⟩,hp.key hm.ne⟩
  .exact .inr (.inl ⟨h3,h4⟩)
def okM(i:Bool)(M:List It):Bool:=decide (M.length<=1000) && (M.all (fun x=>decide (x.key.length<=65535) && (decide (x.val.length<=65535) && decide (x.page<9223372036854775808))) && (decide (M=[]) || (CQ i M).all fun h=>decide (h≠[])))
def Ei(fr:Nat)(c:Ch)(i:Bool)(M:List It):Int × Ch × List It:=bif okM i M then II fr c i M else(99,c,[])
theorem Aew(i:Bool)(x:It):4<=Cn i x:=by
 cases i
 .simp only[Cn,cond_false];omega
 .simp only[Cn,cond_true];omega
theorem Jv(i:Bool):∀l:List It,4*l.length<=AQ i l
 | []=>qal _
 |x::l=>by
  have:=Aew i x;have:=Jv i l;rw[Cr,qaw];omega
theorem Aex{fr:Nat}{c:Ch}{h:Nat}{i:Bool}{M:List It}{L:List Pr}{S:List Nat}(hp:Part (RD c.A fr) h i M L S)(ho:OkP L)(hh:Held c.P S)(hn:On fr c)(hm:M=[]\/Many i M)(hT:AQ i M<=667):Ei fr c i M=II fr c i M:=by
 have hx:=hp.ok ho hh hn.few;have hge:=Jv i M;unfold Ei
 have:okM i M=true:=by
  unfold okM;simp only[qao,qcp,qaq,qby];refine⟨by omega,fun x hx'=>?_,?_⟩
  .obtain⟨⟨h1,h2,h3,_⟩,_⟩:=hx x hx';omega
  .rcases hm with rfl|hm
   .exact .inl U
   .refine .inr fun a ha=>?_
    rcases Na hm hT fun x h=>(hx x h).2 with⟨_,h2⟩|⟨a',b',_,h2,h3,h4,_⟩
    .rw[h2,qab]at ha;rw[ha];exact hm.ne
    .rw[h2]at ha;simp only[qaa,qaj,or_false]at ha
     rcases ha with rfl|rfl
     .exact h3.ne
     .exact h4.ne
 rw[this];rfl
theorem Ab5(fr:Nat)(c:Ch)(i:Bool):II fr c i []=(0,c,[]):=rfl
theorem Ys{fr:Nat}{c:Ch}{i:Bool}{M:List It}(h:M≠[]):II fr c i M=De fr i (CQ i M) c []:=by
 unfold II;rw[if_neg h]
theorem perm_front{a b c d:List Nat}:((a++b)++(c++d)).Perm ((a++c)++(b++d)):=by
 rw[qa1,qa1];refine List.Perm.append_left a ?_;rw[<-qa1,<-qa1];exact List.Perm.append_right d qc3
theorem Held.app{P S S':List Nat}(h:Held P S)(h':Held P S'):Held P (S++S'):=fun x hx=>(qat.1 hx).elim (h x) (h' x)
theorem Held.sub{P S S':List Nat}(h:Held P S)(hs:∀x∈S',x∈S):Held P S':=fun x hx=>h x (hs x hx)
structure Puts(fr h:Nat)(c:Ch)(M:List It)(L:List Pr)(S t:List Nat)(r:Int × Ch × List It):Prop where
 ok:r.1=0
 on:On fr r.2.1
 kids:∃S',Kids (Lies (RD r.2.1.A fr) h) r.2.2 L S'/\S'.Perm (S++t)/\Held r.2.1.P S'
 num:r.2.2.length<=2
 ne:M≠[]->r.2.2≠[]
theorem Ui{fr:Nat}{c:Ch}{h:Nat}{i:Bool}{M:List It}{L:List Pr}{S:List Nat}(hp:Part (RD c.A fr) h i M L S)(ho:OkP L)(hh:Held c.P S)(hn:On fr c)(hm:(M=[]/\h=0)\/Many i M)(hT:AQ i M<=667) :
  ∃t,CI fr c (Ei fr c i M).2.1 t []/\t.length<=2/\(Puts fr h c M L S t (Ei fr c i M)\/Bad c (Ei fr c i M).1 2):=by
 rw[Aex hp ho hh hn (hm.imp And.left id) hT]
 rcases hm with⟨rfl,rfl⟩|hm
 .obtain⟨rfl,he,rfl⟩:=hp
  have hL:L=[]:=by
   cases L with
   |nil=>rfl
   |cons _ _=>cases he
  subst hL;rw[Ab5];exact⟨[],CI.refl _ _,by simp,.inl ⟨rfl,hn,⟨[],⟨rfl,rfl⟩,by simp,fun x hx=>by cases hx⟩,by simp,fun h=>absurd rfl h⟩⟩
 .rw[Ys hm.ne];have hx:=hp.ok ho hh hn.few
  rcases Na hm hT fun x h=>(hx x h).2 with⟨h1,h2⟩|⟨a,b,rfl,h2,h3,h4,h5,h6⟩
  .rw[h2];obtain⟨t,w1,w2,w3⟩:=LH hp ho hh hn hm h1;refine⟨t,?_,by omega,?_⟩
   .unfold De
    split
    .exact w1
    .exact w1
   .rcases w3 with⟨h7,rfl,h8,h9,h10⟩|h7
    .left;unfold De;rw[if_pos h7];refine⟨rfl,h8,⟨BZ c.P::S,?_,?_,?_⟩,by simp[De],fun _=>by simp[De]⟩
     .show Kids _ [_] _ _;exact⟨L,[],BZ c.P::S,[],by simp,by simp,h9,h10,rfl,rfl,rfl⟩
     .exact(qc3 (l₁:=S) (l₂:=[BZ c.P])).symm
     .exact(w1.held.app (hh.keep w1))
    .right;unfold De;rw[if_neg h7.ne];exact h7.mono (by omega)
  .rw[h2];obtain⟨La,Lb,Sa,Sb,rfl,rfl,pa,pb⟩:=hp.append;have hoa:OkP La:=fun p hp=>ho p (qbb _ hp);have hob:OkP Lb:=fun p hp=>ho p (qaz _ hp);have hha:Held c.P Sa:=hh.sub fun x hx=>qbb _ hx;have hhb:Held c.P Sb:=hh.sub fun x hx=>qaz _ hx;obtain⟨t,w1,w2,w3⟩:=LH pa hoa hha hn h3 h5
   rcases w3 with⟨h7,rfl,h8,h9,h10⟩|h7
   .obtain⟨t',v1,v2,v3⟩:=LH (pb.frame (w1.rd hhb)) hob (hhb.keep w1) h8 h4 h6;have hCI:=w1.trans v1;refine⟨[BZ c.P]++t',?_,?_,?_⟩
    .unfold De;rw[if_pos h7];unfold De
     split
     .exact hCI
     .exact hCI
    .rw[qam];omega
    .rcases v3 with⟨g7,rfl,g8,g9,g10⟩|g7
     .left;unfold De;rw[if_pos h7];unfold De;rw[if_pos g7];refine⟨rfl,g8,⟨(BZ c.P::Sa)++(BZ (wrC fr c i a).2.P::Sb),?_,?_,?_⟩,by simp[De],fun _=>by simp[De]⟩
      .show Kids _ ([_,_]) _ _;refine⟨La,Lb,_,_,rfl,rfl,h9.frame (v1.rd (w1.held.app (hha.keep w1))),h10,rfl,⟨Lb,[],_,[],by simp,by simp,g9,g10,rfl,rfl,rfl⟩⟩
      .show(([BZ c.P]++Sa)++([BZ (wrC fr c i a).2.P]++Sb)).Perm _;exact perm_front.trans qc3
      .exact((w1.held.app (hha.keep w1)).keep v1).app (v1.held.app ((hhb.keep w1).keep v1))
     .right;unfold De;rw[if_pos h7];unfold De;rw[if_neg g7.ne];exact g7.back w1 (by simp)
   .refine⟨t,?_,by omega,.inr ?_⟩
    .unfold De;rw[if_neg h7.ne];exact w1
    .unfold De;rw[if_neg h7.ne];exact h7.mono (by omega)
def Ce(l:List It)(i:Nat):Nat:=(l[i]?.map (·.page)).getD 0
def IJ(inner:Bool)(kid:List It):Bool:=inner && decide (kid.length=1)
def Ha(i:Nat):Nat:=if i=0 then 1 else i - 1
def DM(fr:Nat)(c:Ch)(l:List It)(i depth:Nat)(inner:Bool)(kid:List It):Int × Ch × List It × Nat × Nat :=
 if IJ inner kid=true then
  (if l.length<=Ha i then(9,c,[],0,0)
   else match(CM c.A fr c.P.length ((Ce l (Ha i):Nat):Int) ((depth+1:Nat):Int)).2 with
    |none=>((CM c.A fr c.P.length ((Ce l (Ha i):Nat):Int) ((depth+1:Nat):Int)).1,c,[],0,0)
    |some (false,_)=>(9,rdC fr c (Ce l (Ha i)) (depth+1),[],0,0)
    |some (true,o)=>(0,rdC fr c (Ce l (Ha i)) (depth+1),if i=0 then kid++o else o++kid,i - 1,if i=0 then 2 else i+1))
 else(0,c,kid,i,i+1)
def C8(fr:Nat)(G:List It->List It)(key:Byt):Nat->Ch->Nat->Nat->Int × Ch × Bool × List It
 |0,c,_,_=>(9,c,false,[])
 |n+1,c,page,depth=>match(CM c.A fr c.P.length (page:Int) (depth:Int)).2 with
  |none=>((CM c.A fr c.P.length (page:Int) (depth:Int)).1,c,false,[])
  |some (false,l)=>(0,rdC fr c page depth,false,G l)
  |some (true,l) =>
   let r:=C8 fr G key n (rdC fr c page depth) (Ce l (BR l key)) (depth+1)
   if r.1≠0 then(r.1,r.2.1,true,[])else
   let s:=DM fr r.2.1 l (BR l key) depth r.2.2.1 r.2.2.2
   if s.1≠0 then(s.1,s.2.1,true,[])else
   let q:=Ei fr s.2.1 r.2.2.1 s.2.2.1
   (q.1,q.2.1,true,l.take s.2.2.2.1++(q.2.2++l.drop s.2.2.2.2))
def DO(fr:Nat)(c:Ch)(inner:Bool)(M:List It):Int × Ch × Int :=
 if IJ inner M=true then(0,c,(Ce M 0:Int))
 else if(Ei fr c inner M).1≠0 then((Ei fr c inner M).1,(Ei fr c inner M).2.1,-1)
 else if(Ei fr c inner M).2.2=[]then(0,(Ei fr c inner M).2.1,-1)
 else if 1<(Ei fr c inner M).2.2.length then
  ((wrC fr (Ei fr c inner M).2.1 true (Ei fr c inner M).2.2).1,(wrC fr (Ei fr c inner M).2.1 true (Ei fr c inner M).2.2).2,(BZ (Ei fr c inner M).2.1.P:Int))
 else(0,(Ei fr c inner M).2.1,(Ce (Ei fr c inner M).2.2 0:Int))
def DC(c:Ch)(e:Int):Ch:={ c with P:=(if e≠0 then c.tk else c.gn).foldl Fu c.P }
def Dw(fr:Nat)(A:Dev)(P:List Nat)(root:Int)(key:Byt)(G:List It->List It):Int × Int × Ch :=
 let ed:=if root = -1 then(0,⟨A,P,[],[]⟩,false,G [])else C8 fr G key 18 ⟨A,P,[],[]⟩ root.toNat 0
 if ed.1≠0 then(ed.1,root,DC ed.2.1 ed.1)
 else
  let t:=DO fr ed.2.1 ed.2.2.1 ed.2.2.2
  if t.1≠0 then(t.1,root,DC t.2.1 t.1)else(0,t.2.2,DC t.2.1 0)
def Jw(key val:Byt)(l:List It):List It :=
 if Ee l key=true then l.take (Cd l key)++([⟨key,val,0⟩]++l.drop (Cd l key+1))else l.take (Cd l key)++([⟨key,val,0⟩]++l.drop (Cd l key))
def IK(key:Byt)(l:List It):List It :=
 if Ee l key=true then l.take (Cd l key)++l.drop (Cd l key+1)else l
def MB(fr:Nat)(A:Dev)(P:List Nat)(root:Int)(key val:Byt):Int × Int × Dev × List Nat :=
 if Gs P.length root≠0 then(1,root,A,P)
 else if Dl key.length val.length=true then
  ((Dw fr A P root key (Jw key val)).1,(Dw fr A P root key (Jw key val)).2.1,(Dw fr A P root key (Jw key val)).2.2.A,(Dw fr A P root key (Jw key val)).2.2.P)
 else(1,root,A,P)
def Kc(fr:Nat)(A:Dev)(P:List Nat)(root:Int)(key:Byt):Int × Int × Bool × Dev × List Nat :=
 if(LG A fr P.length root key).1≠0 then((LG A fr P.length root key).1,root,false,A,P)
 else if(LG A fr P.length root key).2.isSome=false then(0,root,false,A,P)
 else((Dw fr A P root key (IK key)).1,(Dw fr A P root key (IK key)).2.1,decide ((Dw fr A P root key (IK key)).1=0),(Dw fr A P root key (IK key)).2.2.A,(Dw fr A P root key (IK key)).2.2.P)
theorem Yt{w:World}{bp ba:Nat}{P:List Nat}(h:PgAt w bp ba P)(k:Nat)(hk:P.length<=k):Ret prog 94 #[ptr bp,.int .i64 (k:Int)] w fun v w'=>(∃e,v=.int .i64 e)/\PgAt w' bp ba P/\Ext [ba] w w':=by
 obtain⟨w0,rfl⟩:=qD w;have hh:Nm P (k:Int)=false:=by unfold Nm;simp;omega
 refine Ax (fn:=f94) func94 U [.pointer (some ⟨bp,0,none⟩),.int .i64 (k:Int)] U ?_;refine Ad (Ac U (qA (Aq (Ad (Ao U (Ae U (Ah qB (Sk h (k:Int)) U ?_)))))));rintro v w ⟨rfl,rfl⟩;rw[hh];refine Ac U (qA (Ad (Ae U (AN U U (qA (Eg U (Ad (Ae U (Ac U ?_)))))))));refine qA (Aw (An (AE (v:=(.int _ _)) U U U ?_)));exact⟨⟨_,rfl⟩,h,.refl _ _⟩
theorem Q7{w:World}{bp ba:Nat}{P:List Nat}(h:PgAt w bp ba P)(k:Nat):Ret prog 94 #[ptr bp,.int .i64 (k:Int)] w fun v w'=>(∃e,v=.int .i64 e)/\PgAt w' bp ba (Fu P k)/\Ext [ba] w w':=by
 rcases qbl k P.length with hk|hk
 .exact Abw h k hk
 .have:Fu P k=P:=by
   have hn:P[k]?=none:=qbu hk;unfold Fu;rw[hn,if_neg (by simp),if_neg (by simp)]
  rw[this];exact Yt h k hk
theorem WO{w:World}{a:Option Addr}{n c t:Nat}{full:List Value}{l:List Nat}(h:OS a n c 1 full (l.map pv))(hb:∀x∈ent a t full,w.heap[x.1]?=some x.2):Rd w a 1 (fun k=>[pv k]) l :=
 OS.rd (by rw[Wi];exact h) hb (by simp) (by omega)
theorem Ab6{w:World}{bt bd bp ba fr bc:Nat}{c:Ch}{F:Mut}{L:List (Nat × Obj)}(X:Cx w bt bd bp ba fr bc c F L)(e:Int)(htk:c.tk.length<=1000000)(hgn:c.gn.length<=1000000) :
  Ret prog 129 #[ptr bc,.int .i64 e] w fun v w'=>v=.tuple #[]/\Cx w' bt bd bp ba fr bc (DC c e) F L/\Grown (TM F ba bt bp L) (TM F ba bt bp L) w w':=by
 obtain⟨w0,rfl⟩:=qD w;obtain⟨T,ta,tc,tf,ga,gc,gf,rfl,Ot,Og⟩:=X;have H:=T.ctx;have Rt:=WO Ot (fun y hy=>T.blk y (qah _ (qbb _ hy)));have Rg:=WO Og (fun y hy=>T.blk y (qah _ (qaz _ hy)));refine Ax (fn:=f129) func129 U [.pointer (some ⟨bc,0,none⟩),.int .i64 e] U ?_;refine Aq (Ad (Ae U (AN U U (qA (Ar _ U ?_ ?_)))))
 .intro h1;replace h1:=Bh h1;refine Aq (Ad (Ao U (AD U (Af Oo U (AG HK U H at0 U (AP EZ U (Ae U (qA (AB ?_)))))))));refine BE 536838176 (α:=Nat) (fun i=>[(15,.int .i64 (i:Int))]) (fun i w'=>i<=c.tk.length/\Tx w' bt bd bp ba fr c.A ((c.tk.take i).foldl Fu c.P) F (CL bt bc ta c.tk.length tc tf ga c.gn.length gc gf)/\Grown (TM F ba bt bp (CL bt bc ta c.tk.length tc tf ga c.gn.length gc gf)) (TM F ba bt bp (CL bt bc ta c.tk.length tc tf ga c.gn.length gc gf)) w0 w') (fun i=>c.tk.length - i) 0 U ?_ ?_ ?_
  .exact⟨rfl,trivial⟩
  .exact⟨qal _,T,.call0 (.refl _ _)⟩
  .rintro i j w ⟨hi,T1,G1⟩;have H:=T1.ctx;have R1:=WO Ot (fun y hy=>T1.blk y (qah _ (qbb _ hy)));refine Ad (Bp U U (qA (Aq (Ar _ U ?_ ?_))))
   .intro h2;replace h2:=AV h2;obtain⟨k,hk⟩:=AY (l:=c.tk) (i:=i);refine Ap (Aa (Aq (AB (Ad (Bo R1 EZ H1 U U (hn:=by rfl) ?_)))));refine Bq DE U (R1.fld hk U (j:=0) U) (Ac U (qA (A5 (Ao U (AD U (Af HL U (AG KW U H at0 U (AD U (Af Jh U (Bq Od U (Au T1.tr (0+1)) ?_))))))))));refine Ae U (Ah qB (Q7 T1.pg k) U ?_);rintro v w2 ⟨⟨ev,rfl⟩,hp,hx⟩;obtain⟨T2,G2⟩:=T1.page hp hx;refine Ab (AH (Aa (A5 (A8 U U ?_))));refine Ae U (qA ?_);exact⟨i+1,rfl,⟨rfl,trivial⟩,⟨by omega,by rw[Bt hk,qel];exact T2,G1.trans G2⟩,by omega⟩
   .intro h2;replace h2:=AW h2;have hii:i=c.tk.length:=by omega
    subst hii;rw[qbf]at T1;refine B9 (A6 (A6 (Bd (Aa (Aw (An (Zi U U ?_)))))));refine⟨rfl,⟨?_,ta,tc,tf,ga,gc,gf,rfl,Ot,Og⟩,G1⟩;unfold DC;rw[if_pos h1];exact T1
 .intro h1;replace h1:=Bi h1;refine Ap (Aa (Ad (Ao U (AD U (Af Oq U (AG HK U H at0 U (AP EZ U (Ae U (qA (AB ?_))))))))));refine BE 281457796841600 (α:=Nat) (fun i=>[(34,.int .i64 (i:Int))]) (fun i w'=>i<=c.gn.length/\Tx w' bt bd bp ba fr c.A ((c.gn.take i).foldl Fu c.P) F (CL bt bc ta c.tk.length tc tf ga c.gn.length gc gf)/\Grown (TM F ba bt bp (CL bt bc ta c.tk.length tc tf ga c.gn.length gc gf)) (TM F ba bt bp (CL bt bc ta c.tk.length tc tf ga c.gn.length gc gf)) w0 w') (fun i=>c.gn.length - i) 0 U ?_ ?_ ?_
  .exact⟨rfl,trivial⟩
  .exact⟨qal _,T,.call0 (.refl _ _)⟩
  .rintro i j w ⟨hi,T1,G1⟩;have H:=T1.ctx;have R1:=WO Og (fun y hy=>T1.blk y (qah _ (qaz _ hy)));refine Ad (Bp U U (qA (Aq (Ar _ U ?_ ?_))))
   .intro h2;replace h2:=AV h2;obtain⟨k,hk⟩:=AY (l:=c.gn) (i:=i);refine Ap (Aa (Aq (AB (Ad (Bo R1 EZ H1 U U (hn:=by rfl) ?_)))));refine Bq DE U (R1.fld hk U (j:=0) U) (Ac U (qA (A5 (Ao U (AD U (Af HL U (AG KW U H at0 U (AD U (Af Jh U (Bq Od U (Au T1.tr (0+1)) ?_))))))))));refine Ae U (Ah qB (Q7 T1.pg k) U ?_);rintro v w2 ⟨⟨ev,rfl⟩,hp,hx⟩;obtain⟨T2,G2⟩:=T1.page hp hx;refine Ab (AH (Aa (A5 (A8 U U ?_))));refine Ae U (qA ?_);exact⟨i+1,rfl,⟨rfl,trivial⟩,⟨by omega,by rw[Bt hk,qel];exact T2,G1.trans G2⟩,by omega⟩
   .intro h2;replace h2:=AW h2;have hii:i=c.gn.length:=by omega
    subst hii;rw[qbf]at T1;refine B9 (A6 (A6 (Bd (Hi U U ?_))));refine⟨rfl,⟨?_,ta,tc,tf,ga,gc,gf,rfl,Ot,Og⟩,G1⟩;unfold DC;rw[if_neg (by simpa using h1)];exact T1
theorem Grown.weak{M M' M'':Mut}{w w':World}(t:Grown M M' w w')(h:∀x,M'' x->M' x):Grown M M'' w w':=⟨t.1,fun x hx=>t.2 x (h x hx)⟩
theorem Grown.nil{M M':Mut}{w w':World}(t:Grown (MY M []) M' w w'):Grown M M' w w':=by
 obtain⟨⟨S,hS,hx⟩,g⟩:=t;exact⟨⟨S,fun x h=>MY.nil x (hS x h),hx⟩,fun x h=>(g x h).imp (MY.nil x) id⟩
structure Fr(w0:World)(Z M0:Mut)(w:World)(bt bd bp ba fr bc:Nat)(c:Ch)(F:Mut)(L Y:List (Nat × Obj)):Prop where
 X:Cx w bt bd bp ba fr bc c F L
 O:Fo w (MZ (TM F ba bt bp L) Z) Y
 GT:Grown M0 (TM F ba bt bp L) w0 w
 GA:Grown (MZ M0 Z) (MY (MZ (TM F ba bt bp L) Z) Y) w0 w
 yo:∀y∈Y.map (·.1),w0.heap.size<=y
 sz:w0.heap.size<=w.heap.size
 hZ:∀x,Z x->x<w0.heap.size
section
variable {w0 w w':World}{Z M0:Mut}{bt bd bp ba fr bc:Nat}{c c':Ch}{F F':Mut}{L L' Y Y':List (Nat × Obj)}
theorem Fr.start(X:Cx w bt bd bp ba fr bc c F L)(hZ:∀x,Z x->x<w.heap.size):Fr w Z (TM F ba bt bp L) w bt bd bp ba fr bc c F L [] :=
 ⟨X,Fo.nil,.call0 (.refl _ _),(Grown.call0 (.refl _ _)).weak MY.nil,(fun y h=>by cases h),qae _,hZ⟩
theorem Fr.lt(E:Fr w0 Z M0 w bt bd bp ba fr bc c F L Y):∀x,MZ (TM F ba bt bp L) Z x->x<w.heap.size:=fun x h=>h.elim (E.X.T.mlt x) fun h=>qas (E.hZ x h) E.sz
theorem Fr.mylt(E:Fr w0 Z M0 w bt bd bp ba fr bc c F L Y):∀x,MY (MZ (TM F ba bt bp L) Z) Y x->x<w.heap.size:=E.O.lt E.lt
theorem Fr.zlt(E:Fr w0 Z M0 w bt bd bp ba fr bc c F L Y):∀x,MY Z Y x->x<w.heap.size:=fun x h=>E.mylt x (h.elim (fun h => .inl (.inr h)) .inr)
theorem Fr.fresh(E:Fr w0 Z M0 w bt bd bp ba fr bc c F L Y):∀x,MY (MZ (TM F' ba bt bp L') Z) Y x->MZ (TM F' ba bt bp L') (Old w) x:=fun x h=>by
 rcases h with(h|h)|h
 .exact .inl h
 .exact .inr (E.lt x (.inr h))
 .exact .inr (E.mylt x (.inr h))
theorem Fr.own(E:Fr w0 Z M0 w bt bd bp ba fr bc c F L Y)(H:Ctx w (Y.map (·.1)) w' Y'):Fr w0 Z M0 w' bt bd bp ba fr bc c F L Y'/\Grown (MY (MZ (TM F ba bt bp L) Z) Y) (MY (MZ (TM F ba bt bp L) Z) Y') w w':=by
 obtain⟨O',g⟩:=E.O.own E.lt H;exact⟨⟨E.X.side (E.O.weak fun _ h => .inl h) H.ext,O',E.GT.side H.ext E.yo,E.GA.trans g,WL E.yo E.sz H,qav E.sz H.ext.size,E.hZ⟩,g⟩
theorem Fr.call(E:Fr w0 Z M0 w bt bd bp ba fr bc c F L Y)(X':Cx w' bt bd bp ba fr bc c' F' L')(t:Grown (TM F ba bt bp L) (TM F' ba bt bp L') w w'):Fr w0 Z M0 w' bt bd bp ba fr bc c' F' L' Y/\Grown (MY (MZ (TM F ba bt bp L) Z) Y) (MY (MZ (TM F' ba bt bp L') Z) Y) w w':=by
 obtain⟨O',g⟩:=E.O.call (t.or Z);obtain⟨S,_,hx⟩:=t.1;exact⟨⟨X',O',E.GT.trans t,E.GA.trans g,E.yo,qav E.sz hx.size,E.hZ⟩,g⟩
theorem Fr.call0(E:Fr w0 Z M0 w bt bd bp ba fr bc c F L Y)(hx:Ext [] w w'):Fr w0 Z M0 w' bt bd bp ba fr bc c F L Y/\Grown (MY (MZ (TM F ba bt bp L) Z) Y) (MY (MZ (TM F ba bt bp L) Z) Y) w w' :=
 E.call (E.X.side Fo.nil hx) (.call0 hx)
end
def DoOk(f:Nat)(cl:List Value)(G:List It->List It)(w:World)(M:Mut):Prop :=
 ∀(w':World) (M':Mut),Grown M M' w w'->(∀x,M' x->x<w'.heap.size)->∀(a:Option Addr) (n c:Nat) (l:List It),Its w' M' a n c l->n<=100000 ->
  Ret prog f (Value.slice a n c::cl).toArray w' fun v w''=>∃a' c',v=.slice a' (G l).length c'/\Its w'' M' a' (G l).length c' (G l)/\Ext [] w' w''
theorem DoOk.keep{f:Nat}{cl:List Value}{G:List It->List It}{w w':World}{M M':Mut}(h:DoOk f cl G w M)(t:Grown M M' w w'):DoOk f cl G w' M':=fun w2 M2 t2=>h w2 M2 (t.trans t2)
theorem wrC_gn{fr:Nat}{c:Ch}{i:Bool}{M:List It}:(wrC fr c i M).2.gn=c.gn:=by
 unfold wrC
 split
 .rfl
 .split <;> rfl
theorem Uj{fr:Nat}{i:Bool}{m:Nat}:∀{Hs:List (List It)} {c:Ch} {acc:List It},(De fr i Hs c acc).2.1.tk.length<=c.tk.length+Hs.length/\(De fr i Hs c acc).2.1.gn=c.gn/\(Few c.A m->Few (De fr i Hs c acc).2.1.A (m+Hs.length))/\(De fr i Hs c acc).2.2.length<=acc.length+Hs.length
 | [],c,acc=>⟨qae _,rfl,fun h=>h,qae _⟩
 |h::Hs,c,acc=>by
  have h1:=V8 (fr:=fr) (c:=c) (inner:=i) (M:=h);have h2:=wrC_gn (fr:=fr) (c:=c) (i:=i) (M:=h);unfold De
  split
  .obtain⟨a1,a2,a3,a4⟩:=Uj (fr:=fr) (i:=i) (m:=m+1) (Hs:=Hs) (c:=(wrC fr c i h).2) (acc:=acc++[⟨Gt h,[],BZ c.P⟩]);refine⟨by rw[qaw];omega,a2.trans h2,fun hf=>(a3 (Nz hf)).mono (by rw[qaw];omega),?_⟩;rw[qam,qbx]at a4;rw[qaw];omega
  .exact⟨by rw[qaw];dsimp only;omega,h2,fun hf=>(Nz hf).mono (by rw[qaw];omega),by simp⟩
theorem Jx{fr:Nat}{c:Ch}{i:Bool}{M:List It}{m:Nat}:(Ei fr c i M).2.1.tk.length<=c.tk.length+2/\(Ei fr c i M).2.1.gn=c.gn/\(Few c.A m->Few (Ei fr c i M).2.1.A (m+2))/\(Ei fr c i M).2.2.length<=2:=by
 unfold Ei
 cases okM i M with
 |false=>exact⟨qcj _ _,rfl,fun h=>h.mono (by omega),qal _⟩
 |true =>
  show(II fr c i M).2.1.tk.length<=_/\(II fr c i M).2.1.gn=_/\(Few c.A m->Few (II fr c i M).2.1.A _)/\(II fr c i M).2.2.length<=2;unfold II
  split
  .exact⟨qcj _ _,rfl,fun h=>h.mono (by omega),qal _⟩
  .have h2:=OY i M;obtain⟨a1,a2,a3,a4⟩:=Uj (fr:=fr) (i:=i) (m:=m) (Hs:=CQ i M) (c:=c) (acc:=[]);rw[qbt]at a4;exact⟨by omega,a2,fun h=>(a3 h).mono (by omega),by omega⟩
theorem Hp{fr:Nat}{c:Ch}{p d:Nat}:(rdC fr c p d).tk=c.tk/\(rdC fr c p d).gn.length<=c.gn.length+1/\(rdC fr c p d).A=c.A/\(rdC fr c p d).P=c.P:=by
 unfold rdC
 split
 .exact⟨rfl,by simp,rfl,rfl⟩
 .exact⟨rfl,Nat.le_succ _,rfl,rfl⟩
theorem Q8{fr:Nat}{c:Ch}{l:List It}{i d:Nat}{inner:Bool}{kid:List It}:(DM fr c l i d inner kid).2.1.tk=c.tk/\(DM fr c l i d inner kid).2.1.gn.length<=c.gn.length+1/\(DM fr c l i d inner kid).2.1.A=c.A:=by
 unfold DM
 split
 .split
  .exact⟨rfl,Nat.le_succ _,rfl⟩
  .split
   .exact⟨rfl,Nat.le_succ _,rfl⟩
   .exact⟨Hp.1,Hp.2.1,Hp.2.2.1⟩
   .exact⟨Hp.1,Hp.2.1,Hp.2.2.1⟩
 .exact⟨rfl,Nat.le_succ _,rfl⟩
theorem JX{fr:Nat}{G:List It->List It}{key:Byt}{m:Nat}:∀{n:Nat} {c:Ch} {p d:Nat},(C8 fr G key n c p d).2.1.tk.length<=c.tk.length+2*n/\(C8 fr G key n c p d).2.1.gn.length<=c.gn.length+2*n/\(Few c.A m->Few (C8 fr G key n c p d).2.1.A (m+2*n))
 |0,c,p,d=>⟨qae _,qae _,fun h=>h⟩
 |n+1,c,p,d=>by
  have hr:=Hp (fr:=fr) (c:=c) (p:=p) (d:=d);unfold C8
  split
  .exact⟨qcj _ _,qcj _ _,fun h=>h.mono (by omega)⟩
  .exact⟨by rw[hr.1];omega,by have:=hr.2.1;show(rdC fr c p d).gn.length<=_;omega,fun h=>by show Few (rdC fr c p d).A _;rw[hr.2.2.1];exact h.mono (by omega)⟩
  .rename_i l _
   obtain⟨a1,a2,a3⟩:=JX (fr:=fr) (G:=G) (key:=key) (m:=m) (n:=n) (c:=rdC fr c p d) (p:=Ce l (BR l key)) (d:=d+1);rw[hr.1]at a1;rw[hr.2.2.1]at a3;have h2:=hr.2.1;dsimp only
   split
   .exact⟨by dsimp only;omega,by dsimp only;omega,fun h=>(a3 h).mono (by omega)⟩
   .obtain⟨b1,b2,b3⟩:=Q8 (fr:=fr) (c:=(C8 fr G key n (rdC fr c p d) (Ce l (BR l key)) (d+1)).2.1) (l:=l) (i:=BR l key) (d:=d) (inner:=(C8 fr G key n (rdC fr c p d) (Ce l (BR l key)) (d+1)).2.2.1) (kid:=(C8 fr G key n (rdC fr c p d) (Ce l (BR l key)) (d+1)).2.2.2)
    split
    .exact⟨by rw[b1];omega,by dsimp only;omega,fun h=>by rw[b3];exact(a3 h).mono (by omega)⟩
    .obtain⟨q1,q2,q3,_⟩:=Jx (fr:=fr) (c:=(DM fr (C8 fr G key n (rdC fr c p d) (Ce l (BR l key)) (d+1)).2.1 l (BR l key) d (C8 fr G key n (rdC fr c p d) (Ce l (BR l key)) (d+1)).2.2.1 (C8 fr G key n (rdC fr c p d) (Ce l (BR l key)) (d+1)).2.2.2).2.1)
      (i:=(C8 fr G key n (rdC fr c p d) (Ce l (BR l key)) (d+1)).2.2.1) (M:=(DM fr (C8 fr G key n (rdC fr c p d) (Ce l (BR l key)) (d+1)).2.1 l (BR l key) d (C8 fr G key n (rdC fr c p d) (Ce l (BR l key)) (d+1)).2.2.1 (C8 fr G key n (rdC fr c p d) (Ce l (BR l key)) (d+1)).2.2.2).2.2.1) (m:=m+2*n)
     rw[b1]at q1;rw[b3]at q3;exact⟨by dsimp only;omega,by dsimp only;rw[q2];omega,fun h=>(q3 (a3 h)).mono (by omega)⟩
theorem Ab7{i:Bool}{M:List It}(h:okM i M=true):M.length<=1000/\(∀x∈M,x.key.length<=65535/\x.val.length<=65535)/\(∀x∈M,x.page<9223372036854775808)/\(M≠[]->∀h∈CQ i M,h≠[]):=by
 unfold okM at h;simp only[qao,qcp,qaq,qby]at h;obtain⟨h1,h2,h3⟩:=h;exact⟨h1,fun x hx=>⟨(h2 x hx).1,(h2 x hx).2.1⟩,fun x hx=>(h2 x hx).2.2,fun hM a ha=>h3.elim (fun h=>absurd h hM) fun h=>h a ha⟩
theorem WP{fr:Nat}{c:Ch}{i:Bool}{M:List It}(h:(Ei fr c i M).1≠99):okM i M=true/\Ei fr c i M=II fr c i M:=by
 unfold Ei at h |-
 cases ho:okM i M with
 |false=>rw[ho]at h;exact absurd rfl h
 |true=>exact⟨rfl,rfl⟩
def VB(f:Nat)(cl:List Value)(G:List It->List It)(key:Byt)(fr n:Nat):Prop :=
 ∀{w:World} {bt bd bp ba bc:Nat} {c:Ch} {F:Mut} {L:List (Nat × Obj)},Cx w bt bd bp ba fr bc c F L->c.tk.length+2*n<=90000->c.gn.length+2*n<=90000->∀(page depth:Nat),depth+n=17->page<=4294967296 ->
  ∀(Z:Mut),(∀x,Z x->x<w.heap.size)->DoOk f cl G w (MZ (TM F ba bt bp L) Z)->∀(ka:Option Addr) (kc:Nat),Rdx w (MZ (TM F ba bt bp L) Z) ka key->∀(mx:Nat),Few c.A mx->mx+2*n<=900000000->(C8 fr G key (n+1) c page depth).1≠99 ->
  Ret prog 176 #[ptr bc,.int .i64 (page:Int),.int .i64 (depth:Int),.slice ka key.length kc,.func (.func f) #[] cl.toArray] w fun v w'=>∃(inner:Bool) (a:Option Addr) (m cc:Nat) (F':Mut) (L':List (Nat × Obj)),
   v=.tuple #[.agg #[.bool inner,.slice a m cc],.int .i64 (C8 fr G key (n+1) c page depth).1]/\Cx w' bt bd bp ba fr bc (C8 fr G key (n+1) c page depth).2.1 F' L'/\Grown (TM F ba bt bp L) (TM F' ba bt bp L') w w' /\
   ((C8 fr G key (n+1) c page depth).1=0->inner=(C8 fr G key (n+1) c page depth).2.2.1/\Its w' (MZ (TM F' ba bt bp L') Z) a m cc (C8 fr G key (n+1) c page depth).2.2.2)
structure ES where
 a:Option Addr
 n:Nat
 c:Nat
 M:List It
 fr:Nat
 to:Nat
 ch:Ch
 L:List (Nat × Obj)
 Y:List (Nat × Obj)
abbrev NBl(inner:Bool)(a:Option Addr)(n c:Nat):Obj:=Bl 183 [.bool inner,.slice a n c]
theorem VC{w:World}{M:Mut}{aa qa:Option Addr}{nn cc qn qc sfr sto:Nat}{l q:List It}(I:Its w M aa nn cc l)(Q:Its w M qa qn qc q)(hf:sfr<=nn)(ht:sto<=nn)(h1:(l.take sfr).length=sfr)(h2:(l.drop sto).length=nn - sto) :
  ∀x∈([(aa,l.take sfr,cc),(qa,q,qc),(DV aa cc sto 3,l.drop sto,cc - sto)]:List SI),Its w M x.1 x.2.1.length x.2.2 x.2.1:=by
 intro x hx;simp only[qaa,qaj,or_false]at hx
 rcases hx with rfl|rfl|rfl
 .show Its w M aa (l.take sfr).length cc (l.take sfr);rw[h1];exact I.take hf
 .show Its w M qa q.length qc q;rw[<-Q.num];exact Q
 .show Its w M _ (l.drop sto).length _ (l.drop sto);rw[h2];exact I.drop ht
theorem Pb{w:World}{M:Mut}{a b:Option Addr}{n c m d:Nat}{l q:List It}(I:Its w M a n c l)(Q:Its w M b m d q):∀x∈([(a,l,c),(b,q,d)]:List SI),Its w M x.1 x.2.1.length x.2.2 x.2.1:=by
 intro x hx;simp only[qaa,qaj,or_false]at hx
 rcases hx with rfl|rfl
 .show Its w M a l.length c l;rw[<-I.num];exact I
 .show Its w M b q.length d q;rw[<-Q.num];exact Q
theorem QA{f:Nat}{cl:List Value}{G:List It->List It}{key:Byt}{fr:Nat}(hf:Av prog f=true)(hfr:fr<=5000)(_:key.length<=100000)(n:Nat)(IH:∀n',n=n'+1->VB f cl G key fr n'):VB f cl G key fr n:=by
 intro w bt bd bp ba bc c F L X htk hgn page depth hd hp Z hZ D ka kc Rk mx hfew hmx hok;obtain⟨w0,rfl⟩:=qD w;obtain⟨ec,hec⟩:=qD (C8 fr G key (n+1) c page depth);rw[<-hec]at hok |-;rw[C8]at hec;obtain⟨rt,hrt⟩:=qD (CM c.A fr c.P.length (page:Int) (depth:Int));rw[<-hrt]at hec;have E0:=Fr.start X hZ;have H:=Ctx.start w0 [];obtain⟨rb1,rb2,rb3,rb4⟩:=Hp (fr:=fr) (c:=c) (p:=page) (d:=depth);refine Ax (fn:=f176) func176 U [.pointer (some ⟨bc,0,none⟩),.int .i64 (page:Int),.int .i64 (depth:Int),.slice ka key.length kc,.func (.func f) #[] cl.toArray] U ?_;refine Ad (Bf CJ H ?_);rintro b10 w - H;refine Ac U (qA (Ad (Ao U (Ae U (Ae U ?_)))));obtain⟨E1,-⟩:=E0.own H;refine Ah qB (Ug E1.X hfr page depth hfew) U ?_;rintro v w2 ⟨inner,aa,nn,cc,L2,rfl,X2,g2,hits⟩;rw[<-hrt]at hits
 rw[<-hrt];obtain⟨E2,-⟩:=E1.call X2 g2;replace H:=E2.O.ctx;refine AL U (Ag U U (Ag U U (Bf CJ H ?_)));rintro b12 w - H;refine Bc Bm U U U (by simp[AX]) H at0 U ?_;rintro w H;refine Ac U (qA (Aq (Ad (Ae U (AN U U (qA (Ar _ U ?_ ?_)))))))
 .intro hA;replace hA:=Bh hA
  have hnone:rt.2=none:=by
   cases h5:rt.2 with
   |none=>rfl
   |some r=>obtain⟨i,l⟩:=r;rw[hrt]at h5;rw[hrt]at hA;exact absurd (Er h5).1 hA
  rw[hnone]at hec;dsimp only at hec;have hrd:rdC fr c page depth=c:=by unfold rdC;rw[<-hrt,if_neg hA]
  refine Ad (BH BJ Bm U H at0 U (Ae U (Bc Bm U U U (by simp[AX]) H at1 U ?_)));rintro w H;refine Ac U (qA (Aw (An (CE U U U BJ Bm H at1 U (show _=(.int _ _)from rfl) ?_))));obtain⟨E3,-⟩:=E2.own H;have X3:=E3.X;rw[hrd]at X3;exact⟨inner,aa,nn,cc,F,L2,by rw[hec],by rw[hec];exact X3,E3.GT,fun h=>absurd (by rw[hec]at h;exact h) hA⟩
 .intro hA;replace hA:=Bi hA;have hA':rt.1=0:=by simpa using hA
  obtain⟨⟨i,l⟩,hsome⟩:∃r,rt.2=some r:=by
   cases h5:rt.2 with
   |none=>rw[hrt]at h5;rw[hrt]at hA';exact absurd hA' (GX h5)
   |some r=>exact⟨r,rfl⟩
  obtain⟨-,hne,hd16,-,-,hll⟩:=Er (A:=c.A) (fr:=fr) (sz:=c.P.length) (page:=(page:Int)) (depth:=(depth:Int)) (by rw[<-hrt];exact hsome);obtain⟨rfl,I2f,hb⟩:=hits i l hsome;have I2:=I2f.weak E1.fresh;rw[hsome]at hec;have hnum:=I2.num;refine Ap (Aa (Aq (Ad (Af Dh U (AG Gp U H at0 U (Cc U (qA (Ar _ U ?_ ?_))))))))
  .intro hB;replace hB:=Cs hB;subst hB;dsimp only at hec;refine Ad (B4 (.func _ _ _) U ?_);refine Af B0 U (AG BV U H at0 U ?_);obtain⟨E3,g3⟩:=E2.own H;have I3:=I2.turn g3;refine IX U U hf (D _ _ E3.GA E3.mylt _ _ _ _ I3 (by omega)) U ?_;rintro v w4 ⟨a4,c4,rfl,I4,hx4⟩;obtain⟨E4,g4⟩:=E3.call0 hx4;replace H:=E4.O.ctx;refine Af B0 U (Bk (.slice _ _ _) Da U U U H at0 (by(simp;done)) ?_);rintro w H;refine qA (Ad (BH BJ Bm U H at0 U (Bc Bm U U U (by simp[AX]) H at1 U ?_)));rintro w H;refine Ac U (qA (Aw (An (CE U U U BJ Bm H at1 U (show _=(.int _ _)from rfl) ?_))));obtain⟨E5,g5⟩:=E4.own H;exact⟨false,a4,(G l).length,c4,F,L2,by rw[hec];rfl,by rw[hec];exact E5.X,E5.GT,fun _=>⟨by rw[hec],by rw[hec];exact(I4.turn g5).weak MY.le⟩⟩
  .intro hB;replace hB:=Cu hB;subst hB;dsimp only at hec;obtain⟨E3,g3⟩:=E2.own H;have I3:=I2.turn g3;replace H:=E3.O.ctx;obtain⟨w3,rfl⟩:=qD w;obtain⟨ms,R,-,hl,hok3⟩:=I3.ex;have hml:ms.length=nn:=by rw[hnum,<-hl,qan]
   have hbl:=M9 hne key;obtain⟨bi,hbi⟩:=qD (BR l key);obtain⟨x,hx1⟩:=AY (l:=ms) (i:=bi);have hxL:=Im.at hl hx1;have hpa:Ce l bi=x.it.page:=by unfold Ce;rw[hxL];rfl
   have hxb:=hb x.it (qaf hxL);obtain⟨n',rfl⟩:∃n',n=n'+1:=⟨n - 1,by omega⟩;have Rk3:=(Rk.turn E3.GA).1;rw[<-hbi]at hec;obtain⟨r,hr⟩:=qD (C8 fr G key (n'+1) (rdC fr c page depth) (Ce l bi) (depth+1));rw[<-hr]at hec;rw[hpa]at hr;have hok5:r.1≠99:=fun h=>hok (by rw[hec,if_pos (by rw[h];decide)];exact h);obtain⟨eb1,eb2,eb3⟩:=JX (fr:=fr) (G:=G) (key:=key) (m:=mx) (n:=n'+1) (c:=rdC fr c page depth) (p:=x.it.page) (d:=depth+1);rw[<-hr]at eb1 eb2 eb3;rw[rb1]at eb1;have hfew2:Few (rdC fr c page depth).A mx:=by rw[rb3];exact hfew
   replace eb3:=eb3 hfew2;refine Ap (Aa (Ad (Af B0 U (AG BV U H at0 U (Aj U (Ah qB (TS I3 ka kc _ key Rk3 U) U ?_))))));rintro v w5 ⟨rfl,rfl⟩;rw[<-hbi];refine Ac U (qA (Ad (Ao U (Af B0 U (AG BV U H at0 U (Ae U (Bo R Bu Bn U U ?_)))))));refine Af Fm U (Bq DE U (R.fld hx1 U (j:=2) U) ?_);refine Ae U (A8 U U ?_);rw[show((depth:Int)+1)=((depth+1:Nat):Int)by omega];refine Aj U (B4 (.func _ _ _) U ?_);refine Ah qB (IH n' U E3.X (by rw[rb1];omega) (by omega) x.it.page (depth+1) (by omega) (by omega) (MY Z _) E3.zlt (D.keep (E3.GA.weak MYZ)) ka kc ((Rk.turn E3.GA).weak MYZ) mx hfew2 (by omega) (by rw[<-hr];exact hok5)) U ?_;rintro v w5 ⟨kin,k5,n5,c5,F5,L5,rfl,X5,g5,hk5⟩;rw[<-hr]at X5 hk5;rw[<-hr];obtain⟨E5,gg5⟩:=E3.call X5 g5;have I5:=I3.turn gg5;replace H:=E5.O.ctx
   refine AL U (Ag U U (Ag U U (Bf CJ H ?_)));rintro b15 w - H;refine Bc Bm U U U (by simp[AX]) H at0 U ?_;rintro w H;refine Ac U (qA (Aq (Ad (Ae U (AN U U (qA (Ar _ U ?_ ?_)))))))
   .intro hC;replace hC:=Bh hC;rw[if_pos hC]at hec;refine Ad (BH BJ Bm U H at1 U (Ae U (Bc Bm U U U (by simp[AX]) H at2 U ?_)));rintro w H;refine Ac U (qA (Aw (An (CE U U U BJ Bm H at2 U (show _=(.int _ _)from rfl) ?_))));obtain⟨E6,-⟩:=E5.own H;exact⟨true,aa,nn,cc,F5,L5,by rw[hec],by rw[hec];exact E6.X,E6.GT,fun h=>absurd (by rw[hec]at h;exact h) hC⟩
   .intro hC;replace hC:=Bi hC;have hC':r.1=0:=by simpa using hC
    rw[if_neg (by simpa using hC)]at hec;obtain⟨rfl,K5⟩:=hk5 hC';obtain⟨E6,g6⟩:=E5.own H;have I6:=I5.turn g6;have K6:=(K5.weak Ab0).turn g6;replace H:=E6.O.ctx;obtain⟨w6,rfl⟩:=qD w;obtain⟨sc,hsc⟩:=qD (DM fr r.2.1 l bi depth r.2.2.1 r.2.2.2);rw[<-hsc]at hec;have hkn:=K6.num;obtain⟨sb1,sb2,sb3⟩:=Q8 (fr:=fr) (c:=r.2.1) (l:=l) (i:=bi) (d:=depth) (inner:=r.2.2.1) (kid:=r.2.2.2);rw[<-hsc]at sb1 sb2 sb3;obtain⟨kin,hkin⟩:=qD r.2.2.1;rw[<-hkin]at hec hsc H E6 I6 K6;rw[<-hkin];refine Ap (Aa (Ad (Ae U (Ae U (A8 U U ?_)))));rw[show((bi:Int)+1)=((bi+1:Nat):Int)by omega];refine Ac U (Ac U (qA (Aq (Ad (B5 (α:=Unit) 150525431641469941186560 (fun _=>[(76,.bool (kin && decide (n5=1)))]) (fun _ w'=>w6=w') U ?_ ?_)))))
    .refine Af Dh U (AG Gp U H at0 U (A4 U (AU 71 U ?_ ?_)))
     .intro h1;refine Af B0 U (AG BV U H at0 U (AP Bu U (B6 U U (AR U (.bool _) U (Ab ?_)))));exact⟨rfl,(),rfl,⟨qac Value.bool (by(rw[h1]);(try rw[qap]);simp;try omega),trivial⟩,rfl⟩
     .intro h2;refine Ak U (Ak U (Ak U (Ak U (AJ U (.bool _) U (Ab ?_)))));exact⟨rfl,(),rfl,⟨qac Value.bool (by(rw[h2]);(try rw[qap]);simp;try omega),trivial⟩,rfl⟩
    rintro - j76 w rfl;refine Fk 2787593149816327892540849056629216545540096 (α:=ES) (fun s=>[(16,.int .i64 (s.fr:Int)),(17,.int .i64 (s.to:Int))]) (fun s w'=>Fr w0 Z (TM F ba bt bp L) w' bt bd bp ba fr bc s.ch F5 s.L ((b15,NBl kin s.a s.n s.c)::(b12,NBl true aa nn cc)::(b10,NBl false none 0 0)::s.Y)/\Its w' (MY (MZ (TM F5 ba bt bp s.L) Z) ((b15,NBl kin s.a s.n s.c)::(b12,NBl true aa nn cc)::(b10,NBl false none 0 0)::s.Y)) aa nn cc l/\Its w' (MY (MZ (TM F5 ba bt bp s.L) Z) ((b15,NBl kin s.a s.n s.c)::(b12,NBl true aa nn cc)::(b10,NBl false none 0 0)::s.Y)) s.a s.n s.c s.M/\sc=(0,s.ch,s.M,s.fr,s.to)/\s.fr<=nn/\s.to<=nn) U ?_ ?_
    .skip
     refine Ar _ U ?_ ?_
     .intro hE;have hfw:IJ kin r.2.2.2=true:=by unfold IJ;rw[<-hkn];exact hE
      have hk1:kin=true/\n5=1:=by simpa using hE
      obtain⟨hk2,hn5⟩:=hk1;have hk5l:=K6.le;unfold DM at hsc;rw[if_pos hfw]at hsc;refine Aq (Ad (Ae U (Bx U U ?_)));refine Nq U U U ?_;rw[show max ((bi:Int) - 1) 0=((bi - 1:Nat):Int)by omega];refine Ae U (A8 U U ?_);rw[show((bi:Int)+1)=((bi+1:Nat):Int)by omega];refine Ac U (Ac U (qA (Ad (Ae U (B6 U U (qA (Fk 131072 (α:=Unit) (fun _=>[(17,.int .i64 ((if bi=0 then 2 else bi+1:Nat):Int))]) (fun _ w'=>w6=w') U ?_ ?_)))))))
      .skip
       refine Ar _ U ?_ ?_
       .intro hF;replace hF:=AV hF;refine A5 (Ac U (qA ?_));exact⟨(),rfl,⟨qac (Value.int .i64) (by rw[if_pos (by omega)];rfl),trivial⟩,rfl⟩
       .intro hF;replace hF:=AW hF;refine Ap (Aa ?_);exact⟨(),rfl,⟨qac (Value.int .i64) (by rw[if_neg (by omega)]),trivial⟩,rfl⟩
      .rintro - j17 w' rfl;obtain⟨to,hto⟩:=qD (if bi=0 then 2 else bi+1);rw[<-hto]at hsc |-;obtain⟨kk,hkk⟩:=qD (Ha bi);rw[<-hkk]at hsc;have hto2:to<=bi+2:=by rw[hto];split <;> omega
       have hkk2:((bi - 1:Nat):Int)+(to:Int) - 1 - (bi:Int)=(kk:Int):=by
        rw[hkk,hto];unfold Ha
        by_cases h0:bi=0
        .rw[if_pos h0,if_pos h0];omega
        .rw[if_neg h0,if_neg h0];omega
       have htk:kk+1=to\/to<=nn:=by
        rw[hto,hkk];unfold Ha
        by_cases h0:bi=0
        .left;rw[if_pos h0,if_pos h0]
        .right;rw[if_neg h0];omega
       refine Ad (Ae U (Ae U (A8 U U ?_)));refine Bx U U (Ae U (Bx U U ?_));rw[hkk2];refine Ac U (qA (Aq (Ad (Ae U (Af B0 U (AG BV U H at1 U (AP Bu U (Hv U U (qA ?_)))))))));refine Ar _ U ?_ ?_
       .intro hG;replace hG:=AV hG;rw[if_pos (by omega)]at hsc;rw[hsc]at hec;dsimp only at hec;rw[if_pos (by decide)]at hec;refine Ad (BH BJ Bm U H at1 U (Bc Bm U U U (by simp[AX]) H at2 U ?_));rintro w H;refine Ac U (qA (Aw (An (An (CE U U U BJ Bm H at2 U (show _=(.int _ _)from rfl) ?_)))));obtain⟨E7,-⟩:=E6.own H;exact⟨true,aa,nn,cc,F5,L5,by rw[hec],by rw[hec];exact E7.X,E7.GT,fun h=>by rw[hec]at h;cases h⟩
       .intro hG;replace hG:=AW hG;rw[if_neg (by omega)]at hsc;obtain⟨ms6,R6,-,hl6,hok6⟩:=I6.ex;have hml6:ms6.length=nn:=by rw[hnum,<-hl6,qan]
        obtain⟨y,hy1⟩:=AY (l:=ms6) (i:=kk);have hyL:=Im.at hl6 hy1;have hpy:Ce l kk=y.it.page:=by unfold Ce;rw[hyL];rfl
        have hyb:=hb y.it (qaf hyL);obtain⟨rt2,hrt2⟩:=qD (CM r.2.1.A fr r.2.1.P.length ((y.it.page:Nat):Int) ((depth+1:Nat):Int));rw[hpy,<-hrt2]at hsc;refine Ap (Aa (Ad (Ao U (Af B0 U (AG BV U H at1 U (Ae U (Bo R6 Bu Bn U U ?_)))))));refine Af Fm U (Bq DE U (R6.fld hy1 U (j:=2) U) ?_);refine Ae U (A8 U U ?_);rw[show((depth:Int)+1)=((depth+1:Nat):Int)by omega];refine Ah qB (Ug E6.X hfr y.it.page (depth+1) eb3) U ?_;rintro v w7 ⟨oin,oa,on,oc,L7,rfl,X7,g7,hits7⟩;rw[<-hrt2]at hits7;rw[<-hrt2];obtain⟨E7,gg7⟩:=E6.call X7 g7;replace H:=E7.O.ctx;refine AL U (Ag U U (Ag U U (Bf CJ H ?_)));rintro b19 w - H;refine Bc Bm U U U (by simp[AX]) H at0 U ?_;rintro w H
        refine Ac U (qA (Aq (Ad (B5 (α:=Unit) 82427712629240388602921629226369024 (fun _=>[(115,.bool (decide (rt2.1=0) && !oin))]) (fun _ w'=>Ctx w7 [b15,b12,b10] w' [(b19,NBl oin oa on oc),(b15,NBl kin k5 n5 c5),(b12,NBl true aa nn cc),(b10,NBl false none 0 0)]) U ?_ ?_))))
        .refine Ae U (B6 U U (A4 U (AU 111 U ?_ ?_)))
         .intro h3;replace h3:=AV h3;refine Af Dh U (AG Gp U H at0 U (Cc U (AR U (.bool _) U (Ab ?_))));exact⟨rfl,(),rfl,⟨qac Value.bool (by(rw[qai h3]);simp),trivial⟩,H⟩
         .intro h4;replace h4:=AW h4;refine Ak U (Ak U (Ak U (AJ U (.bool _) U (Ab ?_))));exact⟨rfl,(),rfl,⟨qac Value.bool (by(rw[qag h4]);simp),trivial⟩,H⟩
        rintro - j115 w H;refine Ar _ U ?_ ?_
        .intro hI;have hI2:rt2.1=0/\oin=false:=by simpa using hI
         obtain⟨⟨i2,o⟩,hsome2⟩:∃z,rt2.2=some z:=by
          cases h5:rt2.2 with
          |none=>rw[hrt2]at h5;exact absurd (by rw[<-hrt2];exact hI2.1) (GX h5)
          |some z=>exact⟨z,rfl⟩
         obtain⟨hi2,-,-⟩:=hits7 i2 o hsome2;rw[hsome2,<-hi2,hI2.2]at hsc;dsimp only at hsc;rw[hsc]at hec;dsimp only at hec;rw[if_pos (by decide)]at hec;refine A5 (Ac U (qA (Aq (Ad (Ae U (AN U U (qA (Ar _ U ?_ ?_))))))))
         .intro hJ;replace hJ:=Bh hJ;refine Ad (BH BJ Bm U H at2 U (Ae U (Bc Bm U U U (by simp[AX]) H at3 U ?_)));rintro w H;refine Ac U (qA (Aw (An (An (CE U U U BJ Bm H at3 U (show _=(.int _ _)from rfl) ?_)))));obtain⟨E8,-⟩:=E7.own H;exact⟨true,aa,nn,cc,F5,L7,by rw[hec],by rw[hec];exact E8.X,E8.GT,fun h=>by rw[hec]at h;cases h⟩
         .intro hJ;replace hJ:=Bi hJ;exact absurd hJ (by decide)
        .intro hI;refine Ap (Aa (Aq (Ad (Ae U (AN U U (qA (Ar _ U ?_ ?_)))))))
         .intro hJ;replace hJ:=Bh hJ
          have hnone2:rt2.2=none:=by
           cases h5:rt2.2 with
           |none=>rfl
           |some z=>obtain⟨i2,o⟩:=z;rw[hrt2]at h5;exact absurd (by rw[hrt2];exact(Er h5).1) hJ
          rw[hnone2]at hsc;dsimp only at hsc;rw[hsc]at hec;dsimp only at hec;rw[if_pos hJ]at hec;have hrd2:rdC fr r.2.1 y.it.page (depth+1)=r.2.1:=by unfold rdC;rw[<-hrt2,if_neg hJ]
          refine Ad (BH BJ Bm U H at2 U (Ae U (Bc Bm U U U (by simp[AX]) H at3 U ?_)));rintro w H;refine Ac U (qA (Aw (An (An (CE U U U BJ Bm H at3 U (show _=(.int _ _)from rfl) ?_)))));obtain⟨E8,-⟩:=E7.own H;have X8:=E8.X;rw[hrd2]at X8;exact⟨true,aa,nn,cc,F5,L7,by rw[hec],by rw[hec];exact X8,E8.GT,fun h=>absurd (by rw[hec]at h;exact h) hJ⟩
         .intro hJ;replace hJ:=Bi hJ;have hJ':rt2.1=0:=by simpa using hJ
          obtain⟨⟨i2,o⟩,hsome2⟩:∃z,rt2.2=some z:=by
           cases h5:rt2.2 with
           |none=>rw[hrt2]at h5;exact absurd (by rw[<-hrt2];exact hJ') (GX h5)
           |some z=>exact⟨z,rfl⟩
          obtain⟨rfl,O7,hb7⟩:=hits7 i2 o hsome2
          have hoin:oin=true:=by
           cases oin with
           |true=>rfl
           |false=>rw[hJ']at hI;simp at hI
          subst hoin;rw[hsome2]at hsc;dsimp only at hsc;obtain⟨-,-,-,-,-,hol⟩:=Er (A:=r.2.1.A) (fr:=fr) (sz:=r.2.1.P.length) (page:=((y.it.page:Nat):Int)) (depth:=((depth+1:Nat):Int)) (by rw[<-hrt2];exact hsome2);obtain⟨E8,g8⟩:=E7.own H;have I8:=(I6.turn gg7).turn g8;have K8:=(K6.turn gg7).turn g8;have O8:=(O7.weak E6.fresh).turn g8;have hon:=O8.num;have htn:to<=nn:=by omega
          replace H:=E8.O.ctx;obtain⟨w8,rfl⟩:=qD w;refine Ap (Aa (Ad (Af B0 U (AG BV U H at1 U (Af B0 U (AG BV U H at0 U (XI [.slice k5 n5 c5,.slice oa on oc] U Ii Da Aak ?_)))))));refine Bf Aak H ?_;rintro b21 w - H;refine Bc Ahp U U U (by simp[AX]) H at0 U ?_;rintro w H;refine qA (Aq (Ad (Ae U (Ae U (Bp U U (qA (Ar _ U ?_ ?_)))))))
          .intro hK;replace hK:=AV hK
           have hbi0:bi≠0:=by
            intro h0;rw[hkk]at hK;unfold Ha at hK;rw[if_pos h0]at hK;omega
           rw[if_neg hbi0]at hsc;refine A5 (Dr Ii Da U U ?_);refine AG BV U H at0 U (Dr Ii Da U U ?_);refine AG BV U H at0 U (Dr Ii Da U U ?_);refine Bk (.slice _ _ _) Da U U U H at0 (by(simp;done)) ?_;rintro w H;refine Dr Ii Da U U (Bk (.slice _ _ _) Da U U U H at0 (by(simp;done)) ?_);rintro w H;refine qA (A5 (Dr Ii Da U U ?_));refine AG BV U H at0 U (Dr Ii Da U U ?_);refine AG BV U H at0 U (BM [.slice oa on oc,.slice k5 n5 c5] Hx Da Mo H ?_);rintro b138 w - H;obtain⟨E9,g9⟩:=E8.own H;have I9:=I8.turn g9;have K9:=K8.turn g9;have O9:=O8.turn g9
           have RR:Rd w (some ⟨b138,0,none⟩) 1 M6 [(oa,o,oc),(k5,r.2.2.2,c5)]:=Rd.of_bl (r:=[]) (H.get at0) (by simp[M6,<-hon,<-hkn]) (fun _ _=>rfl);have CC:=FI (n:=2) (c:=2) E9.mylt _ RR (Pb O9 K9) rfl (by simp only[qau,qbq,qco,qdc];omega);rw[show([(oa,o,oc),(k5,r.2.2.2,c5)]:List SI).flatMap (fun x=>x.2.1)=o++r.2.2.2 by simp]at CC;refine Ah qB CC U ?_;rintro v w11 ⟨a11,c11,rfl,J11,hx11⟩;obtain⟨E11,g11⟩:=E9.call0 hx11;replace H:=E11.O.ctx;refine Af B0 U (Bk (.slice _ _ _) Da U U U H at3 (by(simp;done)) ?_);rintro w H;refine qA ?_;obtain⟨E12,g12⟩:=E11.own H.tail.tail.tail;exact⟨⟨a11,(o++r.2.2.2).length,c11,o++r.2.2.2,bi - 1,to,rdC fr r.2.1 y.it.page (depth+1),L7,[]⟩,rfl,⟨rfl,rfl,trivial⟩,E12,(I9.turn g11).turn g12,J11.turn g12,hsc,by dsimp only;omega,htn⟩
          .intro hK;replace hK:=AW hK
           have hbi0:bi=0:=by
            rw[hkk]at hK;unfold Ha at hK
            by_cases h0:bi=0
            .exact h0
            .rw[if_neg h0]at hK;omega
           rw[if_pos hbi0]at hsc;refine Ap (Aa (A5 (Dr Ii Da U U ?_)));refine AG BV U H at0 U (Dr Ii Da U U ?_);refine AG BV U H at0 U (BM [.slice k5 n5 c5,.slice oa on oc] Hx Da Mo H ?_);rintro b138 w - H;obtain⟨E9,g9⟩:=E8.own H;have I9:=I8.turn g9;have K9:=K8.turn g9;have O9:=O8.turn g9;have RR:Rd w (some ⟨b138,0,none⟩) 1 M6 [(k5,r.2.2.2,c5),(oa,o,oc)]:=Rd.of_bl (r:=[]) (H.get at0) (by simp[M6,<-hon,<-hkn]) (fun _ _=>rfl);have CC:=FI (n:=2) (c:=2) E9.mylt _ RR (Pb K9 O9) rfl (by simp only[qau,qbq,qco,qdc];omega);rw[show([(k5,r.2.2.2,c5),(oa,o,oc)]:List SI).flatMap (fun x=>x.2.1)=r.2.2.2++o by simp]at CC;refine Ah qB CC U ?_;rintro v w11 ⟨a11,c11,rfl,J11,hx11⟩;obtain⟨E11,g11⟩:=E9.call0 hx11;replace H:=E11.O.ctx
           refine Af B0 U (Bk (.slice _ _ _) Da U U U H at3 (by(simp;done)) ?_);rintro w H;refine qA ?_;obtain⟨E12,g12⟩:=E11.own H.tail.tail.tail;exact⟨⟨a11,(r.2.2.2++o).length,c11,r.2.2.2++o,bi - 1,to,rdC fr r.2.1 y.it.page (depth+1),L7,[]⟩,rfl,⟨rfl,rfl,trivial⟩,E12,(I9.turn g11).turn g12,J11.turn g12,hsc,by dsimp only;omega,htn⟩
     .intro hE;have hfw:¬IJ kin r.2.2.2=true:=by unfold IJ;rw[<-hkn,hE];simp
      unfold DM at hsc;rw[if_neg hfw]at hsc;refine Ap (Aa ?_);exact⟨⟨k5,n5,c5,r.2.2.2,bi,bi+1,r.2.1,L5,[]⟩,rfl,⟨rfl,rfl,trivial⟩,E6,I6,K6,hsc,by dsimp only;omega,by dsimp only;omega⟩
    .rintro⟨sa,sn,scc,sM,sfr,sto,sch,L8,Y8⟩ j8 w ⟨E8,I8,K8,hsc8,hfn,htn⟩;dsimp only at E8 I8 K8 hsc8 hfn htn;dsimp only;rw[hsc8]at hec;dsimp only at hec;rw[if_neg (by simp)]at hec;have hch:sch=sc.2.1:=by rw[hsc8]
     rw[<-hch]at sb1 sb2 sb3;obtain⟨q,hq⟩:=qD (Ei fr sch kin sM);rw[<-hq]at hec;have hok8:q.1≠99:=fun h=>hok (by rw[hec];exact h);obtain⟨hokM,hqc⟩:=WP (fr:=fr) (c:=sch) (i:=kin) (M:=sM) (by rw[<-hq];exact hok8);rw[<-hq]at hqc;obtain⟨m1,m2,m3,m4⟩:=Ab7 hokM;obtain⟨qb1,qb2,qb3,qb4⟩:=Jx (fr:=fr) (c:=sch) (i:=kin) (M:=sM) (m:=mx+2*(n'+1));rw[<-hq]at qb1 qb2 qb3 qb4;have hkn8:=K8.num;have hcc8:=I8.le;have hfew8:Few sch.A (mx+2*(n'+1)):=by rw[sb3];exact eb3
     have H:=E8.O.ctx;refine Ad (Ao U (BH BJ Bm U H at0 U (Ah qB (WM E8.X hfr (by rw[sb1];omega) kin (MY Z _) E8.zlt (K8.weak MYZ) m2 m3 m4 hfew8) U ?_)));rintro v w9 ⟨qa,qn,qc,F9,L9,rfl,X9,g9,Q9⟩;rw[<-hqc]at X9 Q9;rw[<-hqc];obtain⟨E9,gg9⟩:=E8.call X9 g9;have Q9':=Q9.weak Ab0;have I9:=I8.turn gg9;replace H:=E9.O.ctx;refine AL U (Ag U U (Ag U U (Ai U (Ac U (qA (BQ [([0,1,2,3,4,5,6,7,8],9),([],10),([11],12)] (fun z=>z.heap[b12]?=some (NBl true aa nn cc)) [12] mixed (H.drew.get at1) ?_))))));refine A7 U U (AF B0 U (BO BV U (fun _ hx=>Au hx (0+1)) ?_));refine BI U (FC U Bu Bn U U ?_);refine Ca U (AF B0 U (BO BV U (fun _ hx=>Au hx (0+1)) ?_));refine BI U (FB U Bu Bn U U ?_);refine Bj ?_;replace H:=H.drew
     refine BM [.slice aa sfr cc,.slice qa qn qc,.slice (DV aa cc sto 3) (nn - sto) (cc - sto)] Hx Da Mo H ?_;rintro b156 w - H;refine Ab (Be (H.get at2) (A7 U U ?_));refine Bj ?_;obtain⟨E10,g10⟩:=E9.own H;have I10:=I9.turn g10;have Q10:=Q9'.turn g10;have hlt9:(l.take sfr).length=sfr:=(by rw[qay];omega);have hld9:(l.drop sto).length=nn - sto:=(by rw[qbe];omega);have hqn9:q.2.2.length=qn:=Q10.num.symm;have RR:Rd w (some ⟨b156,0,none⟩) 1 M6 [(aa,l.take sfr,cc),(qa,q.2.2,qc),(DV aa cc sto 3,l.drop sto,cc - sto)]:=Rd.of_bl (r:=[]) (H.get at0) (by simp[M6,hlt9,hld9,hqn9]) (fun _ _=>rfl);have hIts:∀x∈([(aa,l.take sfr,cc),(qa,q.2.2,qc),(DV aa cc sto 3,l.drop sto,cc - sto)]:List SI),Its w _ x.1 x.2.1.length x.2.2 x.2.1:=VC I10 Q10 hfn htn hlt9 hld9
     have hfl:([(aa,l.take sfr,cc),(qa,q.2.2,qc),(DV aa cc sto 3,l.drop sto,cc - sto)]:List SI).flatMap (fun x=>x.2.1)=l.take sfr++(q.2.2++l.drop sto):=(by simp);have CC:=FI (n:=3) (c:=3) E10.mylt _ RR hIts rfl (by simp only[qau,qbq,qco,qdc];omega);rw[hfl]at CC;refine Ah qB CC U ?_;rintro v w11 ⟨a11,c11,rfl,J11,hx11⟩;obtain⟨E11,g11⟩:=E10.call0 hx11;replace H:=E11.O.ctx;refine Ab (Be (H.get at2) (A7 U U ?_));refine AF B0 U (Bj (Bk (.slice _ _ _) Da U U U H at2 (by(simp;done)) ?_));rintro w H;refine Ab (CD U (B2 (Ad (BH BJ Bm U H at2 U (Ae U (Bc Bm U U U (by simp[AX]) H at3 U ?_))))));rintro w H;refine Ac U (qA (Aw (CE U U U BJ Bm H at3 U (show _=(.int _ _)from rfl) ?_)));obtain⟨E12,g12⟩:=E11.own H
     exact⟨true,a11,_,c11,F9,L9,by rw[hec];rfl,by rw[hec];exact E12.X,E12.GT,fun _=>⟨by rw[hec],by rw[hec];exact(J11.turn g12).weak MY.le⟩⟩
theorem Uk{f:Nat}{cl:List Value}{G:List It->List It}{key:Byt}{fr:Nat}(hf:Av prog f=true)(hfr:fr<=5000)(hkl:key.length<=100000):∀n,VB f cl G key fr n
 |0=>QA hf hfr hkl 0 fun n' h=>by omega
 |n+1=>QA hf hfr hkl (n+1) fun n' h=>by
   obtain rfl:n=n':=by omega
   exact Uk hf hfr hkl n
theorem QB(P:List Nat):(GZ P).length=P.length:=by
 unfold GZ;split
 .rfl
 .simp
theorem Aey{fr:Nat}{c:Ch}{i:Bool}{M:List It}:(wrC fr c i M).2.P.length=c.P.length:=by
 unfold wrC
 split
 .rfl
 .split
  .exact QB _
  .exact QB _
theorem WQ{fr:Nat}{i:Bool}:∀{Hs:List (List It)} {c:Ch} {acc:List It},c.P.length<=4096->(∀h∈Hs,(Gt h).length<=65535)->(∀x∈acc,x.key.length<=65535/\x.val.length<=65535/\x.page<=4096)->∀x∈(De fr i Hs c acc).2.2,x.key.length<=65535/\x.val.length<=65535/\x.page<=4096
 | [],c,acc,_,_,ha=>ha
 |h::Hs,c,acc,hP,hk,ha=>by
  unfold De
  split
  .refine WQ (by rw[Aey];exact hP) (fun h hh=>hk h (qah _ hh)) fun x hx=>?_
   rcases qat.1 hx with hx|hx
   .exact ha x hx
   .rw[qab.1 hx];have:=Uf c.P;exact⟨hk h (qad ..),by simp,by dsimp only;omega⟩
  .intro x hx;cases hx
theorem Aez{fr:Nat}{c:Ch}{i:Bool}{M:List It}(hP:c.P.length<=4096)(hM:∀x∈M,x.key.length<=65535):∀x∈(II fr c i M).2.2,x.key.length<=65535/\x.val.length<=65535/\x.page<=4096:=by
 unfold II
 split
 .intro x hx;cases hx
 .refine WQ hP (fun h hh=>?_) (fun x hx=>by cases hx);unfold Gt
  cases h0:h[0]? with
  |none=>simp
  |some y=>exact hM y ((OX hh).2 y (qaf h0))
theorem Ae0{w:World}{bt bd bp ba fr bc:Nat}{c:Ch}{F:Mut}{L:List (Nat × Obj)}(X:Cx w bt bd bp ba fr bc c F L)(hfr:fr<=5000)(inner:Bool){a:Option Addr}{n cc:Nat}{M:List It}(Z:Mut)(hZ:∀x,Z x->x<w.heap.size)(I:Its w (MZ (TM F ba bt bp L) Z) a n cc M){mx:Nat}(hfew:Few c.A mx)(hok:(DO fr c inner M).1≠99)(htk:c.tk.length<=99980:=by omega)(hmx:mx<=999999980:=by omega):
  Ret prog 177 #[ptr bc,.agg #[.bool inner,.slice a n cc]] w fun v w'=>∃(p:Int) (F':Mut) (L':List (Nat × Obj)),v=.tuple #[.int .i64 p,.int .i64 (DO fr c inner M).1]/\Cx w' bt bd bp ba fr bc (DO fr c inner M).2.1 F' L'/\Grown (TM F ba bt bp L) (TM F' ba bt bp L') w w'/\((DO fr c inner M).1=0->p=(DO fr c inner M).2.2):=by
 obtain⟨w0,rfl⟩:=qD w;have hnum:=I.num;obtain⟨tc,htc⟩:=qD (DO fr c inner M);rw[<-htc]at hok |-;unfold DO at htc;have E0:=Fr.start X hZ;have H:=Ctx.start w0 [];refine Ax (fn:=f177) func177 U [.pointer (some ⟨bc,0,none⟩),.agg #[.bool inner,.slice a n cc]] U ?_;refine Ad (BN [.bool inner,.slice a n cc] (.agg _) U U H ?_);rintro b3 w - H;refine Ac U (Ac U (qA (Aq (Ad (B5 (α:=Unit) 261120 (fun _=>[(17,.bool (inner && decide (n=1)))]) (fun _ w'=>Ctx w0 [] w' [(b3,Bl 183 [.bool inner,.slice a n cc])]) U ?_ ?_)))))
 .refine Af Dh U (AG Gp U H at0 U (A4 U (AU 12 U ?_ ?_)))
  .intro h1;refine Af B0 U (AG BV U H at0 U (AP Bu U (B6 U U (AR U (.bool _) U (Ab ?_)))));exact⟨rfl,(),rfl,⟨qac Value.bool (by(rw[h1]);(try rw[qap]);simp;try omega),trivial⟩,H⟩
  .intro h2;refine Ak U (Ak U (Ak U (Ak U (AJ U (.bool _) U (Ab ?_)))));exact⟨rfl,(),rfl,⟨qac Value.bool (by(rw[h2]);(try rw[qap]);simp;try omega),trivial⟩,H⟩
 rintro - j17 w H;refine Ar _ U ?_ ?_
 .intro hA;have hfw:IJ inner M=true:=by unfold IJ;rw[<-hnum];exact hA
  rw[if_pos hfw]at htc;have hn1:n=1:=by simp at hA;exact hA.2
  obtain⟨E1,g1⟩:=E0.own H;have I1:=(I.weak MY.nil).turn g1;replace H:=E1.O.ctx;obtain⟨ms,R,-,hl,hok1⟩:=I1.ex;have hml:ms.length=n:=by rw[hnum,<-hl,qan]
  obtain⟨x,hx1⟩:=AY (l:=ms) (i:=0);have hxL:=Im.at hl hx1;have hpa:Ce M 0=x.it.page:=by unfold Ce;rw[hxL];rfl
  refine Ad (Af B0 U (AG BV U H at0 U (Bo R Bu Bn U U ?_)));refine Af Fm U (Bq DE U (R.fld hx1 U (j:=2) U) ?_);refine Ac U (Ac U (qA (Aw (An (BA (v1:=(.int _ _)) (v2:=(.int _ _)) U U U U ?_)))));exact⟨_,F,L,by rw[htc],by rw[htc];exact E1.X,E1.GT,fun _=>by rw[htc,hpa]⟩
 .intro hA;have hfw:¬IJ inner M=true:=by unfold IJ;rw[<-hnum,hA];simp
  rw[if_neg hfw]at htc;obtain⟨q,hq⟩:=qD (Ei fr c inner M);rw[<-hq]at htc;have hok8:q.1≠99:=fun h=>hok (by rw[htc,if_pos (by rw[h];decide)];exact h);obtain⟨hokM,hqc⟩:=WP (fr:=fr) (c:=c) (i:=inner) (M:=M) (by rw[<-hq];exact hok8);rw[<-hq]at hqc;obtain⟨m1,m2,m3,m4⟩:=Ab7 hokM;obtain⟨qb1,qb2,qb3,qb4⟩:=Jx (fr:=fr) (c:=c) (i:=inner) (M:=M) (m:=mx);rw[<-hq]at qb1 qb2 qb3 qb4;have hsz:=Aez (fr:=fr) (c:=c) (i:=inner) (M:=M) X.T.pg.len (fun x hx=>(m2 x hx).1);rw[<-hqc]at hsz;obtain⟨E1,g1⟩:=E0.own H;have I1:=(I.weak MY.nil).turn g1;replace H:=E1.O.ctx;refine Ap (Aa (Ad (Ao U (BH BJ Bm U H at0 U (Ah qB (WM E1.X hfr (by omega) inner (MY Z _) E1.zlt (I1.weak MYZ) m2 m3 m4 hfew) U ?_)))));rintro v w9 ⟨qa,qn,qc,F9,L9,rfl,X9,g9,Q9⟩;rw[<-hqc]at X9 Q9;rw[<-hqc];obtain⟨E9,gg9⟩:=E1.call X9 g9;have hqn:=Q9.num;replace H:=E9.O.ctx
  refine AL U (Ag U U (Ag U U (Ai U (Ac U (qA (Aq (Ad (B5 (α:=Unit) 68182605824 (fun _=>[(35,.bool (decide (q.1≠0) || decide (q.2.2.length=0)))]) (fun _ w'=>Ctx w9 [b3] w' [(b3,Bl 183 [.bool inner,.slice a n cc])]) U ?_ ?_))))))))
  .refine Ae U (AN U U (A4 U (AU 31 U ?_ ?_)))
   .intro h3;replace h3:=Bh h3;refine Ak U (Ak U (Ak U (AR U (.bool _) U (Ab ?_))));exact⟨rfl,(),rfl,⟨qac Value.bool (by(rw[qai (show q.1≠0 from h3)]);(try rw[<-hqn]);(try rw[qap]);simp;try omega),trivial⟩,H⟩
   .intro h4;replace h4:=Bi h4;refine Aj U (AP Bu U (B6 U U (AJ U (.bool _) U (Ab ?_))));exact⟨rfl,(),rfl,⟨qac Value.bool (by(rw[qag (show ¬q.1≠0 from fun h=>h h4)]);(try rw[<-hqn]);(try rw[qap]);simp;try omega),trivial⟩,H⟩
  rintro - j35 w H;refine Ar _ U ?_ ?_
  .intro hB;refine Ad (Ae U (Ac U (Ac U (qA (Aw (An (BA (v1:=(.int _ _)) (v2:=(.int _ _)) U U U U ?_)))))));obtain⟨E10,-⟩:=E9.own H
   by_cases h0:q.1=0
   .have h1:q.2.2=[]:=by
     rw[h0]at hB
     simpa using hB
    rw[if_neg (by rw[h0];simp),if_pos h1]at htc;exact⟨-1,F9,L9,by rw[htc,h0],by rw[htc];exact E10.X,E10.GT,fun _=>by rw[htc]⟩
   .rw[if_pos h0]at htc;exact⟨-1,F9,L9,by rw[htc],by rw[htc];exact E10.X,E10.GT,fun _=>by rw[htc]⟩
  .intro hB
   have hB2:q.1=0/\q.2.2≠[]:=by
    simp at hB;exact⟨hB.1,hB.2⟩
   obtain⟨h0,h1⟩:=hB2;rw[if_neg (by rw[h0];simp),if_neg h1]at htc;obtain⟨E10,g10⟩:=E9.own H;have Q10:=(Q9.weak Ab0).turn g10;replace H:=E10.O.ctx;obtain⟨w10,rfl⟩:=qD w;refine Ap (Aa (Aq (Ad (Aj U (AP Bu U (BP U U (qA (Ar _ U ?_ ?_))))))))
   .intro hC;replace hC:=AV hC;rw[if_pos (by omega)]at htc;refine Ad (Ao U (Aj U (Bw [.bool true,.slice qa qn qc] Hy CJ ?_)));refine Ah qB (Q6 E10.X hfr true (MY Z _) (Q10.weak MYZ) h1 (fun x hx=>⟨(hsz x hx).1,(hsz x hx).2.1⟩) (fun x hx=>by have:=(hsz x hx).2.2;omega) (qb3 hfew)) U ?_;rintro v w11 ⟨m,F11,L11,rfl,X11,g11,-,-,hm11⟩;obtain⟨E11,-⟩:=E10.call X11 g11;replace H:=E11.O.ctx;refine AL U (Ag U U (Ag U U (Bf Dn H ?_)));rintro b8 w - H;refine Bc Bn U U U (by exact(by exact Im.oneE _)) H at0 U ?_;rintro w H;refine Ac U (qA (Ad (Af Fm U (AG DE U H at0 U (Ae U (Ac U (Ac U (qA (Aw (An (BA (v1:=(.int _ _)) (v2:=(.int _ _)) U U U U ?_)))))))))));obtain⟨E12,-⟩:=E11.own H;exact⟨_,F11,L11,by rw[htc],by rw[htc];exact E12.X,E12.GT,fun h=>by rw[htc]at h |-;rw[hm11 h]⟩
   .intro hC;replace hC:=AW hC;rw[if_neg (by omega)]at htc;obtain⟨ms,R,-,hl,hok1⟩:=Q10.ex;have hml:ms.length=qn:=by rw[hqn,<-hl,qan]
    have hpos:=qbs.2 h1;obtain⟨x,hx1⟩:=AY (l:=ms) (i:=0);have hxL:=Im.at hl hx1;have hpa:Ce q.2.2 0=x.it.page:=by unfold Ce;rw[hxL];rfl
    refine Ap (Aa (Ad (Aj U (Bo R Bu Bn U U ?_))));refine Af Fm U (Bq DE U (R.fld hx1 U (j:=2) U) ?_);refine Ac U (Ac U (qA (Aw (BA (v1:=(.int _ _)) (v2:=(.int _ _)) U U U U ?_))));exact⟨_,F9,L9,by rw[htc],by rw[htc];exact E10.X,E10.GT,fun _=>by rw[htc,hpa]⟩
theorem Tx.none{w:World}{bt bd bp ba fr:Nat}{A:Dev}{P:List Nat}{F:Mut}{L:List (Nat × Obj)}(T:Tx w bt bd bp ba fr A P F L):Tx w bt bd bp ba fr A P F [] :=
 ⟨T.tr,T.pg,T.dev,(fun x h=>by cases h),List.Pairwise.nil,(fun x h=>by cases h),T.nbt,T.nbp,T.nba,T.lt⟩
theorem TM.none{F:Mut}{ba bt bp:Nat}{L:List (Nat × Obj)}:∀x,TM F ba bt bp [] x->TM F ba bt bp L x:=fun x h=>by
 rcases h with h|h|h|h|h
 .exact .inl h
 .exact .inr (.inl h)
 .exact .inr (.inr (.inl h))
 .exact .inr (.inr (.inr (.inl h)))
 .cases h
theorem Fr.born{w0 w:World}{bt bd bp ba fr bc:Nat}{c:Ch}{F Z:Mut}{L Y:List (Nat × Obj)}(T:Tx w0 bt bd bp ba fr c.A c.P F [])(hZ:∀x,Z x->x<w0.heap.size)(H:Ctx w0 [] w (L++Y))(hex:∃ta tc tf ga gc gf,L=CL bt bc ta c.tk.length tc tf ga c.gn.length gc gf/\OS ta c.tk.length tc 1 tf (c.tk.map pv)/\OS ga c.gn.length gc 1 gf (c.gn.map pv)):Fr w0 Z (TM F ba bt bp []) w bt bd bp ba fr bc c F L Y:=by
 have hnd:=qch.1 H.nd;have hlt0:∀x,TM F ba bt bp [] x->x<w0.heap.size:=T.mlt;have hyo:∀y∈L++Y,w0.heap.size<=y.1:=fun y hy=>(H.own y hy).elim (fun h=>by cases h) id;obtain⟨T1,g1⟩:=T.own (H.sub (L':=L) (fun x h=>qbb _ h) hnd.1);refine⟨⟨T1,hex⟩,⟨fun y hy=>H.blk y (qaz _ hy),hnd.2.1,fun y hy h=>?_⟩,g1,⟨.of0 H.ext,fun x h=>?_⟩,fun y hy=>?_,H.ext.size,hZ⟩
 .have h5:=hyo y (qaz _ hy)
  rcases h with h|h
  .by_cases h6:y.1∈L.map (·.1)
   .obtain⟨x,hx,he⟩:=qak.1 h6;exact hnd.2.2 x hx y hy he
   .have:TM F ba bt bp [] y.1:=by
     rcases h with h|h|h|h|h
     .exact .inl h
     .exact .inr (.inl h)
     .exact .inr (.inr (.inl h))
     .exact .inr (.inr (.inr (.inl h)))
     .exact absurd h h6
    have:=hlt0 _ this;omega
  .have:=hZ _ h;omega
 .rcases h with(h|h)|h
  .by_cases h6:x∈L.map (·.1)
   .obtain⟨y,hy,rfl⟩:=qak.1 h6;exact .inr (hyo y (qbb _ hy))
   .left;left
    rcases h with h|h|h|h|h
    .exact .inl h
    .exact .inr (.inl h)
    .exact .inr (.inr (.inl h))
    .exact .inr (.inr (.inr (.inl h)))
    .exact absurd h h6
  .exact .inl (.inr h)
  .obtain⟨y,hy,rfl⟩:=qak.1 h;exact .inr (hyo y (qaz _ hy))
 .obtain⟨z,hz,rfl⟩:=qak.1 hy;exact hyo z (qaz _ hz)
theorem Pc{w:World}{bt bd bp ba fr bc:Nat}{c:Ch}{F:Mut}{L:List (Nat × Obj)}(X:Cx w bt bd bp ba fr bc c F L){b10 b9 t1 t2:Nat}{e:Int}{l1 l2:List Value}(h10:w.heap[b10]?=some (Bl t1 (ptr bc::l1)))(h9:w.heap[b9]?=some (Bl t2 (.int .i64 e::l2)))(hgn:c.gn.length<=1000000)(htk:c.tk.length<=1000000:=by omega):
  RetD prog 175 #[ptr b10,ptr b9] w fun w'=>Cx w' bt bd bp ba fr bc (DC c e) F L/\Grown (TM F ba bt bp L) (TM F ba bt bp L) w w':=by
 obtain⟨w0,rfl,H⟩:=qE w;refine XF (fn:=f175) func175 U [.pointer (some ⟨b10,0,none⟩),.pointer (some ⟨b9,0,none⟩)] U ?_;refine A5 (Bq Vi U ((by rw[Au h10];rfl)) ?_);refine Bq EX U ((by rw[Au h9];rfl)) ?_;refine Ah qB (Ab6 X e htk hgn) U ?_;rintro v w2 ⟨rfl,X2,g2⟩;refine Ab (Hi U U ?_);exact⟨X2,g2⟩
theorem Ab8{fr:Nat}{A:Dev}{P:List Nat}{root:Int}{key:Byt}{G:List It->List It}{ed:Int × Ch × Bool × List It}(hed:ed=if root = -1 then(0,⟨A,P,[],[]⟩,false,G [])else C8 fr G key 18 ⟨A,P,[],[]⟩ root.toNat 0) :
  Dw fr A P root key G=if ed.1≠0 then(ed.1,root,DC ed.2.1 ed.1)else if(DO fr ed.2.1 ed.2.2.1 ed.2.2.2).1≠0 then((DO fr ed.2.1 ed.2.2.1 ed.2.2.2).1,root,DC (DO fr ed.2.1 ed.2.2.1 ed.2.2.2).2.1 (DO fr ed.2.1 ed.2.2.1 ed.2.2.2).1)
   else(0,(DO fr ed.2.1 ed.2.2.1 ed.2.2.2).2.2,DC (DO fr ed.2.1 ed.2.2.1 ed.2.2.2).2.1 0):=by
 unfold Dw;rw[hed]
theorem Ab9{fr:Nat}{c:Ch}{i:Bool}{M:List It}:(DO fr c i M).2.1.tk.length<=c.tk.length+3/\(DO fr c i M).2.1.gn=c.gn:=by
 obtain⟨q1,q2,-,-⟩:=Jx (fr:=fr) (c:=c) (i:=i) (M:=M) (m:=0);unfold DO
 split
 .exact⟨qcj _ _,rfl⟩
 .split
  .exact⟨by dsimp only;omega,q2⟩
  .split
   .exact⟨by dsimp only;omega,q2⟩
   .split
    .have h1:=V8 (fr:=fr) (c:=(Ei fr c i M).2.1) (inner:=true) (M:=(Ei fr c i M).2.2);exact⟨by dsimp only;omega,wrC_gn.trans q2⟩
    .exact⟨by dsimp only;omega,q2⟩
structure US where
 i:Bool
 a:Option Addr
 n:Nat
 c:Nat
 M:List It
 ch:Ch
 F:Mut
 L:List (Nat × Obj)
theorem Ul{f:Nat}{cl:List Value}{G:List It->List It}{key:Byt}{fr:Nat}(hf:Av prog f=true)(hfr:fr<=5000)(hkl:key.length<=100000){w:World}{bt bd bp ba:Nat}{A:Dev}{P:List Nat}{F:Mut}(T:Tx w bt bd bp ba fr A P F [])(root:Int)(hr1 : -1<=root)(hr2:root<=4294967296)(Z:Mut)(hZ:∀x,Z x->x<w.heap.size)(D:DoOk f cl G w (MZ (TM F ba bt bp []) Z))(ka:Option Addr)(kc:Nat)(Rk:Rdx w (MZ (TM F ba bt bp []) Z) ka key){mx:Nat}(hfew:Few A mx)(hmx:mx<=800000000)(hok:(Dw fr A P root key G).1≠99) :
  Ret prog 144 #[ptr bt,.int .i64 root,.slice ka key.length kc,.func (.func f) #[] cl.toArray] w fun v w'=>∃F',v=.tuple #[.int .i64 (Dw fr A P root key G).2.1,.int .i64 (Dw fr A P root key G).1]/\Tx w' bt bd bp ba fr (Dw fr A P root key G).2.2.A (Dw fr A P root key G).2.2.P F' []/\Grown (TM F ba bt bp []) (TM F' ba bt bp []) w w':=by
 obtain⟨w0,rfl⟩:=qD w;obtain⟨ed,hed⟩:=qD (if root = -1 then(0,⟨A,P,[],[]⟩,false,G [])else C8 fr G key 18 ⟨A,P,[],[]⟩ root.toNat 0:Int × Ch × Bool × List It);have htc:=Ab8 hed;obtain⟨tc,htc2⟩:=qD (Dw fr A P root key G);rw[<-htc2]at htc hok |-;have H:=Ctx.start w0 [];refine XG (fn:=f144) func144 U [.pointer (some ⟨bt,0,none⟩),.int .i64 root,.slice ka key.length kc,.func (.func f) #[] cl.toArray] U ?_;refine Ad (Ac U (Bf W7 H ?_));rintro b9 w - H;refine qA (Ad (Ao U (Bw [ptr bt,.slice none 0 0,.slice none 0 0] Ahn Ahw ?_)));refine BN [ptr bt,.slice none 0 0,.slice none 0 0] (.agg _) U U H ?_;rintro bc w - H;refine Bf Ahv H ?_;rintro b10 w - H;refine Bk (.pointer _) Aho U U U H at0 (by decide) ?_;rintro w H;refine qA (Ad (Cl [.pointer _,.pointer _] U (Z2 U U ?_)))
 refine qA (Ad (Bw [.bool false,.slice none 0 0] Hy CJ ?_));refine Bf CJ H ?_;rintro b11 w - H;refine Bc Bm U U U (by simp[AX]) H at0 U ?_;rintro w H;refine qA (Aq (Ad (Ae U (B6 U U (qA ?_)))));have E1:Fr w0 Z (TM F ba bt bp []) w bt bd bp ba fr bc ⟨A,P,[],[]⟩ F [(bc,Bl TC [ptr bt,.slice none 0 0,.slice none 0 0])] [(b11,NBl false none 0 0),(b10,Bl 186 [ptr bc]),(b9,Bl 28 [.int .i64 0])]:=Fr.born T hZ (H.perm (List.perm_middle (l₁:=[_,_]) (l₂:=[_]))) ⟨none,0,[],none,0,[],rfl,OS.nil,OS.nil⟩;replace H:=E1.O.ctx
 have hb:ed.2.1.tk.length<=36/\ed.2.1.gn.length<=36/\Few ed.2.1.A (mx+36):=by
  rw[hed]
  split
  .exact⟨qal _,qal _,hfew.mono (by omega)⟩
  .obtain⟨x1,x2,x3⟩:=JX (fr:=fr) (G:=G) (key:=key) (m:=mx) (n:=18) (c:=⟨A,P,[],[]⟩) (p:=root.toNat) (d:=0);exact⟨by simpa using x1,by simpa using x2,x3 hfew⟩
 refine Fk 17179345152 (α:=US) (fun _=>[]) (fun s w'=>Fr w0 Z (TM F ba bt bp []) w' bt bd bp ba fr bc s.ch s.F s.L [(b11,NBl s.i s.a s.n s.c),(b10,Bl 186 [ptr bc]),(b9,Bl 28 [.int .i64 0])]/\Its w' (MY (MZ (TM s.F ba bt bp s.L) Z) [(b11,NBl s.i s.a s.n s.c),(b10,Bl 186 [ptr bc]),(b9,Bl 28 [.int .i64 0])]) s.a s.n s.c s.M/\ed=(0,s.ch,s.i,s.M)) U ?_ ?_
 .skip
  refine Ar _ U ?_ ?_
  .intro hA;replace hA:=AV hA;rw[if_pos hA]at hed;refine A5 (B4 (.func _ _ _) U ?_);refine IX U U hf (D _ _ E1.GA E1.mylt none 0 0 [] Its.nil (by omega)) U ?_;rintro v w4 ⟨a4,c4,rfl,I4,hx4⟩;obtain⟨E4,-⟩:=E1.call0 hx4;replace H:=E4.O.ctx;refine Af B0 U (Bk (.slice _ _ _) Da U U U H at0 (by decide) ?_);rintro w H;refine qA ?_;obtain⟨E5,g5⟩:=E4.own H;exact⟨⟨false,a4,(G []).length,c4,G [],⟨A,P,[],[]⟩,F,_⟩,rfl,trivial,E5,I4.turn g5,hed⟩
  .intro hA;replace hA:=AW hA;obtain⟨p,rfl⟩:∃p:Nat,root=(p:Int):=⟨root.toNat,by omega⟩;rw[if_neg hA,qbi]at hed;have hed':ed=C8 fr G key (17+1) ⟨A,P,[],[]⟩ p 0:=hed;have hok5:ed.1≠99:=fun h=>hok (by rw[htc,if_pos (by rw[h];decide)];exact h);refine Ad (AG Vi U H at1 U (Ae U (Aj U (B4 (.func _ _ _) U ?_))));refine Ah qB (Uk hf hfr hkl 17 E1.X (by simp) (by simp) p 0 (by omega) (by omega) (MY Z _) E1.zlt (D.keep (E1.GA.weak MYZ)) ka kc ((Rk.turn E1.GA).weak MYZ) mx hfew (by omega) (by rw[<-hed'];exact hok5)) U ?_;rintro v w5 ⟨kin,k5,n5,c5,F5,L5,rfl,X5,g5,hk5⟩;rw[<-hed']at X5 hk5;rw[<-hed'];obtain⟨E5,gg5⟩:=E1.call X5 g5;replace H:=E5.O.ctx;refine AL U (Ag U U (Ag U U (Bc Bm U U U (by simp[AX]) H at0 U ?_)));rintro w H;refine Bk (.int _ _) FV U U U H at2 (by decide) ?_;rintro w H
   refine qA (Ad (AG EX U H at2 U (AN U U (qA (Ar _ U ?_ ?_)))))
   .intro hB;replace hB:=Bh hB;rw[if_pos hB]at htc;refine Zk 3 mixed U U (Hl U (Wh U EX U (by rintro _ rfl;exact H.drew) at2 U ?_));refine EW U (Kf ?_);replace H:=H.drew;refine Bk (.int _ _) FV U U U H at2 (by(simp;done)) ?_;rintro w H;refine qA (Aw (An ?_));obtain⟨E6,-⟩:=E5.own H;refine Vg U qB _ (Pc E6.X (H.get at1) (H.get at2) (by omega)) (fun w7 hK tmps ht=>?_);exact⟨_,Z3 U ht U U EX ((E6.O.call (hK.2.or Z)).1.blk (b9,_) (qaf (i:=2) U)),F5,by rw[htc];rfl,by rw[htc];exact hK.1.T.none,(E6.GT.trans hK.2).weak TM.none⟩
   .intro hB;replace hB:=Bi hB;have hB':ed.1=0:=by simpa using hB
    rw[hB']at H;obtain⟨rfl,K5⟩:=hk5 hB';refine Ap (Aa ?_);obtain⟨E6,g6⟩:=E5.own H;exact⟨⟨ed.2.2.1,k5,n5,c5,ed.2.2.2,ed.2.1,F5,L5⟩,rfl,trivial,E6,(K5.weak Ab0).turn g6,Prod.ext hB' rfl⟩
 .rintro⟨si,sa,sn,scc,sM,sch,sF,sL⟩ j18 w ⟨E8,I8,hed8⟩;dsimp only at E8 I8 hed8;rw[hed8]at htc hb;dsimp only at htc hb;rw[if_neg (by simp)]at htc;obtain⟨q,hq⟩:=qD (DO fr sch si sM);rw[<-hq]at htc;have hokq:q.1≠99:=fun h=>hok (by rw[htc,if_pos (by rw[h];decide)];exact h);obtain⟨tb1,tb2⟩:=Ab9 (fr:=fr) (c:=sch) (i:=si) (M:=sM);rw[<-hq]at tb1 tb2;have H:=E8.O.ctx;refine Ad (AG Vi U H at1 U (BH BJ Bm U H at0 U (Ah qB (Ae0 E8.X hfr si (MY Z _) E8.zlt (I8.weak MYZ) hb.2.2 (by rw[<-hq];exact hokq)) U ?_)));rintro v w9 ⟨tp,F9,L9,rfl,X9,g9,hp9⟩;rw[<-hq]at X9 hp9;rw[<-hq];obtain⟨E9,gg9⟩:=E8.call X9 g9;replace H:=E9.O.ctx;refine AL U (Ag U U (Ag U U (Ac U (Bk (.int _ _) FV U U U H at2 (by decide) ?_))));rintro w H;refine qA (Aq (Ad (AG EX U H at2 U (AN U U (qA (Ar _ U ?_ ?_))))))
  .intro hC;replace hC:=Bh hC;rw[if_pos hC]at htc;refine Zk 3 mixed U U (Hl U (Wh U EX U (by rintro _ rfl;exact H.drew) at2 U ?_));refine EW U (Kf ?_);replace H:=H.drew;refine Bk (.int _ _) FV U U U H at2 (by(simp;done)) ?_;rintro w H;refine qA (Aw (An ?_));obtain⟨E10,-⟩:=E9.own H;refine Vg U qB _ (Pc E10.X (H.get at1) (H.get at2) (by rw[tb2];omega)) (fun w7 hK tmps ht=>?_);exact⟨_,Z3 U ht U U EX ((E10.O.call (hK.2.or Z)).1.blk (b9,_) (qaf (i:=2) U)),F9,by rw[htc];rfl,by rw[htc];exact hK.1.T.none,(E10.GT.trans hK.2).weak TM.none⟩
  .intro hC;replace hC:=Bi hC;rw[if_neg (by simpa using hC)]at htc;have hC':q.1=0:=by simpa using hC
   have hp9':=hp9 hC';refine Ap (Aa (Ad (Ae U (Ac U (Bk (.int _ _) FV U U U H at2 (by(simp;done)) ?_)))));rintro w H;refine qA (Aw ?_);obtain⟨E10,-⟩:=E9.own H;refine Vg U qB _ (Pc E10.X (H.get at1) (H.get at2) (by rw[tb2];omega)) (fun w7 hK tmps ht=>?_);exact⟨_,Z3 U ht U U EX ((E10.O.call (hK.2.or Z)).1.blk (b9,_) (qaf (i:=2) U)),F9,by rw[htc];show Value.tuple #[.int .i64 tp,.int .i64 0]=.tuple #[.int .i64 q.2.2,.int .i64 0];rw[hp9'],by rw[htc];exact hK.1.T.none,(E10.GT.trans hK.2).weak TM.none⟩
theorem QC{w:World}{M:Mut}{a:Option Addr}{n c k m b:Nat}{l q:List It}(I:Its w M a n c l)(Q:Its w M (some ⟨b,0,none⟩) 1 1 q)(h1:(l.take k).length=k)(h2:(l.drop m).length=n - m)(hk:k<=n:=by omega)(hm:m<=n:=by omega):
  ∀x∈([(a,l.take k,c),(some ⟨b,0,none⟩,q,1),(DV a c m 3,l.drop m,c - m)]:List SI),Its w M x.1 x.2.1.length x.2.2 x.2.1:=by
 intro x hx;simp only[qaa,qaj,or_false]at hx
 rcases hx with rfl|rfl|rfl
 .show Its w M a (l.take k).length c (l.take k);rw[h1];exact I.take hk
 .show Its w M _ q.length _ q;rw[<-Q.num];exact Q
 .show Its w M _ (l.drop m).length _ (l.drop m);rw[h2];exact I.drop hm
theorem Yu{w:World}{M:Mut}{a:Option Addr}{n c k m:Nat}{l:List It}(I:Its w M a n c l)(h1:(l.take k).length=k)(h2:(l.drop m).length=n - m)(hk:k<=n:=by omega)(hm:m<=n:=by omega):
  ∀x∈([(a,l.take k,c),(DV a c m 3,l.drop m,c - m)]:List SI),Its w M x.1 x.2.1.length x.2.2 x.2.1:=by
 intro x hx;simp only[qaa,qaj,or_false]at hx
 rcases hx with rfl|rfl
 .show Its w M a (l.take k).length c (l.take k);rw[h1];exact I.take hk
 .show Its w M _ (l.drop m).length _ (l.drop m);rw[h2];exact I.drop hm
theorem WR{w0 w:World}{M:Mut}(hM:∀x,M x->x<w0.heap.size){b t:Nat}{ka va:Option Addr}{kc vc:Nat}{key val:Byt}(hb:w.heap[b]?=some (Bl t [.slice ka key.length kc,.slice va val.length vc,.int .i64 0]))(hn:w0.heap.size<=b)(Rk:Rdx w M ka key)(Rv:Rdx w M va val)(hkc:key.length<=kc)(hvc:val.length<=vc):Its w M (some ⟨b,0,none⟩) 1 1 [⟨key,val,0⟩]:=by
 refine⟨⟨[⟨ka,kc,va,vc,⟨key,val,0⟩⟩],Rd.of_bl (r:=[]) hb U (fun _ _=>rfl),.inr fun h=>?_,rfl,fun m hm=>?_⟩,rfl,qae _⟩
 .have:=hM _ h;dsimp only[adr]at this;omega
 .rw[qab.1 hm];exact⟨Rk,Rv,hkc,hvc⟩
theorem Aca{w:World}{M:Mut}(hM:∀x,M x->x<w.heap.size){b6 b7 t6 t7:Nat}{ka va:Option Addr}{kc vc:Nat}{key val:Byt}{l6 l7:List Value}(h6:w.heap[b6]?=some (Bl t6 (.slice ka key.length kc::l6)))(h7:w.heap[b7]?=some (Bl t7 (.slice va val.length vc::l7)))(Rk:Rdx w M ka key)(Rv:Rdx w M va val)(hkc:key.length<=kc)(hvc:val.length<=vc){a:Option Addr}{n c:Nat}{l:List It}(I:Its w M a n c l)(hn:n<=100000) :
  Ret prog 145 #[.slice a n c,ptr b6,ptr b7] w fun v w'=>∃a' c',v=.slice a' (Jw key val l).length c'/\Its w' M a' (Jw key val l).length c' (Jw key val l)/\Ext [] w w':=by
 obtain⟨w0,rfl⟩:=qD w;have hnum:=I.num;have hcap:=I.le;have hpl:=MA l key;obtain⟨k,hk⟩:=qD (Cd l key);obtain⟨kb,hkb⟩:=qD (Ee l key);have k6:∀{z:World},Ext [] w0 z->z.heap[b6]?=some (Bl t6 (.slice ka key.length kc::l6)):=fun{z} h=>by rw[h.block b6 (Al h6) (by simp)];exact h6
 have k7:∀{z:World},Ext [] w0 z->z.heap[b7]?=some (Bl t7 (.slice va val.length vc::l7)):=fun{z} h=>by rw[h.block b7 (Al h7) (by simp)];exact h7
 have hins:Jw key val l=if kb=true then l.take k++([⟨key,val,0⟩]++l.drop (k+1))else l.take k++([⟨key,val,0⟩]++l.drop k):=by unfold Jw;rw[hkb,hk]
 obtain⟨il,hil⟩:=qD (Jw key val l);rw[<-hil]at hins |-;have H:=Ctx.start w0 [];refine Ax (fn:=f145) func145 U [.slice a n c,.pointer (some ⟨b6,0,none⟩),.pointer (some ⟨b7,0,none⟩)] U ?_;refine Ad (Ai U (qA (Ad (Aj U (Bq BF U ((by rw[Au h6];rfl)) ?_)))));refine Ah qB (OO I ka kc _ key Rk.1 U) U ?_;rintro v w1 ⟨rfl,hx1⟩;rw[<-hk,<-hkb];have H:=Ctx.start w1 [];refine AL U (Ag U U (Ag U U (Ac U (Am U (qA (Aq (Ad (A4 U (qA ?_)))))))));refine Ar _ U ?_ ?_
 .intro hA
  have hlt:k<n:=by
   rw[hkb]at hA;obtain⟨x,hx,-⟩:=Kz hA;have:=(qar.1 hx).1;omega
  rw[if_pos hA]at hins;refine BQ [([0,1,2,3,4,5,7,8,9,10],6),([],11),([],12),([],13)] (fun z=>Ext [] w1 z) [] mixed (Ext.drew [] w1) (A7 U U ?_);refine Ca U (BI U (FC U Bu Bn U U ?_));refine BO BF U (fun _ hx=>(by rw[Au (k6 (hx1.trans hx))];rfl)) ?_;refine BO BF U (fun _ hx=>(by rw[Au (k7 (hx1.trans hx))];rfl)) ?_;refine Je [.slice ka key.length kc,.slice va val.length vc,.int .i64 0] U Ow Dn (Ca U (BI U (Ew U U ?_)));refine FB U Bu Bn U U (Bj ?_);replace H:=H.drew;refine C3 [.slice ka key.length kc,.slice va val.length vc,.int .i64 0] (.agg _) Bu Bn Dn U U U U H ?_;rintro b20 w2 hb20 H;refine Ab (Be (H.ext) (A7 U U ?_))
  refine Bj (BM [.slice a k c,.slice (some ⟨b20,0,none⟩) 1 1,.slice (DV a c (k+1) 3) (n - (k+1)) (c - (k+1))] Hx Da Mo H ?_);rintro b25 w3 - H;refine Ab (Be (H.ext) (A7 U U ?_));refine Bj ?_;have hx3:=hx1.trans H.ext;have I3:=I.call hx3;have hlt9:(l.take k).length=k:=(by rw[qay];omega);have hld9:(l.drop (k+1)).length=n - (k+1):=(by rw[qbe];omega);have Q3:=WR hM (H.get at1) ((H.own _ (qah _ (qad ..))).elim (fun h=>by cases h) fun h=>qav hx1.size h) (Rk.call hx3) (Rv.call hx3) hkc hvc;have RR:Rd w3 (some ⟨b25,0,none⟩) 1 M6 [(a,l.take k,c),(some ⟨b20,0,none⟩,[⟨key,val,0⟩],1),(DV a c (k+1) 3,l.drop (k+1),c - (k+1))]:=Rd.of_bl (r:=[]) (H.get at0) (by simp[M6,hlt9,hld9]) (fun _ _=>rfl)
  have CC:=FI (M:=M) (n:=3) (c:=3) (fun x h=>qas (hM x h) hx3.size) _ RR (QC I3 Q3 hlt9 hld9) rfl (by simp only[qau,qbq,qco,qdc,qbx];omega);rw[show([(a,l.take k,c),(some ⟨b20,0,none⟩,[⟨key,val,0⟩],1),(DV a c (k+1) 3,l.drop (k+1),c - (k+1))]:List SI).flatMap (fun x=>x.2.1)=il by rw[hins];simp]at CC;refine Ah qB CC U ?_;rintro v w4 ⟨a4,c4,rfl,J4,hx4⟩;have hx14:=H.ext.trans hx4;refine Ab (Be (hx14) (A7 U U ?_));refine Bj (Ai U (Ab (Be (hx14) (B2 (Aw (An (AE (v:=(.slice _ _ _)) U U U ?_)))))));exact⟨a4,c4,rfl,J4,hx1.trans hx14⟩
 .intro hA;rw[if_neg (by rw[hA];simp)]at hins;refine Ap (Aa (BQ [([0,1,2,3,4,5,7,8,9],6),([],10),([],11),([],12)] (fun z=>Ext [] w1 z) [] mixed (Ext.drew [] w1) ?_));refine A7 U U (Ca U (BI U (FC U Bu Bn U U ?_)));refine BO BF U (fun _ hx=>(by rw[Au (k6 (hx1.trans hx))];rfl)) ?_;refine BO BF U (fun _ hx=>(by rw[Au (k7 (hx1.trans hx))];rfl)) ?_;refine Je [.slice ka key.length kc,.slice va val.length vc,.int .i64 0] U Ow Dn (Ca U (BI U (FB U Bu Bn U U ?_)));refine Bj ?_;replace H:=H.drew;refine C3 [.slice ka key.length kc,.slice va val.length vc,.int .i64 0] (.agg _) Bu Bn Dn U U U U H ?_;rintro b20 w2 hb20 H;refine Ab (Be (H.ext) (A7 U U ?_))
  refine Bj (BM [.slice a k c,.slice (some ⟨b20,0,none⟩) 1 1,.slice (DV a c k 3) (n - k) (c - k)] Hx Da Mo H ?_);rintro b25 w3 - H;refine Ab (Be (H.ext) (A7 U U ?_));refine Bj ?_;have hx3:=hx1.trans H.ext;have I3:=I.call hx3;have hlt9:(l.take k).length=k:=(by rw[qay];omega);have hld9:(l.drop k).length=n - k:=(by rw[qbe];omega);have Q3:=WR hM (H.get at1) ((H.own _ (qah _ (qad ..))).elim (fun h=>by cases h) fun h=>qav hx1.size h) (Rk.call hx3) (Rv.call hx3) hkc hvc;have RR:Rd w3 (some ⟨b25,0,none⟩) 1 M6 [(a,l.take k,c),(some ⟨b20,0,none⟩,[⟨key,val,0⟩],1),(DV a c k 3,l.drop k,c - k)]:=Rd.of_bl (r:=[]) (H.get at0) (by simp[M6,hlt9,hld9]) (fun _ _=>rfl)
  have CC:=FI (M:=M) (n:=3) (c:=3) (fun x h=>qas (hM x h) hx3.size) _ RR (QC I3 Q3 hlt9 hld9) rfl (by simp only[qau,qbq,qco,qdc,qbx];omega);rw[show([(a,l.take k,c),(some ⟨b20,0,none⟩,[⟨key,val,0⟩],1),(DV a c k 3,l.drop k,c - k)]:List SI).flatMap (fun x=>x.2.1)=il by rw[hins];simp]at CC;refine Ah qB CC U ?_;rintro v w4 ⟨a4,c4,rfl,J4,hx4⟩;have hx14:=H.ext.trans hx4;refine Ab (Be (hx14) (A7 U U ?_));refine Bj (Ai U (Ab (Be (hx14) (B2 (Aw (AE (v:=(.slice _ _ _)) U U U ?_))))));exact⟨a4,c4,rfl,J4,hx1.trans hx14⟩
theorem Acb{w:World}{M:Mut}(hM:∀x,M x->x<w.heap.size){b5 t5:Nat}{ka:Option Addr}{kc:Nat}{key:Byt}{l5:List Value}(h5:w.heap[b5]?=some (Bl t5 (.slice ka key.length kc::l5)))(Rk:Rdx w M ka key){a:Option Addr}{n c:Nat}{l:List It}(I:Its w M a n c l)(hn:n<=100000) :
  Ret prog 149 #[.slice a n c,ptr b5] w fun v w'=>∃a' c',v=.slice a' (IK key l).length c'/\Its w' M a' (IK key l).length c' (IK key l)/\Ext [] w w':=by
 obtain⟨w0,rfl⟩:=qD w;have hnum:=I.num;have hcap:=I.le;have hpl:=MA l key;obtain⟨k,hk⟩:=qD (Cd l key);obtain⟨kb,hkb⟩:=qD (Ee l key);have hins:IK key l=if kb=true then l.take k++l.drop (k+1)else l:=by unfold IK;rw[hkb,hk]
 obtain⟨il,hil⟩:=qD (IK key l);rw[<-hil]at hins |-;have H:=Ctx.start w0 [];refine Ax (fn:=f149) func149 U [.slice a n c,.pointer (some ⟨b5,0,none⟩)] U ?_;refine Ad (Ai U (qA (Ad (Aj U (Bq BF U ((by rw[Au h5];rfl)) ?_)))));refine Ah qB (OO I ka kc _ key Rk.1 U) U ?_;rintro v w1 ⟨rfl,hx1⟩;rw[<-hk,<-hkb];have H:=Ctx.start w1 [];refine AL U (Ag U U (Ag U U (Ac U (Am U (qA (Aq (Ad (A4 U (Cc U ?_)))))))));refine qA (Ar _ U ?_ ?_)
 .intro hA;replace hA:=Cs hA;rw[if_neg (by rw[hA];simp)]at hins;refine Ad (Aj U (Ai U (qA (Aw (An (AE (v:=(.slice _ _ _)) U U U ?_))))));rw[hins,<-hnum];exact⟨a,c,rfl,I.call hx1,hx1⟩
 .intro hA;replace hA:=Cu hA
  have hlt:k<n:=by
   rw[hkb]at hA;obtain⟨x,hx,-⟩:=Kz hA;have:=(qar.1 hx).1;omega
  rw[if_pos hA]at hins;refine Ap (Aa (BQ [([0,1,2,3,4,5,6],7),([],8),([],9)] (fun z=>Ext [] w1 z) [] mixed (Ext.drew [] w1) ?_));refine A7 U U (Ca U (BI U (FC U Bu Bn U U ?_)));refine Ca U (BI U (Ew U U ?_));refine FB U Bu Bn U U (Bj ?_);replace H:=H.drew;refine BM [.slice a k c,.slice (DV a c (k+1) 3) (n - (k+1)) (c - (k+1))] Hx Da Mo H ?_;rintro b25 w3 - H;refine Ab (Be (H.ext) (A7 U U ?_));refine Bj ?_;have hx3:=hx1.trans H.ext;have I3:=I.call hx3;have hlt9:(l.take k).length=k:=(by rw[qay];omega);have hld9:(l.drop (k+1)).length=n - (k+1):=(by rw[qbe];omega)
  have RR:Rd w3 (some ⟨b25,0,none⟩) 1 M6 [(a,l.take k,c),(DV a c (k+1) 3,l.drop (k+1),c - (k+1))]:=Rd.of_bl (r:=[]) (H.get at0) (by simp[M6,hlt9,hld9]) (fun _ _=>rfl);have CC:=FI (M:=M) (n:=2) (c:=2) (fun x h=>qas (hM x h) hx3.size) _ RR (Yu I3 hlt9 hld9) rfl (by simp only[qau,qbq,qco,qdc];omega);rw[show([(a,l.take k,c),(DV a c (k+1) 3,l.drop (k+1),c - (k+1))]:List SI).flatMap (fun x=>x.2.1)=il by rw[hins];simp]at CC;refine Ah qB CC U ?_;rintro v w4 ⟨a4,c4,rfl,J4,hx4⟩;have hx14:=H.ext.trans hx4;refine Ab (Be (hx14) (A7 U U ?_));refine Bj (Ai U (Ab (Be (hx14) (B2 (Aw (AE (v:=(.slice _ _ _)) U U U ?_))))));exact⟨a4,c4,rfl,J4,hx1.trans hx14⟩
theorem Grown.keep{M M':Mut}{w w':World}{b:Nat}{o:Obj}(t:Grown M M' w w')(h:w.heap[b]?=some o)(hn:¬M b):w'.heap[b]?=some o:=by
 obtain⟨⟨S,hS,hx⟩,-⟩:=t;rw[hx.block b (Al h) fun h=>hn (hS _ h)];exact h
abbrev Z0:Mut:=fun _=>False
theorem MZ0{M:Mut}:∀x,MZ M Z0 x->M x:=fun _ h=>h.elim id False.elim
theorem Ae1{fr:Nat}{w:World}{bt bd bp ba:Nat}{A:Dev}{P:List Nat}{F:Mut}(T:Tx w bt bd bp ba fr A P F [])(root:Int)(ka va:Option Addr)(kc vc kn vn:Nat)(key val:Byt)(Rk:Rdx w (TM F ba bt bp []) ka key)(Rv:Rdx w (TM F ba bt bp []) va val)(hkn:key.length=kn)(hvn:val.length=vn)(hkc:kn<=kc)(hvc:vn<=vc){mx:Nat}(hfew:Few A mx)(hok:(MB fr A P root key val).1≠99)(hfr:fr<=5000:=by omega)(hr1: -9223372036854775808<=root:=by omega)(hr2:root<=9223372036854775807:=by omega)(hkl:kn<=100000:=by omega)(hmx:mx<=800000000:=by omega):
  Ret prog 120 #[ptr bt,.int .i64 root,.slice ka kn kc,.slice va vn vc] w fun v w'=>∃F',v=.tuple #[.int .i64 (MB fr A P root key val).2.1,.int .i64 (MB fr A P root key val).1]/\Tx w' bt bd bp ba fr (MB fr A P root key val).2.2.1 (MB fr A P root key val).2.2.2 F' []/\Grown (TM F ba bt bp []) (TM F' ba bt bp []) w w':=by
 subst hkn hvn;obtain⟨w0,rfl⟩:=qD w;obtain⟨pt,hpt⟩:=qD (MB fr A P root key val);rw[<-hpt]at hok |-;unfold MB at hpt;have H:=Ctx.start w0 [];refine Ax (fn:=f120) func120 U [.pointer (some ⟨bt,0,none⟩),.int .i64 root,.slice ka key.length kc,.slice va val.length vc] U ?_;refine Ad (BN _ (.slice _ _ _) U U H ?_);rintro b6 w - H;refine BN _ (.slice _ _ _) U U H ?_;rintro b7 w - H;refine Ac U (Ac U (qA (Aq (Ad (Ao U (Ae U (Ah qB (Ny (T.call H.ext) root) U ?_)))))));rintro v w2 ⟨rfl,rfl⟩;refine Ac U (qA (Ad (Ae U (AN U U (qA (Ar _ U ?_ ?_))))))
 .intro hA;replace hA:=Bh hA;rw[if_pos hA]at hpt;have he:Gs P.length root=1:=by unfold Gs at hA |-;split <;> simp_all
  rw[he];refine Ad (Ae U (Ae U (Ac U (Ac U (qA (Aw (An (BA (v1:=(.int _ _)) (v2:=(.int _ _)) U U U U ?_))))))));exact⟨F,by rw[hpt],by rw[hpt];exact T.call H.ext,.call0 H.ext⟩
 .intro hA;replace hA:=Bi hA;rw[if_neg (by simpa using hA)]at hpt;have hm0:Gs P.length root=0:=by simpa using hA
  have hroot : -1<=root/\root<=4294967296:=by
   have hpl:=T.pg.len;unfold Gs at hm0
   split at hm0
   .cases hm0
   .omega
  refine Ap (Aa (Aq (Ad (AG BF U H at1 U (AG BF U H at0 U (Ah qB (Q5 ka va _ _ kc vc _) U ?_))))));rintro v w2 ⟨rfl,rfl⟩;refine Cc U (qA (Ar _ U ?_ ?_))
  .intro hB;replace hB:=Cs hB;rw[if_neg (by rw[hB];simp)]at hpt;refine Ad (Ae U (Ac U (Ac U (qA (Aw (An (BA (v1:=(.int _ _)) (v2:=(.int _ _)) U U U U ?_)))))));exact⟨F,by rw[hpt],by rw[hpt];exact T.call H.ext,.call0 H.ext⟩
  .intro hB;replace hB:=Cu hB;rw[if_pos (by simpa using hB)]at hpt;have hx1:=H.ext;have h6:=H.get at1;have h7:=H.get at0;have ho6:=(H.own _ (qah _ (qad ..))).elim (fun h=>by cases h) id;have ho7:=(H.own _ (qad ..)).elim (fun h=>by cases h) id;have hM0:=T.mlt;have T1:=T.call hx1;have D:DoOk 145 [ptr b6,ptr b7] (Jw key val) w (MZ (TM F ba bt bp []) Z0):=fun w' M' t hlt a n c l I hn=>Aca hlt (t.keep h6 fun h=>by have:=hM0 _ (MZ0 _ h);dsimp only at ho6;omega) (t.keep h7 fun h=>by have:=hM0 _ (MZ0 _ h);dsimp only at ho7;omega) (((Rk.call hx1).weak MZ0).turn t) (((Rv.call hx1).weak MZ0).turn t) hkc hvc I hn;have hokt:(Dw fr A P root key (Jw key val)).1≠99:=fun h=>hok (by rw[hpt];exact h)
   refine Ap (Aa (Ad (Ao U (Ae U (AG BF U H at1 U (Cl [.pointer _,.pointer _] U (Ah qB (Ul qB hfr hkl T1 root hroot.1 hroot.2 Z0 (fun x h=>h.elim) D ka kc ((Rk.call hx1).weak MZ0) hfew hmx hokt) U ?_)))))));rintro v w3 ⟨F3,rfl,T3,g3⟩;refine Ag U U (Ag U U (Ac U (Ac U (qA (Aw (BA (v1:=(.int _ _)) (v2:=(.int _ _)) U U U U ?_))))));exact⟨F3,by rw[hpt],by rw[hpt];exact T3,(Grown.call0 hx1).trans g3⟩
theorem Ae2{fr:Nat}{w:World}{bt bd bp ba:Nat}{A:Dev}{P:List Nat}{F:Mut}(T:Tx w bt bd bp ba fr A P F [])(root:Int)(ka:Option Addr)(kc kn:Nat)(key:Byt)(Rk:Rdx w (TM F ba bt bp []) ka key)(hkn:key.length=kn){mx:Nat}(hfew:Few A mx)(hok:(Kc fr A P root key).1≠99)(hfr:fr<=5000:=by omega)(hr1: -9223372036854775808<=root:=by omega)(hr2:root<=9223372036854775807:=by omega)(hkl:kn<=100000:=by omega)(hmx:mx<=800000000:=by omega):
  Ret prog 121 #[ptr bt,.int .i64 root,.slice ka kn kc] w fun v w'=>∃F',v=.tuple #[.int .i64 (Kc fr A P root key).2.1,.bool (Kc fr A P root key).2.2.1,.int .i64 (Kc fr A P root key).1]/\Tx w' bt bd bp ba fr (Kc fr A P root key).2.2.2.1 (Kc fr A P root key).2.2.2.2 F' []/\Grown (TM F ba bt bp []) (TM F' ba bt bp []) w w':=by
 subst hkn;obtain⟨w0,rfl⟩:=qD w;obtain⟨pt,hpt⟩:=qD (Kc fr A P root key);rw[<-hpt]at hok |-;unfold Kc at hpt;obtain⟨gt,hgt⟩:=qD (LG A fr P.length root key);rw[<-hgt]at hpt;have H:=Ctx.start w0 [];refine Ax (fn:=f121) func121 U [.pointer (some ⟨bt,0,none⟩),.int .i64 root,.slice ka key.length kc] U ?_;refine Ad (BN _ (.slice _ _ _) U U H ?_);rintro b5 w - H;refine Ac U (Am U (Ac U (qA (Ad (Ao U (Ae U (AG BF U H at0 U ?_)))))));have hx0:=H.ext;refine Ah qB (WK (T.call hx0) hfr root ⟨hr1,hr2⟩ ka kc _ key (Rk.call hx0).1 U hfew) U ?_;rintro v w2 ⟨va,vc,u,rfl,hx17,-,-,-⟩;rw[<-hgt];replace H:=H.call hx17
 refine AL U (Ag U U (Ag U U (Ag U U (Ai U (Am U (Ac U (qA (Aq (Ad (B5 (α:=Unit) 132120576 (fun _=>[(26,.bool (decide (gt.1≠0) || decide (gt.2.isSome=false)))]) (fun _ w'=>Ctx w0 [] w' [(b5,Bl 24 [.slice ka key.length kc])]) U ?_ ?_))))))))))
 .refine Ae U (AN U U (A4 U (AU 23 U ?_ ?_)))
  .intro h1;replace h1:=Bh h1;refine Ak U (Ak U (AR U (.bool _) U (Ab ?_)));exact⟨rfl,(),rfl,⟨qac Value.bool (by(rw[qai (show gt.1≠0 from h1)]);cases gt.2 <;> rfl),trivial⟩,H⟩
  .intro h2;replace h2:=Bi h2;refine A4 U (Cc U (AJ U (.bool _) U (Ab ?_)));exact⟨rfl,(),rfl,⟨qac Value.bool (by(rw[qag (show ¬gt.1≠0 from fun h=>h h2)]);cases gt.2 <;> rfl),trivial⟩,H⟩
 rintro - j26 w H;refine Ar _ U ?_ ?_
 .intro hA;refine Ad (Ae U (Ae U (Ac U (Am U (Ac U (qA (Aw (An (Ci (v1:=(.int _ _)) (v2:=(.bool _)) (v3:=(.int _ _)) U U U U U ?_)))))))))
  by_cases h0:gt.1=0
  .rw[if_neg (by rw[h0];simp),if_pos (by rw[h0]at hA;simpa using hA)]at hpt;exact⟨F,by rw[hpt,h0],by rw[hpt];exact T.call H.ext,.call0 H.ext⟩
  .rw[if_pos h0]at hpt;exact⟨F,by rw[hpt],by rw[hpt];exact T.call H.ext,.call0 H.ext⟩
 .intro hA
  have hA2:gt.1=0/\¬gt.2.isSome=false:=by
   have h5:=hA;rw[qd1]at h5;exact⟨by simpa using h5.1,qde h5.2⟩
  rw[if_neg (by rw[hA2.1];simp),if_neg hA2.2]at hpt
  have hroot : -1<=root/\root<=4294967296:=by
   have hpl:=T.pg.len;have h5:=hA2.1
   have hm:Gs P.length root=0:=by
    by_cases hq:Gs P.length root=0
    .exact hq
    .rw[hgt]at h5;unfold LG at h5;rw[if_pos hq]at h5;cases h5
   unfold Gs at hm
   split at hm
   .cases hm
   .omega
  have hx1:=H.ext;have h5:=H.get at0;have ho5:=(H.own _ (qad ..)).elim (fun h=>by cases h) id;have hM0:=T.mlt;have T1:=T.call hx1;have D:DoOk 149 [ptr b5] (IK key) w (MZ (TM F ba bt bp []) Z0):=fun w' M' t hlt a n c l I hn=>Acb hlt (t.keep h5 fun h=>by have:=hM0 _ (MZ0 _ h);dsimp only at ho5;omega) (((Rk.call hx1).weak MZ0).turn t) I hn;have hokt:(Dw fr A P root key (IK key)).1≠99:=fun h=>hok (by rw[hpt];exact h);refine Ap (Aa (Ad (Ao U (Ae U (AG BF U H at0 U (Cl [.pointer _] U (Ah qB (Ul qB hfr hkl T1 root hroot.1 hroot.2 Z0 (fun x h=>h.elim) D ka kc ((Rk.call hx1).weak MZ0) hfew hmx hokt) U ?_)))))));rintro v w3 ⟨F3,rfl,T3,g3⟩;refine AL U (Ag U U (Ag U U (Ac U (Ac U (qA (Ad (Ae U (Ae U (B6 U U ?_)))))))));refine Ae U (Ac U (Am U (Ac U (qA (Aw (Ci (v1:=(.int _ _)) (v2:=(.bool _)) (v3:=(.int _ _)) U U U U U ?_))))))
  exact⟨F3,by rw[hpt],by rw[hpt];exact T3,(Grown.call0 hx1).trans g3⟩
end Go.Proofs.YtcpgbcabmcbclaaGreatDoor
