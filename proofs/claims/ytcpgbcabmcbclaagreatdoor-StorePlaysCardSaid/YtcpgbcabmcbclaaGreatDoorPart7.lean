/- Part 7 of the proof. -/
import Derived.Test.YtcpgbcabmcbclaaGreatDoorPart6
set_option maxRecDepth 20000
set_option maxHeartbeats 16000000
namespace Go.Proofs.YtcpgbcabmcbclaaGreatDoor
open Go.GV Go.Proofs.Tryz
attribute [local irreducible] AA W Wq Wt
theorem Tx.side{w w':World}{bt bd bp ba fr:Nat}{A:Dev}{P:List Nat}{F:Mut}{L:List (Nat × Obj)}{S:List Nat}(T:Tx w bt bd bp ba fr A P F L)(hx:Ext S w w')(hS:∀x∈S,¬TM F ba bt bp L x):Tx w' bt bd bp ba fr A P F L:=by
 have hs:=hx.size;refine⟨?_,T.pg.keep hx (fun h=>hS _ h (.inr (.inr (.inr (.inl rfl))))) (fun h=>hS _ h (.inr (.inl rfl))),T.dev.keep hx fun x h hf=>hS x h (.inl hf),fun x hm=>?_,T.nd,T.off,T.nbt,T.nbp,T.nba,fun x h=>by have:=T.lt x h;omega⟩
 .rw[hx.block bt (Al T.tr) fun h=>hS _ h (.inr (.inr (.inl rfl)))];exact T.tr
 .rw[hx.block x.1 (Al (T.blk x hm)) fun h=>hS _ h (.inr (.inr (.inr (.inr (qah.2 ⟨x,hm,rfl⟩)))))];exact T.blk x hm
theorem Cx.side{w w':World}{bt bd bp ba fr bc:Nat}{c:Ch}{F:Mut}{L:List (Nat × Obj)}{Y:List (Nat × Obj)}(X:Cx w bt bd bp ba fr bc c F L)(O:Fo w (TM F ba bt bp L) Y)(hx:Ext (Y.map (·.1)) w w'):Cx w' bt bd bp ba fr bc c F L :=
 ⟨X.T.side hx fun x h=>by obtain⟨y,hy,rfl⟩:=qah.1 h;exact O.off y hy,X.ex⟩
theorem SS{inner:Bool}{L h:List It}(hh:h∈DM inner L):h.length<=L.length/\∀x∈h,x∈L:=by
 unfold DM at hh
 split at hh
 .rw[qaa.1 hh];exact⟨qae _,fun _ h=>h⟩
 .simp only[qac,qam,or_false]at hh
  rcases hh with rfl|rfl
  .exact⟨by simp;omega,fun x h=>qbq h⟩
  .exact⟨by simp,fun x h=>qcy h⟩
theorem SU(inner:Bool)(L:List It):(DM inner L).length<=2:=by
 unfold DM
 split <;> simp
theorem MY.le{M:Mut}{Y:List (Nat × Obj)}:∀x,M x->MY M Y x:=fun _ h => .inl h
theorem Fo.lt{w:World}{M:Mut}{Y:List (Nat × Obj)}(O:Fo w M Y)(hlt:∀x,M x->x<w.heap.size):∀x,MY M Y x->x<w.heap.size:=fun x h=>by
 rcases h with h|h
 .exact hlt x h
 .obtain⟨y,hy,rfl⟩:=qah.1 h;exact Al (O.blk y hy)
structure PS where
 i:Nat
 a:Option Addr
 c:Nat
 full:List Value
 ms:List Im
 F:Mut
 L:List (Nat × Obj)
 ch:Ch
theorem MYZ{M Z:Mut}{Y:List (Nat × Obj)}:∀x,MZ M (MY Z Y) x->MY (MZ M Z) Y x:=fun _ h=>h.elim (fun h => .inl (.inl h)) fun h=>h.elim (fun h => .inl (.inr h)) .inr
theorem Ad8{M Z:Mut}{Y:List (Nat × Obj)}:∀x,MY (MZ M Z) Y x->MZ M (MY Z Y) x:=fun _ h=>h.elim (fun h=>h.elim .inl fun h => .inr (.inl h)) fun h => .inr (.inr h)
theorem MY.nil{M:Mut}:∀x,MY M [] x->M x:=fun x h=>h.elim id fun h=>by cases h
theorem Grown.side{w0 w w':World}{M M':Mut}{S:List Nat}(t:Grown M M' w0 w)(hx:Ext S w w')(hy:∀y∈S,w0.heap.size<=y):Grown M M' w0 w':=by
 obtain⟨⟨S,hS,h1⟩,g⟩:=t;exact⟨⟨S,hS,h1.then hx fun y h => .inr (hy y h)⟩,g⟩
theorem Ai6(inner:Bool)(x:SN):∀v∈Ln inner x,Bh v=true:=fun v hv=>by
 simp only[Ln,qac,qam,or_false]at hv
 rcases hv with rfl|rfl <;> rfl
theorem Oj{w0 w w':World}{Y Y':List (Nat × Obj)}(h:∀y∈Y.map (·.1),w0.heap.size<=y)(hle:w0.heap.size<=w.heap.size)(H:Ctx w (Y.map (·.1)) w' Y'):∀y∈Y'.map (·.1),w0.heap.size<=y:=fun y hy=>by
 obtain⟨z,hz,rfl⟩:=qah.1 hy;exact(H.own z hz).elim (h _) fun h5=>by omega
abbrev PY(b3:Nat)(inner:Bool)(a:Option Addr)(n cc:Nat)(s:PS):List (Nat × Obj) :=
 (b3,Bl 183 [.bool inner,.slice a n cc])::ent s.a 185 s.full
theorem Abz{w:World}{bt bd bp ba fr bc:Nat}{c:Ch}{F:Mut}{L:List (Nat × Obj)}(X:Cx w bt bd bp ba fr bc c F L)(hfr:fr<=5000)(htk:c.tk.length<=99990)(inner:Bool){a:Option Addr}{n cc:Nat}{M:List It}(Z:Mut)(hZ:∀x,Z x->x<w.heap.size)(I:Its w (MZ (TM F ba bt bp L) Z) a n cc M)(hsz:∀x∈M,x.key.length<=65535/\x.val.length<=65535)(hpg:∀x∈M,x.page<9223372036854775808)(hne:M≠[]->∀h∈DM inner M,h≠[]){mx:Nat}(hfew:Few c.A mx)(hm:n<=1000:=by omega)(hmx:mx<=999999990:=by omega):
  Ret prog 202 #[ptr bc,.agg #[.bool inner,.slice a n cc]] w fun v w'=>∃(a':Option Addr) (n' c':Nat) (F':Mut) (L':List (Nat × Obj)),v=.tuple #[.slice a' n' c',.int .i64 (JE fr c inner M).1]/\Cx w' bt bd bp ba fr bc (JE fr c inner M).2.1 F' L'/\Grown (TM F ba bt bp L) (TM F' ba bt bp L') w w'/\Its w' (MZ (TM F' ba bt bp L') Z) a' n' c' (JE fr c inner M).2.2:=by
 obtain⟨w0,rfl⟩:=qD w;have hnum:=I.num;have hlt0:∀x,MZ (TM F ba bt bp L) Z x->x<w0.heap.size:=fun x h=>h.elim (X.T.mlt x) (hZ x);obtain⟨pc,hpc⟩:=qD (JE fr c inner M);rw[<-hpc];unfold JE at hpc;have H:=Ctx.start w0 [];refine A8 (fn:=f202) func202 U [.pointer (some ⟨bc,0,none⟩),.agg #[.bool inner,.slice a n cc]] U ?_;refine Ad (Cu [.bool inner,.slice a n cc] (.agg _) U U H ?_);rintro b3 w - H;refine Ak U (Ac U (qA (Ar (Ad (Af Br U (AH BT U H at0 U (AO Bu U (BA U U (qA ?_)))))))));refine Av _ U ?_ ?_
 .intro h1;replace h1:=AR h1;have hM0:M=[]:=qa4 (by omega);rw[if_pos hM0]at hpc;refine Ad (Ak U (Ac U (qA (A6 (Ao (Cs (v1:=(.slice _ _ _)) (v2:=(.int _ _)) U U U U ?_))))));have hx0:=H.ext;obtain⟨O1,G1⟩:=Fo.nil.own hlt0 H;exact⟨none,0,0,F,L,by rw[hpc],by rw[hpc];exact X.side Fo.nil H.ext,.call0 H.ext,by rw[hpc];exact Its.nil⟩
 .intro h1;replace h1:=AU h1;have hM0:M≠[]:=fun h=>h1 (by have h5:=qab List.length h;rw[qby]at h5;omega);rw[if_neg hM0]at hpc;replace hne:=hne hM0;refine Ap (Aa (Ar (Ad (BO BQ Bg U H at0 U ?_))));obtain⟨O1,G1⟩:=Fo.nil.own hlt0 H;have X1:=X.side Fo.nil H.ext;have hyo2:=Oj (w0:=w0) (Y:=[]) (fun y h=>by cases h) (qae _) H;have hsz1:=H.ext.size;have GT1:Grown (TM F ba bt bp L) (TM F ba bt bp L) w0 w := .call0 H.ext;refine Aj qB (Ad5 (O1.lt fun x h=>h.elim (X1.T.mlt x) fun h=>qau (hZ x h) hsz1) inner ((I.weak MY.nil).turn G1) hsz) U ?_;rintro v w2 ⟨an,nn,cn,rfl,N,hx2⟩;obtain⟨ms,R,hs,hl,hok⟩:=N.ex;have hnn:=N.num;have h2:=SU inner M;have hml:ms.length=nn:=by rw[hnn,<-hl,qai]
  obtain⟨O2,G2⟩:=O1.call (.call0 hx2);have X2:=X1.side Fo.nil hx2;have hsz2:=qaw hsz1 hx2.size;replace H:=O2.ctx
  refine AO ER U (Ae U (qA (AB (B6 34359608240 (α:=PS) (fun s=>[(17,.int .i64 (s.i:Int)),(4,.slice s.a s.ms.length s.c)]) (fun s w'=>s.i<=nn/\Cx w' bt bd bp ba fr bc s.ch s.F s.L/\Fo w' (MZ (TM s.F ba bt bp s.L) Z) (PY b3 inner a n cc s)/\Nds w' (MY (MZ (TM s.F ba bt bp s.L) Z) (PY b3 inner a n cc s)) inner an nn cn (DM inner M)/\OS s.a s.ms.length s.c 3 s.full (s.ms.flatMap Im.enc)/\(∀m∈s.ms,m.Ok w' (MY (MZ (TM s.F ba bt bp s.L) Z) (PY b3 inner a n cc s)))/\Grown (TM F ba bt bp L) (TM s.F ba bt bp s.L) w0 w'/\pc=C3 fr inner ((DM inner M).drop s.i) s.ch (s.ms.map (·.it))/\Few s.ch.A (mx+s.i)/\s.ch.tk.length<=c.tk.length+s.i/\s.ms.length=s.i/\(∀y∈(PY b3 inner a n cc s).map (·.1),w0.heap.size<=y)/\w0.heap.size<=w'.heap.size) (fun s=>nn - s.i) ⟨0,none,0,[],[],F,L,c⟩ U ?_ ?_ ?_))))
  .exact⟨rfl,rfl,trivial⟩
  .exact⟨qak _,X2,O2,N,OS.nil,(fun m h=>by cases h),GT1.trans (.call0 hx2),hpc,hfew,qae _,rfl,hyo2,hsz2⟩
  .rintro⟨i,a4,c4,f4,qs,F1,L1,c1⟩ j w ⟨hi,X3,O3,N3,OA,hqo,GT3,hpc3,hfew3,htk3,hqi,hyo,hsz3⟩;dsimp only at hi X3 O3 N3 OA hqo GT3 hpc3 hfew3 htk3 hqi hyo hsz3;dsimp only;obtain⟨ns,R3,hs3,hl3,hok3⟩:=N3.ex;have hnl:ns.length=nn:=by rw[hnn,<-hl3,qai]
   have H:=O3.ctx;refine Ad (Bj U U (qA (Ar (Av _ U ?_ ?_))))
   .intro h3;replace h3:=AR h3;obtain⟨x,hx1⟩:=AP (l:=ns) (i:=i);have hxL:(DM inner M)[i]?=some x.2.1:=by rw[<-hl3,qas,hx1];rfl
    have hxm:=qad hxL;obtain⟨hx2,hx3⟩:=SS hxm;have Ix:=hok3 x (qad hx1);rw[Ew hxL,C3]at hpc3;refine Ap (Aa (Ar (AB (Ad (AY R ER Bg U U ?_)))));refine EN (Ln inner x) BQ Bg U U (R3.row hx1 U) (Bi Co H ?_);rintro b7 w - H;refine Bo Bg U U U (by exact(by exact Ai6 _ _)) H at0 U ?_;rintro w H;refine qA (Ad (An U (BO BQ Bg U H at0 U ?_)));obtain⟨O4,G4⟩:=O3.own (fun x h=>h.elim (X3.T.mlt x) fun h=>qau (hZ x h) hsz3) H;have X4:=X3.side (O3.weak fun _ h => .inl h) H.ext;have GT4:=GT3.side H.ext hyo;have hyo4:=Oj hyo hsz3 H;have Iy:=Ix.turn G4;refine Aj qB (Pt X4 hfr inner (MY Z _) (Iy.weak MYZ) (hne _ hxm) (fun y hy=>hsz y (hx3 y hy)) (fun y hy=>hpg y (hx3 y hy)) hfew3) U ?_;rintro v w5 ⟨m,F5,L5,rfl,X5,G5,hmo,hmp,hmi⟩;have hmo:=hmo.weak Ad8
    obtain⟨O5,GY5⟩:=O4.call (G5.or Z);have GT5:=GT4.trans G5;have GY:=G4.trans GY5;replace H:=O5.ctx;refine AW U (Ai U U (Ai U U (Bi C2 H ?_)));rintro b8 w - H;refine Bo Bn U U U (by exact(by exact Im.oneE _)) H at0 U ?_;rintro w H;refine Ac U (qA (Ar (Ad (Ae U (Be U U (qA (Av _ U ?_ ?_)))))))
    .intro h4;replace h4:=Bv h4;rw[if_neg (show ¬(wrC fr c1 inner x.2.1).1=0 from h4)]at hpc3;refine Ad (Ae U (Ak U (Ac U (qA (A6 (Ao (AK (Ao (Ao (AK (Ao (Cs (v1:=(.slice _ _ _)) (v2:=(.int _ _)) U U U U ?_))))))))))));exact⟨none,0,0,F5,L5,by rw[hpc3],by rw[hpc3];exact X5.side (O5.weak fun _ h => .inl h) H.ext,GT5.side H.ext hyo4,by rw[hpc3];exact Its.nil⟩
    .intro h4;replace h4:=Bw h4;have h5:(wrC fr c1 inner x.2.1).1=0:=by simpa using h4
     rw[if_pos h5]at hpc3;have hmi':=hmi h5;refine Ap (Aa (Au (Ah U (BO Dq Bn U H at0 U (BI _ (.agg _) Bu Bn C2 U U U U H ?_)))));rintro b32 w - H;refine BL (L:=[_,_,_]) Bu Bu Bn Kn C2 U U U H OA U (Im.oneE m) ?_;rintro a33 c33 f33 w H OB;refine Ak U (Ab (AE (Aa (Au (Ay U U ?_)))));refine Ae U (qA ?_);have H6:=H.tail.tail;have hsz5:w0.heap.size<=w5.heap.size:=GT5.1.choose_spec.2.size;obtain⟨O6,G6⟩:=O5.own (fun x h=>h.elim (X5.T.mlt x) fun h=>qau (hZ x h) hsz5) H6;have GG:=GY.trans G6;have hql:(qs++[m]).length=qs.length+1:=by simp
     refine⟨⟨i+1,a33,c33,f33,qs++[m],F5,L5,(wrC fr c1 inner x.2.1).2⟩,rfl,⟨rfl,by rw[hql];rfl,trivial⟩,⟨by dsimp only;omega,X5.side (O5.weak fun _ h => .inl h) H6.ext,O6,N3.turn GG,by dsimp only;rw[hql,qbc];simpa using OB,fun q hq=>?_,GT5.side H6.ext hyo4,?_,by dsimp only;exact(QA hfew3).mono (by omega),by dsimp only;have:=SR (fr:=fr) (c:=c1) (inner:=inner) (M:=x.2.1);omega,by dsimp only;rw[hql,hqi],Oj hyo4 hsz5 H6,qaw hsz5 H6.ext.size⟩,by dsimp only;omega⟩
     .dsimp only at hq |-
      rcases qat.1 hq with hq|hq
      .exact(hqo q hq).turn GG
      .rw[qaa.1 hq];exact hmo.turn G6
     .dsimp only;rw[hpc3,qay,<-hmi'];rfl
   .intro h3;replace h3:=AU h3;have hii:i=nn:=by omega
    rw[qb8 (by omega),C3]at hpc3;have Rm:=OS.rd OA (fun y hy=>O3.blk y (qaj _ hy)) (fun _ _=>rfl) (by decide);refine B2 (Aw (Aw (AZ (Aa (Ad (Ah U (Ak U (Ac U (qA (A6 (Cs (v1:=(.slice _ _ _)) (v2:=(.int _ _)) U U U U ?_)))))))))));refine⟨a4,qs.length,c4,F1,L1,by rw[hpc3],by rw[hpc3];exact X3,GT3,?_⟩;rw[hpc3];refine⟨⟨qs,Rm,?_,rfl,fun m hm=>(hqo m hm).weak MY.le⟩,by simp,OA.le⟩
    cases ha4:a4 with
    |none=>exact .inl (qa4 (by have h8:=OA.le;have h9:=OA.none' ha4;omega))
    |some q =>
     subst ha4;exact .inr fun h=>O3.off (q.block,_) (qaj _ (qaa.2 rfl)) h
def RD(A:Dev)(fr:Nat)(p:Nat):Option (Bool × List It):=Es (stands (A.B.getD (fr+p) (zeros,[])))
theorem XB{A:Dev}{q:Nat}(hon:A.on=true)(hq:q<A.B.length):GL A (q:Int)=0:=by
 have:A.has (q:Int)=true:=by
  unfold Dev.has;rw[qal (by omega),qal (by omega)];rfl
 unfold GL;rw[hon,this];rfl
theorem Ai7{A:Dev}{q:Nat}(hon:A.on=true)(hq:q<A.B.length:=by omega):GM A (q:Int)=stands (A.B.getD q (zeros,[])):=by
 unfold GM;rw[XB hon hq,qbp];rfl
theorem Lo{A:Dev}{fr sz p d:Nat}{n:Bool × List It}(hon:A.on=true)(hp:p<sz)(hl:fr+sz<=A.B.length)(hd:d<=16)(h:RD A fr p=some n):Dp A fr sz (p:Int) (d:Int)=(0,some n):=by
 unfold Dp;rw[if_neg (by omega)];rw[show(fr:Int)+(p:Int)=((fr+p:Nat):Int)by omega,XB hon (by omega),Ai7 hon,if_pos rfl];unfold RD at h;rw[h]
structure Fits(inner:Bool)(M:List It):Prop where
 ne:M≠[]
 ok:∀x∈M,OkI inner x
 sz:Bc inner M<=503
theorem Fits.seal{inner:Bool}{M:List It}(h:Fits inner M):SQ inner M=0/\(Jy inner M).length=512/\Es (Jy inner M)=some (inner,M):=by
 have hb:=Ml inner M;have hz:=h.sz;have hk:(HY inner M).toNat≠0:=by unfold HY;split <;> decide
 refine⟨?_,FH (by omega),Z6 h.ok h.ne h.sz⟩;unfold SQ GI;rw[qag hk,qag (by omega)];rfl
theorem ZD{P:List Nat}(h:CW P<P.length):P[CW P]?=some 0:=by
 unfold CW at *
 have h2:∀(P:List Nat),(P.takeWhile fun s=>decide (s≠0)).length<P.length->P[(P.takeWhile fun s=>decide (s≠0)).length]?=some 0:=by
  intro P
  induction P with
  |nil=>intro h;cases h
  |cons s P ih =>
   intro h
   by_cases hs:s=0
   .subst hs;rfl
   .rw[qc4,qal hs]at h |-;simp only[if_true,qav]at h |-;rw[qez];exact ih (by omega)
 exact h2 P h
theorem ZE{P:List Nat}(h:CW P=P.length):DD P=0:=by
 have h2:∀(P:List Nat),(P.takeWhile fun s=>decide (s≠0)).length=P.length->DD P=0:=by
  intro P
  induction P with
  |nil=>intro _;rfl
  |cons s P ih =>
   intro h
   by_cases hs:s=0
   .subst hs;simp at h
   .rw[qc4,qal hs]at h;simp only[if_true,qav]at h;unfold DD;rw[qen,qag hs];have:=ih (by omega);unfold DD at this;simp[this]
 exact h2 P h
theorem Ai8(P:List Nat):CW P<=P.length:=(qfg (l:=P) (fun s=>decide (s≠0))).length_le
theorem Ai9{P:List Nat}:∀{k s:Nat},P[k]?=some 0->s≠0->DD (P.set k s)+1=DD P:=by
 unfold DD
 induction P with
 |nil=>intro k s h;simp at h
 |cons x P ih =>
  intro k s h hs
  cases k with
  |zero =>
   simp only[qc7,qbb]at h;subst h;rw[qe2,qen,qen,qag hs];simp
  |succ k =>
   rw[List.set_cons_succ,qen,qen];have:=ih (k:=k) (s:=s) (by simpa using h) hs;omega
theorem Ad9{A:Dev}(h:A.left = -1):A.less=A:=by
 unfold Dev.less;rw[if_neg (by omega),if_pos h]
structure CI(fr:Nat)(c0 c:Ch)(t g:List Nat):Prop where
 tk:c.tk=c0.tk++t
 gn:c.gn=c0.gn++g
 nd:t.Nodup
 was:∀x∈t,c0.P[x]?=some 0
 now:∀x:Nat,c.P[x]?=if x∈t then some 2 else c0.P[x]?
 len:c.P.length=c0.P.length
 blen:c.A.B.length=c0.A.B.length
 blk:∀q,(∀x∈t,q≠fr+x)->c.A.B.getD q (zeros,[])=c0.A.B.getD q (zeros,[])
 left:c0.A.left = -1->c.A.left = -1
 free:DD c.P+t.length=DD c0.P
section
variable {fr:Nat}{c0 c c1 c2:Ch}{t t' g g':List Nat}
theorem CI.refl(fr:Nat)(c:Ch):CI fr c c [] []:=⟨by simp,by simp,qcb,by simp,by simp,rfl,rfl,fun _ _=>rfl,fun h=>h,rfl⟩
theorem CI.trans(h1:CI fr c0 c1 t g)(h2:CI fr c1 c2 t' g'):CI fr c0 c2 (t++t') (g++g'):=by
 have hd:∀x∈t',x∉t:=fun x h3 h4=>by
  have h5:=h2.was x h3;rw[h1.now x,if_pos h4]at h5;cases h5
 refine⟨by rw[h2.tk,h1.tk,qa1],by rw[h2.gn,h1.gn,qa1],?_,fun x hx=>?_,fun x=>?_,h2.len.trans h1.len,h2.blen.trans h1.blen,fun q hq=>?_,fun h=>h2.left (h1.left h),?_⟩
 .rw[qdm];exact⟨h1.nd,h2.nd,fun a ha b hb e=>hd b hb (e ▸ ha)⟩
 .rcases qat.1 hx with h|h
  .exact h1.was x h
  .have:=h2.was x h
   rwa [h1.now x,if_neg (hd x h)]at this
 .rw[h2.now x,h1.now x]
  by_cases ha:x∈t'
  .rw[if_pos ha,if_pos (qax _ ha)]
  .rw[if_neg ha]
   by_cases hb:x∈t
   .rw[if_pos hb,if_pos (qa5 _ hb)]
   .rw[if_neg hb,if_neg (fun h=>(qat.1 h).elim hb ha)]
 .rw[h2.blk q fun x hx=>hq x (qax _ hx),h1.blk q fun x hx=>hq x (qa5 _ hx)]
 .have:=h1.free;have:=h2.free;rw[qan];omega
theorem CI.gone(fr:Nat)(c:Ch)(p:Nat):CI fr c { c with gn:=c.gn++[p] } [] [p]:=⟨by simp,rfl,qcb,by simp,by simp,rfl,rfl,fun _ _=>rfl,fun h=>h,rfl⟩
def Held(P S:List Nat):Prop:=∀x∈S,∃s,P[x]?=some s/\s≠0
theorem Held.keep{S:List Nat}(h:Held c0.P S)(h1:CI fr c0 c t g):Held c.P S:=fun x hx=>by
 obtain⟨s,h2,h3⟩:=h x hx;rw[h1.now x]
 split
 .exact⟨2,rfl,by decide⟩
 .exact⟨s,h2,h3⟩
theorem CI.rd(h1:CI fr c0 c t g){S:List Nat}(h:Held c0.P S):∀x∈S,RD c.A fr x=RD c0.A fr x:=fun x hx=>by
 unfold RD;rw[h1.blk (fr+x) fun y hy e=>?_];obtain⟨s,h2,h3⟩:=h x hx;have h4:=h1.was y hy;rw[show y=x by omega,h2]at h4;exact h3 (qbw h4)
theorem CI.held(h1:CI fr c0 c t g):Held c.P t:=fun x hx=>⟨2,by rw[h1.now x,if_pos hx],by decide⟩
theorem Held.lt{P S:List Nat}(h:Held P S){x:Nat}(hx:x∈S):x<P.length:=by
 obtain⟨s,h2,_⟩:=h x hx;exact(qap.1 h2).1
theorem CI.apart(h1:CI fr c0 c t g){S:List Nat}(h:Held c0.P S):∀x∈S,x∉t:=fun x hx ht=>by
 obtain⟨s,h2,h3⟩:=h x hx;have h4:=h1.was x ht;rw[h2]at h4;exact h3 (qbw h4)
theorem SV{α:Type}{l:List α}{f:α->α}{i q:Nat}{d:α}(h:q≠i):(l.modify i f).getD q d=l.getD q d:=by
 rw[qa9,qa9,qcq];simp only[if_neg (fun e:i=q=>h e.symm)];cases l[q]? <;> rfl
theorem SW{α:Type}{l:List α}{f:α->α}{i:Nat}{d:α}(h:i<l.length:=by omega):(l.modify i f).getD i d=f (l.getD i d):=by
 rw[qa9,qa9,qcq,qbe h];simp
theorem Alz{inner:Bool}{M:List It}(hon:c.A.on=true)(hl:fr+c.P.length<=c.A.B.length)(hM:Fits inner M) :
  ((wrC fr c inner M).1=7/\(wrC fr c inner M).2=c/\DD c.P=0) \/
  (CI fr c (wrC fr c inner M).2 [Ci c.P] [] /\
   (((wrC fr c inner M).1=0/\(wrC fr c inner M).2.A.on=true/\RD (wrC fr c inner M).2.A fr (Ci c.P)=some (inner,M))\/((wrC fr c inner M).1=8/\c.A.left ≠ -1))):=by
 obtain⟨hs1,hs2,hs3⟩:=hM.seal
 by_cases hf:CW c.P=c.P.length
 .left;have h7:Ik c.P=7:=by unfold Ik;rw[if_pos hf]
  have h8:wrC fr c inner M=(7,c):=by unfold wrC;rw[if_pos (by omega),h7]
  rw[h8];exact⟨rfl,rfl,ZE hf⟩
 .right;have hlt:CW c.P<c.P.length:=by have:=Ai8 c.P;omega
  have h7:Ik c.P=0:=by unfold Ik;rw[if_neg hf]
  have hk:Ci c.P=CW c.P:=by unfold Ci;rw[if_neg hf]
  have hP:Jc c.P=c.P.set (CW c.P) 2:=by unfold Jc;rw[if_neg hf]
  have h0:=ZD hlt
  have h8:wrC fr c inner M=(Dr c.A (((fr+CW c.P:Nat)):Int) (Jy inner M),⟨CD c.A (((fr+CW c.P:Nat)):Int) (Jy inner M),c.P.set (CW c.P) 2,c.tk++[CW c.P],c.gn⟩):=by
   unfold wrC;rw[if_neg (by omega),if_neg (by rw[hs1];simp),hk,hP]
  have hh:c.A.has (((fr+CW c.P:Nat)):Int)=true:=by unfold Dev.has;rw[qal (by omega),qal (by omega)];rfl
  have hB:∀(D:Dev),D.B=c.A.B\/D.B=c.A.B.modify (fr+CW c.P) (fun p=>(p.1,p.2++[Jy inner M]))->(c.A.left = -1->D.left = -1)->CI fr c ⟨D,c.P.set (CW c.P) 2,c.tk++[CW c.P],c.gn⟩ [CW c.P] []:=fun D hD hDl=>by
   refine⟨rfl,by simp,qck.2 ⟨by simp,qcb⟩,fun x hx=>?_,fun x=>?_,by simp,?_,fun q hq=>?_,hDl,?_⟩
   .rw[qaa.1 hx];exact h0
   .show(c.P.set (CW c.P) 2)[x]?=_
    by_cases hx:x=CW c.P
    .subst hx;rw[if_pos (by simp),qew hlt]
    .rw[if_neg (by simpa using hx),qex (fun e=>hx e.symm)]
   .show D.B.length=_
    rcases hD with h|h <;> rw[h]
    rw[qef]
   .show D.B.getD q _=_
    rcases hD with h|h <;> rw[h]
    exact SV (hq _ (by simp))
   .exact Ai9 h0 (by decide)
  rw[h8,hk]
  by_cases hg:c.A.goes=true
  .have hw:CD c.A (((fr+CW c.P:Nat)):Int) (Jy inner M)=c.A.less:=by unfold CD;rw[hon,hh,hs2,hg];rfl
   have he:Dr c.A (((fr+CW c.P:Nat)):Int) (Jy inner M)=8:=by unfold Dr;rw[hon,hh,hs2,hg];rfl
   have hl0:c.A.left=0:=by simpa[Dev.goes]using hg
   rw[hw,he];exact⟨hB _ (.inl (Gu _)) fun h=>by omega,.inr ⟨rfl,by omega⟩⟩
  .have hg:c.A.goes=false:=by simpa using hg
   have hw:CD c.A (((fr+CW c.P:Nat)):Int) (Jy inner M)=Pc c.A.less (fr+CW c.P) (Jy inner M):=by unfold CD;rw[hon,hh,hs2,hg,qbp];rfl
   have he:Dr c.A (((fr+CW c.P:Nat)):Int) (Jy inner M)=0:=by unfold Dr;rw[hon,hh,hs2,hg];rfl
   have hl0:¬c.A.left=0:=by simpa[Dev.goes]using hg
   rw[hw,he];refine⟨hB _ (.inr (by show(c.A.less.B).modify _ _=_;rw[Gu])) fun h=>by show c.A.less.left = -1;rw[Ad9 h];exact h,.inl ⟨rfl,?_,?_⟩⟩
   .show c.A.less.on=true;unfold Dev.less;rw[if_neg hl0]
    split <;> exact hon
   .unfold RD;show Es (stands ((c.A.less.B.modify (fr+CW c.P) _).getD (fr+CW c.P) _))=_;rw[Gu,SW];show Es ((((c.A.B.getD (fr+CW c.P) (zeros,[])).2++[Jy inner M]).getLast?).getD _)=_;rw[List.getLast?_concat];exact hs3
end
def BM(p:Pr):It:=⟨p.1,p.2,0⟩
def Kids(Q:Nat->List Pr->List Nat->Prop):List It->List Pr->List Nat->Prop
 | [],L,S=>L=[]/\S=[]
 |x::l,L,S=>∃L1 L2 S1 S2,L=L1++L2/\S=S1++S2/\Q x.page L1 S1/\L1[0]?.map (·.1)=some x.key/\x.val=[]/\Kids Q l L2 S2
def Many(i:Bool)(M:List It):Prop:=if i=true then 2<=M.length else M≠[]
def Part(R:Nat->Option (Bool × List It)):Nat->Bool->List It->List Pr->List Nat->Prop
 |0,i,M,L,S=>i=false/\M=L.map BM/\S=[]
 |h+1,i,M,L,S=>i=true/\Kids (fun p L S=>∃i' M' S',Part R h i' M' L S'/\R p=some (i',M')/\S=p::S'/\Many i' M'/\Bc i' M'<=503) M L S
def Lies(R:Nat->Option (Bool × List It))(h:Nat)(p:Nat)(L:List Pr)(S:List Nat):Prop :=
 ∃i' M' S',Part R h i' M' L S'/\R p=some (i',M')/\S=p::S'/\Many i' M'/\Bc i' M'<=503
def OkP(L:List Pr):Prop:=∀p∈L,1<=p.1.length/\p.1.length<=32/\p.2.length<=128
section
variable {R R':Nat->Option (Bool × List It)}{Q Q':Nat->List Pr->List Nat->Prop}{h:Nat}{i:Bool}{M l a b:List It}{L:List Pr}{S:List Nat}
theorem FM:Kids Q (a++b) L S↔∃La Lb Sa Sb,L=La++Lb/\S=Sa++Sb/\Kids Q a La Sa/\Kids Q b Lb Sb:=by
 induction a generalizing L S with
 |nil =>
  constructor
  .intro h;exact⟨[],L,[],S,rfl,rfl,⟨rfl,rfl⟩,h⟩
  .rintro⟨La,Lb,Sa,Sb,rfl,rfl,⟨rfl,rfl⟩,h⟩;exact h
 |cons x a ih =>
  constructor
  .rintro⟨L1,L2,S1,S2,rfl,rfl,h1,h2,h3,h4⟩;obtain⟨La,Lb,Sa,Sb,rfl,rfl,h5,h6⟩:=ih.1 h4;exact⟨L1++La,Lb,S1++Sa,Sb,by simp,by simp,⟨L1,La,S1,Sa,rfl,rfl,h1,h2,h3,h5⟩,h6⟩
  .rintro⟨La,Lb,Sa,Sb,rfl,rfl,⟨L1,L2,S1,S2,rfl,rfl,h1,h2,h3,h4⟩,h5⟩;exact⟨L1,L2++Lb,S1,S2++Sb,by simp,by simp,h1,h2,h3,ih.2 ⟨L2,Lb,S2,Sb,rfl,rfl,h4,h5⟩⟩
theorem Kids.mono(hk:Kids Q l L S)(hq:∀p L' S',(∀x∈S',x∈S)->Q p L' S'->Q' p L' S'):Kids Q' l L S:=by
 induction l generalizing L S with
 |nil=>exact hk
 |cons x l ih =>
  obtain⟨L1,L2,S1,S2,rfl,rfl,h1,h2,h3,h4⟩:=hk;exact⟨L1,L2,S1,S2,rfl,rfl,hq _ _ _ (fun x hx=>qa5 _ hx) h1,h2,h3,ih h4 fun p L' S' hs=>hq p L' S' fun x hx=>qax _ (hs x hx)⟩
theorem Part.frame:∀{h:Nat} {i:Bool} {M:List It} {L:List Pr} {S:List Nat},Part R h i M L S->(∀x∈S,R' x=R x)->Part R' h i M L S
 |0,_,_,_,_,hp,_=>hp
 |h+1,i,M,L,S,hp,hr=>⟨hp.1,hp.2.mono fun p L' S' hs ⟨i',M',S2,h1,h2,h3,h4⟩=>⟨i',M',S2,h1.frame fun x hx=>hr x (hs x (by rw[h3];exact qaj _ hx)),by rw[hr p (hs p (by rw[h3];exact qaf ..))];exact h2,h3,h4⟩⟩
theorem Lies.frame{p:Nat}(hp:Lies R h p L S)(hr:∀x∈S,R' x=R x):Lies R' h p L S:=by
 obtain⟨i',M',S2,h1,h2,h3,h4⟩:=hp;exact⟨i',M',S2,h1.frame fun x hx=>hr x (by rw[h3];exact qaj _ hx),by rw[hr p (by rw[h3];exact qaf ..)];exact h2,h3,h4⟩
theorem Kids.frame(hk:Kids (Lies R h) l L S)(hr:∀x∈S,R' x=R x):Kids (Lies R' h) l L S :=
 hk.mono fun _ _ _ hs hq=>hq.frame fun x hx=>hr x (hs x hx)
theorem Lies.page{p:Nat}(hp:Lies R h p L S):p∈S:=by
 obtain⟨i',M',S2,h1,h2,h3,h4⟩:=hp;rw[h3];exact qaf ..
theorem Kids.ne(hk:Kids Q l L S)(hl:l≠[]):L≠[]:=by
 cases l with
 |nil=>exact absurd rfl hl
 |cons x l =>
  obtain⟨L1,L2,S1,S2,rfl,rfl,h1,h2,h3,h4⟩:=hk
  cases L1 with
  |nil=>cases h2
  |cons y L1=>simp
theorem Many.ne(h:Many i M):M≠[]:=by
 unfold Many at h
 split at h
 .intro e;rw[e]at h;simp at h
 .exact h
theorem Part.ne(hp:Part R h i M L S)(hm:M≠[]):L≠[]:=by
 cases h with
 |zero=>obtain⟨_,rfl,_⟩:=hp;exact fun e=>hm (by rw[e];rfl)
 |succ h=>exact hp.2.ne hm
theorem Lies.ne{p:Nat}(hp:Lies R h p L S):L≠[]:=by
 obtain⟨i',M',S2,h1,h2,h3,h4,h5⟩:=hp;exact h1.ne h4.ne
theorem Kids.items(hk:Kids (Lies R h) l L S)(ho:OkP L):∀x∈l,x.val=[]/\x.key.length<=32/\x.page∈S:=by
 induction l generalizing L S with
 |nil=>intro x hx;cases hx
 |cons y l ih =>
  obtain⟨L1,L2,S1,S2,rfl,rfl,h1,h2,h3,h4⟩:=hk;intro x hx
  rcases qac.1 hx with rfl|hx
  .refine⟨h3,?_,qa5 _ h1.page⟩
   cases L1 with
   |nil=>cases h2
   |cons z L1 =>
    simp only[qc7,qbd,qbb]at h2;rw[<-h2];exact(ho z (by simp)).2.1
  .have:=ih h4 (fun p hp=>ho p (qax _ hp)) x hx;exact⟨this.1,this.2.1,qax _ this.2.2⟩
theorem Part.ok(hp:Part R h i M L S)(ho:OkP L){P:List Nat}(hh:Held P S)(hP:P.length<=4096):∀x∈M,OkI i x/\CM i x<=164/\(i=true->CM i x<=38):=by
 cases h with
 |zero =>
  obtain⟨rfl,rfl,_⟩:=hp;intro x hx;obtain⟨p,hp,rfl⟩:=qah.1 hx;obtain⟨h1,h2,h3⟩:=ho p hp;refine⟨⟨?_,?_,by show(0:Nat)<_;omega,by simp[BM]⟩,?_,fun h=>by cases h⟩
  .show p.1.length<_;omega
  .show p.2.length<_;omega
  .show 4+p.1.length+p.2.length<=_;omega
 |succ h =>
  obtain⟨rfl,hk⟩:=hp;intro x hx;obtain⟨h1,h2,h3⟩:=Kids.items hk ho x hx;have:=hh.lt h3;have h38:CM true x<=38:=by show 6+x.key.length<=38;omega
  refine⟨⟨by omega,by rw[h1];simp,by omega,by simp[h1]⟩,by omega,fun _=>h38⟩
theorem Part.key(hp:Part R h i M L S)(hm:M≠[]):L[0]?.map (·.1)=some (Gy M):=by
 cases h with
 |zero =>
  obtain⟨rfl,rfl,_⟩:=hp
  cases L with
  |nil=>exact absurd rfl hm
  |cons p L=>rfl
 |succ h =>
  obtain⟨rfl,hk⟩:=hp
  cases M with
  |nil=>exact absurd rfl hm
  |cons x M =>
   obtain⟨L1,L2,S1,S2,rfl,rfl,h1,h2,h3,h4⟩:=hk
   cases L1 with
   |nil=>cases h2
   |cons y L1=>exact h2
theorem Part.append(h1:Part R h i (a++b) L S):∃La Lb Sa Sb,L=La++Lb/\S=Sa++Sb/\Part R h i a La Sa/\Part R h i b Lb Sb:=by
 cases h with
 |zero =>
  obtain⟨rfl,he,rfl⟩:=h1;obtain⟨La,Lb,rfl,ha,hb⟩:=List.append_eq_map_iff.1 he;exact⟨La,Lb,[],[],rfl,rfl,⟨rfl,ha.symm,rfl⟩,⟨rfl,hb.symm,rfl⟩⟩
 |succ h =>
  obtain⟨La,Lb,Sa,Sb,e1,e2,ha,hb⟩:=FM.1 h1.2;exact⟨La,Lb,Sa,Sb,e1,e2,⟨h1.1,ha⟩,⟨h1.1,hb⟩⟩
end
theorem Wb{inner:Bool}{half m:Nat}:∀{l:List It} {sum:Nat},(∀x∈l,CM inner x<=m)->sum<half+m->sum+Bc inner (l.take (KA inner half l sum))<half+m
 | [],sum,_,h=>by simpa[KA,Bc]using h
 |x::l,sum,hl,h=>by
  rw[KA]
  split
  .rename_i h1
   rw[qeh,Dc,<-qcl];exact Wb (fun y hy=>hl y (qaj _ hy)) (by have:=hl x (qaf ..);omega)
  .simpa[Bc]using h
theorem Ab0{inner:Bool}{half:Nat}:∀{l:List It} {sum:Nat},half<=sum+Bc inner l->half<=sum+Bc inner (l.take (KA inner half l sum))
 | [],sum,h=>by simpa[KA,Bc]using h
 |x::l,sum,h=>by
  rw[KA]
  split
  .rename_i h1
   rw[qeh,Dc,<-qcl];exact Ab0 (by rw[Dc]at h;omega)
  .rename_i h1;rw[qdw];show half<=sum+0;omega
theorem Fq{inner:Bool}{m:Nat}:∀{l:List It},(∀x∈l,CM inner x<=m)->Bc inner l<=m*l.length
 | [],_=>qak _
 |x::l,h=>by
  have h1:=Fq (l:=l) fun y hy=>h y (qaj _ hy);have h2:=h x (qaf ..);rw[Dc,qav,Nat.mul_succ];omega
theorem Qe{i:Bool}{M:List It}(hM:Many i M)(hT:Bc i M<=667)(hs:∀x∈M,CM i x<=164/\(i=true->CM i x<=38)) :
  (Bc i M<=503/\DM i M=[M])\/(∃a b,M=a++b/\DM i M=[a,b]/\Many i a/\Many i b/\Bc i a<=503/\Bc i b<=503):=by
 unfold DM
 by_cases h1:Bc i M<=503
 .left;rw[if_pos h1];exact⟨h1,rfl⟩
 .right;rw[if_neg h1];refine⟨M.take (Gj i M),M.drop (Gj i M),(qbl ..).symm,rfl,?_⟩;have hsum:=BB i (M.take (Gj i M)) (M.drop (Gj i M));rw[qbl]at hsum
  have hge:Bc i M / 2<=Bc i (M.take (Gj i M)):=by
   have:=Ab0 (inner:=i) (half:=Bc i M / 2) (l:=M) (sum:=0) (by omega);rw[qa2]at this;exact this
  have hlt:Bc i (M.take (Gj i M))<Bc i M / 2+164:=by
   have:=Wb (inner:=i) (half:=Bc i M / 2) (m:=164) (l:=M) (sum:=0) (fun x hx=>(hs x hx).1) (by omega);rw[qa2]at this;exact this
  cases i with
  |false =>
   refine⟨?_,?_,by omega,by omega⟩
   .show _≠[];intro e;have e0:Bc false (M.take (Gj false M))=0:=(by rw[e];rfl);omega
   .show _≠[];intro e;have e0:Bc false (M.drop (Gj false M))=0:=(by rw[e];rfl);omega
  |true =>
   have hlt:Bc true (M.take (Gj true M))<Bc true M / 2+38:=by
    have:=Wb (inner:=true) (half:=Bc true M / 2) (m:=38) (l:=M) (sum:=0) (fun x hx=>(hs x hx).2 rfl) (by omega);rw[qa2]at this;exact this
   have ha:=Fq (inner:=true) (m:=38) (l:=M.take (Gj true M)) fun x hx=>(hs x (qbq hx)).2 rfl;have hb:=Fq (inner:=true) (m:=38) (l:=M.drop (Gj true M)) fun x hx=>(hs x (qcy hx)).2 rfl;refine⟨?_,?_,by omega,by omega⟩
   .show 2<=_
    rcases qbr (M.take (Gj true M)).length 2 with h5|h5
    .have:38*(M.take (Gj true M)).length<=38*1:=qb7 _ (by omega)
     omega
    .exact h5
   .show 2<=_
    rcases qbr (M.drop (Gj true M)).length 2 with h5|h5
    .have:38*(M.drop (Gj true M)).length<=38*1:=qb7 _ (by omega)
     omega
    .exact h5
def Bad(c:Ch)(e:Int)(m:Nat):Prop:=(e=8/\c.A.left ≠ -1)\/(e=7/\DD c.P<m)
theorem Bad.ne{c:Ch}{e:Int}{m:Nat}(h:Bad c e m):e≠0:=by
 rcases h with⟨h,_⟩|⟨h,_⟩ <;> omega
theorem Bad.back{c c1:Ch}{fr:Nat}{t g:List Nat}{e:Int}{m m':Nat}(h:Bad c1 e m)(h1:CI fr c c1 t g)(hm:m+t.length<=m'):Bad c e m':=by
 rcases h with⟨h,h2⟩|⟨h,h2⟩
 .exact .inl ⟨h,fun h3=>h2 (h1.left h3)⟩
 .exact .inr ⟨h,by have:=h1.free;omega⟩
theorem Bad.mono{c:Ch}{e:Int}{m m':Nat}(h:Bad c e m)(hm:m<=m'):Bad c e m':=h.imp id fun h=>⟨h.1,by omega⟩
structure On(fr:Nat)(c:Ch):Prop where
 on:c.A.on=true
 has:fr+c.P.length<=c.A.B.length
 few:c.P.length<=4096
theorem On.keep{fr:Nat}{c c1:Ch}{t g:List Nat}(h:On fr c)(h1:CI fr c c1 t g)(hon:c1.A.on=true):On fr c1 :=
 ⟨hon,by rw[h1.len,h1.blen];exact h.has,by rw[h1.len];exact h.few⟩
theorem Mn{fr:Nat}{c:Ch}{h:Nat}{i:Bool}{M:List It}{L:List Pr}{S:List Nat}(hp:Part (RD c.A fr) h i M L S)(ho:OkP L)(hh:Held c.P S)(hn:On fr c)(hm:Many i M)(ht:Bc i M<=503) :
  ∃t,CI fr c (wrC fr c i M).2 t []/\t.length<=1 /\
   (((wrC fr c i M).1=0/\t=[Ci c.P]/\On fr (wrC fr c i M).2/\Lies (RD (wrC fr c i M).2.A fr) h (Ci c.P) L (Ci c.P::S)/\L[0]?.map (·.1)=some (Gy M))\/Bad c (wrC fr c i M).1 1):=by
 have hM:Fits i M:=⟨hm.ne,fun x hx=>(hp.ok ho hh hn.few x hx).1,ht⟩
 rcases Alz hn.on hn.has hM with⟨h1,h2,h3⟩|⟨h1,h2⟩
 .exact⟨[],by rw[h2];exact CI.refl _ _,by simp,.inr (.inr ⟨h1,by omega⟩)⟩
 .refine⟨_,h1,by simp,?_⟩
  rcases h2 with⟨h3,h4,h5⟩|⟨h3,h4⟩
  .exact .inl ⟨h3,rfl,hn.keep h1 h4,⟨i,M,S,hp.frame (h1.rd hh),h5,rfl,hm,ht⟩,hp.key hm.ne⟩
  .exact .inr (.inl ⟨h3,h4⟩)
def okM(i:Bool)(M:List It):Bool:=decide (M.length<=1000) && (M.all (fun x=>decide (x.key.length<=65535) && (decide (x.val.length<=65535) && decide (x.page<9223372036854775808))) && (decide (M=[]) || (DM i M).all fun h=>decide (h≠[])))
def Fc(fr:Nat)(c:Ch)(i:Bool)(M:List It):Int × Ch × List It:=bif okM i M then JE fr c i M else(99,c,[])
theorem Al0(i:Bool)(x:It):4<=CM i x:=by
 cases i
 .simp only[CM,cond_false];omega
 .simp only[CM,cond_true];omega
theorem Jd(i:Bool):∀l:List It,4*l.length<=Bc i l
 | []=>qak _
 |x::l=>by
  have:=Al0 i x;have:=Jd i l;rw[Dc,qav];omega
theorem Al1{fr:Nat}{c:Ch}{h:Nat}{i:Bool}{M:List It}{L:List Pr}{S:List Nat}(hp:Part (RD c.A fr) h i M L S)(ho:OkP L)(hh:Held c.P S)(hn:On fr c)(hm:M=[]\/Many i M)(hT:Bc i M<=667):Fc fr c i M=JE fr c i M:=by
 have hx:=hp.ok ho hh hn.few;have hge:=Jd i M;unfold Fc
 have:okM i M=true:=by
  unfold okM;simp only[qao,qcf,qaq,qb5];refine⟨by omega,fun x hx'=>?_,?_⟩
  .obtain⟨⟨h1,h2,h3,_⟩,_⟩:=hx x hx';omega
  .rcases hm with rfl|hm
   .exact .inl U
   .refine .inr fun a ha=>?_
    rcases Qe hm hT fun x h=>(hx x h).2 with⟨_,h2⟩|⟨a',b',_,h2,h3,h4,_⟩
    .rw[h2,qaa]at ha;rw[ha];exact hm.ne
    .rw[h2]at ha;simp only[qac,qam,or_false]at ha
     rcases ha with rfl|rfl
     .exact h3.ne
     .exact h4.ne
 rw[this];rfl
theorem Aja(fr:Nat)(c:Ch)(i:Bool):JE fr c i []=(0,c,[]):=rfl
theorem Aea{fr:Nat}{c:Ch}{i:Bool}{M:List It}(h:M≠[]):JE fr c i M=C3 fr i (DM i M) c []:=by
 unfold JE;rw[if_neg h]
theorem perm_front{a b c d:List Nat}:((a++b)++(c++d)).Perm ((a++c)++(b++d)):=by
 rw[qa1,qa1];refine qfh a ?_;rw[<-qa1,<-qa1];exact List.Perm.append_right d qcn
theorem Held.app{P S S':List Nat}(h:Held P S)(h':Held P S'):Held P (S++S'):=fun x hx=>(qat.1 hx).elim (h x) (h' x)
theorem Held.sub{P S S':List Nat}(h:Held P S)(hs:∀x∈S',x∈S):Held P S':=fun x hx=>h x (hs x hx)
structure Puts(fr h:Nat)(c:Ch)(M:List It)(L:List Pr)(S t:List Nat)(r:Int × Ch × List It):Prop where
 ok:r.1=0
 on:On fr r.2.1
 kids:∃S',Kids (Lies (RD r.2.1.A fr) h) r.2.2 L S'/\S'.Perm (S++t)/\Held r.2.1.P S'
 num:r.2.2.length<=2
 ne:M≠[]->r.2.2≠[]
theorem XC{fr:Nat}{c:Ch}{h:Nat}{i:Bool}{M:List It}{L:List Pr}{S:List Nat}(hp:Part (RD c.A fr) h i M L S)(ho:OkP L)(hh:Held c.P S)(hn:On fr c)(hm:(M=[]/\h=0)\/Many i M)(hT:Bc i M<=667) :
  ∃t,CI fr c (Fc fr c i M).2.1 t []/\t.length<=2/\(Puts fr h c M L S t (Fc fr c i M)\/Bad c (Fc fr c i M).1 2):=by
 rw[Al1 hp ho hh hn (hm.imp And.left id) hT]
 rcases hm with⟨rfl,rfl⟩|hm
 .obtain⟨rfl,he,rfl⟩:=hp
  have hL:L=[]:=by
   cases L with
   |nil=>rfl
   |cons _ _=>cases he
  subst hL;rw[Aja];exact⟨[],CI.refl _ _,by simp,.inl ⟨rfl,hn,⟨[],⟨rfl,rfl⟩,by simp,fun x hx=>by cases hx⟩,by simp,fun h=>absurd rfl h⟩⟩
 .rw[Aea hm.ne];have hx:=hp.ok ho hh hn.few
  rcases Qe hm hT fun x h=>(hx x h).2 with⟨h1,h2⟩|⟨a,b,rfl,h2,h3,h4,h5,h6⟩
  .rw[h2];obtain⟨t,w1,w2,w3⟩:=Mn hp ho hh hn hm h1;refine⟨t,?_,by omega,?_⟩
   .unfold C3
    split
    .exact w1
    .exact w1
   .rcases w3 with⟨h7,rfl,h8,h9,h10⟩|h7
    .left;unfold C3;rw[if_pos h7];refine⟨rfl,h8,⟨Ci c.P::S,?_,?_,?_⟩,by simp[C3],fun _=>by simp[C3]⟩
     .show Kids _ [_] _ _;exact⟨L,[],Ci c.P::S,[],by simp,by simp,h9,h10,rfl,rfl,rfl⟩
     .exact(qcn (l₁:=S) (l₂:=[Ci c.P])).symm
     .exact(w1.held.app (hh.keep w1))
    .right;unfold C3;rw[if_neg h7.ne];exact h7.mono (by omega)
  .rw[h2];obtain⟨La,Lb,Sa,Sb,rfl,rfl,pa,pb⟩:=hp.append;have hoa:OkP La:=fun p hp=>ho p (qa5 _ hp);have hob:OkP Lb:=fun p hp=>ho p (qax _ hp);have hha:Held c.P Sa:=hh.sub fun x hx=>qa5 _ hx;have hhb:Held c.P Sb:=hh.sub fun x hx=>qax _ hx;obtain⟨t,w1,w2,w3⟩:=Mn pa hoa hha hn h3 h5
   rcases w3 with⟨h7,rfl,h8,h9,h10⟩|h7
   .obtain⟨t',v1,v2,v3⟩:=Mn (pb.frame (w1.rd hhb)) hob (hhb.keep w1) h8 h4 h6;have hCI:=w1.trans v1;refine⟨[Ci c.P]++t',?_,?_,?_⟩
    .unfold C3;rw[if_pos h7];unfold C3
     split
     .exact hCI
     .exact hCI
    .rw[qan];omega
    .rcases v3 with⟨g7,rfl,g8,g9,g10⟩|g7
     .left;unfold C3;rw[if_pos h7];unfold C3;rw[if_pos g7];refine⟨rfl,g8,⟨(Ci c.P::Sa)++(Ci (wrC fr c i a).2.P::Sb),?_,?_,?_⟩,by simp[C3],fun _=>by simp[C3]⟩
      .show Kids _ ([_,_]) _ _;refine⟨La,Lb,_,_,rfl,rfl,h9.frame (v1.rd (w1.held.app (hha.keep w1))),h10,rfl,⟨Lb,[],_,[],by simp,by simp,g9,g10,rfl,rfl,rfl⟩⟩
      .show(([Ci c.P]++Sa)++([Ci (wrC fr c i a).2.P]++Sb)).Perm _;exact perm_front.trans qcn
      .exact((w1.held.app (hha.keep w1)).keep v1).app (v1.held.app ((hhb.keep w1).keep v1))
     .right;unfold C3;rw[if_pos h7];unfold C3;rw[if_neg g7.ne];exact g7.back w1 (by simp)
   .refine⟨t,?_,by omega,.inr ?_⟩
    .unfold C3;rw[if_neg h7.ne];exact w1
    .unfold C3;rw[if_neg h7.ne];exact h7.mono (by omega)
def Cr(l:List It)(i:Nat):Nat:=(l[i]?.map (·.page)).getD 0
def Je(inner:Bool)(kid:List It):Bool:=inner && decide (kid.length=1)
def Jf(i:Nat):Nat:=if i=0 then 1 else i - 1
def ED(fr:Nat)(c:Ch)(l:List It)(i depth:Nat)(inner:Bool)(kid:List It):Int × Ch × List It × Nat × Nat :=
 if Je inner kid=true then
  (if l.length<=Jf i then(9,c,[],0,0)
   else match(Dp c.A fr c.P.length ((Cr l (Jf i):Nat):Int) ((depth+1:Nat):Int)).2 with
    |none=>((Dp c.A fr c.P.length ((Cr l (Jf i):Nat):Int) ((depth+1:Nat):Int)).1,c,[],0,0)
    |some (false,_)=>(9,rdC fr c (Cr l (Jf i)) (depth+1),[],0,0)
    |some (true,o)=>(0,rdC fr c (Cr l (Jf i)) (depth+1),if i=0 then kid++o else o++kid,i - 1,if i=0 then 2 else i+1))
 else(0,c,kid,i,i+1)
def CO(fr:Nat)(G:List It->List It)(key:Byt):Nat->Ch->Nat->Nat->Int × Ch × Bool × List It
 |0,c,_,_=>(9,c,false,[])
 |n+1,c,page,depth=>match(Dp c.A fr c.P.length (page:Int) (depth:Int)).2 with
  |none=>((Dp c.A fr c.P.length (page:Int) (depth:Int)).1,c,false,[])
  |some (false,l)=>(0,rdC fr c page depth,false,G l)
  |some (true,l) =>
   let r:=CO fr G key n (rdC fr c page depth) (Cr l (Cf l key)) (depth+1)
   if r.1≠0 then(r.1,r.2.1,true,[])else
   let s:=ED fr r.2.1 l (Cf l key) depth r.2.2.1 r.2.2.2
   if s.1≠0 then(s.1,s.2.1,true,[])else
   let q:=Fc fr s.2.1 r.2.2.1 s.2.2.1
   (q.1,q.2.1,true,l.take s.2.2.2.1++(q.2.2++l.drop s.2.2.2.2))
def Ee(fr:Nat)(c:Ch)(inner:Bool)(M:List It):Int × Ch × Int :=
 if Je inner M=true then(0,c,(Cr M 0:Int))
 else if(Fc fr c inner M).1≠0 then((Fc fr c inner M).1,(Fc fr c inner M).2.1,-1)
 else if(Fc fr c inner M).2.2=[]then(0,(Fc fr c inner M).2.1,-1)
 else if 1<(Fc fr c inner M).2.2.length then
  ((wrC fr (Fc fr c inner M).2.1 true (Fc fr c inner M).2.2).1,(wrC fr (Fc fr c inner M).2.1 true (Fc fr c inner M).2.2).2,(Ci (Fc fr c inner M).2.1.P:Int))
 else(0,(Fc fr c inner M).2.1,(Cr (Fc fr c inner M).2.2 0:Int))
def DI(c:Ch)(e:Int):Ch:={ c with P:=(if e≠0 then c.tk else c.gn).foldl EC c.P }
def DE(fr:Nat)(A:Dev)(P:List Nat)(root:Int)(key:Byt)(G:List It->List It):Int × Int × Ch :=
 let ed:=if root = -1 then(0,⟨A,P,[],[]⟩,false,G [])else CO fr G key 18 ⟨A,P,[],[]⟩ root.toNat 0
 if ed.1≠0 then(ed.1,root,DI ed.2.1 ed.1)
 else
  let t:=Ee fr ed.2.1 ed.2.2.1 ed.2.2.2
  if t.1≠0 then(t.1,root,DI t.2.1 t.1)else(0,t.2.2,DI t.2.1 0)
def Lp(key val:Byt)(l:List It):List It :=
 if Fw l key=true then l.take (CK l key)++([⟨key,val,0⟩]++l.drop (CK l key+1))else l.take (CK l key)++([⟨key,val,0⟩]++l.drop (CK l key))
def KG(key:Byt)(l:List It):List It :=
 if Fw l key=true then l.take (CK l key)++l.drop (CK l key+1)else l
def JR(fr:Nat)(A:Dev)(P:List Nat)(root:Int)(key val:Byt):Int × Int × Dev × List Nat :=
 if Ij P.length root≠0 then(1,root,A,P)
 else if Dg key.length val.length=true then
  ((DE fr A P root key (Lp key val)).1,(DE fr A P root key (Lp key val)).2.1,(DE fr A P root key (Lp key val)).2.2.A,(DE fr A P root key (Lp key val)).2.2.P)
 else(1,root,A,P)
def Hi(fr:Nat)(A:Dev)(P:List Nat)(root:Int)(key:Byt):Int × Int × Bool × Dev × List Nat :=
 if(Oi A fr P.length root key).1≠0 then((Oi A fr P.length root key).1,root,false,A,P)
 else if(Oi A fr P.length root key).2.isSome=false then(0,root,false,A,P)
 else((DE fr A P root key (KG key)).1,(DE fr A P root key (KG key)).2.1,decide ((DE fr A P root key (KG key)).1=0),(DE fr A P root key (KG key)).2.2.A,(DE fr A P root key (KG key)).2.2.P)
theorem Aeb{w:World}{bp ba:Nat}{P:List Nat}(h:PgAt w bp ba P)(k:Nat)(hk:P.length<=k):Ret prog 94 #[ptr bp,.int .i64 (k:Int)] w fun v w'=>(∃e,v=.int .i64 e)/\PgAt w' bp ba P/\Ext [ba] w w':=by
 obtain⟨w0,rfl⟩:=qD w;have hh:Oe P (k:Int)=false:=by unfold Oe;simp;omega
 refine A8 (fn:=f94) func94 U [.pointer (some ⟨bp,0,none⟩),.int .i64 (k:Int)] U ?_;refine Ad (Ac U (qA (Ar (Ad (An U (Ae U (Aj qB (VY h (k:Int)) U ?_)))))));rintro v w ⟨rfl,rfl⟩;rw[hh];refine Ac U (qA (Ad (Ae U (Be U U (qA (EI U (Ad (Ae U (Ac U ?_)))))))));refine qA (A6 (Ao (AG (v:=(.int _ _)) U U U ?_)));exact⟨⟨_,rfl⟩,h,.refl _ _⟩
theorem UM{w:World}{bp ba:Nat}{P:List Nat}(h:PgAt w bp ba P)(k:Nat):Ret prog 94 #[ptr bp,.int .i64 (k:Int)] w fun v w'=>(∃e,v=.int .i64 e)/\PgAt w' bp ba (EC P k)/\Ext [ba] w w':=by
 rcases qbr k P.length with hk|hk
 .exact Xr h k hk
 .have:EC P k=P:=by
   have hn:P[k]?=none:=qbz hk;unfold EC;rw[hn,if_neg (by simp),if_neg (by simp)]
  rw[this];exact Aeb h k hk
theorem Ab1{w:World}{a:Option Addr}{n c t:Nat}{full:List Value}{l:List Nat}(h:OS a n c 1 full (l.map pv))(hb:∀x∈ent a t full,w.heap[x.1]?=some x.2):Rd w a 1 (fun k=>[pv k]) l :=
 OS.rd (by rw[Aaw];exact h) hb (by simp) (by omega)
theorem XD{w:World}{bt bd bp ba fr bc:Nat}{c:Ch}{F:Mut}{L:List (Nat × Obj)}(X:Cx w bt bd bp ba fr bc c F L)(e:Int)(htk:c.tk.length<=1000000)(hgn:c.gn.length<=1000000) :
  Ret prog 129 #[ptr bc,.int .i64 e] w fun v w'=>v=.tuple #[]/\Cx w' bt bd bp ba fr bc (DI c e) F L/\Grown (TM F ba bt bp L) (TM F ba bt bp L) w w':=by
 obtain⟨w0,rfl⟩:=qD w;obtain⟨T,ta,tc,tf,ga,gc,gf,rfl,Ot,Og⟩:=X;have H:=T.ctx;have Rt:=Ab1 Ot (fun y hy=>T.blk y (qaj _ (qa5 _ hy)));have Rg:=Ab1 Og (fun y hy=>T.blk y (qaj _ (qax _ hy)));refine A8 (fn:=f129) func129 U [.pointer (some ⟨bc,0,none⟩),.int .i64 e] U ?_;refine Ar (Ad (Ae U (Be U U (qA (Av _ U ?_ ?_)))))
 .intro h1;replace h1:=Bv h1;refine Ar (Ad (An U (A7 U (Af RY U (AH IQ U H at0 U (AO FE U (Ae U (qA (AB ?_)))))))));refine B6 536838176 (α:=Nat) (fun i=>[(15,.int .i64 (i:Int))]) (fun i w'=>i<=c.tk.length/\Tx w' bt bd bp ba fr c.A ((c.tk.take i).foldl EC c.P) F (CL bt bc ta c.tk.length tc tf ga c.gn.length gc gf)/\Grown (TM F ba bt bp (CL bt bc ta c.tk.length tc tf ga c.gn.length gc gf)) (TM F ba bt bp (CL bt bc ta c.tk.length tc tf ga c.gn.length gc gf)) w0 w') (fun i=>c.tk.length - i) 0 U ?_ ?_ ?_
  .exact⟨rfl,trivial⟩
  .exact⟨qak _,T,.call0 (.refl _ _)⟩
  .rintro i j w ⟨hi,T1,G1⟩;have H:=T1.ctx;have R1:=Ab1 Ot (fun y hy=>T1.blk y (qaj _ (qa5 _ hy)));refine Ad (Bj U U (qA (Ar (Av _ U ?_ ?_))))
   .intro h2;replace h2:=AR h2;obtain⟨k,hk⟩:=AP (l:=c.tk) (i:=i);refine Ap (Aa (Ar (AB (Ad (AY R1 FE HN U U (hn:=by rfl) ?_)))));refine Bd DV U (R1.fld hk U (j:=0) U) (Ac U (qA (Au (An U (A7 U (Af JM U (AH JL U H at0 U (A7 U (Af Lc U (Bd K2 U (Aq T1.tr (0+1)) ?_))))))))));refine Ae U (Aj qB (UM T1.pg k) U ?_);rintro v w2 ⟨⟨ev,rfl⟩,hp,hx⟩;obtain⟨T2,G2⟩:=T1.page hp hx;refine Ab (AE (Aa (Au (Ay U U ?_))));refine Ae U (qA ?_);exact⟨i+1,rfl,⟨rfl,trivial⟩,⟨by omega,by rw[Bp hk,qdp];exact T2,G1.trans G2⟩,by omega⟩
   .intro h2;replace h2:=AU h2;have hii:i=c.tk.length:=by omega
    subst hii;rw[qbf]at T1;refine B2 (Aw (Aw (AZ (Aa (A6 (Ao (Af0 U U ?_)))))));refine⟨rfl,⟨?_,ta,tc,tf,ga,gc,gf,rfl,Ot,Og⟩,G1⟩;unfold DI;rw[if_pos h1];exact T1
 .intro h1;replace h1:=Bw h1;refine Ap (Aa (Ad (An U (A7 U (Af RZ U (AH IQ U H at0 U (AO FE U (Ae U (qA (AB ?_))))))))));refine B6 281457796841600 (α:=Nat) (fun i=>[(34,.int .i64 (i:Int))]) (fun i w'=>i<=c.gn.length/\Tx w' bt bd bp ba fr c.A ((c.gn.take i).foldl EC c.P) F (CL bt bc ta c.tk.length tc tf ga c.gn.length gc gf)/\Grown (TM F ba bt bp (CL bt bc ta c.tk.length tc tf ga c.gn.length gc gf)) (TM F ba bt bp (CL bt bc ta c.tk.length tc tf ga c.gn.length gc gf)) w0 w') (fun i=>c.gn.length - i) 0 U ?_ ?_ ?_
  .exact⟨rfl,trivial⟩
  .exact⟨qak _,T,.call0 (.refl _ _)⟩
  .rintro i j w ⟨hi,T1,G1⟩;have H:=T1.ctx;have R1:=Ab1 Og (fun y hy=>T1.blk y (qaj _ (qax _ hy)));refine Ad (Bj U U (qA (Ar (Av _ U ?_ ?_))))
   .intro h2;replace h2:=AR h2;obtain⟨k,hk⟩:=AP (l:=c.gn) (i:=i);refine Ap (Aa (Ar (AB (Ad (AY R1 FE HN U U (hn:=by rfl) ?_)))));refine Bd DV U (R1.fld hk U (j:=0) U) (Ac U (qA (Au (An U (A7 U (Af JM U (AH JL U H at0 U (A7 U (Af Lc U (Bd K2 U (Aq T1.tr (0+1)) ?_))))))))));refine Ae U (Aj qB (UM T1.pg k) U ?_);rintro v w2 ⟨⟨ev,rfl⟩,hp,hx⟩;obtain⟨T2,G2⟩:=T1.page hp hx;refine Ab (AE (Aa (Au (Ay U U ?_))));refine Ae U (qA ?_);exact⟨i+1,rfl,⟨rfl,trivial⟩,⟨by omega,by rw[Bp hk,qdp];exact T2,G1.trans G2⟩,by omega⟩
   .intro h2;replace h2:=AU h2;have hii:i=c.gn.length:=by omega
    subst hii;rw[qbf]at T1;refine B2 (Aw (Aw (AZ (HC U U ?_))));refine⟨rfl,⟨?_,ta,tc,tf,ga,gc,gf,rfl,Ot,Og⟩,G1⟩;unfold DI;rw[if_neg (by simpa using h1)];exact T1
theorem Grown.weak{M M' M'':Mut}{w w':World}(t:Grown M M' w w')(h:∀x,M'' x->M' x):Grown M M'' w w':=⟨t.1,fun x hx=>t.2 x (h x hx)⟩
theorem Grown.nil{M M':Mut}{w w':World}(t:Grown (MY M []) M' w w'):Grown M M' w w':=by
 obtain⟨⟨S,hS,hx⟩,g⟩:=t;exact⟨⟨S,fun x h=>MY.nil x (hS x h),hx⟩,fun x h=>(g x h).imp (MY.nil x) id⟩
structure Fr(w0:World)(Z M0:Mut)(w:World)(bt bd bp ba fr bc:Nat)(c:Ch)(F:Mut)(L Y:List (Nat × Obj)):Prop where
 X:Cx w bt bd bp ba fr bc c F L
 O:Fo w (MZ (TM F ba bt bp L) Z) Y
 GT:Grown M0 (TM F ba bt bp L) w0 w
 GA:Grown (MZ M0 Z) (MY (MZ (TM F ba bt bp L) Z) Y) w0 w
 yo:∀y∈Y.map (·.1),w0.heap.size<=y
 sz:w0.heap.size<=w.heap.size
 hZ:∀x,Z x->x<w0.heap.size
section
variable {w0 w w':World}{Z M0:Mut}{bt bd bp ba fr bc:Nat}{c c':Ch}{F F':Mut}{L L' Y Y':List (Nat × Obj)}
theorem Fr.start(X:Cx w bt bd bp ba fr bc c F L)(hZ:∀x,Z x->x<w.heap.size):Fr w Z (TM F ba bt bp L) w bt bd bp ba fr bc c F L [] :=
 ⟨X,Fo.nil,.call0 (.refl _ _),(Grown.call0 (.refl _ _)).weak MY.nil,(fun y h=>by cases h),qae _,hZ⟩
theorem Fr.lt(E:Fr w0 Z M0 w bt bd bp ba fr bc c F L Y):∀x,MZ (TM F ba bt bp L) Z x->x<w.heap.size:=fun x h=>h.elim (E.X.T.mlt x) fun h=>qau (E.hZ x h) E.sz
theorem Fr.mylt(E:Fr w0 Z M0 w bt bd bp ba fr bc c F L Y):∀x,MY (MZ (TM F ba bt bp L) Z) Y x->x<w.heap.size:=E.O.lt E.lt
theorem Fr.zlt(E:Fr w0 Z M0 w bt bd bp ba fr bc c F L Y):∀x,MY Z Y x->x<w.heap.size:=fun x h=>E.mylt x (h.elim (fun h => .inl (.inr h)) .inr)
theorem Fr.fresh(E:Fr w0 Z M0 w bt bd bp ba fr bc c F L Y):∀x,MY (MZ (TM F' ba bt bp L') Z) Y x->MZ (TM F' ba bt bp L') (Old w) x:=fun x h=>by
 rcases h with(h|h)|h
 .exact .inl h
 .exact .inr (E.lt x (.inr h))
 .exact .inr (E.mylt x (.inr h))
theorem Fr.own(E:Fr w0 Z M0 w bt bd bp ba fr bc c F L Y)(H:Ctx w (Y.map (·.1)) w' Y'):Fr w0 Z M0 w' bt bd bp ba fr bc c F L Y'/\Grown (MY (MZ (TM F ba bt bp L) Z) Y) (MY (MZ (TM F ba bt bp L) Z) Y') w w':=by
 obtain⟨O',g⟩:=E.O.own E.lt H;exact⟨⟨E.X.side (E.O.weak fun _ h => .inl h) H.ext,O',E.GT.side H.ext E.yo,E.GA.trans g,Oj E.yo E.sz H,qaw E.sz H.ext.size,E.hZ⟩,g⟩
theorem Fr.call(E:Fr w0 Z M0 w bt bd bp ba fr bc c F L Y)(X':Cx w' bt bd bp ba fr bc c' F' L')(t:Grown (TM F ba bt bp L) (TM F' ba bt bp L') w w'):Fr w0 Z M0 w' bt bd bp ba fr bc c' F' L' Y/\Grown (MY (MZ (TM F ba bt bp L) Z) Y) (MY (MZ (TM F' ba bt bp L') Z) Y) w w':=by
 obtain⟨O',g⟩:=E.O.call (t.or Z);obtain⟨S,_,hx⟩:=t.1;exact⟨⟨X',O',E.GT.trans t,E.GA.trans g,E.yo,qaw E.sz hx.size,E.hZ⟩,g⟩
theorem Fr.call0(E:Fr w0 Z M0 w bt bd bp ba fr bc c F L Y)(hx:Ext [] w w'):Fr w0 Z M0 w' bt bd bp ba fr bc c F L Y/\Grown (MY (MZ (TM F ba bt bp L) Z) Y) (MY (MZ (TM F ba bt bp L) Z) Y) w w' :=
 E.call (E.X.side Fo.nil hx) (.call0 hx)
end
def DoOk(f:Nat)(cl:List Value)(G:List It->List It)(w:World)(M:Mut):Prop :=
 ∀(w':World) (M':Mut),Grown M M' w w'->(∀x,M' x->x<w'.heap.size)->∀(a:Option Addr) (n c:Nat) (l:List It),Its w' M' a n c l->n<=100000 ->
  Ret prog f (Value.slice a n c::cl).toArray w' fun v w''=>∃a' c',v=.slice a' (G l).length c'/\Its w'' M' a' (G l).length c' (G l)/\Ext [] w' w''
theorem DoOk.keep{f:Nat}{cl:List Value}{G:List It->List It}{w w':World}{M M':Mut}(h:DoOk f cl G w M)(t:Grown M M' w w'):DoOk f cl G w' M':=fun w2 M2 t2=>h w2 M2 (t.trans t2)
theorem wrC_gn{fr:Nat}{c:Ch}{i:Bool}{M:List It}:(wrC fr c i M).2.gn=c.gn:=by
 unfold wrC
 split
 .rfl
 .split <;> rfl
theorem XE{fr:Nat}{i:Bool}{m:Nat}:∀{Hs:List (List It)} {c:Ch} {acc:List It},(C3 fr i Hs c acc).2.1.tk.length<=c.tk.length+Hs.length/\(C3 fr i Hs c acc).2.1.gn=c.gn/\(Few c.A m->Few (C3 fr i Hs c acc).2.1.A (m+Hs.length))/\(C3 fr i Hs c acc).2.2.length<=acc.length+Hs.length
 | [],c,acc=>⟨qae _,rfl,fun h=>h,qae _⟩
 |h::Hs,c,acc=>by
  have h1:=SR (fr:=fr) (c:=c) (inner:=i) (M:=h);have h2:=wrC_gn (fr:=fr) (c:=c) (i:=i) (M:=h);unfold C3
  split
  .obtain⟨a1,a2,a3,a4⟩:=XE (fr:=fr) (i:=i) (m:=m+1) (Hs:=Hs) (c:=(wrC fr c i h).2) (acc:=acc++[⟨Gy h,[],Ci c.P⟩]);refine⟨by rw[qav];omega,a2.trans h2,fun hf=>(a3 (QA hf)).mono (by rw[qav];omega),?_⟩;rw[qan,qbu]at a4;rw[qav];omega
  .exact⟨by rw[qav];dsimp only;omega,h2,fun hf=>(QA hf).mono (by rw[qav];omega),by simp⟩
theorem Lq{fr:Nat}{c:Ch}{i:Bool}{M:List It}{m:Nat}:(Fc fr c i M).2.1.tk.length<=c.tk.length+2/\(Fc fr c i M).2.1.gn=c.gn/\(Few c.A m->Few (Fc fr c i M).2.1.A (m+2))/\(Fc fr c i M).2.2.length<=2:=by
 unfold Fc
 cases okM i M with
 |false=>exact⟨qcp _ _,rfl,fun h=>h.mono (by omega),qak _⟩
 |true =>
  show(JE fr c i M).2.1.tk.length<=_/\(JE fr c i M).2.1.gn=_/\(Few c.A m->Few (JE fr c i M).2.1.A _)/\(JE fr c i M).2.2.length<=2;unfold JE
  split
  .exact⟨qcp _ _,rfl,fun h=>h.mono (by omega),qak _⟩
  .have h2:=SU i M;obtain⟨a1,a2,a3,a4⟩:=XE (fr:=fr) (i:=i) (m:=m) (Hs:=DM i M) (c:=c) (acc:=[]);rw[qby]at a4;exact⟨by omega,a2,fun h=>(a3 h).mono (by omega),by omega⟩
theorem Iz{fr:Nat}{c:Ch}{p d:Nat}:(rdC fr c p d).tk=c.tk/\(rdC fr c p d).gn.length<=c.gn.length+1/\(rdC fr c p d).A=c.A/\(rdC fr c p d).P=c.P:=by
 unfold rdC
 split
 .exact⟨rfl,by simp,rfl,rfl⟩
 .exact⟨rfl,qdd _,rfl,rfl⟩
theorem Pu{fr:Nat}{c:Ch}{l:List It}{i d:Nat}{inner:Bool}{kid:List It}:(ED fr c l i d inner kid).2.1.tk=c.tk/\(ED fr c l i d inner kid).2.1.gn.length<=c.gn.length+1/\(ED fr c l i d inner kid).2.1.A=c.A:=by
 unfold ED
 split
 .split
  .exact⟨rfl,qdd _,rfl⟩
  .split
   .exact⟨rfl,qdd _,rfl⟩
   .exact⟨Iz.1,Iz.2.1,Iz.2.2.1⟩
   .exact⟨Iz.1,Iz.2.1,Iz.2.2.1⟩
 .exact⟨rfl,qdd _,rfl⟩
theorem Mo{fr:Nat}{G:List It->List It}{key:Byt}{m:Nat}:∀{n:Nat} {c:Ch} {p d:Nat},(CO fr G key n c p d).2.1.tk.length<=c.tk.length+2*n/\(CO fr G key n c p d).2.1.gn.length<=c.gn.length+2*n/\(Few c.A m->Few (CO fr G key n c p d).2.1.A (m+2*n))
 |0,c,p,d=>⟨qae _,qae _,fun h=>h⟩
 |n+1,c,p,d=>by
  have hr:=Iz (fr:=fr) (c:=c) (p:=p) (d:=d);unfold CO
  split
  .exact⟨qcp _ _,qcp _ _,fun h=>h.mono (by omega)⟩
  .exact⟨by rw[hr.1];omega,by have:=hr.2.1;show(rdC fr c p d).gn.length<=_;omega,fun h=>by show Few (rdC fr c p d).A _;rw[hr.2.2.1];exact h.mono (by omega)⟩
  .rename_i l _
   obtain⟨a1,a2,a3⟩:=Mo (fr:=fr) (G:=G) (key:=key) (m:=m) (n:=n) (c:=rdC fr c p d) (p:=Cr l (Cf l key)) (d:=d+1);rw[hr.1]at a1;rw[hr.2.2.1]at a3;have h2:=hr.2.1;dsimp only
   split
   .exact⟨by dsimp only;omega,by dsimp only;omega,fun h=>(a3 h).mono (by omega)⟩
   .obtain⟨b1,b2,b3⟩:=Pu (fr:=fr) (c:=(CO fr G key n (rdC fr c p d) (Cr l (Cf l key)) (d+1)).2.1) (l:=l) (i:=Cf l key) (d:=d) (inner:=(CO fr G key n (rdC fr c p d) (Cr l (Cf l key)) (d+1)).2.2.1) (kid:=(CO fr G key n (rdC fr c p d) (Cr l (Cf l key)) (d+1)).2.2.2)
    split
    .exact⟨by rw[b1];omega,by dsimp only;omega,fun h=>by rw[b3];exact(a3 h).mono (by omega)⟩
    .obtain⟨q1,q2,q3,_⟩:=Lq (fr:=fr) (c:=(ED fr (CO fr G key n (rdC fr c p d) (Cr l (Cf l key)) (d+1)).2.1 l (Cf l key) d (CO fr G key n (rdC fr c p d) (Cr l (Cf l key)) (d+1)).2.2.1 (CO fr G key n (rdC fr c p d) (Cr l (Cf l key)) (d+1)).2.2.2).2.1)
      (i:=(CO fr G key n (rdC fr c p d) (Cr l (Cf l key)) (d+1)).2.2.1) (M:=(ED fr (CO fr G key n (rdC fr c p d) (Cr l (Cf l key)) (d+1)).2.1 l (Cf l key) d (CO fr G key n (rdC fr c p d) (Cr l (Cf l key)) (d+1)).2.2.1 (CO fr G key n (rdC fr c p d) (Cr l (Cf l key)) (d+1)).2.2.2).2.2.1) (m:=m+2*n)
     rw[b1]at q1;rw[b3]at q3;exact⟨by dsimp only;omega,by dsimp only;rw[q2];omega,fun h=>(q3 (a3 h)).mono (by omega)⟩
theorem Ajb{i:Bool}{M:List It}(h:okM i M=true):M.length<=1000/\(∀x∈M,x.key.length<=65535/\x.val.length<=65535)/\(∀x∈M,x.page<9223372036854775808)/\(M≠[]->∀h∈DM i M,h≠[]):=by
 unfold okM at h;simp only[qao,qcf,qaq,qb5]at h;obtain⟨h1,h2,h3⟩:=h;exact⟨h1,fun x hx=>⟨(h2 x hx).1,(h2 x hx).2.1⟩,fun x hx=>(h2 x hx).2.2,fun hM a ha=>h3.elim (fun h=>absurd h hM) fun h=>h a ha⟩
theorem Ab2{fr:Nat}{c:Ch}{i:Bool}{M:List It}(h:(Fc fr c i M).1≠99):okM i M=true/\Fc fr c i M=JE fr c i M:=by
 unfold Fc at h |-
 cases ho:okM i M with
 |false=>rw[ho]at h;exact absurd rfl h
 |true=>exact⟨rfl,rfl⟩
def ZF(f:Nat)(cl:List Value)(G:List It->List It)(key:Byt)(fr n:Nat):Prop :=
 ∀{w:World} {bt bd bp ba bc:Nat} {c:Ch} {F:Mut} {L:List (Nat × Obj)},Cx w bt bd bp ba fr bc c F L->c.tk.length+2*n<=90000->c.gn.length+2*n<=90000->∀(page depth:Nat),depth+n=17->page<=4294967296 ->
  ∀(Z:Mut),(∀x,Z x->x<w.heap.size)->DoOk f cl G w (MZ (TM F ba bt bp L) Z)->∀(ka:Option Addr) (kc:Nat),Rdx w (MZ (TM F ba bt bp L) Z) ka key->∀(mx:Nat),Few c.A mx->mx+2*n<=900000000->(CO fr G key (n+1) c page depth).1≠99 ->
  Ret prog 176 #[ptr bc,.int .i64 (page:Int),.int .i64 (depth:Int),.slice ka key.length kc,.func (.func f) #[] cl.toArray] w fun v w'=>∃(inner:Bool) (a:Option Addr) (m cc:Nat) (F':Mut) (L':List (Nat × Obj)),
   v=.tuple #[.agg #[.bool inner,.slice a m cc],.int .i64 (CO fr G key (n+1) c page depth).1]/\Cx w' bt bd bp ba fr bc (CO fr G key (n+1) c page depth).2.1 F' L'/\Grown (TM F ba bt bp L) (TM F' ba bt bp L') w w' /\
   ((CO fr G key (n+1) c page depth).1=0->inner=(CO fr G key (n+1) c page depth).2.2.1/\Its w' (MZ (TM F' ba bt bp L') Z) a m cc (CO fr G key (n+1) c page depth).2.2.2)
structure ES where
 a:Option Addr
 n:Nat
 c:Nat
 M:List It
 fr:Nat
 to:Nat
 ch:Ch
 L:List (Nat × Obj)
 Y:List (Nat × Obj)
abbrev NBl(inner:Bool)(a:Option Addr)(n c:Nat):Obj:=Bl 183 [.bool inner,.slice a n c]
theorem ZG{w:World}{M:Mut}{aa qa:Option Addr}{nn cc qn qc sfr sto:Nat}{l q:List It}(I:Its w M aa nn cc l)(Q:Its w M qa qn qc q)(hf:sfr<=nn)(ht:sto<=nn)(h1:(l.take sfr).length=sfr)(h2:(l.drop sto).length=nn - sto) :
  ∀x∈([(aa,l.take sfr,cc),(qa,q,qc),(EH aa cc sto 3,l.drop sto,cc - sto)]:List SI),Its w M x.1 x.2.1.length x.2.2 x.2.1:=by
 intro x hx;simp only[qac,qam,or_false]at hx
 rcases hx with rfl|rfl|rfl
 .show Its w M aa (l.take sfr).length cc (l.take sfr);rw[h1];exact I.take hf
 .show Its w M qa q.length qc q;rw[<-Q.num];exact Q
 .show Its w M _ (l.drop sto).length _ (l.drop sto);rw[h2];exact I.drop ht
theorem SX{w:World}{M:Mut}{a b:Option Addr}{n c m d:Nat}{l q:List It}(I:Its w M a n c l)(Q:Its w M b m d q):∀x∈([(a,l,c),(b,q,d)]:List SI),Its w M x.1 x.2.1.length x.2.2 x.2.1:=by
 intro x hx;simp only[qac,qam,or_false]at hx
 rcases hx with rfl|rfl
 .show Its w M a l.length c l;rw[<-I.num];exact I
 .show Its w M b q.length d q;rw[<-Q.num];exact Q
theorem UN{f:Nat}{cl:List Value}{G:List It->List It}{key:Byt}{fr:Nat}(hf:Ax prog f=true)(hfr:fr<=5000)(_:key.length<=100000)(n:Nat)(IH:∀n',n=n'+1->ZF f cl G key fr n'):ZF f cl G key fr n:=by
 intro w bt bd bp ba bc c F L X htk hgn page depth hd hp Z hZ D ka kc Rk mx hfew hmx hok;obtain⟨w0,rfl⟩:=qD w;obtain⟨ec,hec⟩:=qD (CO fr G key (n+1) c page depth);rw[<-hec]at hok |-;rw[CO]at hec;obtain⟨rt,hrt⟩:=qD (Dp c.A fr c.P.length (page:Int) (depth:Int));rw[<-hrt]at hec;have E0:=Fr.start X hZ;have H:=Ctx.start w0 [];obtain⟨rb1,rb2,rb3,rb4⟩:=Iz (fr:=fr) (c:=c) (p:=page) (d:=depth);refine A8 (fn:=f176) func176 U [.pointer (some ⟨bc,0,none⟩),.int .i64 (page:Int),.int .i64 (depth:Int),.slice ka key.length kc,.func (.func f) #[] cl.toArray] U ?_;refine Ad (Bi Co H ?_);rintro b10 w - H;refine Ac U (qA (Ad (An U (Ae U (Ae U ?_)))));obtain⟨E1,-⟩:=E0.own H;refine Aj qB (XA E1.X hfr page depth hfew) U ?_;rintro v w2 ⟨inner,aa,nn,cc,L2,rfl,X2,g2,hits⟩;rw[<-hrt]at hits
 rw[<-hrt];obtain⟨E2,-⟩:=E1.call X2 g2;replace H:=E2.O.ctx;refine AW U (Ai U U (Ai U U (Bi Co H ?_)));rintro b12 w - H;refine Bo Bg U U U (by simp[Bh]) H at0 U ?_;rintro w H;refine Ac U (qA (Ar (Ad (Ae U (Be U U (qA (Av _ U ?_ ?_)))))))
 .intro hA;replace hA:=Bv hA
  have hnone:rt.2=none:=by
   cases h5:rt.2 with
   |none=>rfl
   |some r=>obtain⟨i,l⟩:=r;rw[hrt]at h5;rw[hrt]at hA;exact absurd (FL h5).1 hA
  rw[hnone]at hec;dsimp only at hec;have hrd:rdC fr c page depth=c:=by unfold rdC;rw[<-hrt,if_neg hA]
  refine Ad (BO BQ Bg U H at0 U (Ae U (Bo Bg U U U (by simp[Bh]) H at1 U ?_)));rintro w H;refine Ac U (qA (A6 (Ao (Du U U U BQ Bg H at1 U (show _=(.int _ _)from rfl) ?_))));obtain⟨E3,-⟩:=E2.own H;have X3:=E3.X;rw[hrd]at X3;exact⟨inner,aa,nn,cc,F,L2,by rw[hec],by rw[hec];exact X3,E3.GT,fun h=>absurd (by rw[hec]at h;exact h) hA⟩
 .intro hA;replace hA:=Bw hA;have hA':rt.1=0:=by simpa using hA
  obtain⟨⟨i,l⟩,hsome⟩:∃r,rt.2=some r:=by
   cases h5:rt.2 with
   |none=>rw[hrt]at h5;rw[hrt]at hA';exact absurd hA' (Jb h5)
   |some r=>exact⟨r,rfl⟩
  obtain⟨-,hne,hd16,-,-,hll⟩:=FL (A:=c.A) (fr:=fr) (sz:=c.P.length) (page:=(page:Int)) (depth:=(depth:Int)) (by rw[<-hrt];exact hsome);obtain⟨rfl,I2f,hb⟩:=hits i l hsome;have I2:=I2f.weak E1.fresh;rw[hsome]at hec;have hnum:=I2.num;refine Ap (Aa (Ar (Ad (Af Dy U (AH Ge U H at0 U (Cl U (qA (Av _ U ?_ ?_))))))))
  .intro hB;replace hB:=C8 hB;subst hB;dsimp only at hec;refine Ad (DY U (.func _ _ _) U ?_);refine Af Br U (AH BT U H at0 U ?_);obtain⟨E3,g3⟩:=E2.own H;have I3:=I2.turn g3;refine KP U U hf (D _ _ E3.GA E3.mylt _ _ _ _ I3 (by omega)) U ?_;rintro v w4 ⟨a4,c4,rfl,I4,hx4⟩;obtain⟨E4,g4⟩:=E3.call0 hx4;replace H:=E4.O.ctx;refine Af Br U (Bf (.slice _ _ _) CP U U U H at0 (by(simp;done)) ?_);rintro w H;refine qA (Ad (BO BQ Bg U H at0 U (Bo Bg U U U (by simp[Bh]) H at1 U ?_)));rintro w H;refine Ac U (qA (A6 (Ao (Du U U U BQ Bg H at1 U (show _=(.int _ _)from rfl) ?_))));obtain⟨E5,g5⟩:=E4.own H;exact⟨false,a4,(G l).length,c4,F,L2,by rw[hec];rfl,by rw[hec];exact E5.X,E5.GT,fun _=>⟨by rw[hec],by rw[hec];exact(I4.turn g5).weak MY.le⟩⟩
  .intro hB;replace hB:=CA hB;subst hB;dsimp only at hec;obtain⟨E3,g3⟩:=E2.own H;have I3:=I2.turn g3;replace H:=E3.O.ctx;obtain⟨w3,rfl⟩:=qD w;obtain⟨ms,R,-,hl,hok3⟩:=I3.ex;have hml:ms.length=nn:=by rw[hnum,<-hl,qai]
   have hbl:=Po hne key;obtain⟨bi,hbi⟩:=qD (Cf l key);obtain⟨x,hx1⟩:=AP (l:=ms) (i:=bi);have hxL:=Im.at hl hx1;have hpa:Cr l bi=x.it.page:=by unfold Cr;rw[hxL];rfl
   have hxb:=hb x.it (qad hxL);obtain⟨n',rfl⟩:∃n',n=n'+1:=⟨n - 1,by omega⟩;have Rk3:=(Rk.turn E3.GA).1;rw[<-hbi]at hec;obtain⟨r,hr⟩:=qD (CO fr G key (n'+1) (rdC fr c page depth) (Cr l bi) (depth+1));rw[<-hr]at hec;rw[hpa]at hr;have hok5:r.1≠99:=fun h=>hok (by rw[hec,if_pos (by rw[h];decide)];exact h);obtain⟨eb1,eb2,eb3⟩:=Mo (fr:=fr) (G:=G) (key:=key) (m:=mx) (n:=n'+1) (c:=rdC fr c page depth) (p:=x.it.page) (d:=depth+1);rw[<-hr]at eb1 eb2 eb3;rw[rb1]at eb1;have hfew2:Few (rdC fr c page depth).A mx:=by rw[rb3];exact hfew
   replace eb3:=eb3 hfew2;refine Ap (Aa (Ad (Af Br U (AH BT U H at0 U (Ah U (Aj qB (Xp I3 ka kc _ key Rk3 U) U ?_))))));rintro v w5 ⟨rfl,rfl⟩;rw[<-hbi];refine Ac U (qA (Ad (An U (Af Br U (AH BT U H at0 U (Ae U (AY R Bu Bn U U ?_)))))));refine Af Gf U (Bd DV U (R.fld hx1 U (j:=2) U) ?_);refine Ae U (Ay U U ?_);rw[show((depth:Int)+1)=((depth+1:Nat):Int)by omega];refine Ah U (DY U (.func _ _ _) U ?_);refine Aj qB (IH n' U E3.X (by rw[rb1];omega) (by omega) x.it.page (depth+1) (by omega) (by omega) (MY Z _) E3.zlt (D.keep (E3.GA.weak MYZ)) ka kc ((Rk.turn E3.GA).weak MYZ) mx hfew2 (by omega) (by rw[<-hr];exact hok5)) U ?_;rintro v w5 ⟨kin,k5,n5,c5,F5,L5,rfl,X5,g5,hk5⟩;rw[<-hr]at X5 hk5;rw[<-hr];obtain⟨E5,gg5⟩:=E3.call X5 g5;have I5:=I3.turn gg5;replace H:=E5.O.ctx
   refine AW U (Ai U U (Ai U U (Bi Co H ?_)));rintro b15 w - H;refine Bo Bg U U U (by simp[Bh]) H at0 U ?_;rintro w H;refine Ac U (qA (Ar (Ad (Ae U (Be U U (qA (Av _ U ?_ ?_)))))))
   .intro hC;replace hC:=Bv hC;rw[if_pos hC]at hec;refine Ad (BO BQ Bg U H at1 U (Ae U (Bo Bg U U U (by simp[Bh]) H at2 U ?_)));rintro w H;refine Ac U (qA (A6 (Ao (Du U U U BQ Bg H at2 U (show _=(.int _ _)from rfl) ?_))));obtain⟨E6,-⟩:=E5.own H;exact⟨true,aa,nn,cc,F5,L5,by rw[hec],by rw[hec];exact E6.X,E6.GT,fun h=>absurd (by rw[hec]at h;exact h) hC⟩
   .intro hC;replace hC:=Bw hC;have hC':r.1=0:=by simpa using hC
    rw[if_neg (by simpa using hC)]at hec;obtain⟨rfl,K5⟩:=hk5 hC';obtain⟨E6,g6⟩:=E5.own H;have I6:=I5.turn g6;have K6:=(K5.weak Ad8).turn g6;replace H:=E6.O.ctx;obtain⟨w6,rfl⟩:=qD w;obtain⟨sc,hsc⟩:=qD (ED fr r.2.1 l bi depth r.2.2.1 r.2.2.2);rw[<-hsc]at hec;have hkn:=K6.num;obtain⟨sb1,sb2,sb3⟩:=Pu (fr:=fr) (c:=r.2.1) (l:=l) (i:=bi) (d:=depth) (inner:=r.2.2.1) (kid:=r.2.2.2);rw[<-hsc]at sb1 sb2 sb3;obtain⟨kin,hkin⟩:=qD r.2.2.1;rw[<-hkin]at hec hsc H E6 I6 K6;rw[<-hkin];refine Ap (Aa (Ad (Ae U (Ae U (Ay U U ?_)))));rw[show((bi:Int)+1)=((bi+1:Nat):Int)by omega];refine Ac U (Ac U (qA (Ar (Ad (BG (α:=Unit) 150525431641469941186560 (fun _=>[(76,.bool (kin && decide (n5=1)))]) (fun _ w'=>w6=w') U ?_ ?_)))))
    .refine Af Dy U (AH Ge U H at0 U (AF U (AQ 71 U ?_ ?_)))
     .intro h1;refine Af Br U (AH BT U H at0 U (AO Bu U (BA U U (AN U (.bool _) U (Ab ?_)))));exact⟨rfl,(),rfl,⟨qab Value.bool (by(rw[h1]);(try rw[qar]);simp;try omega),trivial⟩,rfl⟩
     .intro h2;refine Ag U (Ag U (Ag U (Ag U (AM U (.bool _) U (Ab ?_)))));exact⟨rfl,(),rfl,⟨qab Value.bool (by(rw[h2]);(try rw[qar]);simp;try omega),trivial⟩,rfl⟩
    rintro - j76 w rfl;refine Gn 2787593149816327892540849056629216545540096 (α:=ES) (fun s=>[(16,.int .i64 (s.fr:Int)),(17,.int .i64 (s.to:Int))]) (fun s w'=>Fr w0 Z (TM F ba bt bp L) w' bt bd bp ba fr bc s.ch F5 s.L ((b15,NBl kin s.a s.n s.c)::(b12,NBl true aa nn cc)::(b10,NBl false none 0 0)::s.Y)/\Its w' (MY (MZ (TM F5 ba bt bp s.L) Z) ((b15,NBl kin s.a s.n s.c)::(b12,NBl true aa nn cc)::(b10,NBl false none 0 0)::s.Y)) aa nn cc l/\Its w' (MY (MZ (TM F5 ba bt bp s.L) Z) ((b15,NBl kin s.a s.n s.c)::(b12,NBl true aa nn cc)::(b10,NBl false none 0 0)::s.Y)) s.a s.n s.c s.M/\sc=(0,s.ch,s.M,s.fr,s.to)/\s.fr<=nn/\s.to<=nn) U ?_ ?_
    .skip
     refine Av _ U ?_ ?_
     .intro hE;have hfw:Je kin r.2.2.2=true:=by unfold Je;rw[<-hkn];exact hE
      have hk1:kin=true/\n5=1:=by simpa using hE
      obtain⟨hk2,hn5⟩:=hk1;have hk5l:=K6.le;unfold ED at hsc;rw[if_pos hfw]at hsc;refine Ar (Ad (Ae U (BD U U ?_)));refine Qz U U U ?_;rw[show max ((bi:Int) - 1) 0=((bi - 1:Nat):Int)by omega];refine Ae U (Ay U U ?_);rw[show((bi:Int)+1)=((bi+1:Nat):Int)by omega];refine Ac U (Ac U (qA (Ad (Ae U (BA U U (qA (Gn 131072 (α:=Unit) (fun _=>[(17,.int .i64 ((if bi=0 then 2 else bi+1:Nat):Int))]) (fun _ w'=>w6=w') U ?_ ?_)))))))
      .skip
       refine Av _ U ?_ ?_
       .intro hF;replace hF:=AR hF;refine Au (Ac U (qA ?_));exact⟨(),rfl,⟨qab (Value.int .i64) (by rw[if_pos (by omega)];rfl),trivial⟩,rfl⟩
       .intro hF;replace hF:=AU hF;refine Ap (Aa ?_);exact⟨(),rfl,⟨qab (Value.int .i64) (by rw[if_neg (by omega)]),trivial⟩,rfl⟩
      .rintro - j17 w' rfl;obtain⟨to,hto⟩:=qD (if bi=0 then 2 else bi+1);rw[<-hto]at hsc |-;obtain⟨kk,hkk⟩:=qD (Jf bi);rw[<-hkk]at hsc;have hto2:to<=bi+2:=by rw[hto];split <;> omega
       have hkk2:((bi - 1:Nat):Int)+(to:Int) - 1 - (bi:Int)=(kk:Int):=by
        rw[hkk,hto];unfold Jf
        by_cases h0:bi=0
        .rw[if_pos h0,if_pos h0];omega
        .rw[if_neg h0,if_neg h0];omega
       have htk:kk+1=to\/to<=nn:=by
        rw[hto,hkk];unfold Jf
        by_cases h0:bi=0
        .left;rw[if_pos h0,if_pos h0]
        .right;rw[if_neg h0];omega
       refine Ad (Ae U (Ae U (Ay U U ?_)));refine BD U U (Ae U (BD U U ?_));rw[hkk2];refine Ac U (qA (Ar (Ad (Ae U (Af Br U (AH BT U H at1 U (AO Bu U (Ie U U (qA ?_)))))))));refine Av _ U ?_ ?_
       .intro hG;replace hG:=AR hG;rw[if_pos (by omega)]at hsc;rw[hsc]at hec;dsimp only at hec;rw[if_pos (by decide)]at hec;refine Ad (BO BQ Bg U H at1 U (Bo Bg U U U (by simp[Bh]) H at2 U ?_));rintro w H;refine Ac U (qA (A6 (Ao (Ao (Du U U U BQ Bg H at2 U (show _=(.int _ _)from rfl) ?_)))));obtain⟨E7,-⟩:=E6.own H;exact⟨true,aa,nn,cc,F5,L5,by rw[hec],by rw[hec];exact E7.X,E7.GT,fun h=>by rw[hec]at h;cases h⟩
       .intro hG;replace hG:=AU hG;rw[if_neg (by omega)]at hsc;obtain⟨ms6,R6,-,hl6,hok6⟩:=I6.ex;have hml6:ms6.length=nn:=by rw[hnum,<-hl6,qai]
        obtain⟨y,hy1⟩:=AP (l:=ms6) (i:=kk);have hyL:=Im.at hl6 hy1;have hpy:Cr l kk=y.it.page:=by unfold Cr;rw[hyL];rfl
        have hyb:=hb y.it (qad hyL);obtain⟨rt2,hrt2⟩:=qD (Dp r.2.1.A fr r.2.1.P.length ((y.it.page:Nat):Int) ((depth+1:Nat):Int));rw[hpy,<-hrt2]at hsc;refine Ap (Aa (Ad (An U (Af Br U (AH BT U H at1 U (Ae U (AY R6 Bu Bn U U ?_)))))));refine Af Gf U (Bd DV U (R6.fld hy1 U (j:=2) U) ?_);refine Ae U (Ay U U ?_);rw[show((depth:Int)+1)=((depth+1:Nat):Int)by omega];refine Aj qB (XA E6.X hfr y.it.page (depth+1) eb3) U ?_;rintro v w7 ⟨oin,oa,on,oc,L7,rfl,X7,g7,hits7⟩;rw[<-hrt2]at hits7;rw[<-hrt2];obtain⟨E7,gg7⟩:=E6.call X7 g7;replace H:=E7.O.ctx;refine AW U (Ai U U (Ai U U (Bi Co H ?_)));rintro b19 w - H;refine Bo Bg U U U (by simp[Bh]) H at0 U ?_;rintro w H
        refine Ac U (qA (Ar (Ad (BG (α:=Unit) 82427712629240388602921629226369024 (fun _=>[(115,.bool (decide (rt2.1=0) && !oin))]) (fun _ w'=>Ctx w7 [b15,b12,b10] w' [(b19,NBl oin oa on oc),(b15,NBl kin k5 n5 c5),(b12,NBl true aa nn cc),(b10,NBl false none 0 0)]) U ?_ ?_))))
        .refine Ae U (BA U U (AF U (AQ 111 U ?_ ?_)))
         .intro h3;replace h3:=AR h3;refine Af Dy U (AH Ge U H at0 U (Cl U (AN U (.bool _) U (Ab ?_))));exact⟨rfl,(),rfl,⟨qab Value.bool (by(rw[qal h3]);simp),trivial⟩,H⟩
         .intro h4;replace h4:=AU h4;refine Ag U (Ag U (Ag U (AM U (.bool _) U (Ab ?_))));exact⟨rfl,(),rfl,⟨qab Value.bool (by(rw[qag h4]);simp),trivial⟩,H⟩
        rintro - j115 w H;refine Av _ U ?_ ?_
        .intro hI;have hI2:rt2.1=0/\oin=false:=by simpa using hI
         obtain⟨⟨i2,o⟩,hsome2⟩:∃z,rt2.2=some z:=by
          cases h5:rt2.2 with
          |none=>rw[hrt2]at h5;exact absurd (by rw[<-hrt2];exact hI2.1) (Jb h5)
          |some z=>exact⟨z,rfl⟩
         obtain⟨hi2,-,-⟩:=hits7 i2 o hsome2;rw[hsome2,<-hi2,hI2.2]at hsc;dsimp only at hsc;rw[hsc]at hec;dsimp only at hec;rw[if_pos (by decide)]at hec;refine Au (Ac U (qA (Ar (Ad (Ae U (Be U U (qA (Av _ U ?_ ?_))))))))
         .intro hJ;replace hJ:=Bv hJ;refine Ad (BO BQ Bg U H at2 U (Ae U (Bo Bg U U U (by simp[Bh]) H at3 U ?_)));rintro w H;refine Ac U (qA (A6 (Ao (Ao (Du U U U BQ Bg H at3 U (show _=(.int _ _)from rfl) ?_)))));obtain⟨E8,-⟩:=E7.own H;exact⟨true,aa,nn,cc,F5,L7,by rw[hec],by rw[hec];exact E8.X,E8.GT,fun h=>by rw[hec]at h;cases h⟩
         .intro hJ;replace hJ:=Bw hJ;exact absurd hJ (by decide)
        .intro hI;refine Ap (Aa (Ar (Ad (Ae U (Be U U (qA (Av _ U ?_ ?_)))))))
         .intro hJ;replace hJ:=Bv hJ
          have hnone2:rt2.2=none:=by
           cases h5:rt2.2 with
           |none=>rfl
           |some z=>obtain⟨i2,o⟩:=z;rw[hrt2]at h5;exact absurd (by rw[hrt2];exact(FL h5).1) hJ
          rw[hnone2]at hsc;dsimp only at hsc;rw[hsc]at hec;dsimp only at hec;rw[if_pos hJ]at hec;have hrd2:rdC fr r.2.1 y.it.page (depth+1)=r.2.1:=by unfold rdC;rw[<-hrt2,if_neg hJ]
          refine Ad (BO BQ Bg U H at2 U (Ae U (Bo Bg U U U (by simp[Bh]) H at3 U ?_)));rintro w H;refine Ac U (qA (A6 (Ao (Ao (Du U U U BQ Bg H at3 U (show _=(.int _ _)from rfl) ?_)))));obtain⟨E8,-⟩:=E7.own H;have X8:=E8.X;rw[hrd2]at X8;exact⟨true,aa,nn,cc,F5,L7,by rw[hec],by rw[hec];exact X8,E8.GT,fun h=>absurd (by rw[hec]at h;exact h) hJ⟩
         .intro hJ;replace hJ:=Bw hJ;have hJ':rt2.1=0:=by simpa using hJ
          obtain⟨⟨i2,o⟩,hsome2⟩:∃z,rt2.2=some z:=by
           cases h5:rt2.2 with
           |none=>rw[hrt2]at h5;exact absurd (by rw[<-hrt2];exact hJ') (Jb h5)
           |some z=>exact⟨z,rfl⟩
          obtain⟨rfl,O7,hb7⟩:=hits7 i2 o hsome2
          have hoin:oin=true:=by
           cases oin with
           |true=>rfl
           |false=>rw[hJ']at hI;simp at hI
          subst hoin;rw[hsome2]at hsc;dsimp only at hsc;obtain⟨-,-,-,-,-,hol⟩:=FL (A:=r.2.1.A) (fr:=fr) (sz:=r.2.1.P.length) (page:=((y.it.page:Nat):Int)) (depth:=((depth+1:Nat):Int)) (by rw[<-hrt2];exact hsome2);obtain⟨E8,g8⟩:=E7.own H;have I8:=(I6.turn gg7).turn g8;have K8:=(K6.turn gg7).turn g8;have O8:=(O7.weak E6.fresh).turn g8;have hon:=O8.num;have htn:to<=nn:=by omega
          replace H:=E8.O.ctx;obtain⟨w8,rfl⟩:=qD w;refine Ap (Aa (Ad (Af Br U (AH BT U H at1 U (Af Br U (AH BT U H at0 U (Add [.slice k5 n5 c5,.slice oa on oc] U Km CP Aht ?_)))))));refine Bi Aht H ?_;rintro b21 w - H;refine Bo Ao6 U U U (by simp[Bh]) H at0 U ?_;rintro w H;refine qA (Ar (Ad (Ae U (Ae U (Bj U U (qA (Av _ U ?_ ?_)))))))
          .intro hK;replace hK:=AR hK
           have hbi0:bi≠0:=by
            intro h0;rw[hkk]at hK;unfold Jf at hK;rw[if_pos h0]at hK;omega
           rw[if_neg hbi0]at hsc;refine Au (Ey Km CP U U ?_);refine AH BT U H at0 U (Ey Km CP U U ?_);refine AH BT U H at0 U (Ey Km CP U U ?_);refine Bf (.slice _ _ _) CP U U U H at0 (by(simp;done)) ?_;rintro w H;refine Ey Km CP U U (Bf (.slice _ _ _) CP U U U H at0 (by(simp;done)) ?_);rintro w H;refine qA (Au (Ey Km CP U U ?_));refine AH BT U H at0 U (Ey Km CP U U ?_);refine AH BT U H at0 U (Cc [.slice oa on oc,.slice k5 n5 c5] IU CP Na H ?_);rintro b138 w - H;obtain⟨E9,g9⟩:=E8.own H;have I9:=I8.turn g9;have K9:=K8.turn g9;have O9:=O8.turn g9
           have RR:Rd w (some ⟨b138,0,none⟩) 1 Ob [(oa,o,oc),(k5,r.2.2.2,c5)]:=Rd.of_bl (r:=[]) (H.get at0) (by simp[Ob,<-hon,<-hkn]) (fun _ _=>rfl);have CC:=Gw (n:=2) (c:=2) E9.mylt _ RR (SX O9 K9) rfl (by simp only[qaz,qbo,qc5,qde];omega);rw[show([(oa,o,oc),(k5,r.2.2.2,c5)]:List SI).flatMap (fun x=>x.2.1)=o++r.2.2.2 by simp]at CC;refine Aj qB CC U ?_;rintro v w11 ⟨a11,c11,rfl,J11,hx11⟩;obtain⟨E11,g11⟩:=E9.call0 hx11;replace H:=E11.O.ctx;refine Af Br U (Bf (.slice _ _ _) CP U U U H at3 (by(simp;done)) ?_);rintro w H;refine qA ?_;obtain⟨E12,g12⟩:=E11.own H.tail.tail.tail;exact⟨⟨a11,(o++r.2.2.2).length,c11,o++r.2.2.2,bi - 1,to,rdC fr r.2.1 y.it.page (depth+1),L7,[]⟩,rfl,⟨rfl,rfl,trivial⟩,E12,(I9.turn g11).turn g12,J11.turn g12,hsc,by dsimp only;omega,htn⟩
          .intro hK;replace hK:=AU hK
           have hbi0:bi=0:=by
            rw[hkk]at hK;unfold Jf at hK
            by_cases h0:bi=0
            .exact h0
            .rw[if_neg h0]at hK;omega
           rw[if_pos hbi0]at hsc;refine Ap (Aa (Au (Ey Km CP U U ?_)));refine AH BT U H at0 U (Ey Km CP U U ?_);refine AH BT U H at0 U (Cc [.slice k5 n5 c5,.slice oa on oc] IU CP Na H ?_);rintro b138 w - H;obtain⟨E9,g9⟩:=E8.own H;have I9:=I8.turn g9;have K9:=K8.turn g9;have O9:=O8.turn g9;have RR:Rd w (some ⟨b138,0,none⟩) 1 Ob [(k5,r.2.2.2,c5),(oa,o,oc)]:=Rd.of_bl (r:=[]) (H.get at0) (by simp[Ob,<-hon,<-hkn]) (fun _ _=>rfl);have CC:=Gw (n:=2) (c:=2) E9.mylt _ RR (SX K9 O9) rfl (by simp only[qaz,qbo,qc5,qde];omega);rw[show([(k5,r.2.2.2,c5),(oa,o,oc)]:List SI).flatMap (fun x=>x.2.1)=r.2.2.2++o by simp]at CC;refine Aj qB CC U ?_;rintro v w11 ⟨a11,c11,rfl,J11,hx11⟩;obtain⟨E11,g11⟩:=E9.call0 hx11;replace H:=E11.O.ctx
           refine Af Br U (Bf (.slice _ _ _) CP U U U H at3 (by(simp;done)) ?_);rintro w H;refine qA ?_;obtain⟨E12,g12⟩:=E11.own H.tail.tail.tail;exact⟨⟨a11,(r.2.2.2++o).length,c11,r.2.2.2++o,bi - 1,to,rdC fr r.2.1 y.it.page (depth+1),L7,[]⟩,rfl,⟨rfl,rfl,trivial⟩,E12,(I9.turn g11).turn g12,J11.turn g12,hsc,by dsimp only;omega,htn⟩
     .intro hE;have hfw:¬Je kin r.2.2.2=true:=by unfold Je;rw[<-hkn,hE];simp
      unfold ED at hsc;rw[if_neg hfw]at hsc;refine Ap (Aa ?_);exact⟨⟨k5,n5,c5,r.2.2.2,bi,bi+1,r.2.1,L5,[]⟩,rfl,⟨rfl,rfl,trivial⟩,E6,I6,K6,hsc,by dsimp only;omega,by dsimp only;omega⟩
    .rintro⟨sa,sn,scc,sM,sfr,sto,sch,L8,Y8⟩ j8 w ⟨E8,I8,K8,hsc8,hfn,htn⟩;dsimp only at E8 I8 K8 hsc8 hfn htn;dsimp only;rw[hsc8]at hec;dsimp only at hec;rw[if_neg (by simp)]at hec;have hch:sch=sc.2.1:=by rw[hsc8]
     rw[<-hch]at sb1 sb2 sb3;obtain⟨q,hq⟩:=qD (Fc fr sch kin sM);rw[<-hq]at hec;have hok8:q.1≠99:=fun h=>hok (by rw[hec];exact h);obtain⟨hokM,hqc⟩:=Ab2 (fr:=fr) (c:=sch) (i:=kin) (M:=sM) (by rw[<-hq];exact hok8);rw[<-hq]at hqc;obtain⟨m1,m2,m3,m4⟩:=Ajb hokM;obtain⟨qb1,qb2,qb3,qb4⟩:=Lq (fr:=fr) (c:=sch) (i:=kin) (M:=sM) (m:=mx+2*(n'+1));rw[<-hq]at qb1 qb2 qb3 qb4;have hkn8:=K8.num;have hcc8:=I8.le;have hfew8:Few sch.A (mx+2*(n'+1)):=by rw[sb3];exact eb3
     have H:=E8.O.ctx;refine Ad (An U (BO BQ Bg U H at0 U (Aj qB (Abz E8.X hfr (by rw[sb1];omega) kin (MY Z _) E8.zlt (K8.weak MYZ) m2 m3 m4 hfew8) U ?_)));rintro v w9 ⟨qa,qn,qc,F9,L9,rfl,X9,g9,Q9⟩;rw[<-hqc]at X9 Q9;rw[<-hqc];obtain⟨E9,gg9⟩:=E8.call X9 g9;have Q9':=Q9.weak Ad8;have I9:=I8.turn gg9;replace H:=E9.O.ctx;refine AW U (Ai U U (Ai U U (Ak U (Ac U (qA (BV [([0,1,2,3,4,5,6,7,8],9),([],10),([11],12)] (fun z=>z.heap[b12]?=some (NBl true aa nn cc)) [12] mixed (H.drew.get at1) ?_))))));refine AD U U (AC Br U (BC BT U (fun _ hx=>Aq hx (0+1)) ?_));refine B0 U (Hr U Bu Bn U U ?_);refine B9 U (AC Br U (BC BT U (fun _ hx=>Aq hx (0+1)) ?_));refine B0 U (Gq Bu Bn U U ?_);refine AV ?_;replace H:=H.drew
     refine Cc [.slice aa sfr cc,.slice qa qn qc,.slice (EH aa cc sto 3) (nn - sto) (cc - sto)] IU CP Na H ?_;rintro b156 w - H;refine Ab (Bb (H.get at2) (AD U U ?_));refine AV ?_;obtain⟨E10,g10⟩:=E9.own H;have I10:=I9.turn g10;have Q10:=Q9'.turn g10;have hlt9:(l.take sfr).length=sfr:=(by rw[qa0];omega);have hld9:(l.drop sto).length=nn - sto:=(by rw[qbg];omega);have hqn9:q.2.2.length=qn:=Q10.num.symm;have RR:Rd w (some ⟨b156,0,none⟩) 1 Ob [(aa,l.take sfr,cc),(qa,q.2.2,qc),(EH aa cc sto 3,l.drop sto,cc - sto)]:=Rd.of_bl (r:=[]) (H.get at0) (by simp[Ob,hlt9,hld9,hqn9]) (fun _ _=>rfl);have hIts:∀x∈([(aa,l.take sfr,cc),(qa,q.2.2,qc),(EH aa cc sto 3,l.drop sto,cc - sto)]:List SI),Its w _ x.1 x.2.1.length x.2.2 x.2.1:=ZG I10 Q10 hfn htn hlt9 hld9
     have hfl:([(aa,l.take sfr,cc),(qa,q.2.2,qc),(EH aa cc sto 3,l.drop sto,cc - sto)]:List SI).flatMap (fun x=>x.2.1)=l.take sfr++(q.2.2++l.drop sto):=(by simp);have CC:=Gw (n:=3) (c:=3) E10.mylt _ RR hIts rfl (by simp only[qaz,qbo,qc5,qde];omega);rw[hfl]at CC;refine Aj qB CC U ?_;rintro v w11 ⟨a11,c11,rfl,J11,hx11⟩;obtain⟨E11,g11⟩:=E10.call0 hx11;replace H:=E11.O.ctx;refine Ab (Bb (H.get at2) (AD U U ?_));refine AC Br U (AV (Bf (.slice _ _ _) CP U U U H at2 (by(simp;done)) ?_));rintro w H;refine Ab (CQ U (B4 (Ad (BO BQ Bg U H at2 U (Ae U (Bo Bg U U U (by simp[Bh]) H at3 U ?_))))));rintro w H;refine Ac U (qA (A6 (Du U U U BQ Bg H at3 U (show _=(.int _ _)from rfl) ?_)));obtain⟨E12,g12⟩:=E11.own H
     exact⟨true,a11,_,c11,F9,L9,by rw[hec];rfl,by rw[hec];exact E12.X,E12.GT,fun _=>⟨by rw[hec],by rw[hec];exact(J11.turn g12).weak MY.le⟩⟩
theorem XF{f:Nat}{cl:List Value}{G:List It->List It}{key:Byt}{fr:Nat}(hf:Ax prog f=true)(hfr:fr<=5000)(hkl:key.length<=100000):∀n,ZF f cl G key fr n
 |0=>UN hf hfr hkl 0 fun n' h=>by omega
 |n+1=>UN hf hfr hkl (n+1) fun n' h=>by
   obtain rfl:n=n':=by omega
   exact XF hf hfr hkl n
theorem UO(P:List Nat):(Jc P).length=P.length:=by
 unfold Jc;split
 .rfl
 .simp
theorem Al2{fr:Nat}{c:Ch}{i:Bool}{M:List It}:(wrC fr c i M).2.P.length=c.P.length:=by
 unfold wrC
 split
 .rfl
 .split
  .exact UO _
  .exact UO _
theorem Ab3{fr:Nat}{i:Bool}:∀{Hs:List (List It)} {c:Ch} {acc:List It},c.P.length<=4096->(∀h∈Hs,(Gy h).length<=65535)->(∀x∈acc,x.key.length<=65535/\x.val.length<=65535/\x.page<=4096)->∀x∈(C3 fr i Hs c acc).2.2,x.key.length<=65535/\x.val.length<=65535/\x.page<=4096
 | [],c,acc,_,_,ha=>ha
 |h::Hs,c,acc,hP,hk,ha=>by
  unfold C3
  split
  .refine Ab3 (by rw[Al2];exact hP) (fun h hh=>hk h (qaj _ hh)) fun x hx=>?_
   rcases qat.1 hx with hx|hx
   .exact ha x hx
   .rw[qaa.1 hx];have:=X6 c.P;exact⟨hk h (qaf ..),by simp,by dsimp only;omega⟩
  .intro x hx;cases hx
theorem Al3{fr:Nat}{c:Ch}{i:Bool}{M:List It}(hP:c.P.length<=4096)(hM:∀x∈M,x.key.length<=65535):∀x∈(JE fr c i M).2.2,x.key.length<=65535/\x.val.length<=65535/\x.page<=4096:=by
 unfold JE
 split
 .intro x hx;cases hx
 .refine Ab3 hP (fun h hh=>?_) (fun x hx=>by cases hx);unfold Gy
  cases h0:h[0]? with
  |none=>simp
  |some y=>exact hM y ((SS hh).2 y (qad h0))
theorem Al4{w:World}{bt bd bp ba fr bc:Nat}{c:Ch}{F:Mut}{L:List (Nat × Obj)}(X:Cx w bt bd bp ba fr bc c F L)(hfr:fr<=5000)(inner:Bool){a:Option Addr}{n cc:Nat}{M:List It}(Z:Mut)(hZ:∀x,Z x->x<w.heap.size)(I:Its w (MZ (TM F ba bt bp L) Z) a n cc M){mx:Nat}(hfew:Few c.A mx)(hok:(Ee fr c inner M).1≠99)(htk:c.tk.length<=99980:=by omega)(hmx:mx<=999999980:=by omega):
  Ret prog 177 #[ptr bc,.agg #[.bool inner,.slice a n cc]] w fun v w'=>∃(p:Int) (F':Mut) (L':List (Nat × Obj)),v=.tuple #[.int .i64 p,.int .i64 (Ee fr c inner M).1]/\Cx w' bt bd bp ba fr bc (Ee fr c inner M).2.1 F' L'/\Grown (TM F ba bt bp L) (TM F' ba bt bp L') w w'/\((Ee fr c inner M).1=0->p=(Ee fr c inner M).2.2):=by
 obtain⟨w0,rfl⟩:=qD w;have hnum:=I.num;obtain⟨tc,htc⟩:=qD (Ee fr c inner M);rw[<-htc]at hok |-;unfold Ee at htc;have E0:=Fr.start X hZ;have H:=Ctx.start w0 [];refine A8 (fn:=f177) func177 U [.pointer (some ⟨bc,0,none⟩),.agg #[.bool inner,.slice a n cc]] U ?_;refine Ad (Cu [.bool inner,.slice a n cc] (.agg _) U U H ?_);rintro b3 w - H;refine Ac U (Ac U (qA (Ar (Ad (BG (α:=Unit) 261120 (fun _=>[(17,.bool (inner && decide (n=1)))]) (fun _ w'=>Ctx w0 [] w' [(b3,Bl 183 [.bool inner,.slice a n cc])]) U ?_ ?_)))))
 .refine Af Dy U (AH Ge U H at0 U (AF U (AQ 12 U ?_ ?_)))
  .intro h1;refine Af Br U (AH BT U H at0 U (AO Bu U (BA U U (AN U (.bool _) U (Ab ?_)))));exact⟨rfl,(),rfl,⟨qab Value.bool (by(rw[h1]);(try rw[qar]);simp;try omega),trivial⟩,H⟩
  .intro h2;refine Ag U (Ag U (Ag U (Ag U (AM U (.bool _) U (Ab ?_)))));exact⟨rfl,(),rfl,⟨qab Value.bool (by(rw[h2]);(try rw[qar]);simp;try omega),trivial⟩,H⟩
 rintro - j17 w H;refine Av _ U ?_ ?_
 .intro hA;have hfw:Je inner M=true:=by unfold Je;rw[<-hnum];exact hA
  rw[if_pos hfw]at htc;have hn1:n=1:=by simp at hA;exact hA.2
  obtain⟨E1,g1⟩:=E0.own H;have I1:=(I.weak MY.nil).turn g1;replace H:=E1.O.ctx;obtain⟨ms,R,-,hl,hok1⟩:=I1.ex;have hml:ms.length=n:=by rw[hnum,<-hl,qai]
  obtain⟨x,hx1⟩:=AP (l:=ms) (i:=0);have hxL:=Im.at hl hx1;have hpa:Cr M 0=x.it.page:=by unfold Cr;rw[hxL];rfl
  refine Ad (Af Br U (AH BT U H at0 U (AY R Bu Bn U U ?_)));refine Af Gf U (Bd DV U (R.fld hx1 U (j:=2) U) ?_);refine Ac U (Ac U (qA (A6 (Ao (Cs (v1:=(.int _ _)) (v2:=(.int _ _)) U U U U ?_)))));exact⟨_,F,L,by rw[htc],by rw[htc];exact E1.X,E1.GT,fun _=>by rw[htc,hpa]⟩
 .intro hA;have hfw:¬Je inner M=true:=by unfold Je;rw[<-hnum,hA];simp
  rw[if_neg hfw]at htc;obtain⟨q,hq⟩:=qD (Fc fr c inner M);rw[<-hq]at htc;have hok8:q.1≠99:=fun h=>hok (by rw[htc,if_pos (by rw[h];decide)];exact h);obtain⟨hokM,hqc⟩:=Ab2 (fr:=fr) (c:=c) (i:=inner) (M:=M) (by rw[<-hq];exact hok8);rw[<-hq]at hqc;obtain⟨m1,m2,m3,m4⟩:=Ajb hokM;obtain⟨qb1,qb2,qb3,qb4⟩:=Lq (fr:=fr) (c:=c) (i:=inner) (M:=M) (m:=mx);rw[<-hq]at qb1 qb2 qb3 qb4;have hsz:=Al3 (fr:=fr) (c:=c) (i:=inner) (M:=M) X.T.pg.len (fun x hx=>(m2 x hx).1);rw[<-hqc]at hsz;obtain⟨E1,g1⟩:=E0.own H;have I1:=(I.weak MY.nil).turn g1;replace H:=E1.O.ctx;refine Ap (Aa (Ad (An U (BO BQ Bg U H at0 U (Aj qB (Abz E1.X hfr (by omega) inner (MY Z _) E1.zlt (I1.weak MYZ) m2 m3 m4 hfew) U ?_)))));rintro v w9 ⟨qa,qn,qc,F9,L9,rfl,X9,g9,Q9⟩;rw[<-hqc]at X9 Q9;rw[<-hqc];obtain⟨E9,gg9⟩:=E1.call X9 g9;have hqn:=Q9.num;replace H:=E9.O.ctx
  refine AW U (Ai U U (Ai U U (Ak U (Ac U (qA (Ar (Ad (BG (α:=Unit) 68182605824 (fun _=>[(35,.bool (decide (q.1≠0) || decide (q.2.2.length=0)))]) (fun _ w'=>Ctx w9 [b3] w' [(b3,Bl 183 [.bool inner,.slice a n cc])]) U ?_ ?_))))))))
  .refine Ae U (Be U U (AF U (AQ 31 U ?_ ?_)))
   .intro h3;replace h3:=Bv h3;refine Ag U (Ag U (Ag U (AN U (.bool _) U (Ab ?_))));exact⟨rfl,(),rfl,⟨qab Value.bool (by(rw[qal (show q.1≠0 from h3)]);(try rw[<-hqn]);(try rw[qar]);simp;try omega),trivial⟩,H⟩
   .intro h4;replace h4:=Bw h4;refine Ah U (AO Bu U (BA U U (AM U (.bool _) U (Ab ?_))));exact⟨rfl,(),rfl,⟨qab Value.bool (by(rw[qag (show ¬q.1≠0 from fun h=>h h4)]);(try rw[<-hqn]);(try rw[qar]);simp;try omega),trivial⟩,H⟩
  rintro - j35 w H;refine Av _ U ?_ ?_
  .intro hB;refine Ad (Ae U (Ac U (Ac U (qA (A6 (Ao (Cs (v1:=(.int _ _)) (v2:=(.int _ _)) U U U U ?_)))))));obtain⟨E10,-⟩:=E9.own H
   by_cases h0:q.1=0
   .have h1:q.2.2=[]:=by
     rw[h0]at hB
     simpa using hB
    rw[if_neg (by rw[h0];simp),if_pos h1]at htc;exact⟨-1,F9,L9,by rw[htc,h0],by rw[htc];exact E10.X,E10.GT,fun _=>by rw[htc]⟩
   .rw[if_pos h0]at htc;exact⟨-1,F9,L9,by rw[htc],by rw[htc];exact E10.X,E10.GT,fun _=>by rw[htc]⟩
  .intro hB
   have hB2:q.1=0/\q.2.2≠[]:=by
    simp at hB;exact⟨hB.1,hB.2⟩
   obtain⟨h0,h1⟩:=hB2;rw[if_neg (by rw[h0];simp),if_neg h1]at htc;obtain⟨E10,g10⟩:=E9.own H;have Q10:=(Q9.weak Ad8).turn g10;replace H:=E10.O.ctx;obtain⟨w10,rfl⟩:=qD w;refine Ap (Aa (Ar (Ad (Ah U (AO Bu U (BZ U U (qA (Av _ U ?_ ?_))))))))
   .intro hC;replace hC:=AR hC;rw[if_pos (by omega)]at htc;refine Ad (An U (Ah U (B5 [.bool true,.slice qa qn qc] Hd Co ?_)));refine Aj qB (Pt E10.X hfr true (MY Z _) (Q10.weak MYZ) h1 (fun x hx=>⟨(hsz x hx).1,(hsz x hx).2.1⟩) (fun x hx=>by have:=(hsz x hx).2.2;omega) (qb3 hfew)) U ?_;rintro v w11 ⟨m,F11,L11,rfl,X11,g11,-,-,hm11⟩;obtain⟨E11,-⟩:=E10.call X11 g11;replace H:=E11.O.ctx;refine AW U (Ai U U (Ai U U (Bi C2 H ?_)));rintro b8 w - H;refine Bo Bn U U U (by exact(by exact Im.oneE _)) H at0 U ?_;rintro w H;refine Ac U (qA (Ad (Af Gf U (AH DV U H at0 U (Ae U (Ac U (Ac U (qA (A6 (Ao (Cs (v1:=(.int _ _)) (v2:=(.int _ _)) U U U U ?_)))))))))));obtain⟨E12,-⟩:=E11.own H;exact⟨_,F11,L11,by rw[htc],by rw[htc];exact E12.X,E12.GT,fun h=>by rw[htc]at h |-;rw[hm11 h]⟩
   .intro hC;replace hC:=AU hC;rw[if_neg (by omega)]at htc;obtain⟨ms,R,-,hl,hok1⟩:=Q10.ex;have hml:ms.length=qn:=by rw[hqn,<-hl,qai]
    have hpos:=qbv.2 h1;obtain⟨x,hx1⟩:=AP (l:=ms) (i:=0);have hxL:=Im.at hl hx1;have hpa:Cr q.2.2 0=x.it.page:=by unfold Cr;rw[hxL];rfl
    refine Ap (Aa (Ad (Ah U (AY R Bu Bn U U ?_))));refine Af Gf U (Bd DV U (R.fld hx1 U (j:=2) U) ?_);refine Ac U (Ac U (qA (A6 (Cs (v1:=(.int _ _)) (v2:=(.int _ _)) U U U U ?_))));exact⟨_,F9,L9,by rw[htc],by rw[htc];exact E10.X,E10.GT,fun _=>by rw[htc,hpa]⟩
theorem Tx.none{w:World}{bt bd bp ba fr:Nat}{A:Dev}{P:List Nat}{F:Mut}{L:List (Nat × Obj)}(T:Tx w bt bd bp ba fr A P F L):Tx w bt bd bp ba fr A P F [] :=
 ⟨T.tr,T.pg,T.dev,(fun x h=>by cases h),List.Pairwise.nil,(fun x h=>by cases h),T.nbt,T.nbp,T.nba,T.lt⟩
theorem TM.none{F:Mut}{ba bt bp:Nat}{L:List (Nat × Obj)}:∀x,TM F ba bt bp [] x->TM F ba bt bp L x:=fun x h=>by
 rcases h with h|h|h|h|h
 .exact .inl h
 .exact .inr (.inl h)
 .exact .inr (.inr (.inl h))
 .exact .inr (.inr (.inr (.inl h)))
 .cases h
theorem Fr.born{w0 w:World}{bt bd bp ba fr bc:Nat}{c:Ch}{F Z:Mut}{L Y:List (Nat × Obj)}(T:Tx w0 bt bd bp ba fr c.A c.P F [])(hZ:∀x,Z x->x<w0.heap.size)(H:Ctx w0 [] w (L++Y))(hex:∃ta tc tf ga gc gf,L=CL bt bc ta c.tk.length tc tf ga c.gn.length gc gf/\OS ta c.tk.length tc 1 tf (c.tk.map pv)/\OS ga c.gn.length gc 1 gf (c.gn.map pv)):Fr w0 Z (TM F ba bt bp []) w bt bd bp ba fr bc c F L Y:=by
 have hnd:=qca.1 H.nd;have hlt0:∀x,TM F ba bt bp [] x->x<w0.heap.size:=T.mlt;have hyo:∀y∈L++Y,w0.heap.size<=y.1:=fun y hy=>(H.own y hy).elim (fun h=>by cases h) id;obtain⟨T1,g1⟩:=T.own (H.sub (L':=L) (fun x h=>qa5 _ h) hnd.1);refine⟨⟨T1,hex⟩,⟨fun y hy=>H.blk y (qax _ hy),hnd.2.1,fun y hy h=>?_⟩,g1,⟨.of0 H.ext,fun x h=>?_⟩,fun y hy=>?_,H.ext.size,hZ⟩
 .have h5:=hyo y (qax _ hy)
  rcases h with h|h
  .by_cases h6:y.1∈L.map (·.1)
   .obtain⟨x,hx,he⟩:=qah.1 h6;exact hnd.2.2 x hx y hy he
   .have:TM F ba bt bp [] y.1:=by
     rcases h with h|h|h|h|h
     .exact .inl h
     .exact .inr (.inl h)
     .exact .inr (.inr (.inl h))
     .exact .inr (.inr (.inr (.inl h)))
     .exact absurd h h6
    have:=hlt0 _ this;omega
  .have:=hZ _ h;omega
 .rcases h with(h|h)|h
  .by_cases h6:x∈L.map (·.1)
   .obtain⟨y,hy,rfl⟩:=qah.1 h6;exact .inr (hyo y (qa5 _ hy))
   .left;left
    rcases h with h|h|h|h|h
    .exact .inl h
    .exact .inr (.inl h)
    .exact .inr (.inr (.inl h))
    .exact .inr (.inr (.inr (.inl h)))
    .exact absurd h h6
  .exact .inl (.inr h)
  .obtain⟨y,hy,rfl⟩:=qah.1 h;exact .inr (hyo y (qax _ hy))
 .obtain⟨z,hz,rfl⟩:=qah.1 hy;exact hyo z (qax _ hz)
theorem SY{w:World}{bt bd bp ba fr bc:Nat}{c:Ch}{F:Mut}{L:List (Nat × Obj)}(X:Cx w bt bd bp ba fr bc c F L){b10 b9 t1 t2:Nat}{e:Int}{l1 l2:List Value}(h10:w.heap[b10]?=some (Bl t1 (ptr bc::l1)))(h9:w.heap[b9]?=some (Bl t2 (.int .i64 e::l2)))(hgn:c.gn.length<=1000000)(htk:c.tk.length<=1000000:=by omega):
  Agi prog 175 #[ptr b10,ptr b9] w fun w'=>Cx w' bt bd bp ba fr bc (DI c e) F L/\Grown (TM F ba bt bp L) (TM F ba bt bp L) w w':=by
 obtain⟨w0,rfl,H⟩:=qE w;refine Us (fn:=f175) func175 U [.pointer (some ⟨b10,0,none⟩),.pointer (some ⟨b9,0,none⟩)] U ?_;refine Au (Bd RN U ((by rw[Aq h10];rfl)) ?_);refine Bd EY U ((by rw[Aq h9];rfl)) ?_;refine Aj qB (XD X e htk hgn) U ?_;rintro v w2 ⟨rfl,X2,g2⟩;refine Ab (HC U U ?_);exact⟨X2,g2⟩
theorem Ajc{fr:Nat}{A:Dev}{P:List Nat}{root:Int}{key:Byt}{G:List It->List It}{ed:Int × Ch × Bool × List It}(hed:ed=if root = -1 then(0,⟨A,P,[],[]⟩,false,G [])else CO fr G key 18 ⟨A,P,[],[]⟩ root.toNat 0) :
  DE fr A P root key G=if ed.1≠0 then(ed.1,root,DI ed.2.1 ed.1)else if(Ee fr ed.2.1 ed.2.2.1 ed.2.2.2).1≠0 then((Ee fr ed.2.1 ed.2.2.1 ed.2.2.2).1,root,DI (Ee fr ed.2.1 ed.2.2.1 ed.2.2.2).2.1 (Ee fr ed.2.1 ed.2.2.1 ed.2.2.2).1)
   else(0,(Ee fr ed.2.1 ed.2.2.1 ed.2.2.2).2.2,DI (Ee fr ed.2.1 ed.2.2.1 ed.2.2.2).2.1 0):=by
 unfold DE;rw[hed]
theorem Ajd{fr:Nat}{c:Ch}{i:Bool}{M:List It}:(Ee fr c i M).2.1.tk.length<=c.tk.length+3/\(Ee fr c i M).2.1.gn=c.gn:=by
 obtain⟨q1,q2,-,-⟩:=Lq (fr:=fr) (c:=c) (i:=i) (M:=M) (m:=0);unfold Ee
 split
 .exact⟨qcp _ _,rfl⟩
 .split
  .exact⟨by dsimp only;omega,q2⟩
  .split
   .exact⟨by dsimp only;omega,q2⟩
   .split
    .have h1:=SR (fr:=fr) (c:=(Fc fr c i M).2.1) (inner:=true) (M:=(Fc fr c i M).2.2);exact⟨by dsimp only;omega,wrC_gn.trans q2⟩
    .exact⟨by dsimp only;omega,q2⟩
structure US where
 i:Bool
 a:Option Addr
 n:Nat
 c:Nat
 M:List It
 ch:Ch
 F:Mut
 L:List (Nat × Obj)
theorem XG{f:Nat}{cl:List Value}{G:List It->List It}{key:Byt}{fr:Nat}(hf:Ax prog f=true)(hfr:fr<=5000)(hkl:key.length<=100000){w:World}{bt bd bp ba:Nat}{A:Dev}{P:List Nat}{F:Mut}(T:Tx w bt bd bp ba fr A P F [])(root:Int)(hr1 : -1<=root)(hr2:root<=4294967296)(Z:Mut)(hZ:∀x,Z x->x<w.heap.size)(D:DoOk f cl G w (MZ (TM F ba bt bp []) Z))(ka:Option Addr)(kc:Nat)(Rk:Rdx w (MZ (TM F ba bt bp []) Z) ka key){mx:Nat}(hfew:Few A mx)(hmx:mx<=800000000)(hok:(DE fr A P root key G).1≠99) :
  Ret prog 144 #[ptr bt,.int .i64 root,.slice ka key.length kc,.func (.func f) #[] cl.toArray] w fun v w'=>∃F',v=.tuple #[.int .i64 (DE fr A P root key G).2.1,.int .i64 (DE fr A P root key G).1]/\Tx w' bt bd bp ba fr (DE fr A P root key G).2.2.A (DE fr A P root key G).2.2.P F' []/\Grown (TM F ba bt bp []) (TM F' ba bt bp []) w w':=by
 obtain⟨w0,rfl⟩:=qD w;obtain⟨ed,hed⟩:=qD (if root = -1 then(0,⟨A,P,[],[]⟩,false,G [])else CO fr G key 18 ⟨A,P,[],[]⟩ root.toNat 0:Int × Ch × Bool × List It);have htc:=Ajc hed;obtain⟨tc,htc2⟩:=qD (DE fr A P root key G);rw[<-htc2]at htc hok |-;have H:=Ctx.start w0 [];refine Ut (fn:=f144) func144 U [.pointer (some ⟨bt,0,none⟩),.int .i64 root,.slice ka key.length kc,.func (.func f) #[] cl.toArray] U ?_;refine Ad (Ac U (Bi WW H ?_));rintro b9 w - H;refine qA (Ad (An U (B5 [ptr bt,.slice none 0 0,.slice none 0 0] Ahm Ahs ?_)));refine Cu [ptr bt,.slice none 0 0,.slice none 0 0] (.agg _) U U H ?_;rintro bc w - H;refine Bi Ahr H ?_;rintro b10 w - H;refine Bf (.pointer _) Aho U U U H at0 (by decide) ?_;rintro w H;refine qA (Ad (CG [.pointer _,.pointer _] U (WI U U ?_)))
 refine qA (Ad (B5 [.bool false,.slice none 0 0] Hd Co ?_));refine Bi Co H ?_;rintro b11 w - H;refine Bo Bg U U U (by simp[Bh]) H at0 U ?_;rintro w H;refine qA (Ar (Ad (Ae U (BA U U (qA ?_)))));have E1:Fr w0 Z (TM F ba bt bp []) w bt bd bp ba fr bc ⟨A,P,[],[]⟩ F [(bc,Bl TC [ptr bt,.slice none 0 0,.slice none 0 0])] [(b11,NBl false none 0 0),(b10,Bl 186 [ptr bc]),(b9,Bl 28 [.int .i64 0])]:=Fr.born T hZ (H.perm (List.perm_middle (l₁:=[_,_]) (l₂:=[_]))) ⟨none,0,[],none,0,[],rfl,OS.nil,OS.nil⟩;replace H:=E1.O.ctx
 have hb:ed.2.1.tk.length<=36/\ed.2.1.gn.length<=36/\Few ed.2.1.A (mx+36):=by
  rw[hed]
  split
  .exact⟨qak _,qak _,hfew.mono (by omega)⟩
  .obtain⟨x1,x2,x3⟩:=Mo (fr:=fr) (G:=G) (key:=key) (m:=mx) (n:=18) (c:=⟨A,P,[],[]⟩) (p:=root.toNat) (d:=0);exact⟨by simpa using x1,by simpa using x2,x3 hfew⟩
 refine Gn 17179345152 (α:=US) (fun _=>[]) (fun s w'=>Fr w0 Z (TM F ba bt bp []) w' bt bd bp ba fr bc s.ch s.F s.L [(b11,NBl s.i s.a s.n s.c),(b10,Bl 186 [ptr bc]),(b9,Bl 28 [.int .i64 0])]/\Its w' (MY (MZ (TM s.F ba bt bp s.L) Z) [(b11,NBl s.i s.a s.n s.c),(b10,Bl 186 [ptr bc]),(b9,Bl 28 [.int .i64 0])]) s.a s.n s.c s.M/\ed=(0,s.ch,s.i,s.M)) U ?_ ?_
 .skip
  refine Av _ U ?_ ?_
  .intro hA;replace hA:=AR hA;rw[if_pos hA]at hed;refine Au (DY U (.func _ _ _) U ?_);refine KP U U hf (D _ _ E1.GA E1.mylt none 0 0 [] Its.nil (by omega)) U ?_;rintro v w4 ⟨a4,c4,rfl,I4,hx4⟩;obtain⟨E4,-⟩:=E1.call0 hx4;replace H:=E4.O.ctx;refine Af Br U (Bf (.slice _ _ _) CP U U U H at0 (by decide) ?_);rintro w H;refine qA ?_;obtain⟨E5,g5⟩:=E4.own H;exact⟨⟨false,a4,(G []).length,c4,G [],⟨A,P,[],[]⟩,F,_⟩,rfl,trivial,E5,I4.turn g5,hed⟩
  .intro hA;replace hA:=AU hA;obtain⟨p,rfl⟩:∃p:Nat,root=(p:Int):=⟨root.toNat,by omega⟩;rw[if_neg hA,qbp]at hed;have hed':ed=CO fr G key (17+1) ⟨A,P,[],[]⟩ p 0:=hed;have hok5:ed.1≠99:=fun h=>hok (by rw[htc,if_pos (by rw[h];decide)];exact h);refine Ad (AH RN U H at1 U (Ae U (Ah U (DY U (.func _ _ _) U ?_))));refine Aj qB (XF hf hfr hkl 17 E1.X (by simp) (by simp) p 0 (by omega) (by omega) (MY Z _) E1.zlt (D.keep (E1.GA.weak MYZ)) ka kc ((Rk.turn E1.GA).weak MYZ) mx hfew (by omega) (by rw[<-hed'];exact hok5)) U ?_;rintro v w5 ⟨kin,k5,n5,c5,F5,L5,rfl,X5,g5,hk5⟩;rw[<-hed']at X5 hk5;rw[<-hed'];obtain⟨E5,gg5⟩:=E1.call X5 g5;replace H:=E5.O.ctx;refine AW U (Ai U U (Ai U U (Bo Bg U U U (by simp[Bh]) H at0 U ?_)));rintro w H;refine Bf (.int _ _) FZ U U U H at2 (by decide) ?_;rintro w H
   refine qA (Ad (AH EY U H at2 U (Be U U (qA (Av _ U ?_ ?_)))))
   .intro hB;replace hB:=Bv hB;rw[if_pos hB]at htc;refine Af1 3 mixed U U (DK U (Aau U EY U (by rintro _ rfl;exact H.drew) at2 U ?_));refine EO U (Js ?_);replace H:=H.drew;refine Bf (.int _ _) FZ U U U H at2 (by(simp;done)) ?_;rintro w H;refine qA (A6 (Ao ?_));obtain⟨E6,-⟩:=E5.own H;refine RG U qB _ (SY E6.X (H.get at1) (H.get at2) (by omega)) (fun w7 hK tmps ht=>?_);exact⟨_,PU U ht U U EY ((E6.O.call (hK.2.or Z)).1.blk (b9,_) (qad (i:=2) U)),F5,by rw[htc];rfl,by rw[htc];exact hK.1.T.none,(E6.GT.trans hK.2).weak TM.none⟩
   .intro hB;replace hB:=Bw hB;have hB':ed.1=0:=by simpa using hB
    rw[hB']at H;obtain⟨rfl,K5⟩:=hk5 hB';refine Ap (Aa ?_);obtain⟨E6,g6⟩:=E5.own H;exact⟨⟨ed.2.2.1,k5,n5,c5,ed.2.2.2,ed.2.1,F5,L5⟩,rfl,trivial,E6,(K5.weak Ad8).turn g6,Prod.ext hB' rfl⟩
 .rintro⟨si,sa,sn,scc,sM,sch,sF,sL⟩ j18 w ⟨E8,I8,hed8⟩;dsimp only at E8 I8 hed8;rw[hed8]at htc hb;dsimp only at htc hb;rw[if_neg (by simp)]at htc;obtain⟨q,hq⟩:=qD (Ee fr sch si sM);rw[<-hq]at htc;have hokq:q.1≠99:=fun h=>hok (by rw[htc,if_pos (by rw[h];decide)];exact h);obtain⟨tb1,tb2⟩:=Ajd (fr:=fr) (c:=sch) (i:=si) (M:=sM);rw[<-hq]at tb1 tb2;have H:=E8.O.ctx;refine Ad (AH RN U H at1 U (BO BQ Bg U H at0 U (Aj qB (Al4 E8.X hfr si (MY Z _) E8.zlt (I8.weak MYZ) hb.2.2 (by rw[<-hq];exact hokq)) U ?_)));rintro v w9 ⟨tp,F9,L9,rfl,X9,g9,hp9⟩;rw[<-hq]at X9 hp9;rw[<-hq];obtain⟨E9,gg9⟩:=E8.call X9 g9;replace H:=E9.O.ctx;refine AW U (Ai U U (Ai U U (Ac U (Bf (.int _ _) FZ U U U H at2 (by decide) ?_))));rintro w H;refine qA (Ar (Ad (AH EY U H at2 U (Be U U (qA (Av _ U ?_ ?_))))))
  .intro hC;replace hC:=Bv hC;rw[if_pos hC]at htc;refine Af1 3 mixed U U (DK U (Aau U EY U (by rintro _ rfl;exact H.drew) at2 U ?_));refine EO U (Js ?_);replace H:=H.drew;refine Bf (.int _ _) FZ U U U H at2 (by(simp;done)) ?_;rintro w H;refine qA (A6 (Ao ?_));obtain⟨E10,-⟩:=E9.own H;refine RG U qB _ (SY E10.X (H.get at1) (H.get at2) (by rw[tb2];omega)) (fun w7 hK tmps ht=>?_);exact⟨_,PU U ht U U EY ((E10.O.call (hK.2.or Z)).1.blk (b9,_) (qad (i:=2) U)),F9,by rw[htc];rfl,by rw[htc];exact hK.1.T.none,(E10.GT.trans hK.2).weak TM.none⟩
  .intro hC;replace hC:=Bw hC;rw[if_neg (by simpa using hC)]at htc;have hC':q.1=0:=by simpa using hC
   have hp9':=hp9 hC';refine Ap (Aa (Ad (Ae U (Ac U (Bf (.int _ _) FZ U U U H at2 (by(simp;done)) ?_)))));rintro w H;refine qA (A6 ?_);obtain⟨E10,-⟩:=E9.own H;refine RG U qB _ (SY E10.X (H.get at1) (H.get at2) (by rw[tb2];omega)) (fun w7 hK tmps ht=>?_);exact⟨_,PU U ht U U EY ((E10.O.call (hK.2.or Z)).1.blk (b9,_) (qad (i:=2) U)),F9,by rw[htc];show Value.tuple #[.int .i64 tp,.int .i64 0]=.tuple #[.int .i64 q.2.2,.int .i64 0];rw[hp9'],by rw[htc];exact hK.1.T.none,(E10.GT.trans hK.2).weak TM.none⟩
theorem UP{w:World}{M:Mut}{a:Option Addr}{n c k m b:Nat}{l q:List It}(I:Its w M a n c l)(Q:Its w M (some ⟨b,0,none⟩) 1 1 q)(h1:(l.take k).length=k)(h2:(l.drop m).length=n - m)(hk:k<=n:=by omega)(hm:m<=n:=by omega):
  ∀x∈([(a,l.take k,c),(some ⟨b,0,none⟩,q,1),(EH a c m 3,l.drop m,c - m)]:List SI),Its w M x.1 x.2.1.length x.2.2 x.2.1:=by
 intro x hx;simp only[qac,qam,or_false]at hx
 rcases hx with rfl|rfl|rfl
 .show Its w M a (l.take k).length c (l.take k);rw[h1];exact I.take hk
 .show Its w M _ q.length _ q;rw[<-Q.num];exact Q
 .show Its w M _ (l.drop m).length _ (l.drop m);rw[h2];exact I.drop hm
theorem Aec{w:World}{M:Mut}{a:Option Addr}{n c k m:Nat}{l:List It}(I:Its w M a n c l)(h1:(l.take k).length=k)(h2:(l.drop m).length=n - m)(hk:k<=n:=by omega)(hm:m<=n:=by omega):
  ∀x∈([(a,l.take k,c),(EH a c m 3,l.drop m,c - m)]:List SI),Its w M x.1 x.2.1.length x.2.2 x.2.1:=by
 intro x hx;simp only[qac,qam,or_false]at hx
 rcases hx with rfl|rfl
 .show Its w M a (l.take k).length c (l.take k);rw[h1];exact I.take hk
 .show Its w M _ (l.drop m).length _ (l.drop m);rw[h2];exact I.drop hm
theorem Ab4{w0 w:World}{M:Mut}(hM:∀x,M x->x<w0.heap.size){b t:Nat}{ka va:Option Addr}{kc vc:Nat}{key val:Byt}(hb:w.heap[b]?=some (Bl t [.slice ka key.length kc,.slice va val.length vc,.int .i64 0]))(hn:w0.heap.size<=b)(Rk:Rdx w M ka key)(Rv:Rdx w M va val)(hkc:key.length<=kc)(hvc:val.length<=vc):Its w M (some ⟨b,0,none⟩) 1 1 [⟨key,val,0⟩]:=by
 refine⟨⟨[⟨ka,kc,va,vc,⟨key,val,0⟩⟩],Rd.of_bl (r:=[]) hb U (fun _ _=>rfl),.inr fun h=>?_,rfl,fun m hm=>?_⟩,rfl,qae _⟩
 .have:=hM _ h;dsimp only[adr]at this;omega
 .rw[qaa.1 hm];exact⟨Rk,Rv,hkc,hvc⟩
theorem Aje{w:World}{M:Mut}(hM:∀x,M x->x<w.heap.size){b6 b7 t6 t7:Nat}{ka va:Option Addr}{kc vc:Nat}{key val:Byt}{l6 l7:List Value}(h6:w.heap[b6]?=some (Bl t6 (.slice ka key.length kc::l6)))(h7:w.heap[b7]?=some (Bl t7 (.slice va val.length vc::l7)))(Rk:Rdx w M ka key)(Rv:Rdx w M va val)(hkc:key.length<=kc)(hvc:val.length<=vc){a:Option Addr}{n c:Nat}{l:List It}(I:Its w M a n c l)(hn:n<=100000) :
  Ret prog 145 #[.slice a n c,ptr b6,ptr b7] w fun v w'=>∃a' c',v=.slice a' (Lp key val l).length c'/\Its w' M a' (Lp key val l).length c' (Lp key val l)/\Ext [] w w':=by
 obtain⟨w0,rfl⟩:=qD w;have hnum:=I.num;have hcap:=I.le;have hpl:=Pp l key;obtain⟨k,hk⟩:=qD (CK l key);obtain⟨kb,hkb⟩:=qD (Fw l key);have k6:∀{z:World},Ext [] w0 z->z.heap[b6]?=some (Bl t6 (.slice ka key.length kc::l6)):=fun{z} h=>by rw[h.block b6 (Al h6) (by simp)];exact h6
 have k7:∀{z:World},Ext [] w0 z->z.heap[b7]?=some (Bl t7 (.slice va val.length vc::l7)):=fun{z} h=>by rw[h.block b7 (Al h7) (by simp)];exact h7
 have hins:Lp key val l=if kb=true then l.take k++([⟨key,val,0⟩]++l.drop (k+1))else l.take k++([⟨key,val,0⟩]++l.drop k):=by unfold Lp;rw[hkb,hk]
 obtain⟨il,hil⟩:=qD (Lp key val l);rw[<-hil]at hins |-;have H:=Ctx.start w0 [];refine A8 (fn:=f145) func145 U [.slice a n c,.pointer (some ⟨b6,0,none⟩),.pointer (some ⟨b7,0,none⟩)] U ?_;refine Ad (Ak U (qA (Ad (Ah U (Bd B1 U ((by rw[Aq h6];rfl)) ?_)))));refine Aj qB (SC I ka kc _ key Rk.1 U) U ?_;rintro v w1 ⟨rfl,hx1⟩;rw[<-hk,<-hkb];have H:=Ctx.start w1 [];refine AW U (Ai U U (Ai U U (Ac U (Am U (qA (Ar (Ad (AF U (qA ?_)))))))));refine Av _ U ?_ ?_
 .intro hA
  have hlt:k<n:=by
   rw[hkb]at hA;obtain⟨x,hx,-⟩:=Nk hA;have:=(qap.1 hx).1;omega
  rw[if_pos hA]at hins;refine BV [([0,1,2,3,4,5,7,8,9,10],6),([],11),([],12),([],13)] (fun z=>Ext [] w1 z) [] mixed (Ext.drew [] w1) (AD U U ?_);refine B9 U (B0 U (Hr U Bu Bn U U ?_));refine BC B1 U (fun _ hx=>(by rw[Aq (k6 (hx1.trans hx))];rfl)) ?_;refine BC B1 U (fun _ hx=>(by rw[Aq (k7 (hx1.trans hx))];rfl)) ?_;refine EP [.slice ka key.length kc,.slice va val.length vc,.int .i64 0] MX C2 (B9 U (B0 U (Fl U U ?_)));refine Gq Bu Bn U U (AV ?_);replace H:=H.drew;refine BI [.slice ka key.length kc,.slice va val.length vc,.int .i64 0] (.agg _) Bu Bn C2 U U U U H ?_;rintro b20 w2 hb20 H;refine Ab (Bb (H.ext) (AD U U ?_))
  refine AV (Cc [.slice a k c,.slice (some ⟨b20,0,none⟩) 1 1,.slice (EH a c (k+1) 3) (n - (k+1)) (c - (k+1))] IU CP Na H ?_);rintro b25 w3 - H;refine Ab (Bb (H.ext) (AD U U ?_));refine AV ?_;have hx3:=hx1.trans H.ext;have I3:=I.call hx3;have hlt9:(l.take k).length=k:=(by rw[qa0];omega);have hld9:(l.drop (k+1)).length=n - (k+1):=(by rw[qbg];omega);have Q3:=Ab4 hM (H.get at1) ((H.own _ (qaj _ (qaf ..))).elim (fun h=>by cases h) fun h=>qaw hx1.size h) (Rk.call hx3) (Rv.call hx3) hkc hvc;have RR:Rd w3 (some ⟨b25,0,none⟩) 1 Ob [(a,l.take k,c),(some ⟨b20,0,none⟩,[⟨key,val,0⟩],1),(EH a c (k+1) 3,l.drop (k+1),c - (k+1))]:=Rd.of_bl (r:=[]) (H.get at0) (by simp[Ob,hlt9,hld9]) (fun _ _=>rfl)
  have CC:=Gw (M:=M) (n:=3) (c:=3) (fun x h=>qau (hM x h) hx3.size) _ RR (UP I3 Q3 hlt9 hld9) rfl (by simp only[qaz,qbo,qc5,qde,qbu];omega);rw[show([(a,l.take k,c),(some ⟨b20,0,none⟩,[⟨key,val,0⟩],1),(EH a c (k+1) 3,l.drop (k+1),c - (k+1))]:List SI).flatMap (fun x=>x.2.1)=il by rw[hins];simp]at CC;refine Aj qB CC U ?_;rintro v w4 ⟨a4,c4,rfl,J4,hx4⟩;have hx14:=H.ext.trans hx4;refine Ab (Bb (hx14) (AD U U ?_));refine AV (Ak U (Ab (Bb (hx14) (B4 (A6 (Ao (AG (v:=(.slice _ _ _)) U U U ?_)))))));exact⟨a4,c4,rfl,J4,hx1.trans hx14⟩
 .intro hA;rw[if_neg (by rw[hA];simp)]at hins;refine Ap (Aa (BV [([0,1,2,3,4,5,7,8,9],6),([],10),([],11),([],12)] (fun z=>Ext [] w1 z) [] mixed (Ext.drew [] w1) ?_));refine AD U U (B9 U (B0 U (Hr U Bu Bn U U ?_)));refine BC B1 U (fun _ hx=>(by rw[Aq (k6 (hx1.trans hx))];rfl)) ?_;refine BC B1 U (fun _ hx=>(by rw[Aq (k7 (hx1.trans hx))];rfl)) ?_;refine EP [.slice ka key.length kc,.slice va val.length vc,.int .i64 0] MX C2 (B9 U (B0 U (Gq Bu Bn U U ?_)));refine AV ?_;replace H:=H.drew;refine BI [.slice ka key.length kc,.slice va val.length vc,.int .i64 0] (.agg _) Bu Bn C2 U U U U H ?_;rintro b20 w2 hb20 H;refine Ab (Bb (H.ext) (AD U U ?_))
  refine AV (Cc [.slice a k c,.slice (some ⟨b20,0,none⟩) 1 1,.slice (EH a c k 3) (n - k) (c - k)] IU CP Na H ?_);rintro b25 w3 - H;refine Ab (Bb (H.ext) (AD U U ?_));refine AV ?_;have hx3:=hx1.trans H.ext;have I3:=I.call hx3;have hlt9:(l.take k).length=k:=(by rw[qa0];omega);have hld9:(l.drop k).length=n - k:=(by rw[qbg];omega);have Q3:=Ab4 hM (H.get at1) ((H.own _ (qaj _ (qaf ..))).elim (fun h=>by cases h) fun h=>qaw hx1.size h) (Rk.call hx3) (Rv.call hx3) hkc hvc;have RR:Rd w3 (some ⟨b25,0,none⟩) 1 Ob [(a,l.take k,c),(some ⟨b20,0,none⟩,[⟨key,val,0⟩],1),(EH a c k 3,l.drop k,c - k)]:=Rd.of_bl (r:=[]) (H.get at0) (by simp[Ob,hlt9,hld9]) (fun _ _=>rfl)
  have CC:=Gw (M:=M) (n:=3) (c:=3) (fun x h=>qau (hM x h) hx3.size) _ RR (UP I3 Q3 hlt9 hld9) rfl (by simp only[qaz,qbo,qc5,qde,qbu];omega);rw[show([(a,l.take k,c),(some ⟨b20,0,none⟩,[⟨key,val,0⟩],1),(EH a c k 3,l.drop k,c - k)]:List SI).flatMap (fun x=>x.2.1)=il by rw[hins];simp]at CC;refine Aj qB CC U ?_;rintro v w4 ⟨a4,c4,rfl,J4,hx4⟩;have hx14:=H.ext.trans hx4;refine Ab (Bb (hx14) (AD U U ?_));refine AV (Ak U (Ab (Bb (hx14) (B4 (A6 (AG (v:=(.slice _ _ _)) U U U ?_))))));exact⟨a4,c4,rfl,J4,hx1.trans hx14⟩
theorem Ajf{w:World}{M:Mut}(hM:∀x,M x->x<w.heap.size){b5 t5:Nat}{ka:Option Addr}{kc:Nat}{key:Byt}{l5:List Value}(h5:w.heap[b5]?=some (Bl t5 (.slice ka key.length kc::l5)))(Rk:Rdx w M ka key){a:Option Addr}{n c:Nat}{l:List It}(I:Its w M a n c l)(hn:n<=100000) :
  Ret prog 149 #[.slice a n c,ptr b5] w fun v w'=>∃a' c',v=.slice a' (KG key l).length c'/\Its w' M a' (KG key l).length c' (KG key l)/\Ext [] w w':=by
 obtain⟨w0,rfl⟩:=qD w;have hnum:=I.num;have hcap:=I.le;have hpl:=Pp l key;obtain⟨k,hk⟩:=qD (CK l key);obtain⟨kb,hkb⟩:=qD (Fw l key);have hins:KG key l=if kb=true then l.take k++l.drop (k+1)else l:=by unfold KG;rw[hkb,hk]
 obtain⟨il,hil⟩:=qD (KG key l);rw[<-hil]at hins |-;have H:=Ctx.start w0 [];refine A8 (fn:=f149) func149 U [.slice a n c,.pointer (some ⟨b5,0,none⟩)] U ?_;refine Ad (Ak U (qA (Ad (Ah U (Bd B1 U ((by rw[Aq h5];rfl)) ?_)))));refine Aj qB (SC I ka kc _ key Rk.1 U) U ?_;rintro v w1 ⟨rfl,hx1⟩;rw[<-hk,<-hkb];have H:=Ctx.start w1 [];refine AW U (Ai U U (Ai U U (Ac U (Am U (qA (Ar (Ad (AF U (Cl U ?_)))))))));refine qA (Av _ U ?_ ?_)
 .intro hA;replace hA:=C8 hA;rw[if_neg (by rw[hA];simp)]at hins;refine Ad (Ah U (Ak U (qA (A6 (Ao (AG (v:=(.slice _ _ _)) U U U ?_))))));rw[hins,<-hnum];exact⟨a,c,rfl,I.call hx1,hx1⟩
 .intro hA;replace hA:=CA hA
  have hlt:k<n:=by
   rw[hkb]at hA;obtain⟨x,hx,-⟩:=Nk hA;have:=(qap.1 hx).1;omega
  rw[if_pos hA]at hins;refine Ap (Aa (BV [([0,1,2,3,4,5,6],7),([],8),([],9)] (fun z=>Ext [] w1 z) [] mixed (Ext.drew [] w1) ?_));refine AD U U (B9 U (B0 U (Hr U Bu Bn U U ?_)));refine B9 U (B0 U (Fl U U ?_));refine Gq Bu Bn U U (AV ?_);replace H:=H.drew;refine Cc [.slice a k c,.slice (EH a c (k+1) 3) (n - (k+1)) (c - (k+1))] IU CP Na H ?_;rintro b25 w3 - H;refine Ab (Bb (H.ext) (AD U U ?_));refine AV ?_;have hx3:=hx1.trans H.ext;have I3:=I.call hx3;have hlt9:(l.take k).length=k:=(by rw[qa0];omega);have hld9:(l.drop (k+1)).length=n - (k+1):=(by rw[qbg];omega)
  have RR:Rd w3 (some ⟨b25,0,none⟩) 1 Ob [(a,l.take k,c),(EH a c (k+1) 3,l.drop (k+1),c - (k+1))]:=Rd.of_bl (r:=[]) (H.get at0) (by simp[Ob,hlt9,hld9]) (fun _ _=>rfl);have CC:=Gw (M:=M) (n:=2) (c:=2) (fun x h=>qau (hM x h) hx3.size) _ RR (Aec I3 hlt9 hld9) rfl (by simp only[qaz,qbo,qc5,qde];omega);rw[show([(a,l.take k,c),(EH a c (k+1) 3,l.drop (k+1),c - (k+1))]:List SI).flatMap (fun x=>x.2.1)=il by rw[hins];simp]at CC;refine Aj qB CC U ?_;rintro v w4 ⟨a4,c4,rfl,J4,hx4⟩;have hx14:=H.ext.trans hx4;refine Ab (Bb (hx14) (AD U U ?_));refine AV (Ak U (Ab (Bb (hx14) (B4 (A6 (AG (v:=(.slice _ _ _)) U U U ?_))))));exact⟨a4,c4,rfl,J4,hx1.trans hx14⟩
end Go.Proofs.YtcpgbcabmcbclaaGreatDoor
