/- Part 13 of the proof. -/
import Derived.Test.YtffclglpjlcojaaGreatPart12
set_option maxRecDepth 20000
set_option maxHeartbeats 4000000
namespace Go.Proofs.YtffclglpjlcojaaGreat
open Go.GV Go.Proofs.Tryz
attribute [local irreducible] A7 W Wq Wt
theorem Ny{α:Type}{enc:α->List Value}{s:Nat}{t:TypeId}{xs:List α}{w w':World}{v:Value}(F:Fresh w w' t s v (xs.flatMap enc))(hs:∀x∈xs,(enc x).length=s)(h0:0<s:=by decide):∃a c,v=.slice a xs.length c/\Rd w' a s enc xs/\(xs≠[]->w.heap.size<=(adr a).block)/\xs.length<=c/\Ext [] w w':=by
 obtain⟨a,n,c,f,rfl,O,hb⟩:=F.ex;obtain rfl:=O.numN hs h0;refine⟨a,c,rfl,OS.rd O (fun x hx=>(hb x hx).1) hs h0,fun hne=>?_,O.le,F.ext⟩;obtain⟨q,rfl⟩:=O.form (qb2.2 hne);exact(hb (q,Bl t f) (qab.2 U)).2
theorem Ahz(l:List Int):∀v∈l.map GM,AY v=true:=fun v hv=>by
 obtain⟨x,_,rfl⟩:=qah.1 hv;rfl
theorem Ab3(a:Option Addr)(n c:Nat)(xs:List Int)(w:World)(R:Rd w a 1 U1 xs)(hn:xs.length=n)(hm:n<=1000000000:=by omega):
  Ret prog 129 #[.slice a n c] w fun v w'=>Fresh w w' 23 1 v (xs.map GM):=by
 subst hn;obtain⟨w0,rfl,H⟩:=qE w;refine Au (fn:=f129) func129 U [.slice a xs.length c] U (Ae (Am U (qA (Ax (Ae (Ap U (Ih U Bh U (qA (Aw _ U ?_ ?_)))))))))
 .intro h1;have ha:a=none:=by simpa using h1
  subst ha
  have hxs:xs=[]:=by
   cases xs with
   |nil=>rfl
   |cons x xs=>obtain⟨b,o,h⟩:=R.some' (by simp);cases h
  subst hxs;refine Ae (Am U (qA (A5 (Av (AB (v:=(.slice _ _ _)) U U U ?_)))));exact Fresh.nil H _ _
 .intro h1;refine Ay (Aa (Ae (GQ Bh Bq H ?_)));rintro b5 w H O;refine Ap U (GO U Bh Bh Bq Y0 Q2 U (xs.map GM) U U H O (by simp) (Ahz xs) (Rd.app1 (f:=GM) (R.ext0 H.ext)) ?_);rintro a7 c7 full7 w H O;refine Am U (qA (A5 (AB (v:=(.slice _ _ _)) U U U ?_)));exact H.fresh O
theorem Ab4(es:List Ed):(es.flatMap CO).length=es.length*4:=by
 induction es with
 |nil=>rfl
 |cons e es ih =>
  rw[qbz,qat,ih];show 4+es.length*4=(es.length+1)*4;omega
theorem Ab5(es:List Ed):∀v∈es.flatMap CO,AY v=true:=fun v hv=>by
 obtain⟨e,_,he⟩:=List.mem_flatMap.1 hv;simp only[CO,qai,qau,or_false]at he
 rcases he with rfl|rfl|rfl|rfl <;> rfl
theorem Ab6(a:Option Addr)(n c:Nat)(es:List Ed)(w:World)(R:Rd w a 4 CO es)(hn:es.length=n)(hm:n<=1000000000:=by omega):
  Ret prog 130 #[.slice a n c] w fun v w'=>Fresh w w' 158 4 v (es.flatMap CO):=by
 subst hn;obtain⟨w0,rfl,H⟩:=qE w;refine Au (fn:=f130) func130 U [.slice a es.length c] U (Ae (Am U (qA (Ax (Ae (Ap U (Ih U CF U (qA (Aw _ U ?_ ?_)))))))))
 .intro h1;have ha:a=none:=by simpa using h1
  subst ha
  have hxs:es=[]:=by
   cases es with
   |nil=>rfl
   |cons x xs=>obtain⟨b,o,h⟩:=R.some' (by simp);cases h
  subst hxs;refine Ae (Am U (qA (A5 (Av (AB (v:=(.slice _ _ _)) U U U ?_)))));exact Fresh.nil H _ _
 .intro h1;refine Ay (Aa (Ae (GQ CF CG H ?_)));rintro b5 w H O;refine Ap U (GO U CF CF CG Xj Gp U (es.flatMap CO) U U H O (Ab4 es) (Ab5 es) ((R.ext0 H.ext).app (fun _ _=>rfl) (by omega)) ?_);rintro a7 c7 full7 w H O;refine Am U (qA (A5 (AB (v:=(.slice _ _ _)) U U U ?_)));exact H.fresh O
theorem Ak1(r:Rnd)(q:RSl)(w:World)(RA:RAt w r q)(hr:RBnd r):Ret prog 101 #[.agg (B9 r q).toArray] w fun v w'=>v=.bool (Po r)/\Ext [] w w':=by
 obtain⟨w0,rfl,H⟩:=qE w;obtain⟨ck,hck⟩:=qD (FV r.N r.es r.fl r.pot);have hmr:Po r=(ck && (decide (r.ids.length<=64) && decide (0<=r.day))):=by unfold Po;rw[<-hck]
 refine Au (fn:=f101) func101 U [.agg (B9 r q).toArray] U (Ae (Bu (B9 r q) (.agg _) U U H ?_));rintro b1 w - H;refine Ai U (qA (Ae (Ah ED U (C9 _ CE Ct U U ((CX (b:=b1) (t:=127) (l:=B9 r q) (H.get at0) 4 [.int .i64 r.N,.slice q.aE r.es.length q.cE] U)) ?_))));refine Ah D6 U (C9 _ Qn KU U U ((CX (b:=b1) (t:=127) (l:=B9 r q) (H.get at0) 6 [.slice q.aF r.fl.length q.cF,.slice q.aP r.pot.length q.cP] U)) ?_);refine Al qB (Vz r.N q.aE q.aF q.aP _ q.cE _ q.cF _ q.cP r.es r.fl r.pot _ (RA.E.ext0 H.ext) U hr.N (RA.F.ext0 H.ext) U (by have:=hr.fl;omega) (RA.P.ext0 H.ext) U (by have:=hr.pot;omega)) U ?_;rintro v w ⟨rfl,hx14⟩;rw[<-hck];replace H:=H.call hx14;refine A2 U (AR 8 U ?_ ?_)
 .intro h1;refine Ah Ew U (AG FS U H at0 U (Be Bh U (N7 U U U (AA U (.bool _) U (A2 U (AR 14 U ?_ ?_))))))
  .intro h2;replace h2:=AM h2;refine Ah KP U (AG B4 U H at0 U (CM U U (AA U (.bool _) U (Ai U (qA (A5 (AB (v:=(.bool _)) U U U ?_)))))));exact⟨qaa Value.bool (by rw[hmr,qad];simp_all;try omega),H.ext⟩
  .intro h3;replace h3:=AN h3;refine Ag U (Ag U (Ag U (AJ U (.bool _) U (Ai U (qA (A5 (AB (v:=(.bool _)) U U U ?_)))))));exact⟨qaa Value.bool (by rw[hmr,qad];simp_all;try omega),H.ext⟩
 .intro h4;refine Ag U (Ag U (Ag U (Ag U (AJ U (.bool _) U (A2 U (Ag U (Ag U (Ag U (AJ U (.bool _) U ?_)))))))));refine Ai U (qA (A5 (AB (v:=(.bool _)) U U U ?_)));exact⟨qaa Value.bool (by rw[hmr,qad];simp_all;try omega),H.ext⟩
theorem U2(r:Rnd)(q:RSl)(w:World)(RA:RAt w r q)(hr:RBnd r):Ret prog 93 #[.agg (B9 r q).toArray] w fun v w'=>Ext [] w w'/\∃q',v=.agg (B9 r q').toArray/\RAt w' r q'/\ROff q' r (fun x=>x<w.heap.size):=by
 obtain⟨w0,rfl,H⟩:=qE w;have b1':=hr.ids;have b2':=hr.es;have b3':=hr.fl;have b4':=hr.pot;refine Au (fn:=f93) func93 U [.agg (B9 r q).toArray] U (Ae (Bu (B9 r q) (.agg _) U U H ?_));rintro b1 w - H;refine Bc FU H ?_;rintro b2 w - H;refine qA (Ck [([0,1,3,4,5],2),([7],6),([],8),([9,10],11)] (fun z=>z.heap[b1]?=some (Bl 127 (B9 r q))) [8,11] Br (H.drew.get at1) ?_);refine AD U U (Ao Ew U (B0 FS U (fun _ hx=>(by rw[Aj hx];rfl)) ?_));refine Ao ED U (Ao CL U (B0 DM U (fun _ hx=>(by rw[Aj hx];rfl)) ?_));refine AU ?_;replace H:=H.drew;refine Al qB (Ab3 _ _ _ r.ids _ (RA.I.ext0 H.ext) U) U ?_;rintro v w F;obtain⟨a5,n5,c5,f5,rfl,O5,hb5⟩:=F.ex;obtain rfl:=O5.num;replace H:Ctx w0 [] w ((b2,Bl 127 rnd0)::(b1,Bl 127 (B9 r q))::ent a5 23 f5):=H.callEnt F.ext hb5 Fu
 refine Ab (BH (H.get at1) (AD U U ?_));refine Ao Ew U (AU (Al qB (Ab6 _ _ _ r.es _ (RA.E.ext0 H.ext) U) U ?_));rintro v w F;obtain⟨a9,n9,c9,f9,rfl,O9,hb9⟩:=F.ex;obtain rfl:=O9.numN (fun _ _=>rfl) (by decide);replace H:Ctx w0 [] w ((b2,Bl 127 rnd0)::(b1,Bl 127 (B9 r q))::(ent a5 23 f5++ent a9 158 f9)):=H.callEnt F.ext hb9 Fu;refine Ab (BH (H.get at1) (AD U U ?_));refine AU (Cb (.slice _ _ _) Aem U U U H at1 (by(simp;done)) ?_);rintro w H;refine Ab (Bz U (AD U U ?_));refine Ao ED U (Ao CL U (AU (Cb (.slice _ _ _) Aen U U U H at1 (by(simp;done)) ?_)));rintro w H;refine Ab (Bz U (BF ?_))
 change Ctx w0 [] w ((b2,Bl 127 rnd0)::(b1,Bl 127 (B9 r ⟨a5,c5,a9,c9,q.aF,q.cF,q.aP,q.cP⟩))::(ent a5 23 f5++ent a9 158 f9))at H
 refine Ck [([0,1,2,4,5,6],3),([],7),([8,9],10)] (fun z=>z.heap[b1]?=some (Bl 127 (B9 r ⟨a5,c5,a9,c9,q.aF,q.cF,q.aP,q.cP⟩))) [10] Br (H.drew.get at1) ?_;refine AD U U (Ao D6 U (Ao Fe U (B0 BU U (fun _ hx=>(by rw[Aj hx];rfl)) ?_)));refine Ao D6 U (Ao FY U (B0 BU U (fun _ hx=>(by rw[Aj hx];rfl)) ?_));refine AU ?_;replace H:=H.drew;refine Al qB (NU _ _ _ r.fl _ (RA.F.ext0 H.ext) U) U ?_;rintro v w F;obtain⟨a6,n6,c6,f6,rfl,O6,hb6⟩:=F.ex;obtain rfl:=O6.num;replace H:Ctx w0 [] w ((b2,Bl 127 rnd0)::(b1,Bl 127 (B9 r ⟨a5,c5,a9,c9,q.aF,q.cF,q.aP,q.cP⟩))::(ent a5 23 f5++ent a9 158 f9++ent a6 2 f6)):=H.callEnt F.ext hb6 Fu;refine Ab (BH (H.get at1) (AD U U ?_));refine AU (Al qB (NU _ _ _ r.pot _ (RA.P.ext0 H.ext) U) U ?_);rintro v w F;obtain⟨a7,n7,c7,f7,rfl,O7,hb7⟩:=F.ex;obtain rfl:=O7.num
 replace H:Ctx w0 [] w ((b2,Bl 127 rnd0)::(b1,Bl 127 (B9 r ⟨a5,c5,a9,c9,q.aF,q.cF,q.aP,q.cP⟩))::(ent a5 23 f5++ent a9 158 f9++ent a6 2 f6++ent a7 2 f7)):=H.callEnt F.ext hb7 Fu;refine Ab (BH (H.get at1) (AD U U ?_));refine Qc [.slice a6 r.fl.length c6,.slice a7 r.pot.length c7] U Aei TU (Ao D6 U (AU (HX U KU U U U (by simp[AY]) H at1 (show 0+6+2<=8 by decide) ?_)));rintro w H;refine Ab (Bz U (BF ?_))
 change Ctx w0 [] w ((b2,Bl 127 rnd0)::(b1,Bl 127 (B9 r ⟨a5,c5,a9,c9,a6,c6,a7,c7⟩))::(ent a5 23 f5++ent a9 158 f9++ent a6 2 f6++ent a7 2 f7))at H
 refine Ae (Cg F1 Da U H at1 U (Bn Da U U U (by simp[AY]) H at0 U ?_));rintro w H;refine qA (A5 (JI U U U F1 Da H at0 U ?_));have hm:∀x,x∈ent a5 23 f5++ent a9 158 f9++ent a6 2 f6++ent a7 2 f7->w.heap[x.1]?=some x.2/\w0.heap.size<=x.1:=fun x hx=>⟨H.blk x (qaf [_,_] hx),(H.own x (qaf [_,_] hx)).elim (fun h=>by cases h) id⟩
 have hoff:∀{t:TypeId} {a:Option Addr} {n c s:Nat} {f l:List Value},OS a n c s f l->(∀x∈ent a t f,w0.heap.size<=x.1)->0<n->¬(adr a).block<w0.heap.size:=fun{t a n c s f l} O h hn=>by
  obtain⟨q,rfl⟩:=O.form hn;have:=h (q,Bl t f) (qab.2 rfl);exact Nat.not_lt.2 this
 have m5:∀x∈ent a5 23 f5,_:=fun x hx=>hm x (qao _ (qao _ (qao _ hx)));have m9:∀x∈ent a9 158 f9,_:=fun x hx=>hm x (qao _ (qao _ (qaf _ hx)));have m6:∀x∈ent a6 2 f6,_:=fun x hx=>hm x (qao _ (qaf _ hx));have m7:∀x∈ent a7 2 f7,_:=fun x hx=>hm x (qaf _ hx)
 exact⟨H.ext,⟨a5,c5,a9,c9,a6,c6,a7,c7⟩,rfl,⟨O5.rd1 fun x hx=>(m5 x hx).1,OS.rd O9 (fun x hx=>(m9 x hx).1) (fun _ _=>rfl) (by decide),O6.rd1 fun x hx=>(m6 x hx).1,O7.rd1 fun x hx=>(m7 x hx).1,O6.le⟩,
  ⟨fun h=>hoff O5 (fun x hx=>(m5 x hx).2) (qb2.2 h),fun h=>hoff O9 (fun x hx=>(m9 x hx).2) (qb2.2 h),fun h=>hoff O6 (fun x hx=>(m6 x hx).2) (qb2.2 h),fun h=>hoff O7 (fun x hx=>(m7 x hx).2) (qb2.2 h)⟩⟩
theorem U3:∀{vs l:List Value} {i j:Nat},i+vs.length<=j->(over l i vs)[j]?=l[j]?
 | [],_,_,_,_=>rfl
 |v::vs,l,i,j,h=>by
  have h1:i+1+vs.length<=j:=by rw[qa9]at h;omega
  show(over (l.set i v) (i+1) vs)[j]?=_;rw[U3 h1,qb8 (by omega)]
theorem U4:∀{vs l:List Value} {i j:Nat},j<i->(over l i vs)[j]?=l[j]?
 | [],_,_,_,_=>rfl
 |v::vs,l,i,j,h=>by
  show(over (l.set i v) (i+1) vs)[j]?=_;rw[U4 (by omega),qb8 (by omega)]
theorem Zz:∀{vs l:List Value} {i j:Nat},i+vs.length<=l.length->j<vs.length->(over l i vs)[i+j]?=vs[j]?
 | [],_,_,_,_,h=>by cases h
 |v::vs,l,i,0,h,_=>by
  show(over (l.set i v) (i+1) vs)[i+0]?=_;rw[U4 (by omega),qdn,qdw (by rw[qa9]at h;omega)];rfl
 |v::vs,l,i,j+1,h,hj=>by
  show(over (l.set i v) (i+1) vs)[i+(j+1)]?=vs[j]?;rw[show i+(j+1)=i+1+j by omega];exact Zz (by rw[qco];rw[qa9]at h;omega) (by rw[qa9]at hj;omega)
def Kk(arch:List Value)(n:Nat)(r:Rnd)(q:RSl):List Value:=((over arch ((r.no % 4).toNat*8) (B9 r q)).set 32 (.int .u64 ((min (n+1) 4:Nat):Int))).set 33 (.int .u64 r.no)
theorem Ak2{w:World}{b1 b2:Nat}{o1 o2:Obj}(h1:w.heap[b1]?=some o1)(h2:w.heap[b2]?=some o2)(hne:b1≠b2:=by omega):Ctx w [b1,b2] w [(b1,o1),(b2,o2)] :=
 ⟨Ext.refl _ _,fun y hy=>by
  simp only[qai,qau,or_false]at hy
  rcases hy with rfl|rfl
  .exact h1
  .exact h2,by simp only[qbx,qab,forall_eq,qau,false_implies,implies_true,List.Pairwise.nil,and_true];exact hne,fun y hy=>by
  simp only[qai,qau,or_false]at hy
  rcases hy with rfl|rfl
  .exact .inl (qak ..)
  .exact .inl (qaj _ (qak ..))⟩
theorem Ak3{br n:Nat}{arch:List Value}(r:Rnd)(q:RSl)(w:World)(RA:RAt w r q)(hr:RBnd r)(h0:w.heap[br]?=some (Bl 135 arch))(hl:arch.length=34)(hn:arch[32]?=some (.int .u64 n))(hn4:n<=4)(hno:0<=r.no/\r.no<=4611686018427387904) :
  Ret prog 102 #[ptr br,.agg (B9 r q).toArray] w fun _ w'=>∃q',Ctx w [br] w' [(br,Bl 135 (Kk arch n r q'))]/\RAt w' r q'/\ROff q' r (fun x=>x<w.heap.size):=by
 obtain⟨w0,rfl,H⟩:=qE w;refine Au (fn:=f102) func102 U [.pointer (some ⟨br,0,none⟩),.agg (B9 r q).toArray] U ?_;refine Ae (Bu (B9 r q) (.agg _) U U H ?_);rintro b3 w - H;refine qA ?_;have h3:0<=r.no % 4/\r.no % 4<4:=⟨qd0 _ (by decide),qd1 _ (by decide)⟩;refine Ck [([0,1,2,3,4,6,7],5),([8],9)] (fun z=>z.heap[b3]?=some (Bl 127 (B9 r q))) [9] Br (H.drew.get at0) (AD U U ?_);refine BG U (Ao Jt U (B0 B6 U (fun _ hx=>(by rw[Aj hx];rfl)) ?_));refine Alu U U U ?_;refine G9 _ F1 Da U U (fun _ hx=>(CX (b:=b3) (t:=127) (l:=B9 r q) hx 0 (B9 r q) rfl)) (Ba U (Ao Qu U (AU ?_)));replace H:=H.drew;have hx3:=H.ext;have hlb3:=Bd (H.get at0);have hb3:w0.heap.size<=b3:=(H.own _ (qak ..)).elim (fun h=>by cases h) id;have hlbr:=Bd h0
 refine Al qB (U2 r q _ (RA.ext0 H.ext) hr) U ?_;rintro v w ⟨hx9,q',rfl,RA',hoff⟩;obtain⟨w9,rfl⟩:=qD w;have hE9:=hx3.trans hx9;replace H:Ctx w9 [br,b3] w9 [(br,Bl 135 arch),(b3,Bl 127 (B9 r q))]:=Ak2 (hE9.to h0 (by simp)) (hx9.to (H.get at0) (by simp));refine Ab (BH (H.get at1) (AD U U ?_));refine PZ U Xh Da U U (AU (HX U Da U U U (by simp[AY]) H at0 (by omega) ?_));rintro w H;refine Ab (Bz U (BF ?_));rw[show 0+0+(r.no % 4).toNat*8=(r.no % 4).toNat*8 by omega]at H;obtain⟨A,hA⟩:=qD (over arch ((r.no % 4).toNat*8) (B9 r q'));rw[<-hA]at H;have hAl:A.length=34:=by rw[hA,DF];exact hl
 have hAn:A[32]?=some (.int .u64 n):=by rw[hA,U3 (by show(r.no % 4).toNat*8+8<=32;omega)];exact hn
 refine Ft [([0,1,2,3,4,8,9],5),([6,7,10,11],12),([13,14],15)] (fun z=>z.heap[b3]?=some (Bl 127 (B9 r q))) [] Br (H.drew.get at1) (AD U U ?_);refine BG U (BG U (BG U (Ba U (Ao Ju U (Ao Jt U (B0 B6 U (fun _ hx=>(by rw[Aj hx];rfl)) ?_))))));refine AU ?_;replace H:=H.drew;refine Bb B6 U ((by rw[Aj (H.get at0)];exact hAn)) ?_;refine Ab (BH (H.get at1) (AD U U ?_));refine NB U U U (Acy U U U ?_);refine Ba U (Ao Ju U (AU (Cb (.int _ _) Bq U U U H at0 (by(simp;omega)) ?_)));rintro w H;refine Ab (BH (H.get at1) (AD U U ?_));refine Ba U (Ao FZ U (AU (Cb (.int _ _) Bq U U U H at0 (by(simp;omega)) ?_)));rintro w H;refine Ab (BH (H.get at1) (BF (CV U U ?_)));have hs3:=hx3.size;refine⟨q',?_,RA'.ext H.ext (hoff.mono fun x hx=>?_),hoff.mono fun x hx=>qa7 hx hs3⟩
 .have h9:Kk arch n r q'=(A.set (0+32) (.int .u64 (min ((n:Int)+1) 4))).set (0+33) (.int .u64 r.no):=by
   unfold Kk;rw[<-hA,show((min (n+1) 4:Nat):Int)=min ((n:Int)+1) 4 by omega]
  rw[h9]
  exact⟨(hE9.mono (S':=[br]) (by simp)).then H.ext (fun x hx=>by
   simp only[qai,qau,or_false]at hx
   rcases hx with rfl|rfl
   .exact .inl (qab.2 U)
   .exact .inr hb3),fun y hy=>by rw[qab.1 hy];exact H.get at0,by simp,fun y hy=>by rw[qab.1 hy];exact .inl (qab.2 rfl)⟩
 .simp only[qai,qau,or_false]at hx
  rcases hx with rfl|rfl
  .exact qa7 hlbr hs3
  .exact hlb3
theorem RAt.no{w:World}{r:Rnd}{q:RSl}(h:RAt w r q)(k d:Int):RAt w { r with no:=k,day:=d } q:=⟨h.I,h.E,h.F,h.P,h.fc⟩
theorem ROff.no{r:Rnd}{q:RSl}{S:Nat->Prop}(h:ROff q r S)(k d:Int):ROff q { r with no:=k,day:=d } S:=⟨h.I,h.E,h.F,h.P⟩
theorem RBnd.no{r:Rnd}(h:RBnd r)(k d:Int):RBnd { r with no:=k,day:=d }:=⟨h.N,h.es,h.ids,h.fl,h.pot⟩
theorem Ak4{br n:Nat}{no:Int}{arch:List Value}(r:Rnd)(q:RSl)(w:World)(RA:RAt w r q)(hr:RBnd r)(h0:w.heap[br]?=some (Bl 135 arch))(hl:arch.length=34)(hn:arch[32]?=some (.int .u64 n))(hno:arch[33]?=some (.int .u64 no))(hn4:n<=4)(hb:0<=no/\no<4611686018427387904)(hm:Po r=true) :
  Ret prog 83 #[ptr br,.agg (B9 r q).toArray] w fun v w'=>v=.tuple #[.int .u64 (no+1),.int .i64 0]/\∃q',Ctx w [br] w' [(br,Bl 135 (Kk arch n { r with no:=no+1 } q'))]/\RAt w' { r with no:=no+1 } q'/\ROff q' { r with no:=no+1 } (fun x=>x<w.heap.size):=by
 obtain⟨w0,rfl,H⟩:=qE w;have hlbr:=Bd h0;refine Au (fn:=f83) func83 U [.pointer (some ⟨br,0,none⟩),.agg (B9 r q).toArray] U ?_;refine Ae (Bu (B9 r q) (.agg _) U U H ?_);rintro b3 w - H;refine Ad U (Ad U (qA (Ax (A1 (Ae (A4 U (Cw Sx U ?_)))))));refine Ai U (qA (Aw _ U ?_ ?_))
 .intro h1;cases h1
 .intro h1;refine Ae (Cg F1 Da U H at0 U (Al qB (Ak1 r q _ (RA.ext0 H.ext) hr) U ?_));rintro v w ⟨rfl,hx11⟩;replace H:=H.call hx11;rw[hm];refine BP U (Ai U (qA (Aw _ U ?_ ?_)))
  .intro h2;replace h2:=BM h2;cases h2
  .intro h2;replace h2:=BN h2;refine Ae (A4 U (A9 U (Ah FZ U (Bb B6 U ((by rw[Aj (H.ext.to h0 (by simp))];exact hno)) ?_))));refine CM U U (Ai U (qA (Aw _ U ?_ ?_)))
   .intro h3;replace h3:=AM h3;omega
   .intro h3;replace h3:=AN h3;refine Ay (A8 (Aa (Ae (A4 U (A9 U (Ah FZ U (Bb B6 U ((by rw[Aj (H.ext.to h0 (by simp))];exact hno)) ?_)))))));refine EI U U (Ah Jt U (Cb (.int _ _) Bq U U U H at0 (by(simp;done)) ?_));rintro w H;refine qA (Ae (A4 U (Cg F1 Da U H at0 U ?_)));have hb3:w0.heap.size<=b3:=(H.own _ (qak ..)).elim (fun h=>by cases h) id;refine Al qB (Ak3 (n:=n) (arch:=arch) { r with no:=no+1 } q _ ((RA.ext0 H.ext).no (no+1) r.day) (hr.no (no+1) r.day) (H.ext.to h0 (by simp)) hl hn hn4 (by dsimp only;omega)) U ?_;rintro v w ⟨q',H2,RA',hoff⟩;have hx27:=H.ext;have hl27:=Bd (H.get at0);have h27:=H2.ext.to (H.get at0) (by rw[qab];omega);have H:=Ctx.start1 h27;refine qA (Ae (Ah Jt U (AG B6 U H at0 U (Ad U (Ad U (qA (A5 (Cf (v1:=(.int _ _)) (v2:=(.int _ _)) U U U U ?_))))))))
    have hsz:=hx27.size;exact⟨rfl,q',⟨(hx27.mono (by simp)).trans H2.ext,H2.blk,H2.nd,fun y hy=>by rw[qab.1 hy];exact .inl (qab.2 rfl)⟩,RA',hoff.mono fun x hx=>qa7 hx hsz⟩
theorem Ah0{br:Nat}{no:Int}{arch:List Value}(w:World)(h0:w.heap[br]?=some (Bl 135 arch))(hno:arch[33]?=some (.int .u64 no)) :
  Ret prog 50 #[ptr br] w fun v w'=>v=.int .u64 no/\Ext [] w w':=by
 obtain⟨w0,rfl,H⟩:=qE w;refine Au (fn:=Tryz.f50) func50 U [.pointer (some ⟨br,0,none⟩)] U ?_;refine Ae (Ad U (qA (Ax (Ae (A4 U (Cw Sx U ?_))))));refine qA (Aw _ U ?_ ?_)
 .intro h1;cases h1
 .intro h1;refine Ay (Aa (Ae (A4 U (A9 U (Ah FZ U (Bb B6 U ((by rw[Aj (H.ext.to h0 (by simp))];exact hno)) ?_))))));refine Ad U (qA (A5 (AB (v:=(.int _ _)) U U U ?_)));exact⟨rfl,H.ext⟩
theorem Ri{P:Program}{ops rest:List Oper}{e:Env}{dst:Option Tmp}{ty:TypeId}{pos:String}{af:Array Edge}{g:Option (Nat × Bool)}{C:World->Prop}{K:Env->Prop}{t t2:TypeId}{x:Operand}{a:Option Addr}{el:TypeId}(hg:AV ⟨dst,.binOp .eql t x (.const (.pointer none)) t2,ty,pos,af,g⟩ ops e=true)(hu:P.underlying t=some (.pointer el))(hx:ev e x=.pointer a)(h:Wq P ops C K rest (put e dst (.bool a.isNone))):Wq P ops C K (⟨dst,.binOp .eql t x (.const (.pointer none)) t2,ty,pos,af,g⟩::rest) e :=
 Et hg (fun w _=>by
  have hq:eqGuard .eql t x (.const (.pointer none)) (.pointer a) (.pointer none)=pure ():=rfl;have he:ev e (.const (.pointer none))=.pointer none:=rfl
  simp only[execOp,hx,he,hq,Sem.run_bind,Sem.run_pure,Result.andThen_ok,US hu]) h
theorem Wu{br n:Nat}{no k:Int}{arch:List Value}(w:World)(h0:w.heap[br]?=some (Bl 135 arch))(hn:arch[32]?=some (.int .u64 n))(hno:arch[33]?=some (.int .u64 no))(hb:0<=no/\no<=4611686018427387904)(hk0:0<=k/\k<=18446744073709551615)(hk:k<=no->(n:Int)<=no - k) :
  Ret prog 88 #[ptr br,.int .u64 k] w fun v w'=>v=.tuple #[.agg (rnd0).toArray,.bool false]/\Ext [] w w':=by
 obtain⟨w0,rfl,H⟩:=qE w;refine Au (fn:=f88) func88 U [.pointer (some ⟨br,0,none⟩),.int .u64 k] U ?_;refine Ae (Bc FU H ?_);rintro b4 w - H;refine Ai U (qA (Ax ?_))
 by_cases hkn:no<k
 .skip
  refine DT (fun x=>x=_) Br U (BE U (Ri U Sx U ?_));refine CW U (AX U (BE U (AZ U (A6 FZ U (BX B6 U (by rintro _ rfl;exact((by rw[Aj (H.drew.ext.to h0 (by simp))];exact hno))) ?_)))));refine Se U U U ?_;rw[qan hkn];refine Gh U (.bool _) U (CW U (A3 U (A3 U (A3 U (A3 U (A3 U (A3 U (A3 U (A3 U ?_)))))))));refine A3 U (A3 U (A3 U (IQ U (.bool _) U (BS ?_))));rintro _ rfl;replace H:=H.drew;refine DB U (Ae (BA [.int .u64 0,.int .i64 0,.bool false,.slice none 0 0,.int .i64 0,.slice none 0 0,.slice none 0 0,.slice none 0 0] TS FU ?_));refine Bn Da U U U (by simp[AY]) H at0 U ?_;rintro w H;refine Ai U (qA (A5 (Av (IR U U U F1 Da H at0 U (show _=(.bool _)from rfl) ?_))));exact⟨rfl,H.ext⟩
 .skip
  refine DT (fun x=>x=_) Br U (BE U (Ri U Sx U ?_));refine CW U (AX U (BE U (AZ U (A6 FZ U (BX B6 U (by rintro _ rfl;exact((by rw[Aj (H.drew.ext.to h0 (by simp))];exact hno))) ?_)))));refine Se U U U ?_;rw[qa2 hkn];refine Gh U (.bool _) U (CW U (BE U (AZ U (A6 FZ U (BX B6 U (by rintro _ rfl;exact((by rw[Aj (H.drew.ext.to h0 (by simp))];exact hno))) ?_)))));refine AX U (Sf U U U ?_);refine BE U (AZ U (A6 Ju U (BX B6 U (by rintro _ rfl;exact((by rw[Aj (H.drew.ext.to h0 (by simp))];exact hn))) ?_)));refine Alr U U U ?_;rw[qan (show(n:Int)<=no - k from hk (by omega))];refine Gh U (.bool _) U (BS ?_);rintro _ rfl;replace H:=H.drew
  refine DB U (Ae (BA [.int .u64 0,.int .i64 0,.bool false,.slice none 0 0,.int .i64 0,.slice none 0 0,.slice none 0 0,.slice none 0 0] TS FU ?_));refine Bn Da U U U (by simp[AY]) H at0 U ?_;rintro w H;refine Ai U (qA (A5 (Av (IR U U U F1 Da H at0 U (show _=(.bool _)from rfl) ?_))));exact⟨rfl,H.ext⟩
theorem Tj{br n:Nat}{no k:Int}{arch:List Value}{r:Rnd}{q:RSl}(w:World)(h0:w.heap[br]?=some (Bl 135 arch))(_:arch.length=34)(hn:arch[32]?=some (.int .u64 n))(hno:arch[33]?=some (.int .u64 no))(hb:0<=no/\no<=4611686018427387904)(hk0:0<=k/\k<=18446744073709551615)(hk:k<=no/\no - k<n)(hc:∀j v,(B9 r q)[j]?=some v->arch[(k % 4).toNat*8+j]?=some v)(RA:RAt w r q)(hr:RBnd r) :
  Ret prog 88 #[ptr br,.int .u64 k] w fun v w'=>Ext [] w w'/\∃q',v=.tuple #[.agg (B9 r q').toArray,.bool true]/\RAt w' r q'/\ROff q' r (fun x=>x<w.heap.size):=by
 obtain⟨w0,rfl,H⟩:=qE w;have h3:0<=k % 4/\k % 4<4:=⟨qd0 _ (by decide),qd1 _ (by decide)⟩;refine Au (fn:=f88) func88 U [.pointer (some ⟨br,0,none⟩),.int .u64 k] U ?_;refine Ae (Bc FU H ?_);rintro b4 w - H;refine Ai U (qA (Ax (DT (fun x=>x=_) Br U ?_)));refine BE U (Ri U Sx U ?_);refine CW U (AX U (BE U (AZ U (A6 FZ U (BX B6 U (by rintro _ rfl;exact((by rw[Aj (H.drew.ext.to h0 (by simp))];exact hno))) ?_)))));refine Se U U U ?_;rw[qa2 (show ¬no<k by omega)];refine Gh U (.bool _) U (CW U (BE U (AZ U (A6 FZ U (BX B6 U (by rintro _ rfl;exact((by rw[Aj (H.drew.ext.to h0 (by simp))];exact hno))) ?_)))));refine AX U (Sf U U U ?_)
 refine BE U (AZ U (A6 Ju U (BX B6 U (by rintro _ rfl;exact((by rw[Aj (H.drew.ext.to h0 (by simp))];exact hn))) ?_)));refine Alr U U U ?_;rw[qa2 (show ¬(n:Int)<=no - k by omega)];refine Gh U (.bool _) U (BS ?_);rintro _ rfl;replace H:=H.drew;refine FE U (Ay (Aa (Ae (A4 U (Af U (Amy U U U ?_))))));refine A9 U (Ah Qu U (Ov U Xh Da U U ?_));refine C9 _ F1 Da U U ((fun j v hv=>by rw[Aj (H.ext.to h0 (by simp)),show 0+0+(k % 4).toNat*8+j=(k % 4).toNat*8+j by omega];exact hc j v hv)) ?_;have hx3:=H.ext;have hl4:=Bd (H.get at0);refine Al qB (U2 r q _ (RA.ext0 H.ext) hr) U ?_;rintro v w ⟨hx9,q',rfl,RA',hoff⟩;obtain⟨w9,rfl⟩:=qD w;have h4:=hx9.to (H.get at0) (by simp);have hb4:w0.heap.size<=b4:=(H.own _ (qak ..)).elim (fun h=>by cases h) id;replace H:=Ctx.start1 h4
 refine Bn Da U U U (by simp[AY]) H at0 U ?_;rintro w H;refine Ai U (qA (A5 (IR U U U F1 Da H at0 U (show _=(.bool _)from rfl) ?_)));have hs3:=hx3.size;refine⟨(hx3.trans hx9).then H.ext (fun x hx => .inr (by rw[qab.1 hx];exact hb4)),q',rfl,RA'.ext H.ext (hoff.mono fun x hx=>by rw[qab.1 hx];exact hl4),hoff.mono fun x hx=>qa7 hx hs3⟩
theorem Ah1{s:Ld}(h:s.Ok){r x:Rnd}(hx:x∈Ks s.rn r):x=r\/(x∈s.rn/\s.no - 2<=x.no/\x.no<=s.no):=by
 obtain⟨i,hi⟩:=qby.1 hx;unfold Ks at hi;rw[qct]at hi
 rcases qap (s.rn.length - 3+i) s.rn.length with h5|h5
 .rw[qcb h5]at hi;have h1:=h.nos _ x hi;exact .inr ⟨qac hi,by omega,by omega⟩
 .rw[qbv h5]at hi;left
  have h6:s.rn.length - 3+i - s.rn.length=0:=by
   have:=CD hi;rw[qb9]at this;omega
  rw[h6]at hi;cases hi;rfl
theorem Ak5(arch:List Value)(n:Nat)(r:Rnd)(q:RSl):(Kk arch n r q).length=arch.length:=by
 unfold Kk;rw[qco,qco,DF]
theorem put_n{arch:List Value}(h:arch.length=34)(n:Nat)(r:Rnd)(q:RSl):(Kk arch n r q)[32]?=some (.int .u64 ((min (n+1) 4:Nat):Int)):=by
 unfold Kk;rw[qb8 (by decide),qdw (by rw[DF];omega)]
theorem Aqz{arch:List Value}(h:arch.length=34)(n:Nat)(r:Rnd)(q:RSl):(Kk arch n r q)[33]?=some (.int .u64 r.no):=by
 unfold Kk;rw[qdw (by rw[qco,DF];omega)]
theorem Aq0{arch:List Value}(h:arch.length=34)(n:Nat){r:Rnd}{q:RSl}{j:Nat}{v:Value}(hj:(B9 r q)[j]?=some v):(Kk arch n r q)[(r.no % 4).toNat*8+j]?=some v:=by
 have hlt:j<8:=CD hj;have h3:0<=r.no % 4/\r.no % 4<4:=⟨qd0 _ (by decide),qd1 _ (by decide)⟩;unfold Kk;rw[qb8 (by omega),qb8 (by omega),Zz (by rw[h];show _+8<=34;omega) hlt];exact hj
theorem Ak6{arch:List Value}(n:Nat){r x:Rnd}{q qx:RSl}{j:Nat}{v:Value}(hne:x.no % 4≠r.no % 4)(hj:(B9 x qx)[j]?=some v)(hc:arch[(x.no % 4).toNat*8+j]?=some v):(Kk arch n r q)[(x.no % 4).toNat*8+j]?=some v:=by
 have hlt:j<8:=CD hj;have h3:0<=r.no % 4/\r.no % 4<4:=⟨qd0 _ (by decide),qd1 _ (by decide)⟩;have h4:0<=x.no % 4/\x.no % 4<4:=⟨qd0 _ (by decide),qd1 _ (by decide)⟩;unfold Kk;rw[qb8 (by omega),qb8 (by omega)]
 rcases Int.lt_or_gt_of_ne hne with h|h
 .rw[U4 (by omega)];exact hc
 .rw[U3 (by show(r.no % 4).toNat*8+8<=_;omega)];exact hc
theorem U5{r:Rnd}(h:Po r=true):RBnd r:=by
 unfold Po at h;simp only[qae,qar]at h;obtain⟨hc,hi,-⟩:=h;obtain⟨h1,h2,-⟩:=GY.1 hc;obtain⟨g1,g2,g3,-⟩:=CS (C5 (F7 h1).1).2.1;have g4:=(C5 (F7 h1).1).1;have g5:=(Mu h2).1;exact⟨⟨by omega,by omega⟩,by omega,by omega,by omega,by omega⟩
theorem Ab7{s:Ld}(h:s.Ok){k:Int}{r:Rnd}(hg:Uz s k=some r):(k<=s.no/\s.no - k<s.rn.length)/\r∈s.rn/\r.no=k:=by
 unfold Uz at hg
 by_cases h1:k<=s.no/\s.no - k<s.rn.length
 .rw[if_pos h1]at hg;have h2:=h.nos _ r hg;exact⟨h1,qac hg,by omega⟩
 .rw[if_neg h1]at hg;cases hg
theorem Tk{s:Ld}(h:s.Ok){k:Int}(hg:Uz s k=none)(hk:k<=s.no):(s.rn.length:Int)<=s.no - k:=by
 by_cases h1:s.no - k<s.rn.length
 .unfold Uz at hg;rw[if_pos ⟨hk,h1⟩,List.getElem?_eq_none_iff]at hg;have:=h.kept;omega
 .omega
theorem Ak7{m m':Lm}{s s':Ld}(h1:m'.bl=m.bl)(h2:m'.br=m.br)(h3:m'.ba=m.ba)(h4:m'.bd=m.bd)(h5:m'.b=m.b)(h6:m'.a=m.a):Dy m' s'=Dy m s:=by
 obtain⟨bl,ba,bd,br,b,a,c,full,o,arch⟩:=m;obtain⟨bl',ba',bd',br',b',a',c',full',o',arch'⟩:=m';dsimp only at h1 h2 h3 h4 h5 h6;subst h1 h2 h3 h4 h5 h6;show bl'::br'::ba'::bd'::b'::(ent a' 108 full').map (fun x=>x.1)=bl'::br'::ba'::bd'::b'::(ent a' 108 full).map (fun x=>x.1);rw[Zx (f:=full') (g:=full)]
theorem LdIn.rnd{w w1 w':World}{m:Lm}{s:Ld}{T:Nat->Prop}{S:List Nat}{r:Rnd}{q:RSl}{full':List Value}{o':Obj}(I:LdIn w m s T)(he:Ext S w w')(hs:∀x∈S,T x)(hok:(Uy s r).Ok)(O:OS m.a (HK s.acs s.ds r).length m.c 2 full' ((HK s.acs s.ds r).flatMap Dl))(M:Df .u64 (dm (IE s.acs s.ds r)) o')(RA:RAt w' { r with no:=s.no+1,day:=s.day } q)(hoff:ROff q { r with no:=s.no+1,day:=s.day } (fun x=>x<w1.heap.size))(hle:w.heap.size<=w1.heap.size) :
  LdIn w' ⟨m.bl,m.ba,m.bd,m.br,m.b,m.a,m.c,full',o',Kk m.arch s.rn.length { r with no:=s.no+1,day:=s.day } q⟩ (Uy s r) (fun x=>T x\/x∈Dy ⟨m.bl,m.ba,m.bd,m.br,m.b,m.a,m.c,full',o',Kk m.arch s.rn.length { r with no:=s.no+1,day:=s.day } q⟩ (Uy s r)):=by
 have hid:∀x,T x\/x∈Dy ⟨m.bl,m.ba,m.bd,m.br,m.b,m.a,m.c,full',o',Kk m.arch s.rn.length { r with no:=s.no+1,day:=s.day } q⟩ (Uy s r)->T x:=fun x hx=>by
  exact hx.elim id fun h=>I.own x (Eq.mp (qaa (fun l=>x∈l) (Ak7 (m:=m) (s:=s) (m':=⟨m.bl,m.ba,m.bd,m.br,m.b,m.a,m.c,full',o',Kk m.arch s.rn.length { r with no:=s.no+1,day:=s.day } q⟩) (s':=Uy s r) rfl rfl rfl rfl rfl rfl)) h)
 refine⟨O,M,hok,by rw[Ak5];exact I.len,?_,Aqz I.len _ _ _,fun x hx=>?_,fun x hx => .inr hx,fun x hx=>qa7 (I.low x (hid x hx)) he.size⟩
 .rw[put_n I.len];show _=some (Value.int .u64 (((Ks s.rn { r with no:=s.no+1,day:=s.day }).length:Nat):Int));rw[Wd I.ok.kept.1]
 .rcases Ah1 I.ok hx with rfl|⟨h1,h2,h3⟩
  .exact⟨q,fun j v h=>Aq0 I.len _ h,RA,hoff.mono fun x hx=>qa7 (I.low x (hid x hx)) hle⟩
  .obtain⟨qx,g1,g2,g3⟩:=I.kept x h1;exact⟨qx,fun j v h=>Ak6 _ (by show x.no % 4≠(s.no+1) % 4;omega) h (g1 j v h),g2.ext he (g3.mono hs),g3.mono fun y hy=>hid y hy⟩
def Grows(T T':Nat->Prop)(w:World):Prop:=(∀x,T x->T' x)/\(∀x,T' x->T x\/w.heap.size<=x)
theorem Grows.refl(T:Nat->Prop)(w:World):Grows T T w:=⟨fun _ h=>h,fun _ h => .inl h⟩
theorem Grows.trans{T T' T'':Nat->Prop}{w w':World}(h:Grows T T' w)(k:Grows T' T'' w')(hs:w.heap.size<=w'.heap.size):Grows T T'' w :=
 ⟨fun x hx=>k.1 x (h.1 x hx),fun x hx=>(k.2 x hx).elim (fun h1=>h.2 x h1) fun h1 => .inr (qa6 hs h1)⟩
theorem LdIn.grow{w w':World}{m:Lm}{s:Ld}{T T':Nat->Prop}{S:List Nat}(I:LdIn w m s T)(he:Ext S w w')(hs:∀x∈S,T x\/w.heap.size<=x)(g:Grows T T' w)(hl:∀x,T' x->x<w'.heap.size):LdIn w' m s T' where
 O:=I.O
 M:=I.M
 ok:=I.ok
 len:=I.len
 n:=I.n
 no:=I.no
 kept:=fun r h=>by
  obtain⟨q,h1,h2,h3⟩:=I.kept r h;have h4:=h3.or h2.lt;exact⟨q,h1,h2.ext he (h4.mono hs),h4.mono g.2⟩
 own:=fun x hx=>g.1 x (I.own x hx)
 low:=hl
def s00:Ld:=⟨0,[],[],1,[],0⟩
theorem Aq1:s00.Ok:=⟨by decide,by decide,fun d h=>(by cases h),by decide,by decide,fun i r h=>(by cases h),fun r h=>(by cases h)⟩
abbrev Wv:List Value:=rnd0++(rnd0++(rnd0++(rnd0++[.int .u64 0,.int .u64 0])))
theorem Ah2(w:World):Ret prog 26 #[] w fun v w'=>∃b,v=ptr b/\Ctx w [] w' [(b,Bl 129 [.slice none 0 0])]:=by
 obtain⟨w0,rfl,H⟩:=qE w;refine Au (fn:=f26) func26 U [] U (Ae (Cn U (qA (Ae (BA [.slice none 0 0] Apq Apz ?_)))));refine Bu [.slice none 0 0] (.agg _) U U H ?_;rintro b2 w - H;refine Cn U (qA (A5 (AB (v:=(.pointer _)) U U U ?_)));exact⟨b2,rfl,H⟩
theorem Ah3(w:World):Ret prog 28 #[] w fun v w'=>∃b,v=ptr b/\Ctx w [] w' [(b,Bl 135 Wv)]:=by
 obtain⟨w0,rfl,H⟩:=qE w;refine Au (fn:=f28) func28 U [] U (Ae (Cn U (qA (Ae (BA Wv Apr Ap0 ?_)))));refine Bu Wv (.agg _) U U H ?_;rintro b2 w - H;refine Cn U (qA (A5 (AB (v:=(.pointer _)) U U U ?_)));exact⟨b2,rfl,H⟩
theorem Ak8(w:World):Ret prog 8 #[] w fun v w'=>∃m,v=ptr m.bl/\Ctx w [] w' (LL m s00)/\LdIn w' m s00 (fun x=>x∈Dy m s00):=by
 obtain⟨w0,rfl,H⟩:=qE w;refine Au (fn:=Tryz.f8) func8 U [] U (Ae (Cn U (qA (Ae (Al qB (Ah2 _) U ?_)))));rintro v w ⟨ba,rfl,H1⟩;replace H:Ctx w0 [] w [(ba,Bl 129 [.slice none 0 0])]:=H1;refine Al qB (Akf _) U ?_;rintro v w ⟨bd,b,o,rfl,hM,H1⟩;replace H:=Ctx.back (L1:=[]) (L2:=[_]) H H1;refine Al qB (Ah3 _) U ?_;rintro v w ⟨br,rfl,H1⟩;replace H:=Ctx.back (L1:=[]) (L2:=[_,_,_]) H H1;refine BA [ptr ba,ptr bd,ptr br,.int .i64 0] pl_73 zc_73 (Bu [ptr ba,ptr bd,ptr br,.int .i64 0] (.agg _) U U H ?_);rintro bl w - H;refine Cn U (qA (A5 (AB (v:=(.pointer _)) U U U ?_)));have H1:Ctx w0 [] w (LL ⟨bl,ba,bd,br,b,none,0,[],o,Wv⟩ s00):=H.perm (List.Perm.cons _ (List.Perm.cons _ (qcv (l₁:=[_,_]) (l₂:=[_]))))
 refine⟨⟨bl,ba,bd,br,b,none,0,[],o,Wv⟩,rfl,H1,OS.nil,hM,Aq1,rfl,rfl,rfl,fun r h=>(by cases h),fun x h=>h,fun x h=>?_⟩;obtain⟨y,hy,rfl⟩:=qah.1 h;exact Bd (H1.blk y hy)
abbrev Tl(x:Rnd × RSl):List Value:=B9 x.1 x.2
theorem Ww{α β:Type}(y:β):∀{xs:List α} {ys:List β} {x:α},xs[ys.length]?=some x->xs.zip (ys++[y])=xs.zip ys++[(x,y)]
 | [],_,_,h=>by cases h
 |a::xs,[],x,h=>by
  cases h;show(a,y)::xs.zip []=_;rw[List.zip_nil_right];rfl
 |a::xs,b::ys,x,h=>by
  show(a,b)::xs.zip (ys++[y])=(a,b)::(xs.zip ys++[(x,y)]);rw[Ww y (show xs[ys.length]?=some x from h)]
structure ARS where
 i:Nat
 a:Option Addr
 c:Nat
 full:List Value
 qs:List RSl
theorem Ab8{br:Nat}{m:Lm}{s:Ld}{T:Nat->Prop}(w:World)(I:LdIn w m s T)(h0:w.heap[br]?=some (Bl 135 m.arch)) :
  Ret prog 49 #[ptr br] w fun v w'=>Ext [] w w'/\∃a c qs,v=.slice a s.rn.length c/\qs.length=s.rn.length/\Rd w' a 8 Tl (s.rn.zip qs)/\(s.rn≠[]->¬(adr a).block<w.heap.size)/\∀x∈s.rn.zip qs,RAt w' x.1 x.2/\ROff x.2 x.1 (fun y=>y<w.heap.size):=by
 obtain⟨w0,rfl,H⟩:=qE w;obtain⟨hk4,hkn,hkm⟩:=I.ok.kept;refine Au (fn:=f49) func49 U [.pointer (some ⟨br,0,none⟩)] U ?_;refine Ae (Am U (qA (Ax (Ae (A4 U (Cw Sx U ?_))))));refine qA (Aw _ U ?_ ?_)
 .intro h1;cases h1
 .intro h1;refine Ay (Aa (Ax (Ae (A4 U (A9 U (Ah Ju U (Bb B6 U ((by rw[Aj h0];exact I.n)) ?_)))))));refine Af U (qA (A1 (Bw 68719475724 (α:=ARS) (fun t=>[(2,.slice t.a t.i t.c),(10,.int .u64 (t.i:Int))]) (fun t w'=>t.qs.length=t.i/\t.i<=s.rn.length/\OS t.a t.i t.c 8 t.full ((s.rn.zip t.qs).flatMap Tl)/\(∀x∈s.rn.zip t.qs,RAt w' x.1 x.2/\ROff x.2 x.1 (fun y=>y<w0.heap.size\/y∈(ent t.a 127 t.full).map (fun x:Nat × Obj=>x.1)))/\Ctx w0 [] w' (ent t.a 127 t.full)) (fun t=>s.rn.length - t.i) ⟨0,none,0,[],[]⟩ U ?_ ?_ ?_)))
  .exact⟨rfl,rfl,trivial⟩
  .refine⟨rfl,qaq _,?_,fun x hx=>?_,H⟩
   .rw[List.zip_nil_right];exact OS.nil
   .rw[List.zip_nil_right]at hx;cases hx
  .clear H;rintro⟨i,a,c,full,qs⟩ j w ⟨hqi,hi,O,K,HR⟩;dsimp only at hqi hi O K HR;dsimp only;obtain⟨w1,rfl,H⟩:=qE w;refine Ae (Bm U U (qA (Ax (Aw _ U ?_ ?_))))
   .intro h2;replace h2:=AM h2;obtain⟨r,hr⟩:=AE (l:=s.rn) (i:=i);obtain⟨q,hq1,hq2,-⟩:=I.kept r (qac hr);have hB:=U5 (I.ok.may r (qac hr));have hrn:=I.ok.nos i r hr;have h01:=HR.ext.to h0 (by simp);have h3:0<=r.no % 4/\r.no % 4<4:=⟨qd0 _ (by decide),qd1 _ (by decide)⟩;rw[hrn]at hq1 h3;refine Ay (Aa (Ax (A1 (Ae (Af U (Ad U (qA ?_)))))))
    have hnbr:br∉(ent a 127 full).map (fun x:Nat × Obj=>x.1):=fun hm=>by
     obtain⟨z,hz,hzb⟩:=qah.1 hm;have h4:=Bd h0;have h5:=(HR.own z hz).elim (fun h=>by cases h) id;rw[hzb]at h5;omega
    refine Ft [([0,1,2,3,4,5,6,7,8,9,10,11,12,13,14,15,16,17,18],19),([],20),([],21),([],22)] (fun z=>z.heap[br]?=some (Bl 135 m.arch)) [] Br (H.drew.ext.to h01 (by simp)) (AD U U ?_);refine B3 U (BG U (BG U (Ba U (Ao FZ U (B0 B6 U (fun _ hx=>(by rw[Aj hx];exact I.no)) ?_)))));refine BG U (Ba U (Ao Ju U (B0 B6 U (fun _ hx=>(by rw[Aj hx];exact I.n)) ?_)));refine ZP U U U (NB U U U ?_);refine Bj U (NB U U U ?_);refine Alu U U U (Ba U (Ao Qu U (PZ U Xh Da U U ?_)));refine G9 _ F1 Da U U (fun _ hx=>(fun j v hv=>by rw[Aj hx,show 0+0+(((s.no - s.rn.length)+1+i) % 4).toNat*8+j=((s.no - s.rn.length+1+i) % 4).toNat*8+j by omega];exact hq1 j v hv)) ?_;refine AU ?_;replace H:=H.drew;have hs1:=H.ext.size
    refine Al qB (U2 r q _ (hq2.ext0 (HR.ext.trans H.ext)) hB) U ?_;rintro v w ⟨hx32,q',rfl,RA',hoff⟩;have E1:=H.ext.trans hx32;have HC:=HR.call E1;have h03:=HC.ext.to h0 (by simp);obtain⟨w3,rfl⟩:=qD w;clear H;have H:=Ctx.lend (L1:=ent a 127 full) HC.app_nil;refine Ab (BH (h03) (AD U U ?_));refine AU (Cp _ (.agg _) OD Da FU U U U U H ?_);rintro b33 w - H;refine Ab (BH (H.ext.to h03 hnbr) (AD U U ?_));refine AU (Cy (L:=[]) OD OD Da Am7 FU U U U H O U (by simp[AY]) ?_);rintro a' c' full' w H O';refine Ab (BH (H.ext.to h03 hnbr) (AD U U ?_));refine AU (Am U (Ab (BH (H.ext.to h03 hnbr) (BF (A8 (Aa (A0 (EI U U ?_))))))));refine Af U (qA ?_);have hs3:=E1.size
    have hin:∀y∈(ent a' 127 full').map (fun x:Nat × Obj=>x.1),y∈(ent a 127 full).map (fun x:Nat × Obj=>x.1)\/w3.heap.size<=y:=fun y hy=>by
     obtain⟨z,hz,rfl⟩:=qah.1 hy;exact H.own z hz
    have hlt:∀y∈(ent a 127 full).map (fun x:Nat × Obj=>x.1),y<w1.heap.size:=fun y hy=>by
     obtain⟨z,hz,rfl⟩:=qah.1 hy;exact Bd (HR.blk z hz)
    have hz:=Ww q' (ys:=qs) (hqi ▸ hr);refine⟨⟨i+1,a',c',full',qs++[q']⟩,rfl,⟨rfl,rfl,trivial⟩,⟨by dsimp only;rw[qat,qb9,hqi],by dsimp only;omega,?_,fun x hx=>?_,(Ctx.back (L1:=ent a 127 full) (L2:=[]) HC.app_nil H).nil_app⟩,by dsimp only;omega⟩
    .dsimp only;rw[hz,qbt,qeq];exact O'
    .dsimp only at hx |-;rw[hz]at hx
     rcases qbc.1 hx with h|h
     .obtain⟨k1,k2⟩:=K x h;exact⟨(k1.ext0 E1).ext H.ext (k2.mono fun y hy => .inr hy),(k2.or k1.lt).mono fun y hy=>hy.elim (fun h => .inl (.inl h)) fun h=>(hin y h).elim (fun h => .inl (.inr h)) fun h => .inr (qa6 hs3 h)⟩
     .rw[qab.1 h];exact⟨RA'.ext H.ext (hoff.mono fun y hy=>qa7 (hlt y hy) hs1),(hoff.or RA'.lt).mono fun y hy=>hy.elim (fun h => .inl (qa7 (qa7 h HR.size) hs1)) fun h=>(hin y h).elim (fun h => .inl (qa7 (hlt y h) hs1)) .inr⟩
   .intro h2;replace h2:=AN h2;obtain rfl:i=s.rn.length:=by omega
    refine Bt (An (An (AK (Aa (Ae (Ap U (Am U (qA (A5 (AB (v:=(.slice _ _ _)) U U U ?_))))))))));have O2:OS a (s.rn.zip qs).length c 8 full ((s.rn.zip qs).flatMap Tl):=by rw[qde,hqi,Nat.min_self];exact O
    refine⟨HR.ext,a,c,qs,rfl,hqi,OS.rd O (t:=127) (fun x hx=>HR.blk x hx) (fun _ _=>rfl) (by decide),fun hne=>?_,fun x hx=>⟨(K x hx).1,(K x hx).2.mono fun y hy => .inl hy⟩⟩;obtain⟨p,rfl⟩:=O.form (qb2.2 hne);exact Nat.not_lt.2 ((HR.own (p,Bl 127 full) (qab.2 U)).elim (fun h=>by cases h) id)
theorem Ab9(r:Rnd)(q s:RSl)(w:World)(RA:RAt w r q)(RB:RAt w r s)(hr:RBnd r) :
  Ret prog 89 #[.agg (B9 r q).toArray,.agg (B9 r s).toArray] w fun v w'=>v=.bool true/\Ext [] w w':=by
 obtain⟨w0,rfl,H⟩:=qE w;have he:=hr.es;have hi:=hr.ids;have hf:=hr.fl;have hp:=hr.pot;refine Au (fn:=f89) func89 U [.agg (B9 r q).toArray,.agg (B9 r s).toArray] U (Ae (Bu (B9 r q) (.agg _) U U H ?_));rintro b2 w - H;refine Bu (B9 r s) (.agg _) U U H ?_;rintro b3 w - H;refine Ai U (qA (Ax (Ae (Ci (α:=Unit) 73786976294838206208 (fun _=>[(65,.bool (false))]) (fun _ w'=>Ctx w0 [] w' [(b3,Bl 127 (B9 r s)),(b2,Bl 127 (B9 r q))]) U ?_ ?_))))
 .refine Ah Jt U (AG B6 U H at1 U (Ah Jt U (AG B6 U H at0 U (CK U U (A2 U (AR 13 U ?_ ?_))))))
  .intro h1;replace h1:=CY h1;refine Ag U (Ag U (Ag U (Ag U (Ag U (AA U (.bool _) U (A2 U (Ag U (Ag U (Ag U ?_)))))))));refine Ag U (Ag U (AA U (.bool _) U (A2 U (Ag U (Ag U (Ag U (Ag U (Ag U (Ag U ?_)))))))));refine AA U (.bool _) U (A2 U (Ag U (Ag U (Ag U (Ag U (Ag U (Ag U (Ag U (AA U (.bool _) U ?_)))))))));refine A2 U (Ag U (Ag U (Ag U (Ag U (Ag U (Ag U (Ag U (Ag U (Ag U ?_)))))))));refine AA U (.bool _) U (A2 U (Ag U (Ag U (Ag U (Ag U (Ag U (Ag U (Ag U (Ag U ?_)))))))));refine Ag U (AA U (.bool _) U (Ab ?_));exact⟨rfl,(),rfl,⟨qaa Value.bool (by(simp_all;done)),trivial⟩,H⟩
  .intro h2;replace h2:=CZ h2;refine Ah KP U (AG B4 U H at1 U (Ah KP U (AG B4 U H at0 U (CK U U (AJ U (.bool _) U (A2 U (AR 20 U ?_ ?_)))))))
   .intro h3;replace h3:=CY h3;refine Ag U (Ag U (Ag U (Ag U (Ag U (AA U (.bool _) U (A2 U (Ag U (Ag U (Ag U ?_)))))))));refine Ag U (Ag U (Ag U (AA U (.bool _) U (A2 U (Ag U (Ag U (Ag U (Ag U (Ag U ?_)))))))));refine Ag U (Ag U (AA U (.bool _) U (A2 U (Ag U (Ag U (Ag U (Ag U (Ag U (Ag U ?_)))))))));refine Ag U (Ag U (Ag U (AA U (.bool _) U (A2 U (Ag U (Ag U (Ag U (Ag U (Ag U ?_)))))))));refine Ag U (Ag U (Ag U (Ag U (AA U (.bool _) U (Ab ?_)))));exact⟨rfl,(),rfl,⟨qaa Value.bool (by(simp_all;done)),trivial⟩,H⟩
   .intro h4;replace h4:=CZ h4;refine Ah MQ U (AG LI U H at1 U (Ah MQ U (AG LI U H at0 U (Aix un_4 U U U ?_))));refine AJ U (.bool _) U (A2 U (AR 27 U ?_ ?_))
    .intro h5;refine Ag U (Ag U (Ag U (Ag U (Ag U (Ag U (AA U (.bool _) U (A2 U (Ag U (Ag U ?_)))))))));refine Ag U (Ag U (Ag U (Ag U (Ag U (AA U (.bool _) U (A2 U (Ag U (Ag U (Ag U ?_)))))))));refine Ag U (Ag U (Ag U (Ag U (Ag U (Ag U (AA U (.bool _) U (A2 U (Ag U (Ag U ?_)))))))));refine Ag U (Ag U (Ag U (Ag U (Ag U (Ag U (Ag U (AA U (.bool _) U (Ab ?_))))))));exact⟨rfl,(),rfl,⟨qaa Value.bool (by(simp_all;done)),trivial⟩,H⟩
    .intro h6;refine Ah ED U (C9 _ CE Ct U U ((CX (l:=B9 r q) (H.get at1) 4 [.int .i64 r.N,.slice q.aE r.es.length q.cE] U)) ?_);refine Ah ED U (C9 _ CE Ct U U ((CX (l:=B9 r s) (H.get at0) 4 [.int .i64 r.N,.slice s.aE r.es.length s.cE] U)) ?_);refine Al qB (XT r.N r.N q.aE s.aE _ q.cE _ s.cE r.es r.es _ (RA.E.ext0 H.ext) U he (RB.E.ext0 H.ext) U he) U ?_;rintro v w ⟨rfl,hx32⟩;replace H:=H.call hx32;rw[show Ti r.N r.N r.es r.es=true by simp[Ti]];refine BP U (AJ U (.bool _) U (A2 U (AR 35 U ?_ ?_)))
     .intro h7;replace h7:=BM h7;refine Ag U (Ag U (Ag U (Ag U (Ag U (Ag U (Ag U (AA U (.bool _) U (A2 U (Ag U ?_)))))))));refine Ag U (Ag U (Ag U (Ag U (Ag U (Ag U (Ag U (Ag U (AA U (.bool _) U (A2 U ?_)))))))));refine Ag U (Ag U (Ag U (Ag U (Ag U (Ag U (Ag U (Ag U (Ag U (AA U (.bool _) U ?_)))))))));refine Ab ?_;exact⟨rfl,(),rfl,⟨qaa Value.bool (by(simp_all;done)),trivial⟩,H⟩
     .intro h8;replace h8:=BN h8;refine Ah Ew U (AG FS U H at1 U (Be Bh U (Ah Ew U (AG FS U H at0 U (Be Bh U (CK U U (AJ U (.bool _) U (A2 U (AR 44 U ?_ ?_)))))))))
      .intro h9;replace h9:=CY h9;refine Ag U (Ag U (Ag U (Ag U (Ag U (Ag U (Ag U (Ag U (Ag U (AA U (.bool _) U ?_)))))))));refine A2 U (Ag U (Ag U (Ag U (Ag U (Ag U (Ag U (Ag U (Ag U (Ag U ?_)))))))));refine AA U (.bool _) U (Ab ?_);exact⟨rfl,(),rfl,⟨qaa Value.bool (by(simp_all;done)),trivial⟩,H⟩
      .intro h10;replace h10:=CZ h10;refine Ah D6 U (Ah Fe U (AG BU U H at1 U (Be Bf U (Ah D6 U (Ah Fe U (AG BU U H at0 U (Be Bf U (CK U U (AJ U (.bool _) U ?_)))))))));refine A2 U (AR 55 U ?_ ?_)
       .intro h11;replace h11:=CY h11;refine Ag U (Ag U (Ag U (Ag U (Ag U (Ag U (Ag U (Ag U (Ag U (AA U (.bool _) U ?_)))))))));refine Ab ?_;exact⟨rfl,(),rfl,⟨qaa Value.bool (by(simp_all;done)),trivial⟩,H⟩
       .intro h12;replace h12:=CZ h12;refine Ah D6 U (Ah FY U (AG BU U H at1 U (Be Bf U (Ah D6 U (Ah FY U (AG BU U H at0 U (Be Bf U (CK U U (AJ U (.bool _) U ?_)))))))));refine Ab ?_;exact⟨rfl,(),rfl,⟨qaa Value.bool (by(simp_all;done)),trivial⟩,H⟩
 rintro - j65 w H;refine FE U (Ay (Aa (Ax (Ae (Ad U (qA (A1 (Bw 19342739326857771957092400 (α:=Nat) (fun i=>[(5,.int .i64 (i:Int))]) (fun i w'=>i<=r.ids.length/\Ctx w0 [] w' [(b3,Bl 127 (B9 r s)),(b2,Bl 127 (B9 r q))]) (fun i=>r.ids.length - i) 0 U ?_ ?_ ?_))))))))
 .exact⟨rfl,trivial⟩
 .exact⟨qaq _,H⟩
 .clear H;rintro i j w ⟨hii,H⟩;refine Ax (Ae (Af U (Ah Ew U (AG FS U H at1 U (Be Bh U (Bm U U (qA (Aw _ U ?_ ?_))))))))
  .intro h2;replace h2:=AM h2;obtain⟨x,hx⟩:=AE (l:=r.ids) (i:=i);refine Ay (Aa (Ax (A1 (DT (fun x=>x=_) Br U ?_))));refine A6 Ew U (Cj FS U (by rintro _ rfl;exact H.drew) at1 U ?_);refine AX U (BL RA.I Bh Bq U U (by rfl) ?_);refine BX B6 U (by rintro _ rfl;exact(((RA.I.ext0 H.drew.ext).one (f:=GM) hx))) ?_;refine A6 Ew U (Cj FS U (by rintro _ rfl;exact H.drew) at0 U ?_);refine AX U (BL RB.I Bh Bq U U (by rfl) ?_);refine BX B6 U (by rintro _ rfl;exact(((RB.I.ext0 H.drew.ext).one (f:=GM) hx))) ?_;refine Ox U U (BS ?_);rintro _ rfl;replace H:=H.drew;refine Aw _ U ?_ ?_
   .intro h3;replace h3:=CY h3;omega
   .intro h3;replace h3:=CZ h3;refine Ay (A8 (Aa (A0 (Af U (Az U U ?_)))));refine Ad U (qA ?_);exact⟨i+1,rfl,⟨rfl,trivial⟩,⟨by omega,H⟩,by omega⟩
  .intro h2;replace h2:=AN h2;refine Bt (An (An (AK (Aa (Ax (Ae (Ad U (qA (A1 (Bw 40564799864490227013827707273296 (α:=Nat) (fun i=>[(6,.int .i64 (i:Int))]) (fun i w'=>i<=r.fl.length/\Ctx w0 [] w' [(b3,Bl 127 (B9 r s)),(b2,Bl 127 (B9 r q))]) (fun i=>r.fl.length - i) 0 U ?_ ?_ ?_))))))))))
   .exact⟨rfl,trivial⟩
   .exact⟨qaq _,H⟩
   .clear H;rintro i2 j2 w ⟨hii2,H⟩;refine Ax (Ae (Af U (Ah D6 U (Ah Fe U (AG BU U H at1 U (Be Bf U (Bm U U (qA (Aw _ U ?_ ?_)))))))))
    .intro h3;replace h3:=AM h3;obtain⟨x,hx⟩:=AE (l:=r.fl) (i:=i2);refine Ay (Aa (Ax (A1 (DT (fun x=>x=_) Br U ?_))));refine A6 D6 U (A6 Fe U (Cj BU U (by rintro _ rfl;exact H.drew) at1 U ?_));refine AX U (BL RA.F Bf BD U U (by rfl) ?_);refine BX B4 U (by rintro _ rfl;exact(((RA.F.ext0 H.drew.ext).one (f:=Eb) hx))) ?_;refine A6 D6 U (A6 Fe U (Cj BU U (by rintro _ rfl;exact H.drew) at0 U ?_));refine AX U (BL RB.F Bf BD U U (by rfl) ?_);refine BX B4 U (by rintro _ rfl;exact(((RB.F.ext0 H.drew.ext).one (f:=Eb) hx))) ?_;refine Ox U U (BS ?_);rintro _ rfl;replace H:=H.drew;refine Aw _ U ?_ ?_
     .intro h4;replace h4:=CY h4;omega
     .intro h4;replace h4:=CZ h4;refine Ay (A8 (Aa (A0 (Af U (Az U U ?_)))));refine Ad U (qA ?_);exact⟨i2+1,rfl,⟨rfl,trivial⟩,⟨by omega,H⟩,by omega⟩
    .intro h3;replace h3:=AN h3;refine Bt (An (An (AK (Aa (Ax (Ae (Ad U (qA (A1 (Bw 85070551165415408562502803963439480976 (α:=Nat) (fun i=>[(7,.int .i64 (i:Int))]) (fun i w'=>i<=r.pot.length/\Ctx w0 [] w' [(b3,Bl 127 (B9 r s)),(b2,Bl 127 (B9 r q))]) (fun i=>r.pot.length - i) 0 U ?_ ?_ ?_))))))))))
     .exact⟨rfl,trivial⟩
     .exact⟨qaq _,H⟩
     .clear H;rintro i3 j3 w ⟨hii3,H⟩;refine Ax (Ae (Af U (Ah D6 U (Ah FY U (AG BU U H at1 U (Be Bf U (Bm U U (qA (Aw _ U ?_ ?_)))))))))
      .intro h4;replace h4:=AM h4;obtain⟨x,hx⟩:=AE (l:=r.pot) (i:=i3);refine Ay (Aa (Ax (A1 (DT (fun x=>x=_) Br U ?_))));refine A6 D6 U (A6 FY U (Cj BU U (by rintro _ rfl;exact H.drew) at1 U ?_));refine AX U (BL RA.P Bf BD U U (by rfl) ?_);refine BX B4 U (by rintro _ rfl;exact(((RA.P.ext0 H.drew.ext).one (f:=Eb) hx))) ?_;refine A6 D6 U (A6 FY U (Cj BU U (by rintro _ rfl;exact H.drew) at0 U ?_));refine AX U (BL RB.P Bf BD U U (by rfl) ?_);refine BX B4 U (by rintro _ rfl;exact(((RB.P.ext0 H.drew.ext).one (f:=Eb) hx))) ?_;refine Ox U U (BS ?_);rintro _ rfl;replace H:=H.drew;refine Aw _ U ?_ ?_
       .intro h5;replace h5:=CY h5;omega
       .intro h5;replace h5:=CZ h5;refine Ay (A8 (Aa (A0 (Af U (Az U U ?_)))));refine Ad U (qA ?_);exact⟨i3+1,rfl,⟨rfl,trivial⟩,⟨by omega,H⟩,by omega⟩
      .intro h4;replace h4:=AN h4;refine Bt (An (An (AK (Aa (Ae (Ai U (qA (A5 (AB (v:=(.bool _)) U U U ?_)))))))));exact⟨rfl,H.ext⟩
theorem Aca(a b:Option Addr)(n c m d:Nat)(rn:List Rnd)(qs zs:List RSl)(w:World)(R:Rd w a 8 Tl (rn.zip qs))(hn:rn.length=n)(hn2:n<=1000000)(Ry:Rd w b 8 Tl (rn.zip zs))(hm:rn.length=m)(hq:qs.length=rn.length)(hz:zs.length=rn.length)(K:∀x∈rn.zip qs,RAt w x.1 x.2)(Ky:∀x∈rn.zip zs,RAt w x.1 x.2)(hB:∀r∈rn,RBnd r) :
  Ret prog 45 #[.slice a n c,.slice b m d] w fun v w'=>v=.bool true/\Ext [] w w':=by
 subst hn hm;obtain⟨w0,rfl,H⟩:=qE w;have hzq:(rn.zip qs).length=rn.length:=by rw[qde];omega
 have hzz:(rn.zip zs).length=rn.length:=by rw[qde];omega
 refine Au (fn:=Tryz.f45) func45 U [.slice a rn.length c,.slice b rn.length d] U (Ae (Ai U (qA (Ax (Ae (Ap U (Be OD U (Ap U (Be OD U (CK U U ?_))))))))));refine qA (Aw _ U ?_ ?_)
 .intro h1;replace h1:=CY h1;omega
 .intro h1;replace h1:=CZ h1;refine Ay (Aa (Ax (Ae (Ad U (qA (A1 (Bw 134215728 (α:=Nat) (fun i=>[(5,.int .i64 (i:Int))]) (fun i w'=>i<=rn.length/\Ctx w0 [] w' []) (fun i=>rn.length - i) 0 U ?_ ?_ ?_)))))))
  .exact⟨rfl,trivial⟩
  .exact⟨qaq _,H⟩
  .clear H;rintro i j w ⟨hi,H⟩;refine Ax (Ae (Af U (Ap U (Be OD U (Bm U U (qA (Aw _ U ?_ ?_)))))))
   .intro h2;replace h2:=AM h2;obtain⟨r,hr⟩:=AE (l:=rn) (i:=i);obtain⟨q,hqi⟩:=AE (l:=qs) (i:=i);obtain⟨z,hzi⟩:=AE (l:=zs) (i:=i);have hx:(rn.zip qs)[i]?=some (r,q):=qee.2 ⟨hr,hqi⟩;have hy:(rn.zip zs)[i]?=some (r,z):=qee.2 ⟨hr,hzi⟩;refine Ay (Aa (Ax (A1 (Ej 8 Br U U ?_))));refine Ca U (AX U (BL R OD Da U U (by omega) ?_));refine G8 _ F1 Da U U (by rintro _ rfl;exact((R.ext0 H.drew.ext).row hx rfl)) ?_;refine Ca U (AX U (BL Ry OD Da U U (by omega) ?_));refine G8 _ F1 Da U U (by rintro _ rfl;exact((Ry.ext0 H.drew.ext).row hy rfl)) ?_;refine BS ?_;replace H:=H.drew;refine Al qB (Ab9 r q z _ ((K _ (qac hx)).ext0 H.ext) ((Ky _ (qac hy)).ext0 H.ext) (hB r (qac hr))) U ?_
    rintro v w ⟨rfl,hx25⟩;replace H:=H.call hx25;refine BP U (qA (Aw _ U ?_ ?_))
    .intro h3;replace h3:=BM h3;cases h3
    .intro h3;replace h3:=BN h3;refine Ay (A8 (Aa (A0 (Af U (Az U U ?_)))));refine Ad U (qA ?_);exact⟨i+1,rfl,⟨rfl,trivial⟩,⟨by omega,H⟩,by omega⟩
   .intro h2;replace h2:=AN h2;refine Bt (An (An (AK (Aa (Ae (Ai U (qA (A5 (AB (v:=(.bool _)) U U U ?_)))))))));exact⟨rfl,H.ext⟩
structure StZ where
 aA:Option Addr
 cA:Nat
 aD:Option Addr
 cD:Nat
 aR:Option Addr
 cR:Nat
 qs:List RSl
abbrev stC(s:Ld)(z:StZ):List Value:=[.int .i64 s.day,.slice z.aA s.acs.length z.cA,.slice z.aD s.ds.length z.cD,.int .u64 s.nx,.slice z.aR s.rn.length z.cR,.int .u64 s.no,.slice none 0 0]
structure StAt(w:World)(s:Ld)(z:StZ):Prop where
 A:Rd w z.aA 2 Dl s.acs
 D:Rd w z.aD 7 Dn s.ds
 R:Rd w z.aR 8 Tl (s.rn.zip z.qs)
 n:z.qs.length=s.rn.length
 K:∀x∈s.rn.zip z.qs,RAt w x.1 x.2
structure StOff(s:Ld)(z:StZ)(S:Nat->Prop):Prop where
 A:s.acs≠[]->¬S (adr z.aA).block
 D:s.ds≠[]->¬S (adr z.aD).block
 R:s.rn≠[]->¬S (adr z.aR).block
 K:∀x∈s.rn.zip z.qs,ROff x.2 x.1 S
theorem Aq2{rn:List Rnd}{qs:List RSl}(h:rn.zip qs≠[]):rn≠[]:=fun h1=>h (by rw[h1];rfl)
theorem StOff.mono{s:Ld}{z:StZ}{S S':Nat->Prop}(h:StOff s z S)(hs:∀x,S' x->S x):StOff s z S':=⟨fun g k=>h.A g (hs _ k),fun g k=>h.D g (hs _ k),fun g k=>h.R g (hs _ k),fun x hx=>(h.K x hx).mono hs⟩
theorem StOff.or{s:Ld}{z:StZ}{S S':Nat->Prop}(h:StOff s z S)(k:StOff s z S'):StOff s z (fun x=>S x\/S' x):=⟨fun g x=>x.elim (h.A g) (k.A g),fun g x=>x.elim (h.D g) (k.D g),fun g x=>x.elim (h.R g) (k.R g),fun x hx=>(h.K x hx).or (k.K x hx)⟩
theorem StAt.ext{w w':World}{s:Ld}{z:StZ}{S:List Nat}(h:StAt w s z)(he:Ext S w w')(hn:StOff s z (·∈S)):StAt w' s z :=
 ⟨h.A.ext' he hn.A,h.D.ext' he hn.D,h.R.ext' he fun g=>hn.R (Aq2 g),h.n,fun x hx=>(h.K x hx).ext he (hn.K x hx)⟩
theorem StAt.ext0{w w':World}{s:Ld}{z:StZ}(h:StAt w s z)(he:Ext [] w w'):StAt w' s z :=
 h.ext he ⟨fun _=>by simp,fun _=>by simp,fun _=>by simp,fun x _=>⟨fun _=>by simp,fun _=>by simp,fun _=>by simp,fun _=>by simp⟩⟩
theorem StAt.lt{w:World}{s:Ld}{z:StZ}(h:StAt w s z):StOff s z (fun x=>w.heap.size<=x) :=
 ⟨fun g=>qdj.2 (h.A.lt' (fun _ _=>rfl) (by decide) g),fun g=>qdj.2 (h.D.lt' (fun _ _=>rfl) (by decide) g),fun g=>qdj.2 (h.R.lt' (fun _ _=>rfl) (by decide) fun h1=>g (by
  have h2:=qaa List.length h1;rw[qde,h.n,Nat.min_self]at h2
  exact List.length_eq_zero_iff.1 h2)),fun x hx=>(h.K x hx).lt⟩
theorem Ah4{bd b:Nat}{nx:Int}(w:World)(hd:w.heap[bd]?=some (Bl 132 (DU b nx))):Ret prog 48 #[ptr bd] w fun v w'=>v=.int .u64 nx/\Ext [] w w':=by
 obtain⟨w0,rfl,H⟩:=qE w;refine Au (fn:=f48) func48 U [.pointer (some ⟨bd,0,none⟩)] U ?_;refine Ae (Ad U (qA (Ax (Ae (A4 U (Cw LV U ?_))))));refine qA (Aw _ U ?_ ?_)
 .intro h1;cases h1
 .intro h1;refine Ay (Aa (Ae (A4 U (A9 U (Ah KQ U (Bb B6 U ((by rw[Aj hd];rfl)) ?_))))));refine Ad U (qA (A5 (AB (v:=(.int _ _)) U U U ?_)));exact⟨rfl,H.ext⟩
theorem Acb{m:Lm}{s:Ld}{T:Nat->Prop}{S:List Nat}{w0:World}(w:World)(I:LdIn w m s T)(H0:Ctx w0 S w (LL m s)) :
  Ret prog 12 #[ptr m.bl] w fun v w'=>Ext [] w w'/\∃z,v=.agg (stC s z).toArray/\StAt w' s z/\StOff s z (fun x=>x<w.heap.size):=by
 obtain⟨w1,rfl⟩:=qD w;have hbl:=H0.get at0;have hbr:=H0.get at1;have hba:=H0.get at2;have hbd:=H0.get at3;have hb:=H0.get at4;have RA0:Rd w1 m.a 2 Dl s.acs:=OS.rd (t:=108) I.O (fun y hy=>H0.blk y (qaf [_,_,_,_,_] hy)) (fun _ _=>rfl) (by decide);have hn16:=(Cv.1 I.ok.ac).1;obtain⟨h64,-,h3d,-⟩:=FA I.ok.du;have H:=Ctx.start w1 [];refine Au (fn:=f12) func12 U [.pointer (some ⟨m.bl,0,none⟩)] U ?_;refine Ae (Bc YE H ?_);rintro b2 w - H;refine qA (Ax (Ae (A4 U (Cw Amh U ?_))));refine qA (Aw _ U ?_ ?_)
 .intro h1;cases h1
 .intro h1;refine Ay (Aa (Ck [([0,1,2,3,4,5,6,7,9,10,11,12,14,15,16,17,19,20,21,22,24,25,26,27],8),([],13),([],18),([],23),([],28),([29],30)] (fun z=>Ext [] w1 z) [30] Br (H.drew.ext) ?_));refine AD U U ?_;refine BG U (Ba U (Ao MT U (B0 B4 U (fun _ hx=>(by rw[Aj (hx.to hbl (by simp))];rfl)) ?_)));refine BG U (Ba U (Ao He U (B0 IV U (fun _ hx=>(by rw[Aj (hx.to hbl (by simp))];rfl)) ?_)));refine BG U (Ba U (Ao Gk U (B0 HO U (fun _ hx=>(by rw[Aj (hx.to hbl (by simp))];rfl)) ?_)));refine BG U (Ba U (Ao Gk U (B0 HO U (fun _ hx=>(by rw[Aj (hx.to hbl (by simp))];rfl)) ?_)));refine BG U (Ba U (Ao L7 U (B0 Su U (fun _ hx=>(by rw[Aj (hx.to hbl (by simp))];rfl)) ?_)));refine BG U (Ba U (Ao L7 U (B0 Su U (fun _ hx=>(by rw[Aj (hx.to hbl (by simp))];rfl)) ?_)));refine AU ?_;replace H:=H.drew
  refine Al qB (QL m.a _ m.c s.acs _ (H.ext.to hba (by simp)) (RA0.ext0 H.ext) U) U ?_;rintro v w F;obtain⟨aA,cA,rfl,RA,hA,-,hxA⟩:=Ny F (fun _ _=>rfl);have hsA:=H.ext.size;have lbA:=Bd (H.get at0);replace H:=H.call hxA;refine Ab (BH (H.ext) (AD U U ?_));refine AU (Al qB (Nh _ (H.ext.to hbd (by simp)) (H.ext.to hb (by simp)) I.M (Lq I.ok.du)) U ?_);rintro v w ⟨ds',hSd,F⟩;have hde:=Nn hSd (Kc h3d).2.1;rw[hde]at F;obtain⟨aD,cD,rfl,RD,hD,-,hxD⟩:=Ny F (fun _ _=>rfl);have hsD:=H.ext.size;have lbD:=Bd (H.get at0);replace H:=H.call hxD;replace RA:=RA.ext0 hxD;refine Ab (BH (H.ext) (AD U U ?_));refine AU (Al qB (Ah4 _ (H.ext.to hbd (by simp))) U ?_);rintro v w ⟨rfl,hxN⟩;replace H:=H.call hxN;replace RA:=RA.ext0 hxN;replace RD:=RD.ext0 hxN;refine Ab (BH (H.ext) (AD U U ?_));refine AU ?_;have lsR:=H.ext.size;have lbR:=Bd (H.get at0)
  refine Al qB (Ab8 _ (I.grow H.ext (by simp) (Grows.refl _ _) fun x hx=>qa7 (I.low x hx) H.size) (H.ext.to hbr (by simp))) U ?_;rintro v w ⟨hxR,aR,cR,qs,rfl,hql,RR,hR,hK⟩;have hsR:=hxR.size;replace H:=H.call hxR;replace RA:=RA.ext0 hxR;replace RD:=RD.ext0 hxR;refine Ab (BH (H.ext) (AD U U ?_));refine AU (Al qB (Ah0 _ (H.ext.to hbr (by simp)) I.no) U ?_);rintro v w ⟨rfl,hxO⟩;have hKO:=fun x hx=>(hK x hx).1.ext0 hxO;replace RA:=RA.ext0 hxO;replace RD:=RD.ext0 hxO;replace RR:=RR.ext0 hxO;replace H:=H.call hxO;have H8:=H;obtain⟨w8,rfl⟩:=qD w;clear H;have H:=Ctx.start1 (H8.get at0);refine Ab (BH (H8.ext) (AD U U ?_));refine Qc (stC s ⟨aA,cA,aD,cD,aR,cR,qs⟩) U pl_42 YE ?_;refine AU (Bn OH U U U (by exact(by simp[AY])) H at0 U ?_);rintro w H;refine Ab (Bz U (BF (A5 (JI U U U Vl OH H at0 U ?_))))
  have Z8:StAt w8 s ⟨aA,cA,aD,cD,aR,cR,qs⟩:=⟨RA,RD,RR,hql,hKO⟩;have off:StOff s ⟨aA,cA,aD,cD,aR,cR,qs⟩ (fun x=>x<w1.heap.size\/x=b2):=⟨fun g k=>by have:=hA g;dsimp only at k;omega,fun g k=>by have:=hD g;dsimp only at k;omega,fun g k=>by have:=hR g;dsimp only at k;omega,fun x hx=>(hK x hx).2.mono fun y hy=>by omega⟩;have hbw:w1.heap.size<=b2:=(H8.own (b2,_) (qac at0)).elim (fun h=>by cases h) id;exact⟨H8.ext.then H.ext (fun x hx => .inr (by rw[qab.1 hx];exact hbw)),⟨aA,cA,aD,cD,aR,cR,qs⟩,rfl,Z8.ext H.ext (off.mono fun x hx => .inr (qab.1 hx)),off.mono fun x hx => .inl hx⟩
def Pq(acs:List Ac)(ds:List Du)(k i:Nat):Int:=(acs.getD k a00).ba+C2 ((ds.take i).map fun d=>plc k d*d.am)
theorem Tm{acs:List Ac}{ds:List Du}{k i:Nat}{d:Du}(h:ds[i]?=some d):Pq acs ds k (i+1)=Pq acs ds k i - (if d.fr=(k:Int)then d.am else 0)+(if d.to=(k:Int)then d.am else 0):=by
 unfold Pq;rw[Ni h,F8];have h1:C2 [plc k d*d.am]=plc k d*d.am:=by rw[Cm];show _+0=_;omega
 rw[h1];unfold plc
 by_cases g1:d.to=(k:Int)
 .rw[GF g1,if_pos g1]
  by_cases g2:d.fr=(k:Int)
  .rw[GF g2,if_pos g2];omega
  .rw[Gd g2,if_neg g2];omega
 .rw[Gd g1,if_neg g1]
  by_cases g2:d.fr=(k:Int)
  .rw[GF g2,if_pos g2];omega
  .rw[Gd g2,if_neg g2];omega
theorem Wx{acs:List Ac}{ds:List Du}{k:Nat}(hb:0<=(acs.getD k a00).ba/\(acs.getD k a00).ba<=4503599627370496)(ham:∀d∈ds,0<=d.am/\d.am<=4503599627370496):∀i,i<=ds.length -> -(4503599627370496*((i:Int)+1))<=Pq acs ds k i/\Pq acs ds k i<=4503599627370496*((i:Int)+1)
 |0,_=>by
  have h:Pq acs ds k 0=(acs.getD k a00).ba+0:=rfl;rw[h];omega
 |i+1,h=>by
  have ih:=Wx hb ham i (by omega);obtain⟨d,hd⟩:=AE (l:=ds) (i:=i);have h1:=ham d (qac hd);rw[Tm hd]
  split <;> split <;> omega
theorem Acc{m:Lm}{s:Ld}{T:Nat->Prop}{k:Ak}(hk:k.kd=13)(_:AkIn k)(w:World)(I:LdIn w m s T)(H0:Ctx w (Dy m s) w (LL m s)) :
  Ret prog 40 #[ptr m.bl,.agg (BQ k).toArray] w (GI w m s T k):=by
 obtain⟨w0,rfl⟩:=qD w;obtain⟨bl,ba,bd,br,b,a,c,full,o,arch⟩:=m;obtain⟨S0,hS0⟩:=qD (Dy ⟨bl,ba,bd,br,b,a,c,full,o,arch⟩ s);have H:Ctx w0 S0 w0 ((bl,Bl 73 [ptr ba,ptr bd,ptr br,.int .i64 s.day])::(br,Bl 135 arch)::(ba,Bl 129 [.slice a s.acs.length c])::(bd,Bl 132 (DU b s.nx))::(b,o)::ent a 108 full):=by rw[hS0];exact H0
 have hn16:=(Cv.1 I.ok.ac).1;have hbdb:bd≠b:=H.ne (i:=3) (j:=4) rfl rfl (by decide);have hR:FC s k=if inA s.acs k.a=true then⟨0,[Lr s.acs s.ds k.a.toNat]⟩else⟨10,[]⟩:=by unfold FC;(iterate 10 rw[if_neg (by omega)]);rw[if_pos hk]
 have hS:Fz s k=s:=by unfold Fz;iterate 9 rw[if_neg (by omega)]
 have hstep:∀p,FC s k=p->CN s k s p:=fun p h2=>by
  unfold CN;rw[if_neg (by omega)];exact⟨hS.symm,h2.symm⟩
 refine Au (fn:=f40) func40 U [.pointer (some ⟨bl,0,none⟩),.agg (BQ k).toArray] U ?_;refine Ae (Bu (BQ k) (.agg _) U U H ?_);rintro b3 w - H;refine Am U (Ad U (qA (DV 2095296 (α:=Nat) (fun z=>[(6,ptr z),(7,.bool (inA s.acs k.a))]) (fun z w'=>Ctx w0 S0 w' ((z,Bl 108 (Dl (D8 s.acs k.a)))::(b3,Bl 25 (BQ k))::(bl,Bl 73 [ptr ba,ptr bd,ptr br,.int .i64 s.day])::(br,Bl 135 arch)::(ba,Bl 129 [.slice a s.acs.length c])::(bd,Bl 132 (DU b s.nx))::(b,o)::ent a 108 full)) U ?_ ?_)))
 .skip
  refine PM (.two [0,1,2,3,4,5] 6 (.one [7,8,9] 10 (.one [] 11 (.one [] 12 .stop))) 10 (.one [] 6 (.one [7,8,9] 11 (.one [] 12 .stop)))) (fun z=>z.heap[b3]?=some (Bl 25 (BQ k))/\z.heap[bl]?=some (Bl 73 [ptr ba,ptr bd,ptr br,.int .i64 s.day])) Br (⟨H.drew.get at0,H.drew.get at1⟩) ?_;refine Jf U U U (BG U (Ba U (Ao He U (B0 IV U (fun _ hx=>(by rw[Aj hx.2];rfl)) ?_))));refine Ao EF U (B0 Cc U (fun _ hx=>(by rw[Aj hx.1];rfl)) ?_);refine AU ?_;replace H:=H.drew;refine⟨?_,?_⟩
  .skip
   refine Al qB (P8 a _ c s.acs k.a _ (H.get at3) (OS.rd (t:=108) I.O (fun y hy=>H.blk y (qaf [_,_,_,_,_,_] hy)) (fun _ _=>rfl) (by decide)) U (by omega)) U ?_;rintro v w ⟨rfl,hx18⟩;replace H:=H.call hx18;refine Ab (BT (by exact⟨H.get at0,H.get at1⟩) ?_);refine BR U U (DH U (Bs U U (Bs U U (AU (Bc HA H ?_)))));rintro b6 w - H;refine Ab (BT (by exact⟨H.get at1,H.get at2⟩) ?_);refine BR U U (AU (Bn DO U U U (by exact J4 _) H at0 U ?_));rintro w H;refine Ab (BT (by exact⟨H.get at1,H.get at2⟩) ?_);refine BR U U (AU (Ai U (Ab (BT (by exact⟨H.get at1,H.get at2⟩) ?_))));refine Ey (Aa ?_);exact⟨b6,rfl,⟨rfl,rfl,trivial⟩,H⟩
  .skip
   refine Bc HA H ?_;rintro b6 w - H;refine Ab (BT (by exact⟨H.get at1,H.get at2⟩) ?_);refine BR U U (AU (Al qB (P8 a _ c s.acs k.a _ (H.get at4) (OS.rd (t:=108) I.O (fun y hy=>H.blk y (qaf [_,_,_,_,_,_,_] hy)) (fun _ _=>rfl) (by decide)) U (by omega)) U ?_));rintro v w ⟨rfl,hx18⟩;replace H:=H.call hx18;refine Ab (BT (by exact⟨H.get at1,H.get at2⟩) ?_);refine BR U U (DH U (Bs U U (Bs U U (AU (Bn DO U U U (by exact J4 _) H at0 U ?_)))));rintro w H;refine Ab (BT (by exact⟨H.get at1,H.get at2⟩) ?_);refine BR U U (AU (Ai U (Ab (BT (by exact⟨H.get at1,H.get at2⟩) ?_))));refine Ey (Aa ?_);exact⟨b6,rfl,⟨rfl,rfl,trivial⟩,H⟩
 .rintro b6 j7 w H;refine Ax (Ae (A2 U (BP U (qA (Aw _ U ?_ ?_)))))
  .intro h1;replace h1:=BM h1
   have hf:inA s.acs k.a=false:=by cases hh:inA s.acs k.a with|false=>rfl|true=>rw[hh]at h1;cases h1
   refine Ae (Am U (Ad U (qA (A5 (Av (Cf (v1:=(.slice _ _ _)) (v2:=(.int _ _)) U U U U ?_))))));subst hS0;exact Ek (P:=[_,_]) (m':=⟨bl,ba,bd,br,b,a,c,full,o,arch⟩) (s':=s) (l:=[]) (code:=10) I H (IH _) (hstep _ (by rw[hR,if_neg (by rw[hf];decide)];rfl)) I.O I.M I.ok U U U U
  .intro h1;replace h1:=BN h1
   have hf:inA s.acs k.a=true:=by cases hh:inA s.acs k.a with|true=>rfl|false=>rw[hh]at h1;cases h1
   have hki:=Hg.1 hf;have hka:((k.a.toNat:Nat):Int)=k.a:=by omega
   have hga:=J7 I.ok.ac hf;have hgd:s.acs.getD k.a.toNat a00=D8 s.acs k.a:=Bv (FK hf)
   have h0:Pq s.acs s.ds k.a.toNat 0=(D8 s.acs k.a).ba:=by
    have:Pq s.acs s.ds k.a.toNat 0=(s.acs.getD k.a.toNat a00).ba+0:=rfl;rw[this,hgd,Int.add_zero]
   obtain⟨h64,-,-,-⟩:=FA I.ok.du;have hmy:∀d∈s.ds,E7 d=true:=fun d hd=>((Ie I.ok.du).1 d hd).1;have ham:∀d∈s.ds,0<=d.am/\d.am<=4503599627370496:=fun d hd=>by have:=Ei (hmy d hd);omega
   refine Ay (Aa (Ae (Ah F4 U (AG B4 U H at0 U (Ad U (qA (Ax (Ae (A4 U (A9 U ?_))))))))));refine Ah Gk U (AG HO U H at2 U (Al qB (J6 I.ok.du _ ⟨b,s.nx,o,H.get at5,H.get at6,I.M⟩) U ?_));rintro v w ⟨hx29,a3,c3,rfl,R3⟩;replace H:=H.call hx29;refine Be D9 U (Af U (qA (A1 ?_)));have H8:=H;obtain⟨w1,rfl⟩:=qD w;have hb3:=H8.get at1;clear H;have H:=Ctx.start w1 [];refine Bw 18014396361999616 (α:=Nat) (fun i=>[(8,.int .i64 (Pq s.acs s.ds k.a.toNat i)),(31,.int .i64 (i:Int))]) (fun i w'=>i<=s.ds.length/\Ctx w1 [] w' []) (fun i=>s.ds.length - i) 0 U ?_ ?_ ?_
   .exact⟨by rw[h0];rfl,rfl,trivial⟩
   .exact⟨qaq _,H⟩
   .clear H;rintro i j w ⟨hi,H⟩;refine Ae (Bm U U (qA (Ax (Aw _ U ?_ ?_))))
    .intro h2;replace h2:=AM h2;obtain⟨d,hd⟩:=AE (l:=s.ds) (i:=i);have hbi:=Wx (acs:=s.acs) (ds:=s.ds) (k:=k.a.toNat) (by rw[hgd];exact hga.1) ham i hi;have hda:=ham d (qac hd);have hdn:=(Ei (hmy d (qac hd))).2.2.1;have hst:=Tm (acs:=s.acs) (k:=k.a.toNat) hd;rw[hka]at hst;obtain⟨S,hS⟩:=qD (Pq s.acs s.ds k.a.toNat i);rw[<-hS]at hbi hst |-;refine Ay (Aa (Ax (A1 (Ae (Bg (R3.ext0 H.ext) D9 BV U U (by rfl) ?_)))));refine C9 _ E4 BV U U (((R3.ext0 H.ext).row hd U)) (Bc DX H ?_);rintro b10 w - H;refine Bn BV U U U (by exact Dx _) H at0 U ?_;rintro w H;refine qA ?_;replace H:Ctx w1 [] w [(b10,Bl 118 (Dn d))]:=H;refine Ae (Ah EF U (Bb Cc U ((H.old (Aj hb3 _) (by simp))) ?_));refine qA (A1 (Ae (Ah It U (AG Cc U H at0 U (C3 U U (Ai U (qA (Aw _ U ?_ ?_))))))))
     .intro h3;replace h3:=AM h3;refine A0 (Af U (Ah ER U (AG B4 U H at0 U (Bo U U ?_))));refine Ad U (Ab (A8 (A8 (Aa (A0 (Az U U ?_))))));refine Af U (qA ?_);exact⟨i+1,rfl,⟨qaa (Value.int .i64) (by rw[hst,if_pos h3.symm,if_neg (by omega)];omega),rfl,trivial⟩,⟨by omega,H.tail⟩,by omega⟩
     .intro h3;replace h3:=AN h3;refine Ae (Ah Iu U (AG Cc U H at0 U (C3 U U (Ai U (qA (Aw _ U ?_ ?_))))))
      .intro h4;replace h4:=AM h4;refine A0 (Af U (Ah ER U (AG B4 U H at0 U (Az U U ?_))));refine Ad U (Ab (A8 (A8 (Aa (A0 (Az U U ?_))))));refine Af U (qA ?_);exact⟨i+1,rfl,⟨qaa (Value.int .i64) (by rw[hst,if_neg (by omega),if_pos h4.symm];omega),rfl,trivial⟩,⟨by omega,H.tail⟩,by omega⟩
      .intro h4;replace h4:=AN h4;refine Ay (A8 (A8 (Aa (A0 (Az U U ?_)))));refine Af U (qA ?_);exact⟨i+1,rfl,⟨qaa (Value.int .i64) (by rw[hst,if_neg (by omega),if_neg (by omega)];omega),rfl,trivial⟩,⟨by omega,H.tail⟩,by omega⟩
    .intro h2;replace h2:=AN h2;obtain rfl:i=s.ds.length:=by omega
     have hfin:Pq s.acs s.ds k.a.toNat s.ds.length=Lr s.acs s.ds k.a.toNat:=by
      unfold Pq Lr;rw[qbm]
     rw[hfin];have H9:=H8.call H.ext;have H17:=Ctx.start w [];refine Bt (An (An (AK (Aa (Ae (Af U (Cp [.int .i64 (Lr s.acs s.ds k.a.toNat)] (.int .i64 (Lr s.acs s.ds k.a.toNat)) Bf BD Fh U U U U H17 ?_)))))));rintro b55 w2 - H17;refine Am U (Ad U (qA (A5 (Cf (v1:=(.slice _ _ _)) (v2:=(.int _ _)) U U U U ?_))));subst hS0;exact Ek (P:=[_,_]) (m':=⟨bl,ba,bd,br,b,a,c,full,o,arch⟩) (s':=s) (l:=[Lr s.acs s.ds k.a.toNat]) (code:=0) I H9 (GZ (n:=1) (l:=[Eb (Lr s.acs s.ds k.a.toNat)]) H17 U) (hstep _ (by rw[hR,if_pos hf];rfl)) I.O I.M I.ok U U U U
theorem Acd{r:Rnd}(h:Po r=true):(1<=r.N/\r.N<=40)/\r.es.length<=200/\r.fl.length=r.es.length/\(r.pot.length:Int)=r.N/\r.ids.length<=64:=by
 unfold Po at h;simp only[qae,qar]at h;obtain⟨hc,hi,-⟩:=h;obtain⟨h1,h2,-⟩:=GY.1 hc;obtain⟨g1,g2,g3,-⟩:=CS (C5 (F7 h1).1).2.1;exact⟨⟨g1,g2⟩,g3,(C5 (F7 h1).1).1,(Mu h2).1,hi⟩
theorem XW{m:Lm}{s:Ld}{T:Nat->Prop}{k:Ak}(hk:k.kd=15)(hin:AkIn k)(hg:Uz s k.id=none)(w:World)(I:LdIn w m s T)(H0:Ctx w (Dy m s) w (LL m s)) :
  Ret prog 42 #[ptr m.bl,.agg (BQ k).toArray] w (GI w m s T k):=by
 obtain⟨w0,rfl⟩:=qD w;obtain⟨bl,ba,bd,br,b,a,c,full,o,arch⟩:=m;obtain⟨S0,hS0⟩:=qD (Dy ⟨bl,ba,bd,br,b,a,c,full,o,arch⟩ s);have H:Ctx w0 S0 w0 ((bl,Bl 73 [ptr ba,ptr bd,ptr br,.int .i64 s.day])::(br,Bl 135 arch)::(ba,Bl 129 [.slice a s.acs.length c])::(bd,Bl 132 (DU b s.nx))::(b,o)::ent a 108 full):=by rw[hS0];exact H0
 have hn16:=(Cv.1 I.ok.ac).1;have hbdb:bd≠b:=H.ne (i:=3) (j:=4) rfl rfl (by decide);have hS:Fz s k=s:=by unfold Fz;iterate 9 rw[if_neg (by omega)]
 have hstep:∀p,FC s k=p->CN s k s p:=fun p h2=>by
  unfold CN;rw[if_neg (by omega)];exact⟨hS.symm,h2.symm⟩
 have hno:0<=s.no/\s.no<=4611686018427387904:=by have:=I.ok.kept;omega
 have hR:FC s k=⟨4,[]⟩:=by unfold FC;(iterate 12 rw[if_neg (by omega)]);rw[if_pos hk,hg]
 refine Au (fn:=Tryz.f42) func42 U [.pointer (some ⟨bl,0,none⟩),.agg (BQ k).toArray] U ?_;refine Ae (Bu (BQ k) (.agg _) U U H ?_);rintro b3 w - H;refine Am U (Ad U (qA (DV 4190400 (α:=Nat) (fun z=>[(6,ptr z),(7,.bool false)]) (fun z w'=>Ctx w0 S0 w' ((z,Bl 127 rnd0)::(b3,Bl 25 (BQ k))::(bl,Bl 73 [ptr ba,ptr bd,ptr br,.int .i64 s.day])::(br,Bl 135 arch)::(ba,Bl 129 [.slice a s.acs.length c])::(bd,Bl 132 (DU b s.nx))::(b,o)::ent a 108 full)) U ?_ ?_)))
 .skip
  refine PM (.two [0,1,2,3,4,5] 6 (.one [7,8,9] 10 (.one [] 11 (.one [] 12 .stop))) 10 (.one [] 6 (.one [7,8,9] 11 (.one [] 12 .stop)))) (fun z=>z.heap[b3]?=some (Bl 25 (BQ k))/\z.heap[bl]?=some (Bl 73 [ptr ba,ptr bd,ptr br,.int .i64 s.day])) Br (⟨H.drew.get at0,H.drew.get at1⟩) ?_;refine Jf U U U (BG U (Ba U (Ao L7 U (B0 Su U (fun _ hx=>(by rw[Aj hx.2];rfl)) ?_))));refine Ao IY U (B0 B6 U (fun _ hx=>(by rw[Aj hx.1];rfl)) ?_);refine AU ?_;replace H:=H.drew;refine⟨?_,?_⟩
  .skip
   refine Al qB (Wu (n:=s.rn.length) _ (H.get at2) I.n I.no hno hin.id (Tk I.ok hg)) U ?_;rintro v w ⟨rfl,hx19⟩;replace H:=H.call hx19;refine Ab (BT (by exact⟨H.get at0,H.get at1⟩) ?_);refine BR U U (DH U (Bs U U (Bs U U (AU (Bc FU H ?_)))));rintro b6 w - H;refine Ab (BT (by exact⟨H.get at1,H.get at2⟩) ?_);refine BR U U (AU (Bn Da U U U (by exact(by simp[rnd0,AY])) H at0 U ?_));rintro w H;refine Ab (BT (by exact⟨H.get at1,H.get at2⟩) ?_);refine BR U U (AU (Ai U (Ab (BT (by exact⟨H.get at1,H.get at2⟩) ?_))));refine Ey (Aa ?_);exact⟨b6,rfl,⟨rfl,rfl,trivial⟩,H⟩
  .skip
   refine Bc FU H ?_;rintro b6 w - H;refine Ab (BT (by exact⟨H.get at1,H.get at2⟩) ?_);refine BR U U (AU (Al qB (Wu (n:=s.rn.length) _ (H.get at3) I.n I.no hno hin.id (Tk I.ok hg)) U ?_));rintro v w ⟨rfl,hx19⟩;replace H:=H.call hx19;refine Ab (BT (by exact⟨H.get at1,H.get at2⟩) ?_);refine BR U U (DH U (Bs U U (Bs U U (AU (Bn Da U U U (by exact(by simp[rnd0,AY])) H at0 U ?_)))));rintro w H;refine Ab (BT (by exact⟨H.get at1,H.get at2⟩) ?_);refine BR U U (AU (Ai U (Ab (BT (by exact⟨H.get at1,H.get at2⟩) ?_))));refine Ey (Aa ?_);exact⟨b6,rfl,⟨rfl,rfl,trivial⟩,H⟩
 .rintro b6 j7 w H;refine Ax (Ae (A2 U (BP U (qA (Aw _ U ?_ ?_)))))
  .intro h1;replace h1:=BM h1;refine Ae (Am U (Ad U (qA (A5 (Av (Cf (v1:=(.slice _ _ _)) (v2:=(.int _ _)) U U U U ?_))))));subst hS0;exact Ek (P:=[_,_]) (m':=⟨bl,ba,bd,br,b,a,c,full,o,arch⟩) (s':=s) (l:=[]) (code:=4) I H (IH _) (hstep _ (by rw[hR];rfl)) I.O I.M I.ok U U U U
  .intro h1;replace h1:=BN h1;cases h1
theorem XX{m:Lm}{s:Ld}{T:Nat->Prop}{k:Ak}(hk:k.kd=15)(hin:AkIn k){r:Rnd}(hg:Uz s k.id=some r)(w:World)(I:LdIn w m s T)(H0:Ctx w (Dy m s) w (LL m s)) :
  Ret prog 42 #[ptr m.bl,.agg (BQ k).toArray] w (GI w m s T k):=by
 obtain⟨w0,rfl⟩:=qD w;obtain⟨bl,ba,bd,br,b,a,c,full,o,arch⟩:=m;obtain⟨S0,hS0⟩:=qD (Dy ⟨bl,ba,bd,br,b,a,c,full,o,arch⟩ s);have H:Ctx w0 S0 w0 ((bl,Bl 73 [ptr ba,ptr bd,ptr br,.int .i64 s.day])::(br,Bl 135 arch)::(ba,Bl 129 [.slice a s.acs.length c])::(bd,Bl 132 (DU b s.nx))::(b,o)::ent a 108 full):=by rw[hS0];exact H0
 have hn16:=(Cv.1 I.ok.ac).1;have hbdb:bd≠b:=H.ne (i:=3) (j:=4) rfl rfl (by decide);have hS:Fz s k=s:=by unfold Fz;iterate 9 rw[if_neg (by omega)]
 have hstep:∀p,FC s k=p->CN s k s p:=fun p h2=>by
  unfold CN;rw[if_neg (by omega)];exact⟨hS.symm,h2.symm⟩
 have hno:0<=s.no/\s.no<=4611686018427387904:=by have:=I.ok.kept;omega
 have hR:FC s k=Kh r k.b:=by unfold FC;(iterate 12 rw[if_neg (by omega)]);rw[if_pos hk,hg]
 obtain⟨hg1,hgm,hgn⟩:=Ab7 I.ok hg;have hmay:=I.ok.may r hgm;have hB:=U5 hmay;obtain⟨hm1,hm2,hm3,hm4,hm5⟩:=Acd hmay;obtain⟨q,hq1,hq2,hq3⟩:=I.kept r hgm;rw[hgn]at hq1;refine Au (fn:=Tryz.f42) func42 U [.pointer (some ⟨bl,0,none⟩),.agg (BQ k).toArray] U ?_;refine Ae (Bu (BQ k) (.agg _) U U H ?_);rintro b3 w - H;refine Am U (Ad U (qA (DV 4190400 (α:=Nat × RSl) (fun z=>[(6,ptr z.1),(7,.bool true)]) (fun z w'=>RAt w' r z.2/\Ctx w0 S0 w' ((z.1,Bl 127 (B9 r z.2))::(b3,Bl 25 (BQ k))::(bl,Bl 73 [ptr ba,ptr bd,ptr br,.int .i64 s.day])::(br,Bl 135 arch)::(ba,Bl 129 [.slice a s.acs.length c])::(bd,Bl 132 (DU b s.nx))::(b,o)::ent a 108 full)) U ?_ ?_)))
 .skip
  refine PM (.two [0,1,2,3,4,5] 6 (.one [7,8,9] 10 (.one [] 11 (.one [] 12 .stop))) 10 (.one [] 6 (.one [7,8,9] 11 (.one [] 12 .stop)))) (fun z=>z.heap[b3]?=some (Bl 25 (BQ k))/\z.heap[bl]?=some (Bl 73 [ptr ba,ptr bd,ptr br,.int .i64 s.day])) Br (⟨H.drew.get at0,H.drew.get at1⟩) ?_;refine Jf U U U (BG U (Ba U (Ao L7 U (B0 Su U (fun _ hx=>(by rw[Aj hx.2];rfl)) ?_))));refine Ao IY U (B0 B6 U (fun _ hx=>(by rw[Aj hx.1];rfl)) ?_);refine AU ?_;replace H:=H.drew;refine⟨?_,?_⟩
  .skip
   refine Al qB (Tj (n:=s.rn.length) (r:=r) (q:=q) _ (H.get at2) I.len I.n I.no hno hin.id hg1 hq1 (hq2.ext H.ext (hq3.mono fun x hx=>I.own x (by rw[<-hS0];exact hx))) hB) U ?_;rintro v w ⟨hx19,q',rfl,RA,hoff⟩;have H9:=H.call hx19;clear H;obtain⟨w9,rfl,H⟩:=qE w;refine Ab (BT (by exact⟨H.ext.to (H9.get at0) (by simp),H.ext.to (H9.get at1) (by simp)⟩) ?_);refine BR U U (DH U (Bs U U (Bs U U (AU (Bc FU H ?_)))));rintro b6 w - H;refine Ab (BT (by exact⟨H.ext.to (H9.get at0) (by simp),H.ext.to (H9.get at1) (by simp)⟩) ?_);refine BR U U (AU (Bn Da U U U (by simp[AY]) H at0 U ?_));rintro w H;refine Ab (BT (by exact⟨H.ext.to (H9.get at0) (by simp),H.ext.to (H9.get at1) (by simp)⟩) ?_);refine BR U U (AU (Ai U (Ab (BT (by exact⟨H.ext.to (H9.get at0) (by simp),H.ext.to (H9.get at1) (by simp)⟩) ?_))));refine Ey ?_
   refine Aa ?_;exact⟨(b6,q'),rfl,⟨rfl,rfl,trivial⟩,RA.ext0 H.ext,Ctx.mid (B:=[]) (L:=[]) H9 H⟩
  .skip
   refine Bc FU H ?_;rintro b6 w - H;refine Ab (BT (by exact⟨H.get at1,H.get at2⟩) ?_);refine BR U U (AU (Al qB (Tj (n:=s.rn.length) (r:=r) (q:=q) _ (H.get at3) I.len I.n I.no hno hin.id hg1 hq1 (hq2.ext H.ext (hq3.mono fun x hx=>I.own x (by rw[<-hS0];exact hx))) hB) U ?_));rintro v w ⟨hx19,q',rfl,RA,hoff⟩;have hlt:=Bd (H.get at0);have H9:=H.call hx19;clear H;obtain⟨w9,rfl⟩:=qD w;have H:=Ctx.start1 (H9.get at0);refine Ab (BT (by exact⟨H.ext.to (H9.get at1) (by rw[qab];exact H9.ne (i:=1) (j:=0) rfl rfl (by decide)),H.ext.to (H9.get at2) (by rw[qab];exact H9.ne (i:=2) (j:=0) rfl rfl (by decide))⟩) ?_);refine BR U U (DH U (Bs U U (Bs U U (AU (Bn Da U U U (by simp[AY]) H at0 U ?_)))));rintro w H
   refine Ab (BT (by exact⟨H.ext.to (H9.get at1) (by rw[qab];exact H9.ne (i:=1) (j:=0) rfl rfl (by decide)),H.ext.to (H9.get at2) (by rw[qab];exact H9.ne (i:=2) (j:=0) rfl rfl (by decide))⟩) ?_);refine BR U U ?_;refine AU (Ai U (Ab (BT (by exact⟨H.ext.to (H9.get at1) (by rw[qab];exact H9.ne (i:=1) (j:=0) rfl rfl (by decide)),H.ext.to (H9.get at2) (by rw[qab];exact H9.ne (i:=2) (j:=0) rfl rfl (by decide))⟩) ?_)));refine Ey (Aa ?_);exact⟨(b6,q'),rfl,⟨rfl,rfl,trivial⟩,RA.ext H.ext (hoff.mono fun x hx=>by rw[qab.1 hx];exact hlt),Ctx.mid (B:=[]) (L:=[_]) H9 H⟩
 .rintro⟨b6,q'⟩ j7 w ⟨RA,H⟩;dsimp only at RA H;have H8:=H;have hb6:=H8.get at0;have hb3:=H8.get at1;obtain⟨w1,rfl⟩:=qD w;clear H;have H:=Ctx.start w1 [];refine Ax (Ae (A2 U (BP U (qA (Aw _ U ?_ ?_)))))
  .intro h1;replace h1:=BM h1;cases h1
  .intro h1;replace h1:=BN h1;refine Ay (Aa (DT (fun x=>x=_) Br U ?_));refine A6 HZ U (BX Cc U (by rintro _ rfl;exact((by rw[Aj (H.drew.ext.to hb3 (by simp))];rfl))) ?_);refine A6 ED U (A6 CL U (BX DM U (by rintro _ rfl;exact((by rw[Aj (H.drew.ext.to hb6 (by simp))];rfl))) ?_));refine Alt U CF U (Dv U (Dv U (BS ?_)));rintro _ rfl;replace H:=H.drew;refine Ax (A1 (Ae (Ci (α:=Unit) 4396972769280 (fun _=>[(30,.bool ((decide (k.b < -1) || decide ((r.es.length:Int)+r.N<=k.b))))]) (fun _ w'=>Ctx w1 [] w' []) U ?_ ?_)))
   .refine Af U (Bm U U (A2 U (AR 33 U ?_ ?_)))
    .intro h1;replace h1:=AM h1;refine Ag U (Ag U (Ag U (Ag U (Ag U (Ag U (Ag U (AA U (.bool _) U (Ai U (Ab ?_)))))))));exact⟨rfl,(),rfl,⟨qaa Value.bool (by rw[qad];simp_all;try omega),trivial⟩,H⟩
    .intro h2;replace h2:=AN h2;refine Af U (Af U (Ah ED U (Ah Ev U (Bb Cc U ((H.old (Aj hb6 _) (by simp))) ?_))));refine Az U U (CM U U (AJ U (.bool _) U (Ai U (Ab ?_))));exact⟨rfl,(),rfl,⟨qaa Value.bool (by rw[qad];simp_all;try omega),trivial⟩,H⟩
   rintro - j30 w H;refine Aw _ U ?_ ?_
   .intro h2;have h2':k.b < -1\/(r.es.length:Int)+r.N<=k.b:=by simpa using h2
    refine Ae (Am U (Ad U (qA (A5 (AF (Av (Cf (v1:=(.slice _ _ _)) (v2:=(.int _ _)) U U U U ?_)))))));have H9:=H8.call H.ext;subst hS0;exact Ek (P:=[_,_]) (m':=⟨bl,ba,bd,br,b,a,c,full,o,arch⟩) (s':=s) (l:=[]) (code:=1) I H9 (IH _) (hstep _ (by rw[hR];unfold Kh;rw[if_pos h2'];rfl)) I.O I.M I.ok U U U U
   .intro h2;have h2':¬(k.b < -1\/(r.es.length:Int)+r.N<=k.b):=by simpa using h2
    refine Ae (Af U (C3 U U (Ai U (qA (Aw _ U ?_ ?_)))))
    .intro h3;replace h3:=AM h3;refine Ck [([0,1,2,3,5,6,7,8,9,10,11],4),([],12),([13],14)] (fun z=>Ext [] w1 z) [] Br (H.drew.ext) (AD U U ?_);refine Ao KP U (B0 B4 U (fun _ hx=>(by rw[Aj (hx.to hb6 (by simp))];rfl)) ?_);refine Ao MQ U (B0 LI U (fun _ hx=>(by rw[Aj (hx.to hb6 (by simp))];rfl)) ?_);refine Ao ED U (Ao Ev U (B0 Cc U (fun _ hx=>(by rw[Aj (hx.to hb6 (by simp))];rfl)) ?_));refine Bj U (Ao Ew U (B0 FS U (fun _ hx=>(by rw[Aj (hx.to hb6 (by simp))];rfl)) ?_));refine Alv U Bh U (AU ?_);replace H:=H.drew;refine Al qB (Zy r.cmp _) U ?_;rintro v w ⟨rfl,rfl⟩;refine Ab (BH (H.ext) (AD U U ?_));refine AU (Ef ([r.day,Pe r.cmp,r.N,(r.es.length:Int),(r.ids.length:Int)].map Eb) Bf BD Fh (Ctx.start _ []) ?_);rintro b57 w2 - H17;refine Ab (BH (H.ext.trans H17.ext) (AD U U ?_))
     refine EC U (AU (Ad U (Ab (BH (H.ext.trans H17.ext) (BF (A5 (AF (Av (Cf (v1:=(.slice _ _ _)) (v2:=(.int _ _)) U U U U ?_)))))))));have H9:=H8.call H.ext;subst hS0;exact Ek (P:=[_,_]) (m':=⟨bl,ba,bd,br,b,a,c,full,o,arch⟩) (s':=s) (l:=[r.day,Pe r.cmp,r.N,(r.es.length:Int),(r.ids.length:Int)]) (code:=0) I H9 (GZ (n:=5) H17 U) (hstep _ (by rw[hR];unfold Kh;rw[if_neg h2',if_pos h3];rfl)) I.O I.M I.ok U U U U
    .intro h3;replace h3:=AN h3;refine Ae (Af U (Af U (CM U U (Ai U (qA (Aw _ U ?_ ?_))))))
     .intro h4;replace h4:=AM h4;obtain⟨y,hy⟩:=AE (l:=r.pot) (i:=(k.b - (r.es.length:Int)).toNat);refine Ae (Ah D6 U (Ah FY U (Bb BU U ((H.old (Aj hb6 _) (by simp))) ?_)));refine Af U (Af U (Bo U U ?_));refine Bg (RA.P.ext0 H.ext) Bf BD U U (by rfl) (Bb B4 U (((RA.P.ext0 H.ext).one (f:=Eb) hy)) ?_);have H17:=Ctx.start w [];refine Cp [.int .i64 y] (.int .i64 y) Bf BD Fh U U U U H17 ?_;rintro b70 w2 - H17;refine Am U (Ad U (qA (A5 (AF (Av (Cf (v1:=(.slice _ _ _)) (v2:=(.int _ _)) U U U U ?_))))));have H9:=H8.call H.ext;subst hS0;exact Ek (P:=[_,_]) (m':=⟨bl,ba,bd,br,b,a,c,full,o,arch⟩) (s':=s) (l:=[y]) (code:=0) I H9 (GZ (n:=1) (l:=[Eb y]) H17 U) (hstep _ (by rw[hR];unfold Kh;rw[if_neg h2',if_neg h3,if_pos h4,Bv hy];rfl)) I.O I.M I.ok U U U U
     .intro h4;replace h4:=AN h4;obtain⟨x,hxe⟩:=AE (l:=r.es) (i:=k.b.toNat);obtain⟨f,hf⟩:=AE (l:=r.fl) (i:=k.b.toNat);refine Ay (A8 (Aa (Ae (Ah ED U (Ah CL U (Bb DM U ((H.old (Aj hb6 _) (by simp))) ?_))))));refine Af U (Bg (RA.E.ext0 H.ext) CF CG U U (by rfl) ?_);refine C9 _ GU CG U U (((RA.E.ext0 H.ext).row hxe U)) (Bc Gp H ?_);rintro b10 w - H;refine Bn CG U U U (by exact I4 _) H at0 U ?_;rintro w H;refine Ad U (qA (Ax ?_));replace H:Ctx w1 [] w [(b10,Bl 158 (CO x))]:=H;refine Ae (Af U (Ah Ew U (Bb FS U ((H.old (Aj hb6 _) (by simp))) ?_)));refine Be Bh U (Bm U U (qA (Aw _ U ?_ ?_)))
      .intro h5;replace h5:=AM h5;obtain⟨y,hy⟩:=AE (l:=r.ids) (i:=k.b.toNat);refine A0 (Ah Ew U (Bb FS U ((H.old (Aj hb6 _) (by simp))) ?_));refine Af U (Bg (RA.I.ext0 H.ext) Bh Bq U U (by rfl) ?_);refine Bb B6 U (((RA.I.ext0 H.ext).one (f:=GM) hy)) (Es U Dc LJ ?_);refine Ad U (qA (Ck [([0,1,2,3,4,5,6,7,8,9,10,11,12,13,14],15),([16],17)] (fun z=>Ext [] w1 z/\z.heap[b10]?=some (Bl 158 (CO x))) [] Br (⟨H.drew.ext,H.drew.get at0⟩) ?_));refine AD U U (Ao F5 U (B0 Cc U (fun _ hx=>(by rw[Aj hx.2];rfl)) ?_));refine Ao F6 U (B0 Cc U (fun _ hx=>(by rw[Aj hx.2];rfl)) ?_);refine Ao EE U (B0 B4 U (fun _ hx=>(by rw[Aj hx.2];rfl)) ?_);refine Ao GD U (B0 B4 U (fun _ hx=>(by rw[Aj hx.2];rfl)) ?_);refine Ao D6 U (Ao Fe U (B0 BU U (fun _ hx=>(by rw[Aj (hx.1.to hb6 (by simp))];rfl)) ?_))
       refine Bj U (DL (RA.F.ext0 H.ext) Bf BD U U (hn:=by rfl) ?_);refine B0 B4 U (fun _ hx=>((RA.F.ext0 hx.1).one (f:=Eb) hf)) (Bj U (AU ?_));replace H:=H.drew;refine Ef ([x.f,x.t,x.cap,x.cost,f,IntKind.i64.wrap y].map Eb) Bf BD Fh (Ctx.start _ []) ?_;rintro b103 w2 - H17;refine Ab (BH (⟨H.ext.trans H17.ext,H17.ext.to (H.get at0) (by simp)⟩) ?_);refine AD U U (EC U (AU (Ad U (Ab (BH (⟨H.ext.trans H17.ext,H17.ext.to (H.get at0) (by simp)⟩) ?_)))));refine BF (A5 (Cf (v1:=(.slice _ _ _)) (v2:=(.int _ _)) U U U U ?_));have H9:=H8.call H.ext;subst hS0
       exact Ek (P:=[_,_]) (m':=⟨bl,ba,bd,br,b,a,c,full,o,arch⟩) (s':=s) (l:=[x.f,x.t,x.cap,x.cost,f,IntKind.i64.wrap y]) (code:=0) I H9 (GZ (n:=6) H17 U) (hstep _ (by rw[hR];unfold Kh;rw[if_neg h2',if_neg h3,if_neg h4,Bv hxe,Bv hf,if_pos h5,Bv hy];rfl)) I.O I.M I.ok U U U U
      .intro h5;replace h5:=AN h5;refine Ay (Aa (Ck [([0,1,2,3,4,5,6,7,8,9,10,11,12,13,14],15),([16],17)] (fun z=>Ext [] w1 z/\z.heap[b10]?=some (Bl 158 (CO x))) [] Br (⟨H.drew.ext,H.drew.get at0⟩) ?_));refine AD U U (Ao F5 U (B0 Cc U (fun _ hx=>(by rw[Aj hx.2];rfl)) ?_));refine Ao F6 U (B0 Cc U (fun _ hx=>(by rw[Aj hx.2];rfl)) ?_);refine Ao EE U (B0 B4 U (fun _ hx=>(by rw[Aj hx.2];rfl)) ?_);refine Ao GD U (B0 B4 U (fun _ hx=>(by rw[Aj hx.2];rfl)) ?_);refine Ao D6 U (Ao Fe U (B0 BU U (fun _ hx=>(by rw[Aj (hx.1.to hb6 (by simp))];rfl)) ?_));refine Bj U (DL (RA.F.ext0 H.ext) Bf BD U U (hn:=by rfl) ?_);refine B0 B4 U (fun _ hx=>((RA.F.ext0 hx.1).one (f:=Eb) hf)) (Bj U (AU ?_));replace H:=H.drew
       refine Ef ([x.f,x.t,x.cap,x.cost,f,0].map Eb) Bf BD Fh (Ctx.start _ []) ?_;rintro b103 w2 - H17;refine Ab (BH (⟨H.ext.trans H17.ext,H17.ext.to (H.get at0) (by simp)⟩) ?_);refine AD U U (EC U (AU (Ad U (Ab (BH (⟨H.ext.trans H17.ext,H17.ext.to (H.get at0) (by simp)⟩) ?_)))));refine BF (A5 (Cf (v1:=(.slice _ _ _)) (v2:=(.int _ _)) U U U U ?_));have H9:=H8.call H.ext;subst hS0;exact Ek (P:=[_,_]) (m':=⟨bl,ba,bd,br,b,a,c,full,o,arch⟩) (s':=s) (l:=[x.f,x.t,x.cap,x.cost,f,0]) (code:=0) I H9 (GZ (n:=6) H17 U) (hstep _ (by rw[hR];unfold Kh;rw[if_neg h2',if_neg h3,if_neg h4,Bv hxe,Bv hf,if_neg h5];rfl)) I.O I.M I.ok U U U U
theorem Ace{m:Lm}{s:Ld}{T:Nat->Prop}{k:Ak}(hk:k.kd=15)(hin:AkIn k)(w:World)(I:LdIn w m s T)(H0:Ctx w (Dy m s) w (LL m s)) :
  Ret prog 42 #[ptr m.bl,.agg (BQ k).toArray] w (GI w m s T k):=by
 cases hg:Uz s k.id with
 |none=>exact XW hk hin hg w I H0
 |some r=>exact XX hk hin hg w I H0
theorem Ah5(b p:Option Addr)(m e u f:Nat)(ds:List Du)(xs:List Int)(w:World)(Rd':Rd w b 7 Dn ds)(hm:ds.length=m)(Rp:Rd w p 1 I1 xs)(hu:xs.length=u)(hp:PayIn (opn ds) xs)(hmay:∀d∈opn ds,E7 d=true)(htot:C2 ((opn ds).map Du.am)<=4503599627370496)(hm2:m<=1000000:=by omega):
  Ret prog 84 #[.slice b m e,.slice p u f] w fun v w'=>v=.int .i64 (FW (opn ds) xs (opn ds).length)/\Ext [] w w':=by
 subst hm hu;obtain⟨w0,rfl,H⟩:=qE w;have hol:=Jc ds;refine Au (fn:=f84) func84 U [.slice b ds.length e,.slice p xs.length f] U (Ae (Ad U (qA (Ae (Ap U (Al qB (Ze b ds.length e ds _ Rd' U hm2) U ?_))))));rintro v w F;obtain⟨ao,no,co,fo,rfl,OO,hbo⟩:=F.ex;replace H:=H.call F.ext;refine Am U (qA (Ax ?_));obtain rfl:no=(opn ds).length:=OO.numN (fun _ _=>rfl) (by decide);have RO0:Rd w ao 7 Dn (opn ds):=OS.rd OO (fun y hy=>(hbo y hy).1) (fun _ _=>rfl) (by decide);have hE1:=H.ext;obtain⟨w1,rfl⟩:=qD w;clear H;have H:=Ctx.start w1 [];have hlen:=hp.1;have hRf:∀{w:World},Ext [] w1 w->Rd w ao 7 Dn (opn ds):=fun h=>RO0.ext0 h;have hRp:∀{w:World},Ext [] w1 w->Rd w p 1 I1 xs:=fun h=>Rp.ext0 (hE1.trans h);refine Ae (Ap U (Be D9 U (Ap U (Be Bf U (CK U U (qA (Aw _ U ?_ ?_)))))))
 .intro h1;replace h1:=CY h1;omega
 .intro h1;replace h1:=CZ h1;refine Ay (Aa (Ae (Ad U (qA (Ax (Ae (Ap U (Be D9 U (Af U (qA ?_))))))))));refine A1 (Bw 4294836448 (α:=Nat) (fun i=>[(17,.int .i64 (i:Int)),(5,.int .i64 (FW (opn ds) xs i))]) (fun i w'=>i<=(opn ds).length/\Ctx w1 [] w' []) (fun i=>(opn ds).length - i) 0 U ?_ ?_ ?_)
  .exact⟨rfl,rfl,trivial⟩
  .exact⟨qaq _,H⟩
  .clear H;rintro i j w ⟨hi,H⟩;refine Ae (Bm U U (qA (Ax (Aw _ U ?_ ?_))))
   .intro h3;replace h3:=AM h3;obtain⟨d,hd⟩:=AE (l:=opn ds) (i:=i);obtain⟨x,hxv⟩:=AE (l:=xs) (i:=i);have hma:=Ei (hmay d (qac hd));have hxr:=hp.2 i d x hd hxv;have hwe:∀d∈opn ds,0<=d.we/\d.we<=1000:=fun d hd=>by have:=Ei (hmay d hd);omega
    have hps:∀k,C2 (((opn ds).map Du.am).take k)<=4503599627370496:=fun k=>qbh (Abo (fun y hy=>by obtain⟨d',hd',rfl⟩:=qah.1 hy;have:=Ei (hmay d' hd');omega) k) htot;have hw0:=Mz hp hwe i hi;have hw1:=Mz hp hwe (i+1) (by omega);have hp0:=hps i;have hp1:=hps (i+1);have hstep:=Pb hd hxv;have hm1:0<=d.we*x:=qds (by omega) hxr.1;have hm2:d.we*x<=4503599627370496000:=by omega
    refine Ay (Aa (Ax (A1 (Ae (Af U (Bg (hRf H.ext) D9 BV U U (by rfl) ?_))))));refine C9 _ E4 BV U U ((hRf H.ext).row hd U) (Bc DX H ?_);rintro b7 w - H;refine Ad U (Bn BV U U U (by exact Dx _) H at0 U ?_);rintro w H;refine qA ?_;replace H:Ctx w1 [] w [(b7,Bl 118 (Dn d))]:=H;refine Ft [([0,1,2,3,4,5,6,7,8],9)] (fun z=>Ext [] w1 z/\z.heap[b7]?=some (Bl 118 (Dn d))) [] Br (⟨H.drew.ext,H.drew.get at0⟩) ?_;refine AD U U (Bj U (Ao KN U (B0 B4 U (fun _ hx=>(by rw[Aj hx.2];rfl)) ?_)));refine B3 U (Bj U (DL (hRp H.ext) Bf BD U U (hn:=by rfl) ?_));refine B0 B4 U (fun _ hx=>((hRp hx.1).one (f:=Eb) hxv)) (ZM U U U ?_);refine EB U U (AU ?_);replace H:=H.drew
    refine Ad U (Ab (BH (⟨H.ext,H.get at0⟩) (BF (A8 (Aa (A0 (Az U U ?_)))))));refine Af U (qA ?_);exact⟨i+1,rfl,⟨rfl,qaa (Value.int .i64) hstep.symm,trivial⟩,⟨by omega,H.tail⟩,by omega⟩
   .intro h3;replace h3:=AN h3;obtain rfl:i=(opn ds).length:=by omega
    refine Bt (An (An (AK (Aa (Ae (Af U (Ad U (qA (A5 (AB (v:=(.int _ _)) U U U ?_))))))))));exact⟨rfl,hE1.trans H.ext⟩
theorem Ak9{w w1 w':World}{m m':Lm}{s s':Ld}{T:Nat->Prop}{k:Ak}{P:List (Nat × Obj)}{a:Option Addr}{n c:Nat}{code:Int}{l:List Int}(H:Ctx w (Dy m s) w1 (P++LL m' s'))(F:Fresh w1 w' 2 1 (.slice a n c) (l.map Eb))(hst:CN s k s' (rp l code))(hI:LdIn w' m' s' (fun x=>T x\/x∈Dy m' s'))(hbl:m'.bl=m.bl):GI w m s T k (.tuple #[.slice a n c,.int .i64 code]) w':=by
 obtain⟨a',n',c',full,hv,OF,hb⟩:=F.ex;cases hv;have H1:Ctx w (Dy m s) w1 (LL m' s'):=H.right;exact⟨a,n,c,full,code,l,s',m',rfl,OF,hst,H1.callEnt F.ext hb Fu,fun x hx=>qa6 H1.size (hb x hx).2,hI,hbl⟩
theorem Acf(xs:List Int){i:Nat}{x:Int}(h:xs[i]?=some x):Kr xs (i+1)=Kr xs i+(if 0<x then 1 else 0):=by
 show Kr xs i+one (0<xs.getD i 0)=_;rw[Bv h]
 by_cases hx:0<x
 .rw[GF hx,if_pos hx]
 .rw[Gd hx,if_neg hx]
theorem Wy(xs:List Int):∀i,0<=Kr xs i/\Kr xs i<=i
 |0=>⟨qa3 _,qa3 _⟩
 |i+1=>by
  have h:=Wy xs i;show 0<=Kr xs i+one (0<xs.getD i 0)/\Kr xs i+one (0<xs.getD i 0)<=((i+1:Nat):Int)
  by_cases hx:0<xs.getD i 0
  .rw[GF hx];omega
  .rw[Gd hx];omega
theorem Aq3{m:Lm}{s:Ld}{x:Nat}(h:x∈(LX m.ba m.a s.acs.length m.c m.full m.bd m.b s.nx m.o).map (fun x:Nat × Obj=>x.1)):x∈Dy m s:=qaj _ (qaj _ h)
theorem Tn{m:Lm}{s:Ld}{T:Nat->Prop}{k:Ak}(hk:k.kd=10\/k.kd=11)(_:AkIn k)(w:World)(I:LdIn w m s T)(H0:Ctx w (Dy m s) w (LL m s)) :
  Ret prog 38 #[ptr m.bl,.agg (BQ k).toArray] w (GI w m s T k):=by
 obtain⟨w0,rfl⟩:=qD w;obtain⟨bl,ba,bd,br,b,a,c,full,o,arch⟩:=m;obtain⟨S0,hS0⟩:=qD (Dy ⟨bl,ba,bd,br,b,a,c,full,o,arch⟩ s);have H:Ctx w0 S0 w0 ((bl,Bl 73 [ptr ba,ptr bd,ptr br,.int .i64 s.day])::(br,Bl 135 arch)::(ba,Bl 129 [.slice a s.acs.length c])::(bd,Bl 132 (DU b s.nx))::(b,o)::ent a 108 full):=by rw[hS0];exact H0
 have hn16:=(Cv.1 I.ok.ac).1;have hbdb:bd≠b:=H.ne (i:=3) (j:=4) rfl rfl (by decide);have hno:0<=s.no/\s.no<=4611686018427387904:=by have:=I.ok.kept;omega
 have hstep:∀s' p,((4611686018427387904<=s.no/\s'=s/\p=⟨6,[]⟩) \/
  (s.no<4611686018427387904/\∃r,PlanR s.acs s.ds (decide (k.kd=11)) r/\s'=Uy s r /\
   p=⟨0,[IntKind.i64.wrap (s.no+1),FW (opn s.ds) r.fl (opn s.ds).length,Kr (r.fl.take (opn s.ds).length) (opn s.ds).length]⟩))->CN s k s' p:=fun s' p h=>by
  unfold CN;rw[if_pos hk];exact h
 obtain⟨h64,-,h3d,htot⟩:=FA I.ok.du;have hBr:=My I.ok.ac I.ok.du I.ok.bk;have hbr:DS (s.acs.map Eh) s.ds=true:=(ID).2 hBr;refine Au (fn:=f38) func38 U [.pointer (some ⟨bl,0,none⟩),.agg (BQ k).toArray] U ?_;refine Ae (Bu (BQ k) (.agg _) U U H ?_);rintro b3 w - H;refine Am U (Ad U (qA (Ax (Ae (A4 U (A9 U (Ah L7 U (AG Su U H at1 U (Al qB (Ah0 _ (H.get at2) I.no) U ?_)))))))));rintro v w ⟨rfl,hx19⟩;replace H:=H.call hx19;refine CM U U (qA (Aw _ U ?_ ?_))
 .intro h1;replace h1:=AM h1;refine Ae (Am U (Ad U (qA (A5 (Av (Cf (v1:=(.slice _ _ _)) (v2:=(.int _ _)) U U U U ?_))))));subst hS0;exact Ek (P:=[_]) (m':=⟨bl,ba,bd,br,b,a,c,full,o,arch⟩) (s':=s) (l:=[]) (code:=6) I H (IH _) (hstep _ _ (.inl ⟨h1,rfl,rfl⟩)) I.O I.M I.ok U U U U
 .intro h1;replace h1:=AN h1;have hno1:s.no<4611686018427387904:=by omega
  refine Ay (Aa (DV 68717379776 (α:=Nat × Rnd × RSl × Int) (fun z=>[(6,ptr z.1),(7,.int .i64 z.2.2.2)]) (fun z w'=>z.2.2.2=0/\PlanR s.acs s.ds (decide (k.kd=11)) z.2.1/\RAt w' z.2.1 z.2.2.1/\ROff z.2.2.1 z.2.1 (fun x=>x<w0.heap.size\/x=z.1)/\Ctx w0 S0 w' ((z.1,Bl 127 (B9 z.2.1 z.2.2.1))::(b3,Bl 25 (BQ k))::(bl,Bl 73 [ptr ba,ptr bd,ptr br,.int .i64 s.day])::(br,Bl 135 arch)::(ba,Bl 129 [.slice a s.acs.length c])::(bd,Bl 132 (DU b s.nx))::(b,o)::ent a 108 full)) U ?_ ?_))
  .skip
   refine PM (.two [0,1,2,3,4,5,6,7,8,9,10] 11 (.one [12,13,14] 15 (.one [] 16 (.one [] 17 .stop))) 15 (.one [] 11 (.one [12,13,14] 16 (.one [] 17 .stop)))) (fun z=>z.heap[b3]?=some (Bl 25 (BQ k))/\z.heap[bl]?=some (Bl 73 [ptr ba,ptr bd,ptr br,.int .i64 s.day])) Br (⟨H.drew.get at0,H.drew.get at1⟩) ?_;refine Jf U U U (BG U (Ba U (Ao He U (B0 IV U (fun _ hx=>(by rw[Aj hx.2];rfl)) ?_))));refine BG U (Ba U (Ao Gk U (B0 HO U (fun _ hx=>(by rw[Aj hx.2];rfl)) ?_)));refine Ao JP U (B0 Kv U (fun _ hx=>(by rw[Aj hx.1];rfl)) ?_);refine t_eql U U U (AU ?_);replace H:=H.drew;refine⟨?_,?_⟩
   .skip
    refine Al qB (Zn I.ok.ac I.ok.du (decide (k.kd=11)) _ ⟨a,c,H.get at3,OS.rd (t:=108) I.O (fun y hy=>H.blk y (qaf [_,_,_,_,_,_] hy)) (fun _ _=>rfl) (by decide)⟩ ⟨b,s.nx,o,H.get at4,H.get at5,I.M⟩) U ?_;rintro v w ⟨hx33,⟨hb,-⟩|⟨-,r,q,rfl,P,RA,hoff⟩⟩
    (rw[hbr]at hb;cases hb)
    have hsz:=H.size;have H9:=H.call hx33;have hsz9:=hx33.size;clear H;obtain⟨w9,rfl,H⟩:=qE w;refine Ab (BT (by exact⟨H.ext.to (H9.get at0) (by simp),H.ext.to (H9.get at1) (by simp)⟩) ?_);refine BR U U (DH U (Bs U U (Bs U U (AU (Bc FU H ?_)))));rintro b6 w - H;refine Ab (BT (by exact⟨H.ext.to (H9.get at0) (by simp),H.ext.to (H9.get at1) (by simp)⟩) ?_);refine BR U U (AU (Bn Da U U U (by exact(by simp[AY])) H at0 U ?_));rintro w H;refine Ab (BT (by exact⟨H.ext.to (H9.get at0) (by simp),H.ext.to (H9.get at1) (by simp)⟩) ?_);refine BR U U (AU (Ad U (Ab (BT (by exact⟨H.ext.to (H9.get at0) (by simp),H.ext.to (H9.get at1) (by simp)⟩) ?_))));refine Ey (Aa ?_);have hb6:w9.heap.size<=b6:=(H.own _ (qak ..)).elim (fun h=>by cases h) id
    exact⟨(b6,r,q,0),rfl,⟨rfl,rfl,trivial⟩,rfl,P,RA.ext0 H.ext,(hoff.or RA.lt).mono fun x hx=>hx.elim (fun h => .inl (qa7 h hsz)) (fun h => .inr (h ▸ hb6)),Ctx.mid (B:=[]) (L:=[]) H9 H⟩
   .skip
    refine Bc FU H ?_;rintro b6 w - H;refine Ab (BT (by exact⟨H.get at1,H.get at2⟩) ?_);refine BR U U (AU (Al qB (Zn I.ok.ac I.ok.du (decide (k.kd=11)) _ ⟨a,c,H.get at4,OS.rd (t:=108) I.O (fun y hy=>H.blk y (qaf [_,_,_,_,_,_,_] hy)) (fun _ _=>rfl) (by decide)⟩ ⟨b,s.nx,o,H.get at5,H.get at6,I.M⟩) U ?_));rintro v w ⟨hx33,⟨hb,-⟩|⟨-,r,q,rfl,P,RA,hoff⟩⟩
    (rw[hbr]at hb;cases hb)
    have hsz:=H.size;have hlt:=Bd (H.get at0);have H9:=H.call hx33;clear H;obtain⟨w9,rfl⟩:=qD w;have H:=Ctx.start1 (H9.get at0);refine Ab (BT (by exact⟨H.ext.to (H9.get at1) (by rw[qab];exact H9.ne (i:=1) (j:=0) rfl rfl (by decide)),H.ext.to (H9.get at2) (by rw[qab];exact H9.ne (i:=2) (j:=0) rfl rfl (by decide))⟩) ?_);refine BR U U (DH U (Bs U U (Bs U U (AU (Bn Da U U U (by exact(by simp[AY])) H at0 U ?_)))));rintro w H;refine Ab (BT (by exact⟨H.ext.to (H9.get at1) (by rw[qab];exact H9.ne (i:=1) (j:=0) rfl rfl (by decide)),H.ext.to (H9.get at2) (by rw[qab];exact H9.ne (i:=2) (j:=0) rfl rfl (by decide))⟩) ?_);refine BR U U ?_
    refine AU (Ad U (Ab (BT (by exact⟨H.ext.to (H9.get at1) (by rw[qab];exact H9.ne (i:=1) (j:=0) rfl rfl (by decide)),H.ext.to (H9.get at2) (by rw[qab];exact H9.ne (i:=2) (j:=0) rfl rfl (by decide))⟩) ?_)));refine Ey (Aa ?_);exact⟨(b6,r,q,0),rfl,⟨rfl,rfl,trivial⟩,rfl,P,RA.ext H.ext (hoff.mono fun x hx=>by rw[qab.1 hx];exact hlt),hoff.mono fun x hx=>hx.elim (fun h=>qa7 h hsz) (fun h=>by rw[h];exact hlt),Ctx.mid (B:=[]) (L:=[_]) H9 H⟩
  .rintro⟨b6,r,q,e7⟩ j7 w ⟨he7,P,RA,hoff,H⟩;dsimp only at he7 P RA hoff H;obtain⟨hC,hokR⟩:=Aqx I.ok P hno1;have F0:=Ke I.ok.ac I.ok.du hC;have hB:=Ahp P;have hmy:∀d∈s.ds,E7 d=true:=fun d hd=>((Ie I.ok.du).1 d hd).1;have hids:r.ids.length=(opn s.ds).length:=by rw[P.ids,qal]
   have hol:=Jc s.ds;have hle:(opn s.ds).length<=r.fl.length:=by have:=F0.pay.1;rw[qbb]at this;omega
   have hlow:∀x∈Dy ⟨bl,ba,bd,br,b,a,c,full,o,arch⟩ s,x<w0.heap.size:=fun x hx=>I.low x (I.own x hx);have hlx:∀x∈(LX ba a s.acs.length c full bd b s.nx o).map (fun x:Nat × Obj=>x.1),x<w0.heap.size:=fun x hx=>hlow x (Aq3 (m:=⟨bl,ba,bd,br,b,a,c,full,o,arch⟩) hx);obtain⟨xs,hxs⟩:=qD (r.fl.take (opn s.ds).length);have hxl:xs.length=(opn s.ds).length:=by rw[hxs,qbb];omega
   have hmayR:Po { r with day:=s.day }=true:=by
    unfold Po;dsimp only;rw[P.chk,hids,qan (show(opn s.ds).length<=64 by omega),qan I.ok.day.1];rfl
   refine Ax (Ae (Af U (CK U U (qA (Aw _ U ?_ ?_)))))
   .intro h2;replace h2:=CY h2;exact absurd he7 h2
   .intro h2;replace h2:=CZ h2;refine Ay (Aa (Ae (A4 U (A9 U (Ah Gk U (AG HO U H at2 U (Al qB (Nh _ (H.get at5) (H.get at6) I.M (Lq I.ok.du)) U ?_)))))));rintro v w ⟨ds',hSd,Fd⟩;have hde:=Nn hSd (Kc h3d).2.1;rw[hde]at Fd;obtain⟨a3,c3,rfl,R3,hn3,-,hx43⟩:=Ny Fd (fun _ _=>rfl);have hl6:=Bd (H.get at0);have hlr:=Bd (H.get at3);have hs43:=H.size;replace RA:=RA.ext0 hx43;replace H:=H.call hx43;refine Am U (qA (Ax ?_));have hn3':s.ds≠[]->(adr a3).block∉(LX ba a s.acs.length c full bd b s.nx o).map (fun x:Nat × Obj=>x.1):=fun hne hm=>by have:=hn3 hne;have:=hlx _ hm;omega
    refine Ck [([0,1,2,3,4,5,6,7,8],9),([],10)] (fun z=>z.heap[b6]?=some (Bl 127 (B9 r q))/\z.heap[bl]?=some (Bl 73 [ptr ba,ptr bd,ptr br,.int .i64 s.day])) [9,10] Br (⟨H.drew.get at0,H.drew.get at2⟩) ?_;refine AD U U (BG U (Ba U (Ao He U (B0 IV U (fun _ hx=>(by rw[Aj hx.2];rfl)) ?_))));refine BG U (Ba U (Ao Gk U (B0 HO U (fun _ hx=>(by rw[Aj hx.2];rfl)) ?_)));refine G9 _ F1 Da U U (fun _ hx=>(CX (b:=b6) (t:=127) (l:=B9 r q) hx.1 0 (B9 r q) rfl)) (AU ?_);replace H:=H.drew;replace RA:=RA.ext0 (Ext.drew [] _);replace R3:=R3.ext0 (Ext.drew [] _);replace H:Ctx w0 S0 _ ([(b6,Bl 127 (B9 r q)),(b3,Bl 25 (BQ k)),(bl,Bl 73 [ptr ba,ptr bd,ptr br,.int .i64 s.day]),(br,Bl 135 arch)]++(LX ba a s.acs.length c full bd b s.nx o++[])):=(by rw[qa0];exact H)
    refine Al qB (Abz I.ok.ac I.ok.du H I.O I.M RA (hoff.mono fun x hx => .inl (hlx x hx)) hB) U ?_;rintro v w ⟨rfl,full',o',O',M',hxA,H7⟩;replace RA:=RA.ext hxA (hoff.mono fun x hx => .inl (hlx x hx));replace R3:=R3.ext' hxA hn3';rw[qa0]at H7;replace H:=H7;refine Ab (Bz U (AD U U ?_));refine AU (Ad U (Ab (Bz U (BF ?_))));obtain⟨hap1,-,hap3⟩:=NW (r:=r) I.ok.ac I.ok.du;rw[<-hap3]at O' H;refine Ae (Af U (CK U U (qA (Aw _ U ?_ ?_))))
    .intro h4;replace h4:=CY h4;exact absurd hC h4
    .intro h4;replace h4:=CZ h4;refine Ay (Aa (Ae (Ah ED U (C9 _ CE Ct U U ((CX (b:=b6) (t:=127) (l:=B9 r q) (H.get at0) 4 [.int .i64 r.N,.slice q.aE r.es.length q.cE] U)) ?_))));refine Ah D6 U (Ah Fe U (AG BU U H at0 U (Ah Ew U (AG FS U H at0 U (Be Bh U (Al qB (Zg r.N q.aE q.aF _ _ _ _ _ r.fl _ RA.F U RA.fc hB.fl) U ?_))))));rintro v w Fp;rw[show Un ((r.ids.length:Nat):Int) r.fl.length=(opn s.ds).length by unfold Un;omega,<-hxs,<-Acu]at Fp;obtain⟨a9,c9,rfl,Rp,hn9,-,hx65⟩:=Ny Fp (fun _ _=>rfl);have hp6:=Bd (H.get at0);have hpr:=Bd (H.get at3);replace RA:=RA.ext0 hx65;replace R3:=R3.ext0 hx65;replace H:=H.call hx65;refine Am U (qA (Ae (Ad U (qA (Ax (Ae (Ap U (Be Bf U (Af U ?_)))))))));refine qA (A1 ?_);have H8:=H;obtain⟨w1,rfl⟩:=qD w;clear H;have H:=Ctx.start w1 []
     refine Bw 150820579546649294022656 (α:=Nat) (fun i=>[(11,.int .i64 (Kr xs i)),(68,.int .i64 (i:Int))]) (fun i w'=>i<=xs.length/\Ctx w1 [] w' []) (fun i=>xs.length - i) 0 U ?_ ?_ ?_
     .exact⟨rfl,rfl,trivial⟩
     .exact⟨qaq _,H⟩
     .clear H;rintro i j w ⟨hi,H⟩;refine Ae (Bm U U (qA (Ax (Aw _ U ?_ ?_))))
      .intro h5;replace h5:=AM h5;obtain⟨x,hx⟩:=AE (l:=xs) (i:=i);have hsb:=Wy xs i;have hst:=Acf xs hx;refine Ay (Aa (Ax (A1 (Ae (Bg (Rp.ext0 H.ext) Bf BD U U (by rfl) ?_)))));refine Bb B4 U (((Rp.ext0 H.ext).one (f:=Eb) hx)) ?_;refine Ad U (qA (Ae (Af U (C8 U U (qA (Aw _ U ?_ ?_))))))
       .intro h6;replace h6:=AM h6;refine A0 (Af U (Az U U ?_));refine Ad U (Ab (A8 (Aa (A0 (Az U U ?_)))));refine Af U (qA ?_);exact⟨i+1,rfl,⟨qaa (Value.int .i64) (by rw[hst,if_pos h6]),rfl,trivial⟩,⟨by omega,H⟩,by omega⟩
       .intro h6;replace h6:=AN h6;refine Ay (A8 (Aa (A0 (Az U U ?_))));refine Af U (qA ?_);exact⟨i+1,rfl,⟨qaa (Value.int .i64) (by rw[hst,if_neg h6,Int.add_zero]),rfl,trivial⟩,⟨by omega,H⟩,by omega⟩
      .intro h5;replace h5:=AN h5;obtain rfl:i=xs.length:=by omega
       replace RA:=RA.ext0 H.ext;replace R3:=R3.ext0 H.ext;replace Rp:=Rp.ext0 H.ext;replace H8:=H8.call H.ext;clear H;obtain⟨w2,rfl⟩:=qD w;have H:=Ctx.start1 (H8.get at0);refine Bt (An (An (AK (Aa (Ae (A4 U (A9 U (Ah MT U (Bb B4 U ((H.old (Aj (H8.get at2) _) (by rw[qab];exact H8.ne (i:=2) (j:=0) rfl rfl (by decide)))) ?_)))))))));refine Ah KP U (Cb (.int _ _) BD U U U H at0 (by(simp;done)) ?_);rintro w H;refine qA ?_;replace RA:=RA.ext H.ext (hoff.mono fun x hx=>by rw[qab.1 hx];exact .inr rfl);replace R3:=R3.ext' H.ext (fun hne hm=>by have:=hn3 hne;rw[qab.1 hm]at this;omega);replace Rp:=Rp.ext' H.ext (fun hne hm=>by have:=hn9 hne;rw[qab.1 hm]at this;omega);replace H:Ctx w2 [b6] w [(b6,Bl 127 (B9 { r with day:=s.day } q))]:=H;replace H:=Ctx.mid (B:=[]) (L:=[_]) H8 H;clear H8
       refine Ck [([0,1,2,3,4],5),([6,7,8,9],10)] (fun z=>z.heap[b6]?=some (Bl 127 (B9 { r with day:=s.day } q))/\z.heap[bl]?=some (Bl 73 [ptr ba,ptr bd,ptr br,.int .i64 s.day])) [5,10] Br (⟨H.drew.get at0,H.drew.get at2⟩) ?_;refine AD U U (BG U (Ba U (Ao L7 U (B0 Su U (fun _ hx=>(by rw[Aj hx.2];rfl)) ?_))));refine G9 _ F1 Da U U (fun _ hx=>(CX (b:=b6) (t:=127) (l:=B9 { r with day:=s.day } q) hx.1 0 (B9 { r with day:=s.day } q) rfl)) (AU ?_);replace H:=H.drew;replace RA:=RA.ext0 (Ext.drew [] _);replace R3:=R3.ext0 (Ext.drew [] _);replace Rp:=Rp.ext0 (Ext.drew [] _);have hsA:=H.size;refine Al qB (Ak4 (n:=s.rn.length) (no:=s.no) (arch:=arch) { r with day:=s.day } q _ (RA.no r.no s.day) (hB.no r.no s.day) (H.get at3) I.len I.n I.no I.ok.kept.1 ⟨hno.1,hno1⟩ hmayR) U ?_;rintro v w ⟨rfl,q2,H7,RA2,hoff2⟩
       replace R3:=R3.ext' H7.ext (fun hne hm=>by have:=hn3 hne;rw[qab.1 hm]at this;omega);replace Rp:=Rp.ext' H7.ext (fun hne hm=>by have:=hn9 hne;rw[qab.1 hm]at this;omega);replace H:=Ctx.mid (B:=[_,_,_]) (L:=[_]) H H7;refine Ab (Bz U (AD U U ?_));refine DH U (Bs U U (Bs U U (Fs U (AU (Ad U (Ab (Bz U (BF ?_))))))));have H8:=H;obtain⟨wB,rfl⟩:=qD w;clear H;have H:=Ctx.start wB [];refine Ae (Af U (Di U Dc LJ ?_));refine Ap U (Ap U (Al qB (Ah5 a3 a9 _ _ _ _ s.ds xs _ R3 U Rp U (hxs ▸ F0.pay) (fun d hd=>hmy d (qbe.1 hd).1) (qbh (Zk fun d hd=>by have:=Ei (hmy d hd);omega) htot)) U ?_));rintro v w ⟨rfl,hx95⟩;replace H:=H.call hx95
       refine Af U (Ef ([s.no+1,FW (opn s.ds) xs (opn s.ds).length,Kr xs xs.length].map Eb) Bf BD Fh H ?_);rintro b97 w - H;refine Af U (Am U (Ad U (qA (A5 (Cf (v1:=(.slice _ _ _)) (v2:=(.int _ _)) U U U U ?_)))));have H17:=H;have hw:IntKind.i64.wrap (s.no+1)=s.no+1:=Dm (show(-9223372036854775808:Int)<=s.no+1 by omega) (show s.no+1<=(9223372036854775807:Int)by omega);subst hS0;exact Ak9 (P:=[_,_]) (m':=⟨bl,ba,bd,br,b,a,c,full',o',Kk arch s.rn.length { r with no:=s.no+1,day:=s.day } q2⟩) (s':=Uy s r) (l:=[s.no+1,FW (opn s.ds) xs (opn s.ds).length,Kr xs xs.length]) (code:=0) H8 (GZ (n:=3) H17 U) (hstep _ _ (.inr ⟨hno1,r,P,rfl,by rw[hw,hxl,hxs,XN _ (qam _)];rfl⟩)) (I.rnd (H8.ext.then H17.ext (by simp)) I.own hokR O' M' (RA2.ext0 H17.ext) hoff2 hsA) U
end Go.Proofs.YtffclglpjlcojaaGreat
