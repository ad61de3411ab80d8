/- Part 12 of the proof. -/
import Derived.Test.YtcpgbcabmcbclaaGreatDoorPart11
set_option maxRecDepth 20000
set_option maxHeartbeats 16000000
namespace Go.Proofs.YtcpgbcabmcbclaaGreatDoor
open Go.GV Go.Proofs.Tryz
attribute [local irreducible] A7 W Wq Wt
theorem Vi{P:Program}{r:Option Nat}{ops rest:List Oper}{Q:Exit->Env->World->Prop}{e:Env}{w:World}{dst:Option Tmp}{ty:TypeId}{pos:String}{af:Array Edge}{g:Option (Nat × Bool)}{fn:Fn}{x:Operand}(v:Value)(hg:AK ⟨dst,.makeFunc fn #[x] #[],ty,pos,af,g⟩ ops e=true)(hx:ev e x=v)(h:A7 P r ops Q rest (put e dst (.func fn #[v] #[])) w) :
  A7 P r ops Q (⟨dst,.makeFunc fn #[x] #[],ty,pos,af,g⟩::rest) e w:=by
 refine OK hg ?_;have h1:(#[x]:Array Operand).map (ev e)=#[v]:=by simp[hx]
 have h2:(#[]:Array Operand).map (ev e)=#[]:=by simp
 rw[h1,h2];exact h
section
variable {w0 wI wb w w':World}{b16 b11 b10 b8 b1 bd bs bp ba bt gen m1 m2 m:Nat}{F:Mut}{A:Dev}{R:Rj}{V:Nat->Byt}{root:Int}{pq qq:Nat}{o1 o2:Obj}{L0:List Pr}{S:List Nat}{Ws:List (List Wr)}
theorem LA{M:Mut}{T:List Nat}{Z Z':List (Nat × Obj)}(h:Fo w M Z)(hx:Ext T w w')(hk:Z'.map (·.1)=Z.map (·.1))(hb:∀y∈Z',w'.heap[y.1]?=some y.2\/(y∈Z/\y.1∉T)):Fo w' M Z':=by
 refine⟨fun y hy=>?_,?_,fun y hy=>?_⟩
 .rcases hb y hy with h1|⟨h1,h2⟩
  .exact h1
  .exact hx.to (h.blk y h1) h2
 .have h1:(Z.map (·.1)).Pairwise (·≠·):=qbn.2 h.nd;rw[<-hk]at h1;exact qbn.1 h1
 .have h1:y.1∈Z'.map (·.1):=qah.2 ⟨y,hy,rfl⟩;rw[hk]at h1;obtain⟨z,hz,he⟩:=qah.1 h1;rw[<-he];exact h.off z hz
theorem fo_lt{M:Mut}{Z Z':List (Nat × Obj)}(h:Fo w M Z)(hk:Z'.map (·.1)=Z.map (·.1)):∀y∈Z',y.1<w.heap.size:=fun y hy=>by
 have h1:y.1∈Z'.map (·.1):=qah.2 ⟨y,hy,rfl⟩;rw[hk]at h1;obtain⟨z,hz,he⟩:=qah.1 h1;rw[<-he];exact Al (h.blk z hz)
theorem CD{M:Mut}{Z:List (Nat × Obj)}(h:Fo w M Z){k:Nat}{y:Nat × Obj}(hk:Z[k]?=some y)(I:List Nat)(hI:(I.all fun i=>decide (i≠k))=true):y.1∉I.filterMap fun i=>Z[i]?.map (·.1):=fun hm=>by
 obtain⟨i,hi,he⟩:=List.mem_filterMap.1 hm;obtain⟨z,hz,he⟩:=qet.1 he;have hik:i≠k:=by simpa using qbz.1 hI i hi
 obtain⟨q1,q2⟩:=qaq.1 hz;obtain⟨q3,q4⟩:=qaq.1 hk
 rcases Nat.lt_or_gt_of_ne hik with h5|h5
 .exact qb5.1 h.nd i k q1 q3 h5 (by rw[q2,q4];exact he)
 .exact qb5.1 h.nd k i q3 q1 h5 (by rw[q2,q4];exact he.symm)
theorem CQ{M:Mut}{Z:List (Nat × Obj)}(h:Fo w M Z)(i j:Nat){a b:Nat}{o o':Obj}(hi:Z[i]?=some (a,o))(hj:Z[j]?=some (b,o'))(hij:i≠j:=by decide):a≠b:=fun e=>by
 obtain⟨q1,q2⟩:=qaq.1 hi;obtain⟨q3,q4⟩:=qaq.1 hj
 rcases Nat.lt_or_gt_of_ne hij with h5|h5
 .exact qb5.1 h.nd i j q1 q3 h5 (by rw[q2,q4];exact e)
 .exact qb5.1 h.nd j i q3 q1 h5 (by rw[q2,q4];exact e.symm)
theorem Xd{a b c:Nat}{x y z:Obj}(h1:a≠b)(h2:a≠c)(h3:b≠c):[(a,x),(b,y),(c,z)].Pairwise fun p q=>p.1≠q.1:=by
 simp[h1,h2,h3]
theorem fo_fj{bj:Nat}{Z:List (Nat × Obj)}(h:Fo w F Z)(hb:∀y∈Z,y.1≠bj):Fo w (Fj F bj) Z:=⟨h.blk,h.nd,fun y hy h5=>h5.elim (h.off y hy) (hb y hy)⟩
theorem Own.over{T:List Nat}(O:Own w0 w bd A F)(hx:Ext T w w')(hS:∀y∈T,¬F y)(hge:∀y∈T,w0.heap.size<=y):Own w0 w' bd A F :=
 ⟨O.ext.then hx fun y hy => .inr (hge y hy),O.dev.keep hx hS,fun y h=>by have:=O.own y h;have:=hx.size;omega⟩
abbrev opF(b11 b10 b8 b1 bs:Nat):List Value:=[.func (.func 61) #[ptr bs] #[],.func (.func 62) #[] #[ptr b1,ptr b8,ptr b10,ptr b11],.func (.func 63) #[] #[ptr b11,ptr b10]]
abbrev opY(m1 m2 bp ba bt bd m:Nat)(P:List Nat)(z1 z2:Obj):List (Nat × Obj):=[(m2,z2),(m1,z1),(bp,Bl TPg [.slice (some ⟨ba,0,none⟩) m m]),(ba,Bl TSt (P.map stv)),(bt,Bl TT (Pa bd bp 362))]
abbrev kv1(L0:List Pr):Kvl:=Fy [] (L0.map toW)
abbrev pgU(m:Nat)(S:List Nat):List Nat:=JX (List.replicate m 0) (Ik (S.map fun x:Nat=>(x:Int)))
def Mb(wb:World)(bj:Nat):Mut:=fun y=>y<wb.heap.size\/y=bj
def opI(w0 wI wb:World)(b16 b11 b10 b8 b1 bs bd bp ba bt gen m1 m2 m:Nat)(root:Int)(L0:List Pr)(S:List Nat)(Ws:List (List Wr))(o1 o2:Obj)(A:Dev)(R:Rj)(F:Mut):Nat->World->Prop
 |0,w'=>Own w0 w' bd A F/\Ext [] wI w'/\Ext [] wb w'/\Fo w' F (YP b16 b11 b10 b8 b1 bs bd gen m1 m2 R.first R.seq root 0 root (opF b11 b10 b8 b1 bs) FE (ptr bp) (ptr bt) (.slice none 0 0)++opY m1 m2 bp ba bt bd m (List.replicate m 0) o1 o2)
 |1,w'=>∃l z1 z2,Own w0 w' bd A F/\Ext [] wI w'/\wb.heap.size<=w'.heap.size/\Fo w' F (YP b16 b11 b10 b8 b1 bs bd gen m1 m2 R.first R.seq root (DQ [] 0 (L0.map toW)) root (opF b11 b10 b8 b1 bs) FE (ptr bp) (ptr bt) (.slice none 0 0)++opY m1 m2 bp ba bt bd m (pgU m S) z1 z2)/\KvAt w' (Old wb) l z1/\Ei l=kv1 L0/\DT str (mi []) z2
 |2,w'=>∃l z1 z2 bj al nl cl N,Jone w0 w' bd bj A (jrK 2 R R.L) F/\Ext [] wI w'/\wb.heap.size<=bj/\wb.heap.size<=N/\bj<w'.heap.size/\StrsF N w' al nl cl R.L/\Fo w' (Fj F bj) (YP b16 b11 b10 b8 b1 bs bd gen m1 m2 R.first R.seq root (DQ [] 0 (L0.map toW)) root (opF b11 b10 b8 b1 bs) (ptr bj) (ptr bp) (ptr bt) (.slice al nl cl)++opY m1 m2 bp ba bt bd m (pgU m S) z1 z2)/\KvAt w' (Mb wb bj) l z1/\Ei l=kv1 L0/\DT str (mi []) z2
 |_,w'=>∃l z1 z2 bj al nl cl,Jone w0 w' bd bj A (jrK 2 R R.L) F/\Ext [] wI w'/\wb.heap.size<=bj/\Fo w' (Fj F bj) (YP b16 b11 b10 b8 b1 bs bd gen m1 m2 R.first R.seq root (DQ (kv1 L0) (DQ [] 0 (L0.map toW)) Ws.flatten) root (opF b11 b10 b8 b1 bs) (ptr bj) (ptr bp) (ptr bt) (.slice al nl cl)++opY m1 m2 bp ba bt bd m (pgU m S) z1 z2)/\KvAt w' (Mb wb bj) l z1/\Ei l=Fy (kv1 L0) Ws.flatten/\DT str (mi (Ec [] Ws.flatten)) z2
theorem Amm{i:Nat}(h:opI w0 wI wb b16 b11 b10 b8 b1 bs bd bp ba bt gen m1 m2 m root L0 S Ws o1 o2 A R F i w):w.heap[b16]?=some (Bl 46 (opF b11 b10 b8 b1 bs)):=by
 match i,h with
 |0,h=>exact Fo.at h.2.2.2 (k:=0) rfl
 |1,⟨_,_,_,h⟩=>exact Fo.at h.2.2.2.1 (k:=0) rfl
 |2,⟨_,_,_,_,_,_,_,_,h⟩=>exact Fo.at h.2.2.2.2.2.2.1 (k:=0) rfl
 |_+3,⟨_,_,_,_,_,_,_,h⟩=>exact Fo.at h.2.2.2.1 (k:=0) rfl
theorem Ajl(hw0:w0.heap.size<=wI.heap.size)(h0:opI w0 wI wb b16 b11 b10 b8 b1 bs bd bp ba bt gen m1 m2 m root L0 S Ws o1 o2 A R F 0 wb)(_:Ext [] wI wb)(g:SG (m+362) A R V)(hR:R.size=360/\1<=R.seq/\R.seq<=4611686018427387904)(hnew:∀y∈[bs,m1,m2,ba,b11],wI.heap.size<=y)(hm1:DT str (mv []) o1)(hm2:DT str (mi []) o2)(td:Told 362 A (List.replicate m 0) root L0 S)(hS:∀x∈S,x<m)(hnd:S.Nodup)(hL:Rising L0)(ho:OkP L0)(hLn:L0.length<=50000)(hRL:R.L=Ws.map opB)(hW:∀W∈Ws,W.length<=1000/\∀x∈W,x.Few)(hWn:Ws.length<=400) :
  Ret prog 37 #[.slice (some ⟨b16,0,none⟩) 3 3] wb fun v w'=>∃e,v=.int .i64 e/\((e=0/\opI w0 wI wb b16 b11 b10 b8 b1 bs bd bp ba bt gen m1 m2 m root L0 S Ws o1 o2 A R F 3 w')\/(e≠0/\False)):=by
 have FY0:=h0.2.2.2;have lt:∀(k b:Nat) (o:Obj),(YP b16 b11 b10 b8 b1 bs bd gen m1 m2 R.first R.seq root 0 root (opF b11 b10 b8 b1 bs) FE (ptr bp) (ptr bt) (.slice none 0 0)++opY m1 m2 bp ba bt bd m (List.replicate m 0) o1 o2)[k]?=some (b,o)->b<wb.heap.size:=fun k b o h=>Al (Fo.at FY0 h);have lbs:=lt 5 bs _ rfl;have lm1:=lt 7 m1 _ rfl;have lm2:=lt 6 m2 _ rfl;have lba:=lt 9 ba _ rfl;have l11:=lt 1 b11 _ rfl;have lbt:=lt 10 bt _ rfl;have lbp:=lt 8 bp _ rfl;have nF:∀(k b:Nat) (o:Obj),(YP b16 b11 b10 b8 b1 bs bd gen m1 m2 R.first R.seq root 0 root (opF b11 b10 b8 b1 bs) FE (ptr bp) (ptr bt) (.slice none 0 0)++opY m1 m2 bp ba bt bd m (List.replicate m 0) o1 o2)[k]?=some (b,o)->¬F b:=fun k b o h=>FY0.off (b,o) (qad h);have fbs:=nF 5 bs _ rfl;have fm1:=nF 7 m1 _ rfl;have fm2:=nF 6 m2 _ rfl;have fba:=nF 9 ba _ rfl;have f11:=nF 1 b11 _ rfl;have fbt:=nF 10 bt _ rfl
 have fbp:=nF 8 bp _ rfl
 have fs4:∀y∈[bs,m1,m2,ba],¬F y:=fun y hy=>by
  simp only[qab,qaj,or_false]at hy
  rcases hy with rfl|rfl|rfl|rfl <;> assumption
 refine UZ (E:=fun _ _=>False) (opF b11 b10 b8 b1 bs) wb (by simp) (I:=opI w0 wI wb b16 b11 b10 b8 b1 bs bd bp ba bt gen m1 m2 m root L0 S Ws o1 o2 A R F) h0 (fun i w' h=>Amm h) (fun v hv=>?_) (fun i f fi caps w' hi h=>?_)
 .simp only[qab,qaj,or_false]at hv
  rcases hv with rfl|rfl|rfl <;> exact⟨_,_,_,rfl⟩
 .match i,hi,h with
  |0,hi,⟨O,hxI,hxb,FY⟩ =>
   cases hi
   have hT:Tx w' bt bd bp ba 362 A (List.replicate m 0) F [(bs,Bl CA (C3 (ptr bd) FE (ptr bp) (ptr bt) gen root m1 m2 0 false)),(m1,o1),(m2,o2)]:=by
    refine⟨Fo.at FY (k:=10) rfl,⟨?_,Fo.at FY (k:=9) rfl,?_,?_,?_⟩,O.dev,fun x hx=>?_,?_,fun x hx=>?_,⟨fbt,?_⟩,fbp,fba,fun x hx=>(O.own x hx).2⟩
    .rw[qa8];exact Fo.at FY (k:=8) rfl
    .exact CQ FY 8 9 U U
    .intro s hs;rw[(qec.1 hs).2];decide
    .rw[qa8];have:=g.lim;omega
    .simp only[qab,qaj,or_false]at hx
     rcases hx with rfl|rfl|rfl
     .exact Fo.at FY (k:=5) U
     .exact Fo.at FY (k:=7) U
     .exact Fo.at FY (k:=6) U
    .exact Xd (CQ FY 5 7 U U) (CQ FY 5 6 U U) (CQ FY 7 6 U U)
    .simp only[qab,qaj,or_false]at hx
     rcases hx with rfl|rfl|rfl
     .exact⟨fbs,CQ FY 5 9 U U,CQ FY 5 10 U U,CQ FY 5 8 U U⟩
     .exact⟨fm1,CQ FY 7 9 U U,CQ FY 7 10 U U,CQ FY 7 8 U U⟩
     .exact⟨fm2,CQ FY 6 9 U U,CQ FY 6 10 U U,CQ FY 6 8 U U⟩
    .exact CQ FY 10 9 U U
   refine⟨by kernel_rfl,(Ahh hT hm1 hm2 td hS hnd hL ho g.good.few hLn).mono fun v w'' ⟨hv,l,z1,z2,H,K,hk,hM⟩=>⟨0,hv,.inl ⟨rfl,l,z1,z2,?_,?_,?_,?_,?_,hk,hM⟩⟩⟩
   .exact O.over H.ext fs4 fun y hy=>qas hw0 (hnew y (by simp only[qab,qaj,or_false]at hy |-;rcases hy with h|h|h|h <;> simp[h]))
   .exact hxI.then H.ext fun y hy => .inr (hnew y (by simp only[qab,qaj,or_false]at hy |-;rcases hy with h|h|h|h <;> simp[h]))
   .exact qas hxb.size H.ext.size
   .refine LA FY H.ext U fun y hy=>?_;simp only[qb8,qba,qab,qaj,or_false]at hy
    rcases hy with rfl|rfl|rfl|rfl|rfl|rfl|rfl|rfl|rfl|rfl|rfl
    .exact .inr ⟨qad (i:=0) rfl,CD FY (k:=0) U [5,7,6,9] rfl⟩
    .exact .inr ⟨qad (i:=1) rfl,CD FY (k:=1) U [5,7,6,9] rfl⟩
    .exact .inr ⟨qad (i:=2) rfl,CD FY (k:=2) U [5,7,6,9] rfl⟩
    .exact .inr ⟨qad (i:=3) rfl,CD FY (k:=3) U [5,7,6,9] rfl⟩
    .exact .inr ⟨qad (i:=4) rfl,CD FY (k:=4) U [5,7,6,9] rfl⟩
    .exact .inl (H.get at0)
    .exact .inl (H.get at2)
    .exact .inl (H.get at1)
    .exact .inr ⟨qad (i:=8) rfl,CD FY (k:=8) U [5,7,6,9] rfl⟩
    .exact .inl (H.get at3)
    .exact .inr ⟨qad (i:=10) rfl,CD FY (k:=10) U [5,7,6,9] rfl⟩
   .exact⟨K.m,(fun q hq=>⟨⟨(K.ok q hq).1.1,(K.ok q hq).1.2.imp id fun h5 h6=>h5 (qat h6 hxb.size)⟩,(K.ok q hq).2⟩),K.few⟩
  |1,hi,⟨l,z1,z2,O,hxI,hsz,FY,K,hk,hM⟩ =>
   cases hi;refine⟨by kernel_rfl,(Ahi O ⟨qas hw0 (hnew bs (by simp)),qas hw0 (hnew b11 (by simp))⟩ g ⟨hR.1,rfl,rfl,hR.2⟩ FY).mono fun v w'' ⟨hv,bj,al,nl,cl,hbj,J,H,SF⟩=>⟨0,hv,.inl ⟨rfl,l,z1,z2,bj,al,nl,cl,w'.heap.size,J,?_,qas hsz hbj,hsz,Al J.jr,SF,fo_fj (LA FY H.ext rfl fun y hy=>?_) (fun y hy=>?_),?_,hk,hM⟩⟩⟩
   .exact hxI.then H.ext fun y hy => .inr (hnew y (by simp only[qab,qaj,or_false]at hy |-;rcases hy with h|h <;> simp[h]))
   .simp only[qb8,qba,qab,qaj,or_false]at hy
    rcases hy with rfl|rfl|rfl|rfl|rfl|rfl|rfl|rfl|rfl|rfl|rfl
    .exact .inr ⟨qad (i:=0) rfl,CD FY (k:=0) U [5,1] rfl⟩
    .exact .inl (H.get at1)
    .exact .inr ⟨qad (i:=2) rfl,CD FY (k:=2) U [5,1] rfl⟩
    .exact .inr ⟨qad (i:=3) rfl,CD FY (k:=3) U [5,1] rfl⟩
    .exact .inr ⟨qad (i:=4) rfl,CD FY (k:=4) U [5,1] rfl⟩
    .exact .inl (H.get at0)
    .exact .inr ⟨qad (i:=6) rfl,CD FY (k:=6) U [5,1] rfl⟩
    .exact .inr ⟨qad (i:=7) rfl,CD FY (k:=7) U [5,1] rfl⟩
    .exact .inr ⟨qad (i:=8) rfl,CD FY (k:=8) U [5,1] rfl⟩
    .exact .inr ⟨qad (i:=9) rfl,CD FY (k:=9) U [5,1] rfl⟩
    .exact .inr ⟨qad (i:=10) rfl,CD FY (k:=10) U [5,1] rfl⟩
   .exact Nat.ne_of_lt (qat (fo_lt FY (by rfl) y hy) hbj)
   .refine⟨K.m,(fun q hq=>?_),K.few⟩;have h5:=(K.ok q hq).1;refine⟨⟨Rdx.read h5 H.ext fun y hy=>?_,?_⟩,(K.ok q hq).2⟩
    .simp only[qab,qaj,or_false]at hy
     rcases hy with rfl|rfl
     .exact lbs
     .exact l11
    .rcases Rd.lt8 h5.1 with h6|h6
     .exact .inl h6
     .exact h5.2.imp id fun h7 h8=>h8.elim h7 fun h9=>by omega
  |2,hi,⟨l,z1,z2,bj,al,nl,cl,N,J,hxI,hbj,hN,hbw,SF,FY,K,hk,hM⟩ =>
   cases hi
   have hkW:∀x∈L0.map toW,x.Few:=fun x hx=>by
    obtain⟨y,hy,rfl⟩:=qah.1 hx;exact⟨(ho y hy).2.1,(ho y hy).2.2⟩
   have hn0:=Io (m:=0) (kv:=[]) (n:=0) (L:=L0.map toW) (fun q hq=>by cases hq) hkW (by decide) (by decide);rw[qal,Int.zero_add]at hn0
   have hm3:∀y∈[bs,m1,m2],y<wb.heap.size:=fun y hy=>by
    simp only[qab,qaj,or_false]at hy
    rcases hy with rfl|rfl|rfl <;> assumption
   have hg3:∀y∈[bs,m1,m2],wI.heap.size<=y:=fun y hy=>hnew y (by simp only[qab,qaj,or_false]at hy |-;rcases hy with h|h|h <;> simp[h])
   have hno:∀y∈[bs,m1,m2],¬Fj F bj y:=fun y hy h5=>by
    have h6:=hm3 y hy
    rcases h5 with h5|h5
    .exact fs4 y (by simp only[qab,qaj,or_false]at hy |-;rcases hy with h|h|h <;> simp[h]) h5
    .omega
   refine⟨by kernel_rfl,(Ahj (bs:=bs) (m1:=m1) (m2:=m2) (gen:=gen) (vd:=ptr bd) (vj:=ptr bj) (vp:=ptr bp) (vt:=ptr bt) (root:=root) (n:=DQ [] 0 (L0.map toW)) (N:=N) (T:=L0.length) (Fo.at FY (k:=1) rfl) (Fo.at FY (k:=2) rfl) (by rw[hRL]at SF;exact SF) (fun y hy=>qat (hm3 y hy) hN) ?_ ?_ (Ctx.startL (L:=[(bs,Bl CA (C3 (ptr bd) (ptr bj) (ptr bp) (ptr bt) gen root m1 m2 (DQ [] 0 (L0.map toW)) false)),(m1,z1),(m2,z2)]) (fun y hy=>?_) ?_) K hM (fun y hy => .inl (hm3 y hy)) (fun y hy=>hy.elim (fun h=>qat h (by omega)) fun h=>by omega) hW hWn).mono fun v w'' ⟨hv,l',z1',z2',D⟩=>⟨0,hv,.inl ⟨rfl,l',z1',z2',bj,al,nl,cl,J.over D.H.ext hno (fun y hy=>qas hw0 (hg3 y hy)),hxI.then D.H.ext (fun y hy => .inr (hg3 y hy)),hbj,LA FY D.H.ext rfl (fun y hy=>?_),D.K,by rw[D.k,hk],D.m⟩⟩⟩
   .exact CD FY (k:=2) U [5,7,6] U
   .exact CD FY (k:=1) U [5,7,6] U
   .simp only[qab,qaj,or_false]at hy
    rcases hy with rfl|rfl|rfl
    .exact Fo.at FY (k:=5) U
    .exact Fo.at FY (k:=7) U
    .exact Fo.at FY (k:=6) U
   .exact Xd (CQ FY 5 7 U U) (CQ FY 5 6 U U) (CQ FY 7 6 U U)
   .have Hb:=D.H;rw[hk]at Hb;simp only[qb8,qba,qab,qaj,or_false]at hy
    rcases hy with rfl|rfl|rfl|rfl|rfl|rfl|rfl|rfl|rfl|rfl|rfl
    .exact .inr ⟨qad (i:=0) rfl,CD FY (k:=0) U [5,7,6] rfl⟩
    .exact .inr ⟨qad (i:=1) rfl,CD FY (k:=1) U [5,7,6] rfl⟩
    .exact .inr ⟨qad (i:=2) rfl,CD FY (k:=2) U [5,7,6] rfl⟩
    .exact .inr ⟨qad (i:=3) rfl,CD FY (k:=3) U [5,7,6] rfl⟩
    .exact .inr ⟨qad (i:=4) rfl,CD FY (k:=4) U [5,7,6] rfl⟩
    .exact .inl (Hb.get at0)
    .exact .inl (Hb.get at2)
    .exact .inl (Hb.get at1)
    .exact .inr ⟨qad (i:=8) rfl,CD FY (k:=8) U [5,7,6] rfl⟩
    .exact .inr ⟨qad (i:=9) rfl,CD FY (k:=9) U [5,7,6] rfl⟩
    .exact .inr ⟨qad (i:=10) rfl,CD FY (k:=10) U [5,7,6] rfl⟩
theorem Xe(O:Own w0 w bd A F)(g:SG (m+362) A R V)(hmay:JS A=0)(hm:1<=m)(hE:El A=0)(hLo:DD A=tpB root R.first R.seq)(hG:EV A=gen)(hroot : -1<=root/\root<=4294967294)(hR:R.size=360/\1<=R.seq/\R.seq<=4611686018427387904)(td:Told 362 A (List.replicate m 0) root L0 S)(hS:∀x∈S,x<m)(hnd:S.Nodup)(hL:Rising L0)(ho:OkP L0)(hLn:L0.length<=50000)(hRL:R.L=Ws.map opB)(hW:∀W∈Ws,W.length<=1000/\∀x∈W,x.Few)(hWn:Ws.length<=400) :
  Ret prog 19 #[ptr bd] w fun v w'=>∃p,v=.tuple #[ptr p.bs,.int .i64 0]/\p.bd=bd/\Sok w0 w' p A R ⟨gen,root,DQ (kv1 L0) (DQ [] 0 (L0.map toW)) Ws.flatten,Fy (kv1 L0) Ws.flatten,Ec [] Ws.flatten,pgU m S,L0.length+Ws.flatten.length,V⟩ F/\Ext [] w w':=by
 obtain⟨wI,rfl⟩:=qD w;have hN:=g.lim;have hlen:=g.len;have hok:=g.ok;have H:=Ctx.start wI []
 have hrt:tpR (tpB root R.first R.seq)=tpC root R.first R.seq:=ZU hroot (by have:=hok.a;omega)
 have htl:=DN root R.first R.seq
 refine A6 (fn:=f19) func19 U [ptr bd] U (Ad (Co _ (.pointer _) U U H ?_));rintro b1 w - H;refine B5 U (Ac U (qA (Ar (Ad (AG CY U H at0 U (Ah qB (UY (O.call H.ext).dev) U ?_))))));rintro v w ⟨rfl,rfl⟩;rw[hmay];refine Ac U (qA (Ad (Ae U (AZ U U (qA (Au _ U ?_ ?_))))))
 .intro h1;replace h1:=Bu h1;exact absurd U h1
 .intro h1;replace h1:=Bv h1;refine Aq (Aa (Ad (AG CY U H at0 U (Ah qB (RF g.good.few (O.call H.ext).dev) U ?_))));rw[hG,hE,hLo];rintro v w ⟨a19,c19,rfl,R19,h19,-,hx19⟩;replace H:=H.call hx19;refine AM U (Ag U U (Ag U U (Ag U U (Ac U (Aj U (Ac U (qA (Ar (Ad ?_)))))))));refine Ae U (AZ U U (qA (Au _ U ?_ ?_)))
  .intro h2;replace h2:=Bu h2;exact absurd U h2
  .intro h2;replace h2:=Bv h2;refine Aq (Aa (Ad (Ai U (Ah qB (WD a19 c19 (tpB root R.first R.seq) _ R19 h19) U ?_))));rw[hrt,qam htl];rintro v w ⟨rfl,hx28⟩;replace H:=H.call hx28;refine AM U (Ag U U (Ag U U (Be Q7 H ?_)));rintro b8 w - H;refine Bi Nb U U U (by simp[Bg]) H at0 U ?_;rintro w H;refine Am U (qA (Ar (Ad (AC U (Cl U (qA (Au _ U ?_ ?_)))))))
   .intro h3;replace h3:=CJ h3;exact absurd h3 (by decide)
   .intro h3;replace h3:=CK h3;refine Aq (Aa (Ad (AG CY U H at1 U (Ae U (Ah qB (W8 _ (O.call H.ext).dev hlen ⟨hm,by omega⟩ gen) U ?_)))));rintro v w ⟨bs,m1,m2,o1,o2,bp,ba,bt,rfl,hm1,hm2,HE⟩;replace H:=H.callEnt HE.ext (fun x hx=>⟨HE.blk x hx,(HE.own x hx).resolve_left (by simp)⟩) HE.nd;refine AM U (Ag U U (Ag U U (Be Ae6 H ?_)));rintro b10 w - H;refine Bc (.pointer _) Ae1 U U U H at0 (by decide) ?_;rintro w H;refine Ac U (qA (Ar (Ad (Ae U (AZ U U (qA (Au _ U ?_ ?_)))))))
    .intro h4;replace h4:=Bu h4;exact absurd U h4
    .intro h4;replace h4:=Bv h4;refine Aq (Aa (Ad (AG ET U H at0 U (Af Zo U (AG DU U H at1 U (Ay U (Af IF U (Bc (.int _ _) GZ U U U H at3 (by(simp;done)) ?_))))))));rintro w H;refine qA (Ad (Be zc_69 H ?_));rintro b11 w - H;refine qA (Ad (AG ET U H at1 U (Vi (ptr bs) U U ?_)));refine Cz [.pointer _,.pointer _,.pointer _,.pointer _] U (Cz [.pointer _,.pointer _] U (BQ (opF b11 b10 b8 b1 bs) NW VG Zr H ?_));rintro b51 w - H;have hall:=(fun(k:Nat) (b:Nat) (o:Obj) (hy)=>(H.own (b,o) (qad (i:=k) hy)).resolve_left (by simp));have hnw:∀y∈[bs,m1,m2,ba,b11],wI.heap.size<=y:=(by simp only[qab,qaj,or_false,forall_eq_or_imp,forall_eq];exact⟨hall 5 bs _ rfl,hall 7 m1 _ rfl,hall 6 m2 _ rfl,hall 9 ba _ rfl,hall 1 b11 _ rfl⟩)
     have hnp:wI.heap.size<=bp/\wI.heap.size<=bt:=⟨hall 8 bp _ rfl,hall 10 bt _ rfl⟩;have hFw:=(O.call H.ext);have hlw:=(fun(k:Nat) (b:Nat) (o:Obj) (hy)=>Al (H.blk (b,o) (qad (i:=k) hy)));have hlow:=And.intro (hlw 5 bs _ rfl) (And.intro (hlw 7 m1 _ rfl) (And.intro (hlw 6 m2 _ rfl) (And.intro (hlw 8 bp _ rfl) (And.intro (hlw 9 ba _ rfl) (hlw 10 bt _ rfl)))));clear hlw;refine Ah qB (Ajl (wI:=wI) (b16:=b51) (b11:=b11) (b10:=b10) (b8:=b8) (b1:=b1) (bs:=bs) (bp:=bp) (ba:=ba) (bt:=bt) (gen:=gen) (m1:=m1) (m2:=m2) (m:=m) (root:=root) (L0:=L0) (S:=S) (Ws:=Ws) (o1:=o1) (o2:=o2) O.ext.size ⟨O.call H.ext,H.ext,Ext.refl _ _,YI H (fun x h=>(O.own x h).2) (List.Sublist.refl _)⟩ H.ext g hR hnw hm1 hm2 td hS hnd hL ho hLn hRL hW hWn) U ?_;rintro v w ⟨e,rfl,he⟩;obtain⟨rfl,l,z1,z2,bj,al,nl,cl,J,hxI,hbj,FY,K,hk,hM⟩:=he.resolve_right (fun h=>h.2);clear he;clear hall;clear H
     refine Ac U (qA (Ar (Ad (Ae U (AZ U U (qA (Au _ U ?_ ?_)))))))
     .intro h5;replace h5:=Bu h5;exact absurd U h5
     .intro h5;replace h5:=Bv h5;refine Aq (Aa (Ad (Bf ET U ((by rw[Ap (Fo.at FY (k:=2) rfl)];rfl)) ?_)));refine B5 U (Ac U (qA (Ax (Ce (v1:=(.pointer _)) (v2:=(.int _ _)) U U U U ?_))));have hpl:(pgU m S).length=m:=by rw[Jq,qa8]
      have hge:∀q∈[bs,m1,m2,bp,ba,bt],wI.heap.size<=q:=fun q hq=>by
       simp only[qab,qaj,or_false]at hq
       rcases hq with h|h|h|h|h|h <;> rw[h]
       .exact hnw _ (by simp)
       .exact hnw _ (by simp)
       .exact hnw _ (by simp)
       .exact hnp.1
       .exact hnw _ (by simp)
       .exact hnp.2
      have hkW:∀x∈L0.map toW,x.Few:=fun x hx=>by
       obtain⟨y,hy,rfl⟩:=qah.1 hx;exact⟨(ho y hy).2.1,(ho y hy).2.2⟩
      have hfW:∀x∈Ws.flatten,x.Few:=fun x hx=>by
       obtain⟨W,hW1,hW2⟩:=qe0.1 hx;exact(hW W hW1).2 x hW2
      have hfl:Ws.flatten.length<=400000:=by
       have h6:=Um (L:=Ws) (m:=1000) fun W hW1=>(hW W hW1).1;have h7:1000*Ws.length<=1000*400:=qb7 _ hWn;omega
      have hk1:∀q∈kv1 L0,q.1.length<=32/\q.2.length<=128:=fun q hq=>by
       have h6:=(Ul L0 hL).perm.mem_iff.1 hq;exact(ho q h6).2
      have hn0:=Io (m:=0) (kv:=[]) (n:=0) (L:=L0.map toW) (fun q hq=>by cases hq) hkW (by decide) (by decide);rw[qal,Int.zero_add]at hn0;have hn1:=Io (m:=L0.length) (n:=DQ [] 0 (L0.map toW)) hk1 hfW (by omega) (by omega);have htt:=OC (W:=Ws.flatten) (t:=[]) (T:=0) (fun q hq=>by cases hq) (by decide);refine⟨⟨bd,bs,bj,bp,ba,bt,m1,m2,0,0⟩,rfl,rfl,⟨J,by rw[hlen];exact g,⟨l,z1,z2,?_,K.weak fun y hy=>?_,hk,hM⟩,fun q hq=>qas O.ext.size (hge q hq),hn1,(fun q hq=>by have:=htt q hq;dsimp only;omega),by dsimp only;omega,qak _⟩,hxI⟩
      .refine ZT FY (fun y hy=>?_) ?_
       .simp only[Sp.blk,qab,qaj,or_false,hpl]at hy
        rcases hy with rfl|rfl|rfl|rfl|rfl|rfl
        .exact qad (i:=5) U
        .exact qad (i:=7) U
        .exact qad (i:=6) U
        .exact qad (i:=8) U
        .exact qad (i:=9) U
        .exact qad (i:=10) U
       .have hp6:=FY.nd.sublist (List.drop_sublist 5 _);simp only[Sp.blk,hpl];exact(List.Perm.pairwise_iff (fun h=>Ne.symm h) ((List.Perm.swap _ _ _).cons _)).1 hp6
      .replace hy:=hy.resolve_right fun h=>absurd h.2 (qcp _)
       rcases hy with(hy|hy)|hy
       .exact .inl (hFw.own y hy).2
       .exact .inr hy
       .simp only[Sp.own,qab,qaj,or_false]at hy;left
        rcases hy with h|h|h|h|h|h <;> rw[h]
        .exact hlow.1
        .exact hlow.2.1
        .exact hlow.2.2.1
        .exact hlow.2.2.2.1
        .exact hlow.2.2.2.2.1
        .exact hlow.2.2.2.2.2
end
open Go.GV Go.Proofs.Tryz Go.Maps Go.Sort Go.Shelf Go.RowKit
theorem Acs(mb:Option Nat)(w:World):Ret prog 119 #[.map mb] w fun v w'=>v=.func (.func 143) #[] #[.pointer (some ⟨w.heap.size,0,none⟩)]/\w'=w.alloc (Bl 92 [.map mb]):=by
 have h:=AnyZ.keys_in keysT Fence.wide 5 trivial rfl mb w;exact CallsIn.mono (callsIn_wide.2 (callsIn_wide.1 h)) fun e w' ⟨h1,h2⟩=>⟨_,h1,rfl,h2⟩
theorem Xf{w:World}{bx bm:Nat}{m:List (Byt × Value)}{o:Obj}(hx:w.heap[bx]?=some (Bl 92 [.map (some bm)]))(hb:w.heap[bm]?=some o)(hM:DT str m o)(nd:(m.map (·.1)).Nodup)(hsz:m.length<=100000)(hr:∀p∈m,p.1.length<=32) :
  Ret prog 65 #[.func (.func 143) #[] #[.pointer (some ⟨bx,0,none⟩)]] w fun v w'=>∃a c,v=.slice a (Cy m).length c/\Rd w' a 1 (fun x:Byt=>[str x]) (Cy m)/\(Cy m).length<=c/\(Cy m=[]\/w.heap.size<=(adr a).block)/\Ext [] w w':=by
 obtain⟨D0,hown,hperm,hsize⟩:=OT (P:=prog) Fq hb hM nd (qas hsz (by decide)) (fun p hp=>qas (hr p hp) (by decide))
 have hseq:SeqGives Fence.wide 2 prog 143 #[.pointer (some ⟨bx,0,none⟩)] encStr (fun ss=>ss.Perm (strKeys D0)) (Maps.size D0) w :=
  AnyZ.keys_gives (ρ:=keysT_ren) { keysT with } Fence.wide _ trivial rfl (by omega) bx bm m.length D0 w (Al hx) (by rw[Ap hx];rfl) hown
 have cS:=AnyZ.sorted_in sortedS Fence.wide 5 trivial trivial trivial trivial rfl (by omega) (sortsS _) (enters_of func103 (by kernel_rfl) rfl) 143 #[.pointer (some ⟨bx,0,none⟩)] trivial (enters_of func143 (by kernel_rfl) rfl) _ (Maps.size D0) (by rw[hsize];exact qas hsz (by decide)) (by rw[hsize];omega) _ hseq;refine CallsIn.mono (callsIn_wide.2 (callsIn_wide.1 cS)) ?_;rintro e w' ⟨v,ss,rfl,hS,hrow,_,hbel⟩;have he:ss.mergeSort (fun x y=>decide (x<=y))=Cy m:=mergeSort_of_perm (hS.trans hperm);rw[he]at hrow;obtain⟨a,c,rfl,R,hc,hnew⟩:=OU (by rw[<-he,qco]) hrow;exact⟨_,rfl,a,c,rfl,R,hc,hnew,J3 hbel⟩
structure Gk(w0 w:World)(p:Sp)(A:Dev)(P:List Nat)(F:Mut)(J:Jr)(gen:Nat)(root n:Int)(l:List (Byt × Sv))(o1 o2:Obj):Prop where
 T:Tx w p.bt p.bd p.bp p.ba 362 A P F []
 O:Fo w (TM F p.ba p.bt p.bp []) [(p.bs,Bl CA (C3 (ptr p.bd) (ptr p.bj) (ptr p.bp) (ptr p.bt) gen root p.m1 p.m2 n false)),(p.m1,o1),(p.m2,o2),(p.bj,Bl TJ (JB p.bd J))]
 K:KvAt w (Mv F p) l o1
 x0:Ext [] w0 w
 ge:∀y,Ms F p y->w0.heap.size<=y
section
variable {w0 w w':World}{p:Sp}{A A':Dev}{P P':List Nat}{F F':Mut}{J:Jr}{gen:Nat}{root n:Int}{l:List (Byt × Sv)}{o1 o2:Obj}
theorem Un(x:Nat)(h:TM F p.ba p.bt p.bp [] x):Ms F p x:=by
 rcases h with h|rfl|rfl|rfl|h
 .exact .inl (.inl h)
 .exact .inr (by simp[Sp.own])
 .exact .inr (by simp[Sp.own])
 .exact .inr (by simp[Sp.own])
 .cases h
theorem Js(t:Grown (TM F p.ba p.bt p.bp []) (TM F' p.ba p.bt p.bp []) w w'):Grown (Ms F p) (Ms F' p) w w':=by
 obtain⟨⟨S,hS,hx⟩,g⟩:=t;refine⟨⟨S,fun y hy=>Un y (hS y hy),hx⟩,fun y hy=>?_⟩
 rcases hy with(hy|rfl)|hy
 .exact(g y (.inl hy)).imp (Un y) id
 .exact .inl (.inl (.inr U))
 .exact .inl (.inr hy)
theorem Gk.call(g:Gk w0 w p A P F J gen root n l o1 o2)(hx:Ext [] w w'):Gk w0 w' p A P F J gen root n l o1 o2 :=
 ⟨g.T.call hx,(g.O.call (Grown.call hx)).1,⟨g.K.m,fun q hq=>⟨(g.K.ok q hq).1.call hx,(g.K.ok q hq).2⟩,g.K.few⟩,g.x0.trans hx,g.ge⟩
theorem Ahk{M M':Mut}(h:∀y,M y->w0.heap.size<=y)(hs:w0.heap.size<=w.heap.size)(t:Grown M M' w w'):∀y,M' y->w0.heap.size<=y:=fun y hy=>(t.2 y hy).elim (h y) fun h=>by omega
theorem Gk.tree(g:Gk w0 w p A P F J gen root n l o1 o2)(T:Tx w' p.bt p.bd p.bp p.ba 362 A' P' F' [])(t:Grown (TM F p.ba p.bt p.bp []) (TM F' p.ba p.bt p.bp []) w w'):Gk w0 w' p A' P' F' J gen root n l o1 o2:=by
 have t2:=Js (p:=p) t;refine⟨T,(g.O.call t).1,⟨g.K.m,fun q hq=>⟨(g.K.ok q hq).1.turn (WP t2),(g.K.ok q hq).2⟩,g.K.few⟩,?_,Ahk g.ge g.x0.size t2⟩;obtain⟨⟨S,hS,hx⟩,-⟩:=t2;exact g.x0.then hx fun y hy => .inr (g.ge y (hS y hy))
theorem Gk.mlt(g:Gk w0 w p A P F J gen root n l o1 o2):∀y,Ms F p y->y<w.heap.size:=fun y hy=>by
 have h1:=fun i b o hi=>Al (Fo.at g.O (k:=i) (b:=b) (o:=o) hi)
 rcases hy with(hy|rfl)|hy
 .exact g.T.lt y hy
 .exact h1 3 _ _ U
 .simp only[Sp.own,qab,qaj,or_false]at hy
  rcases hy with rfl|rfl|rfl|rfl|rfl|rfl
  .exact h1 0 _ _ U
  .exact h1 1 _ _ U
  .exact h1 2 _ _ U
  .exact Al g.T.pg.hd
  .exact Al g.T.pg.st
  .exact Al g.T.tr
theorem Gk.set{root':Int}(g:Gk w0 w p A P F J gen root n l o1 o2)(H:Ctx w [p.bs] w' [(p.bs,Bl CA (C3 (ptr p.bd) (ptr p.bj) (ptr p.bp) (ptr p.bt) gen root' p.m1 p.m2 n false))]):Gk w0 w' p A P F J gen root' n l o1 o2:=by
 have hb:∀y∈[p.bs],Ms F p y:=fun y hy => .inr (by rw[qaa.1 hy];simp[Sp.own]);have hoff:¬TM F p.ba p.bt p.bp [] p.bs:=g.O.off _ (qae ..)
 have hT:Tx w' p.bt p.bd p.bp p.ba 362 A P F []:=by
  have h:=hoff;unfold TM at h;simp only[not_or]at h;obtain⟨h1,h2,h3,h4,-⟩:=h;refine⟨H.ext.to g.T.tr (by simp;exact fun e=>h3 e.symm),g.T.pg.keep H.ext (by simp;exact fun e=>h4 e.symm) (by simp;exact fun e=>h2 e.symm),g.T.dev.keep H.ext (fun y hy=>by rw[qaa.1 hy];exact h1),(fun x hx=>by cases hx),List.Pairwise.nil,(fun x hx=>by cases hx),g.T.nbt,g.T.nbp,g.T.nba,fun x hx=>qat (g.T.lt x hx) H.ext.size⟩
 refine⟨hT,LA g.O H.ext U fun y hy=>?_,⟨g.K.m,fun q hq=>⟨⟨Rdx.read (g.K.ok q hq).1 H.ext (fun y hy => .inl (hb y hy)),(g.K.ok q hq).1.2⟩,(g.K.ok q hq).2⟩,g.K.few⟩,g.x0.then H.ext fun y hy => .inr (g.ge y (hb y hy)),g.ge⟩;simp only[qab,qaj,or_false]at hy
 rcases hy with rfl|rfl|rfl|rfl
 .exact .inl (H.get at0)
 .exact .inr ⟨by simp,CD g.O (k:=1) rfl [0] rfl⟩
 .exact .inr ⟨by simp,CD g.O (k:=2) rfl [0] rfl⟩
 .exact .inr ⟨by simp,CD g.O (k:=3) rfl [0] rfl⟩
theorem OD{root':Int}(H:Ctx w [p.bs] w' [(p.bs,Bl CA (C3 (ptr p.bd) (ptr p.bj) (ptr p.bp) (ptr p.bt) gen root' p.m1 p.m2 n false))]):Grown (Ms F p) (Ms F p) w w' :=
 ⟨Turn.of H.ext fun y hy => .inr (by rw[qaa.1 hy];simp[Sp.own]),fun _ h => .inl h⟩
theorem Amn{a:Option Addr}{b:Byt}(h:Rdx w (Ms F p) a b):Rdx w (TM F p.ba p.bt p.bp []) a b:=⟨h.1,h.2.imp id fun h1 h2=>h1 (Un _ h2)⟩
theorem Ahl{M:List Pr}{t:List (Byt × Int)}(g:Gk w0 w p A P F J gen root n l o1 o2)(hM:DT str (mi t) o2)(hnd:(t.map (·.1)).Nodup)(htn:t.length<=100000)(htk:∀q∈t,1<=q.1.length/\q.1.length<=32)(TT:TreeAt 362 A P root M)(hon:A.on=true)(hl:362+P.length<=A.B.length)(hP:P.length<=2000)(hfew:Few A 0) :
  Ret prog 89 #[ptr p.bs] w fun v w'=>v=.int .i64 (CZ (BA (Ei l)) (Cy (mi t)) root A P).1/\∃F',Gk w0 w' p (CZ (BA (Ei l)) (Cy (mi t)) root A P).2.2.1 (CZ (BA (Ei l)) (Cy (mi t)) root A P).2.2.2 F' J gen (if(CZ (BA (Ei l)) (Cy (mi t)) root A P).1=0 then(CZ (BA (Ei l)) (Cy (mi t)) root A P).2.1 else root) n l o1 o2/\Grown (Ms F p) (Ms F' p) w w':=by
 obtain⟨wI,rfl⟩:=qD w;obtain⟨f,hf⟩:=qD (BA (Ei l));obtain⟨ts,hts⟩:=qD (Cy (mi t));rw[<-hf,<-hts]
 have htm:∀k∈ts,1<=k.length/\k.length<=32:=fun k hk=>by
  rw[hts]at hk;have h1:=(qcc _ _).mem_iff.1 hk;simp only[qbf,qah,Function.comp]at h1;obtain⟨q,hq,rfl⟩:=h1;exact htk q hq
 have htl:ts.length<=100000:=by rw[hts,L4,qal];exact htn
 have hkf:=g.K.fewK;have hfv:∀k v,f k=some v->v.length<=128:=fun k v hv=>(hkf (k,v) (Es (by rw[<-hf];exact hv))).2;have H:=Ctx.start wI [];have hs:=Fo.at g.O (k:=0) rfl;have hm2:=Fo.at g.O (k:=2) rfl;refine A6 (fn:=f89) func89 U [ptr p.bs] U (Ad (Ac U (qA (Ad (An U (Ay U (Af IF U (Bf DU U ((by rw[Ap hs];rfl)) ?_))))))));refine Ac U (qA (Ar (Ad (An U (Ay U (Af PA U (Bf Zi U ((by rw[Ap hs];rfl)) ?_)))))));refine Ah qB (Acs (some p.m2) _) U ?_;rintro v w ⟨rfl,rfl⟩;replace H:=H.alloc (Bl 92 [.map (some p.m2)]);refine Ah qB (Xf (H.get at0) (H.ext.to hm2 (by simp)) hM (by simpa[qbf,qcm]using hnd) (by simpa using htn) (fun q hq=>by obtain⟨y,hy,rfl⟩:=qah.1 hq;exact(htk y hy).2)) U ?_;rw[<-hts];rintro v w ⟨a18,c18,rfl,R18,hc18,hn18,hx18⟩;have hsz18:=H.size;replace H:=H.call hx18
 refine AO Qz U (Ae U (qA (AD ?_)));obtain⟨wA,hwA⟩:=qD w;rw[<-hwA]at H R18 |-;have gA:=g.call H.ext;have hxA:=H.ext;have hMlt:=g.mlt
 have X18:∀{z:World} {F1:Mut},Grown (Ms F p) (Ms F1 p) wA z->Rd z a18 1 (fun x:Byt=>[str x]) ts:=fun{z F1} hz=>by
  rcases hn18 with h|h
  .rw[h];exact Rd.nil
  .exact(Rd.turnM R18 (.inr fun h5=>by have:=hMlt _ h5;omega) (by decide) (fun _ _=>rfl) hz).1
 clear H;refine BF 4611686018426339820 (α:=Nat × Int × Dev × List Nat × Mut × List Pr) (fun s=>[(20,.int .i64 (s.1:Int)),(3,.int .i64 s.2.1)]) (fun s w'=>s.1<=ts.length/\Gk w0 w' p s.2.2.1 s.2.2.2.1 s.2.2.2.2.1 J gen root n l o1 o2/\Grown (Ms F p) (Ms s.2.2.2.2.1 p) wA w'/\CZ f (ts.drop s.1) s.2.1 s.2.2.1 s.2.2.2.1=CZ f ts root A P/\TreeAt 362 s.2.2.1 s.2.2.2.1 s.2.1 s.2.2.2.2.2/\s.2.2.1.on=true/\s.2.2.1.B.length=A.B.length/\s.2.2.2.1.length=P.length/\Few s.2.2.1 (40*s.1)) (fun s=>ts.length - s.1) (0,root,A,P,F,M) U ?_ ?_ ?_
 .exact⟨rfl,rfl,trivial⟩
 .exact⟨qak _,gA,Grown.call (Ext.refl _ _),rfl,TT,hon,rfl,rfl,hfew⟩
 .rintro⟨i,r,A1,P1,F1,M1⟩ j w1 ⟨hi,g1,G1,hst,T1,hon1,hB1,hP1,Ih⟩;dsimp only at hi g1 G1 hst T1 hon1 hB1 hP1 Ih;dsimp only;have H:=Ctx.start w1 [];refine Ad (Bt U U (qA (Ar (Au _ U ?_ ?_))))
  .intro h1;replace h1:=AU h1;obtain⟨k,hk⟩:=AR (l:=ts) (i:=i);obtain⟨hk1,hk2⟩:=htm k (qad hk)
   have hdr:ts.drop i=k::ts.drop (i+1):=by
    obtain⟨hlt,he⟩:=qaq.1 hk;rw[qdv hlt,he]
   rw[hdr]at hst;have hres:=Xc (f:=f) (k:=k) (hfv k) ⟨hk1,hk2⟩ T1 hon1 (by rw[hB1,hP1];exact hl) (by rw[hP1];exact hP) Ih;obtain⟨S1,td1,-,-⟩:=T1.told hon1 (by rw[hB1,hP1];exact hl) (by rw[hP1];exact hP);have hr1:=td1.rlo;have hr2:=td1.rhi;have hs1:=Fo.at g1.O (k:=0) rfl;have hm1:=Fo.at g1.O (k:=1) rfl;have hmx:40*i<=800000000:=by omega
   have hcons:CZ f (k::ts.drop (i+1)) r A1 P1=if(Iw f k r A1 P1).1=0 then CZ f (ts.drop (i+1)) (Iw f k r A1 P1).2.1 (Iw f k r A1 P1).2.2.1 (Iw f k r A1 P1).2.2.2 else Iw f k r A1 P1:=rfl;rw[hcons]at hst;obtain⟨e',r',A',P',hone⟩:∃e' r' A' P',Iw f k r A1 P1=(e',r',A',P'):=⟨_,_,_,_,rfl⟩;rw[hone]at hst hres;dsimp only at hst hres
   have h99:e'≠99:=by rcases hres.out with h|h|h <;> omega
   have hlt1:=g1.mlt
   rcases hq:BA l k with _|s
   .skip
    have hfk:f k=none:=by rw[hf,KT,hq];rfl
    have hc:(Gt 362 A1 P1 r k).1=e'/\(Gt 362 A1 P1 r k).2.1=r'/\(Gt 362 A1 P1 r k).2.2.2.1=A'/\(Gt 362 A1 P1 r k).2.2.2.2=P':=by
     unfold Iw at hone;rw[hfk]at hone
     simpa only[qd5]using hone
    refine Aq (Aa (Ar (AD (Ad (Bj (X18 G1) Qz sz_9 U U (hn:=by rfl) ?_)))));refine Bf ag_9 U (((X18 G1).one (f:=str) hk)) (HP U U (qA (Ad (Ac U (qA (Ar (Ad (An U (Ay U (Af GP U ?_))))))))));refine Bf LN U ((by rw[Ap (H.ext.to hs1 (by simp))];rfl)) ?_;refine BW U (Fp (m:=mv l) (n:=k) U Na (ER Fq) Q8 U U (Ctx.start1 (H.ext.to hm1 (by simp))) at0 g1.K.m ?_);rw[EE (f:=Sv.enc),hq];refine AM U (Ag U U (Ag U U (Aj U (Am U (qA (Ad (AC U (qA (Bw U ?_)))))))));refine Av (An U (Ay U (Af JC U (Bf Jc U ((by rw[Ap (H.ext.to hs1 (by simp))];rfl)) ?_))));refine Ae U (BW U (Kl (l:=k) U Fq AW FB U ?_));rintro b53 c53 w53 hb53 hc53 hx53 R53;have hsz53:=H.size;replace H:=H.call hx53
    refine Ah qB (Z9 (by decide) (g1.T.call H.ext) r (some ⟨b53,0,none⟩) c53 k.length k ⟨R53,.inr fun h=>by have:=hlt1 _ (Un _ h);dsimp only[adr]at this;omega⟩ U Ih hmx (by rw[hc.1];exact h99)) U ?_;rw[hc.1,hc.2.1,hc.2.2.1,hc.2.2.2];rintro v w9 ⟨F',rfl,T9,t9⟩;have g2:=(g1.call H.ext).tree T9 t9;have G2:Grown (Ms F1 p) (Ms F' p) w1 w9:=Grown.trans (Grown.call H.ext) (Js t9);clear H;refine AM U (Ag U U (Ag U U (Ag U U (Ac U (Ac U (qA (Ad (Ae U (AZ U U ?_)))))))));refine qA (Au _ U ?_ ?_)
    .intro h3;replace h3:=Bu h3;rw[if_neg h3]at hst;refine Ad (Ae U (Ac U (qA (Ax (AL (Ao (Ao (AL (Ao (AH (v:=(.int _ _)) U U U ?_))))))))));rw[<-hst];dsimp only;rw[if_neg h3];exact⟨rfl,F',g2,Grown.trans (Grown.trans (Grown.call hxA) G1) G2⟩
    .intro h3;replace h3:=Bv h3;rw[if_pos h3]at hst;obtain⟨-,hon2,T2⟩:=hres.out.resolve_right (fun h=>h.elim (fun h=>by have:=h.1;omega) fun h=>by have:=h.1;omega);refine Aq (AF (Aa (Av (AA U U ?_))));refine Ae U (qA ?_);exact⟨(i+1,r',A',P',F',LX f M1 k),rfl,⟨rfl,rfl,trivial⟩,⟨by dsimp only;omega,g2,Grown.trans G1 G2,hst,T2,hon2,hres.aft.blen.trans hB1,hres.aft.len.trans hP1,hres.few⟩,by dsimp only;omega⟩
   .skip
    have hfk:f k=some s.v:=by rw[hf,KT,hq];rfl
    have hsf:=g1.K.few _ (Es hq);have hsk:=g1.K.ok _ (Es hq);dsimp only at hsf hsk;have hsk1:=(show Rdx _ (Ms _ p) s.a s.v from⟨hsk.1.1,hsk.1.2.imp id fun h h5=>h (.inl h5)⟩)
    have hc:Jh 362 A1 P1 r k s.v=(e',r',A',P'):=by
     unfold Iw at hone;rw[hfk]at hone;exact hone
    refine Aq (Aa (Ar (AD (Ad (Bj (X18 G1) Qz sz_9 U U (hn:=by rfl) ?_)))));refine Bf ag_9 U (((X18 G1).one (f:=str) hk)) (HP U U (qA (Ad (Ac U (qA (Ar (Ad (An U (Ay U (Af GP U ?_))))))))));refine Bf LN U ((by rw[Ap (H.ext.to hs1 (by simp))];rfl)) ?_;refine BW U (Fp (m:=mv l) (n:=k) U Na (ER Fq) Q8 U U (Ctx.start1 (H.ext.to hm1 (by simp))) at0 g1.K.m ?_);rw[EE (f:=Sv.enc),hq];refine AM U (Ag U U (Ag U U (Aj U (Am U (qA (Ad (AC U (qA (Fi U ?_)))))))));refine Av (An U (Ay U (Af JC U (Bf Jc U ((by rw[Ap (H.ext.to hs1 (by simp))];rfl)) ?_))));refine Ae U (BW U (Kl (l:=k) U Fq AW FB U ?_));rintro b53 c53 w53 hb53 hc53 hx53 R53;have hsz53:=H.size;replace H:=H.call hx53
    refine Ai U (Ah qB (Z8 (by decide) (g1.T.call H.ext) r (some ⟨b53,0,none⟩) s.a c53 s.c k.length s.v.length k s.v ⟨R53,.inr fun h=>by have:=hlt1 _ (Un _ h);dsimp only[adr]at this;omega⟩ (Amn (hsk1.call H.ext)) U U hc53 hsk.2 Ih hmx (by rw[hc];exact h99)) U ?_);rw[hc];rintro v w9 ⟨F',rfl,T9,t9⟩;dsimp only at T9;have g2:=(g1.call H.ext).tree T9 t9;have G2:Grown (Ms F1 p) (Ms F' p) w1 w9:=Grown.trans (Grown.call H.ext) (Js t9);clear H;refine AM U (Ag U U (Ag U U (Ac U (Ac U (qA (Ad (Ae U (AZ U U (qA ?_)))))))));refine Au _ U ?_ ?_
    .intro h3;replace h3:=Bu h3;rw[if_neg h3]at hst;refine Ad (Ae U (Ac U (qA (Ax (AL (Ao (Ao (AL (Ao (AH (v:=(.int _ _)) U U U ?_))))))))));rw[<-hst];dsimp only;rw[if_neg h3];exact⟨rfl,F',g2,Grown.trans (Grown.trans (Grown.call hxA) G1) G2⟩
    .intro h3;replace h3:=Bv h3;rw[if_pos h3]at hst;obtain⟨-,hon2,T2⟩:=hres.out.resolve_right (fun h=>h.elim (fun h=>by have:=h.1;omega) fun h=>by have:=h.1;omega);refine Aq (AF (Aa (Av (AA U U ?_))));refine Ae U (qA ?_);exact⟨(i+1,r',A',P',F',LX f M1 k),rfl,⟨rfl,rfl,trivial⟩,⟨by dsimp only;omega,g2,Grown.trans G1 G2,hst,T2,hon2,hres.aft.blen.trans hB1,hres.aft.len.trans hP1,hres.few⟩,by dsimp only;omega⟩
  .intro h1;replace h1:=AV h1;obtain rfl:i=ts.length:=by omega
   rw[qbx (qaf _)]at hst;replace hst:((0,r,A1,P1):Int × Int × Dev × List Nat)=CZ f ts root A P:=hst;have hs1:=Fo.at g1.O (k:=0) rfl;have H:=Ctx.start1 hs1;refine B9 (A8 (A8 (Bd (Aa (Ad (An U (Ae U (Ay U (Af IF U (Bc (.int _ _) GZ U U U H at0 (by(simp;done)) ?_))))))))));rintro w H;refine qA (Ad (Ac U (qA (Ax (AH (v:=(.int _ _)) U U U ?_)))));rw[<-hst];dsimp only;rw[if_pos rfl];exact⟨rfl,F1,g1.set H,Grown.trans (Grown.trans (Grown.call hxA) G1) (OD H)⟩
end
theorem OS.setN{a:Option Addr}{n c s:Nat}{full l:List Value}(O:OS a n c s full l)(k:Nat)(v:Value):OS a n c s (full.set k v) (l.set k v) :=
 ⟨O.zero,O.none',by rw[qcf];exact O.len,O.le,by rw[List.take_set,O.pre]⟩
theorem Ahm(inner:Bool)(ps:List SN):(ps.flatMap (K2 inner)).length=ps.length*2:=by
 induction ps with
 |nil=>rfl
 |cons p ps ih=>rw[qb6,qan,ih,qaw];show 2+_=_;omega
theorem Acu(inner:Bool)(qs:List SN)(q:SN)(v:Value)(p:SN)(hv:v=.slice p.1 p.2.1.length p.2.2):((qs++[q]).flatMap (K2 inner)).set (qs.length*2+1) v=(qs++[p]).flatMap (K2 inner):=by
 have h:=Ahm inner qs;rw[qbp,qbp,qe7 _ _ (by omega),h,show qs.length*2+1 - qs.length*2=1 by omega,hv];rfl
theorem Ajm{α:Type}{l:List α}(h:l≠[]):∃qs q,l=qs++[q]:=⟨l.dropLast,l.getLast h,(qfa h).symm⟩
theorem MY.sub{M:Mut}{Y Y2:List (Nat × Obj)}(h:∀y∈Y2,y∈Y):∀x,MY M Y2 x->MY M Y x:=fun _ hx=>hx.imp id fun hx=>by
 obtain⟨y,hy,rfl⟩:=qah.1 hx;exact qah.2 ⟨y,h y hy,rfl⟩
theorem Fo.sub{w:World}{M:Mut}{Y Y2:List (Nat × Obj)}(O:Fo w M Y)(h:∀y∈Y2,y∈Y)(nd:Y2.Pairwise fun x y=>x.1≠y.1):Fo w M Y2:=⟨fun y hy=>O.blk y (h y hy),nd,fun y hy=>O.off y (h y hy)⟩
theorem Its.mine{w:World}{M:Mut}{Y:List (Nat × Obj)}(O:Fo w M Y){pa:Option Addr}{pc:Nat}{pf:List Value}{pm:List Im}(OA:OS pa pm.length pc 3 pf (pm.flatMap Im.enc))(hb:∀x∈ent pa 185 pf,x∈Y)(hm:∀m∈pm,m.Ok w M):Its w M pa pm.length pc (pm.map (·.it)):=by
 refine⟨⟨pm,OS.rd OA (fun y hy=>O.blk y (hb y hy)) (fun _ _=>rfl) (by decide),?_,rfl,hm⟩,by simp,OA.le⟩
 cases ha:pa with
 |none=>exact .inl (qa9 (by have h8:=OA.le;have h9:=OA.none' ha;omega))
 |some q =>
  subst ha;exact .inr fun h=>O.off (q.block,_) (hb _ (qaa.2 rfl)) (by obtain⟨qb,qo,qs⟩:=q;exact h)
theorem Its.push{w:World}{M:Mut}{Y:List (Nat × Obj)}{pa:Option Addr}{pc:Nat}{pf:List Value}{pm:List Im}(O:Fo w M (Y++ent pa 185 pf))(OA:OS pa pm.length pc 3 pf (pm.flatMap Im.enc))(hm:∀m∈pm,m.Ok w (MY M (Y++ent pa 185 pf))) :
  Fo w M Y/\Its w (MY M Y) pa pm.length pc (pm.map (·.it)):=by
 have hnd:=qcb.1 O.nd;refine⟨O.sub (fun y hy=>qa4 _ hy) hnd.1,⟨⟨pm,OS.rd OA (fun y hy=>O.blk y (qax _ hy)) (fun _ _=>rfl) (by decide),?_,rfl,fun m h=>(hm m h).weak (MY.sub fun y hy=>qa4 _ hy)⟩,by simp,OA.le⟩⟩
 cases ha:pa with
 |none=>exact .inl (qa9 (by have h8:=OA.le;have h9:=OA.none' ha;omega))
 |some q =>
  subst ha;refine .inr fun h=>?_;have hq:(adr (some q)).block=q.block:=by obtain⟨qb,qo,qs⟩:=q;rfl
  rw[hq]at h
  rcases h with h|h
  .exact O.off (q.block,_) (qax _ (qaa.2 U)) h
  .obtain⟨y,hy,he⟩:=qah.1 h;exact hnd.2.2 y hy (q.block,_) (qaa.2 U) he
theorem Ctx.nilE{w0 w:World}{S:List Nat}{L:List (Nat × Obj)}(t:TypeId)(H:Ctx w0 S w L):Ctx w0 S w (L++ent none t []):=by simpa[ent]using H
theorem Fu(inner:Bool)(a:Option Addr)(n c:Nat):∀v∈[Value.bool inner,.slice a n c],Bg v=true:=fun v hv=>by
 simp only[qab,qaj,or_false]at hv
 rcases hv with rfl|rfl <;> rfl
theorem Acv(i:Bool)(l:List (List It))(q part:List It):Y4 i (l++[q]) part=if i=true/\part.length=1 then l++[q.take (q.length - 1)]++[q.drop (q.length - 1)++part]else l++[q]++[part]:=by
 unfold Y4 Rh;have h1:(l++[q])≠[]:=by simp
 have h2:(l++[q]).getLastD []=q:=by simp
 have h3:(l++[q]).take ((l++[q]).length - 1)=l:=by simp
 rw[h2,h3]
 by_cases h:i=true/\part.length=1
 .rw[if_pos ⟨h.1,h.2,h1⟩,if_pos h]
 .rw[if_neg fun h5=>h ⟨h5.1,h5.2.1⟩,if_neg h]
theorem JM(i:Bool):∀(M part:List It) (l:List (List It)),(ED i M part l).1.flatten++(ED i M part l).2=l.flatten++(part++M)
 | [],part,l=>by simp[ED]
 |x::M,part,l=>by
  unfold ED
  split
  .rw[JM i M];simp
  .rw[JM i M];simp
structure FS where
 i:Nat
 la:Option Addr
 lc:Nat
 lf:List Value
 ps:List SN
 pa:Option Addr
 pc:Nat
 pf:List Value
 pm:List Im
abbrev FY(b1 b3:Nat)(inner:Bool)(a:Option Addr)(n cc:Nat)(s:FS):List (Nat × Obj) :=
 (b3,Bl 183 [.bool inner,.slice s.pa s.pm.length s.pc])::(b1,Bl 183 [.bool inner,.slice a n cc])::(ent s.la 183 s.lf++ent s.pa 185 s.pf)
structure FInv(w0 w:World)(M:Mut)(b1 b3:Nat)(inner:Bool)(a:Option Addr)(n cc:Nat)(L:List It)(s:FS):Prop where
 O:Fo w M (FY b1 b3 inner a n cc s)
 I:Its w (MY M (FY b1 b3 inner a n cc s)) a n cc L
 OL:OS s.la s.ps.length s.lc 2 s.lf (s.ps.flatMap (K2 inner))
 OP:OS s.pa s.pm.length s.pc 3 s.pf (s.pm.flatMap Im.enc)
 pm:∀m∈s.pm,m.Ok w (MY M (FY b1 b3 inner a n cc s))/\m.it∈L
 ps:∀p∈s.ps,Its w (MY M (FY b1 b3 inner a n cc s)) p.1 p.2.1.length p.2.2 p.2.1/\p.2.1≠[]
 eq:ED inner (L.drop s.i) (s.pm.map (·.it)) (s.ps.map (fun p=>p.2.1))=ED inner L [] []
 hx:Ext [] w0 w
 yo:∀y∈(FY b1 b3 inner a n cc s).map (·.1),w0.heap.size<=y
 num:s.ps.length+s.pm.length<=s.i
theorem Ajn{w:World}{M:Mut}(hM:∀x,M x->x<w.heap.size)(inner:Bool){a:Option Addr}{n c:Nat}{L:List It}(I:Its w M a n c L)(hm:n<=100000)(hsz:∀x∈L,x.key.length<=65535/\x.val.length<=65535)(hs5:∀x∈L,C1 inner x<=503) :
  Ret prog 130 #[.agg #[.bool inner,.slice a n c]] w fun v w'=>∃a' n' c',v=.slice a' n' c'/\Nds w' M inner a' n' c' (CW inner L)/\Ext [] w w':=by
 obtain⟨w0,rfl,H⟩:=qE w;have hnum:=I.num;refine A6 (fn:=f130) func130 U [.agg #[.bool inner,.slice a n c]] U (Ad (Co [.bool inner,.slice a n c] (.agg _) U U H ?_));rintro b1 w - H;refine Aj U (qA (Ad (Af Dl U (AG Gx U H at0 U (B0 [.bool inner,.slice none 0 0] Gp Cb ?_)))));refine Be Cb H ?_;rintro b3 w - H;refine Bi Ba U U U (by exact Fu _ _ _ _) H at0 U ?_;rintro w H;refine qA (Ar (Ad (Af Bq U (AG BK U H at1 U (AO Br U (Ae U (qA (AD ?_))))))));have hlt0:∀{z:World},Ext [] w0 z->∀x,M x->x<z.heap.size:=fun{z} hz x h=>qat (hM x h) hz.size;obtain⟨O0,G0⟩:=(Fo.nil (w:=w0) (M:=M)).own hM H
 refine BF 549755797540 (α:=FS) (fun s=>[(14,.int .i64 (s.i:Int)),(2,.slice s.la s.ps.length s.lc)]) (fun s w'=>s.i<=n/\FInv w0 w' M b1 b3 inner a n c L s) (fun s=>n - s.i) ⟨0,none,0,[],[],none,0,[],[]⟩ U ?_ ?_ ?_
 .exact⟨rfl,rfl,trivial⟩
 .exact⟨qak _,⟨O0,(I.weak MY.nil).turn G0,OS.nil,OS.nil,(fun m h=>by cases h),(fun p h=>by cases h),rfl,H.ext,Ny (w0:=w0) (Y:=[]) (fun y h=>by cases h) (qaf _) H,qaf _⟩⟩
 .rintro⟨i,la,lc,lf,ps,pa,pc,pf,pm⟩ j w ⟨hi,V⟩;dsimp only at hi;dsimp only;have hpn:=V.num;have VOP:=V.OP;have VOL:=V.OL;dsimp only at hpn VOP VOL;refine Ad (Bt U U (qA (Ar (Au _ U ?_ ?_))))
  .intro h1;replace h1:=AU h1;obtain⟨ms,R,-,hl,hok⟩:=V.I.ex;have hml:ms.length=n:=by rw[hnum,<-hl,qal]
   obtain⟨x,hx1⟩:=AR (l:=ms) (i:=i);have hxL:=Im.at hl hx1;have hxm:=qad hxL;have hxs:=hsz x.it hxm;have hx5:=hs5 x.it hxm;have hxo:=hok x (qad hx1);have heq:=V.eq;dsimp only at heq;rw[EI hxL,ED]at heq;obtain⟨w3,rfl⟩:=qD w;have H:=V.O.ctx;have hlt3:=hlt0 V.hx;have hyo3:=V.yo;refine Aq (Aa (Ar (AD (Ad (Bj R Br Bh U U ?_)))));refine EL _ Dd Bh U U (R.row hx1 U) (Be Cr H ?_);rintro b5 w - H;refine Bi Bh U U U (by exact Im.oneE _) H at0 U ?_;rintro w H;refine qA (Ar ?_);obtain⟨w4,rfl⟩:=qD w;obtain⟨O4,G4⟩:=V.O.own hlt3 H;have hx04:Ext [] w0 w4:=V.hx.then H.ext fun x hx => .inr (hyo3 x hx);have hyo4:=Ny hyo3 V.hx.size H;have hlt4:=hlt0 hx04;have hb5:=H.get at0;have hb3:=H.get at1;have hb1:=H.get at2;have hxo4:=hxo.turn G4
   have Ip:Its w4 M pa pm.length pc (pm.map (·.it)):=Its.mine O4 V.OP (fun y hy=>qag _ (qag _ (qag _ (qax _ hy)))) (fun m hm=>((V.pm m hm).1.turn G4).weak MY.le)
   have hszp:∀y∈pm.map (·.it),y.key.length<=65535/\y.val.length<=65535:=fun y hy=>by
    obtain⟨m,hm,rfl⟩:=qah.1 hy;exact hsz _ (V.pm m hm).2
   have htp:=K1 (inner:=inner) hszp;rw[qal]at htp;have hD:=Ext.drew [] w4;have hk3:∀{z:World},Ext [] w4 z->z.heap[b3]?=some (Bl 183 [.bool inner,.slice pa pm.length pc]):=fun{z} h=>by rw[h.block b3 (Al hb3) (by simp)];exact hb3
   have hk1:∀{z:World},Ext [] w4 z->z.heap[b1]?=some (Bl 183 [.bool inner,.slice a n c]):=fun{z} h=>by rw[h.block b1 (Al hb1) (by simp)];exact hb1
   have hk5:∀{z:World},Ext [] w4 z->z.heap[b5]?=some (Bl 185 x.enc):=fun{z} h=>by rw[h.block b5 (Al hb5) (by simp)];exact hb5
   refine BR [([0,2,3],1),([],4),([5],6)] (fun z=>Ext [] w4 z) [] mixed (hD) (AB U U ?_);refine ON _ BH Ba U U (fun _ hx=>(fun j v hv=>by rw[Ap (hk3 hx),qa3];exact hv)) ?_;refine ON _ BH Ba U U (fun _ hx=>(fun j v hv=>by rw[Ap (hk1 hx),qa3];exact hv)) ?_;refine ON _ Dd Bh U U (fun _ hx=>(fun j v hv=>by rw[Ap (hk5 hx),qa3];exact hv)) ?_;refine Bm ?_
   skip
   refine Ah qB (QM inner (Ip.call hD) (by omega) hszp) U ?_;rintro v w5 ⟨rfl,hx19⟩;have hx5:=hD.trans hx19;refine Ab (Bb (hx5) (AB U U ?_));refine Bm (Ah qB (QK inner a n c (hxo4.call hx5)) U ?_);rintro v w6 ⟨rfl,hx22⟩;have hx6:=hx5.trans hx22;refine Ab (Bb (hx6) (AB U U ?_));refine EF U U (Bm (Ci U U (Ab (Bb (hx6) (B3 (Au _ U ?_ ?_))))))
   .intro h2;replace h2:=AU h2;rw[if_pos (by omega)]at heq
    have hpm0:pm.map (·.it)≠[]:=fun h=>by
     rw[h]at h2
     have:AY inner []=0:=rfl
     omega
    obtain⟨w6,rfl⟩:=qD w;obtain⟨O6,G6⟩:=O4.call (.call0 hx6);have G36:=G4.trans G6;obtain⟨O7,Ipush⟩:=Its.push (Y:=(b5,Bl 185 x.enc)::(b3,Bl 183 [.bool inner,.slice pa pm.length pc])::(b1,Bl 183 [.bool inner,.slice a n c])::ent la 183 lf) O6 V.OP fun m hm=>(V.pm m hm).1.turn G36;have hsub:∀x,MY M ((b5,Bl 185 _)::(b3,Bl 183 [.bool inner,.slice pa pm.length pc])::(b1,Bl 183 [.bool inner,.slice a n c])::ent la 183 lf) x->_:=MY.sub (Y:=((b5,Bl 185 x.enc)::(b3,Bl 183 [.bool inner,.slice pa pm.length pc])::(b1,Bl 183 [.bool inner,.slice a n c])::ent la 183 lf)++ent pa 185 pf) fun y hy=>qa4 _ hy
    have hyo7:∀y∈((b5,Bl 185 x.enc)::(b3,Bl 183 [.bool inner,.slice pa pm.length pc])::(b1,Bl 183 [.bool inner,.slice a n c])::ent la 183 lf).map (·.1),w0.heap.size<=y:=fun y hy=>by
     obtain⟨z,hz,rfl⟩:=qah.1 hy;exact hyo4 _ (qah.2 ⟨z,qa4 (bs:=ent pa 185 pf) hz,rfl⟩)
    have hx06:=hx04.trans hx6;have hlt6:=hlt0 hx06;have H:=O7.ctx;have hb1':=H.get at2;have hb3':=H.get at1;refine Ke [([0,1,4,5,6],2),([],3),([7],8)] (fun z=>z.heap[b1]?=some (Bl 183 [.bool inner,.slice a n c])/\z.heap[b3]?=some (Bl 183 [.bool inner,.slice pa pm.length pc])) [8] mixed (⟨hb1',hb3'⟩) ?_;refine AB U U (Cg U (ON _ BH Ba U U (fun _ hx=>(fun j v hv=>by rw[Ap hx.2,qa3];exact hv)) ?_));refine AE Dl U (BJ Gx U (fun _ hx=>Ap hx.1 (0+0)) ?_);refine HS [.bool inner,.slice none 0 0] Gp Cb (Bm ?_);replace H:=H.drew;refine BP _ (.agg _) Er Ba Cb U U U U H ?_;rintro b27 w - H;refine Ab (Bb (⟨H.get at3,H.get at2⟩) (AB U U ?_));refine Bm (Cf (L:=[_,_,_]) Er Er Ba XP Cb U U U H VOL U (Fu _ _ _ _) ?_);rintro a28 c28 f28 w H O28
    refine Ab (Bb (⟨H.get at2,H.get at1⟩) (AB U U ?_));refine HF U U (Bm (Bi Ba U U U (by exact Fu _ _ _ _) H at1 U ?_));rintro w H;refine Ab (CR U (B3 (Aa (Av (Af Bq U (AG BK U H at1 U (BG Dd Bh U H at0 U (BP _ (.agg _) Br Bh Cr U U U U H ?_))))))));rintro b35 w - H;refine Cf (L:=_::_::_::ent a28 183 f28) (a:=none) (full:=[]) (l:=[]) Br Br Bh J8 Cr U U U (Ctx.nilE _ H) OS.nil U (Im.oneE x) ?_;rintro a36 c36 f36 w H O36;refine Af Bq U (Bc (.slice _ _ _) C4 U U U H at1 (by(simp;done)) ?_);rintro w H;refine Ab (AF (Aa (Av (AA U U ?_))));refine Ae U (qA ?_);have H8:=H.tail;obtain⟨O8,G8⟩:=O7.own hlt6 H8;have hpl:(ps++[((pa,pm.map (·.it),pc):SN)]).length=ps.length+1:=by simp
    refine⟨⟨i+1,a28,c28,f28,ps++[(pa,pm.map (·.it),pc)],a36,c36,f36,[x]⟩,rfl,⟨rfl,by rw[hpl];rfl,trivial⟩,⟨by dsimp only;omega,?_⟩,by dsimp only;omega⟩;refine⟨O8,((V.I.turn G36).weak hsub).turn G8,?_,O36,fun m hm=>?_,fun p hp=>?_,?_,hx06.then H8.ext fun x hx => .inr (hyo7 x hx),Ny hyo7 hx06.size H8,?_⟩
    .dsimp only;rw[hpl,qbp]
     simpa[K2]using O28
    .dsimp only at hm |-;rw[qaa.1 hm];exact⟨((hxo.turn G36).weak hsub).turn G8,hxm⟩
    .dsimp only at hp |-
     rcases qau.1 hp with hp|hp
     .exact⟨(((V.ps p hp).1.turn G36).weak hsub).turn G8,(V.ps p hp).2⟩
     .rw[qaa.1 hp];refine⟨?_,hpm0⟩;have:=Ipush.turn G8;dsimp only;rw[qal];exact this
    .dsimp only;rw[<-heq];simp
    .dsimp only;rw[hpl];simp;omega
   .intro h2;replace h2:=AV h2;rw[if_neg (by omega)]at heq;obtain⟨w6,rfl⟩:=qD w;obtain⟨O6,G6⟩:=O4.call (.call0 hx6);have G36:=G4.trans G6;have hx06:=hx04.trans hx6;have hlt6:=hlt0 hx06;have H:=O6.ctx;refine Aq (Aa (Av (Af Bq U (AG BK U H at1 U (BG Dd Bh U H at0 U (BP _ (.agg _) Br Bh Cr U U U U H ?_))))));rintro b35 w - H;refine Cf (n:=pm.length) (L:=_::_::_::ent la 183 lf) Br Br Bh J8 Cr U U U H VOP U (Im.oneE x) ?_;rintro a36 c36 f36 w H O36;refine Af Bq U (Bc (.slice _ _ _) C4 U U U H at1 (by(simp;done)) ?_);rintro w H;refine Ab (AF (Aa (Av (AA U U ?_))));refine Ae U (qA ?_);have H8:=H.tail;obtain⟨O8,G8⟩:=O6.own hlt6 H8;have hql:(pm++[x]).length=pm.length+1:=by simp
    refine⟨⟨i+1,la,lc,lf,ps,a36,c36,f36,pm++[x]⟩,rfl,⟨rfl,rfl,trivial⟩,⟨by dsimp only;omega,?_⟩,by dsimp only;omega⟩
    have hFY:FY b1 b3 inner a n c ⟨i+1,la,lc,lf,ps,a36,c36,f36,pm++[x]⟩=(b3,Bl 183 [.bool inner,.slice a36 (pm.length+1) c36])::(b1,Bl 183 [.bool inner,.slice a n c])::(ent la 183 lf++ent a36 185 f36):=by
     unfold FY;dsimp only;rw[hql]
    have hV:∀Y,Y=FY b1 b3 inner a n c ⟨i+1,la,lc,lf,ps,a36,c36,f36,pm++[x]⟩->Fo w M Y->Its w (MY M Y) a n c L->(∀m∈pm++[x],m.Ok w (MY M Y)/\m.it∈L)->(∀p∈ps,Its w (MY M Y) p.1 p.2.1.length p.2.2 p.2.1/\p.2.1≠[])->(∀y∈Y.map (·.1),w0.heap.size<=y)->FInv w0 w M b1 b3 inner a n c L ⟨i+1,la,lc,lf,ps,a36,c36,f36,pm++[x]⟩:=by
     rintro Y rfl v1 v2 v3 v4 v5;refine⟨v1,v2,V.OL,?_,v3,v4,?_,hx06.then H8.ext fun x hx => .inr (hyo4 x hx),v5,?_⟩
     .dsimp only;rw[hql,qbp]
      simpa using O36
     .dsimp only;rw[<-heq];simp
     .dsimp only;rw[hql];omega
    refine hV _ hFY.symm O8 ((V.I.turn G36).turn G8) (fun m hm=>?_) (fun p hp=>⟨((V.ps p hp).1.turn G36).turn G8,(V.ps p hp).2⟩) (Ny hyo4 hx06.size H8)
    rcases qau.1 hm with hm|hm
    .exact⟨((V.pm m hm).1.turn G36).turn G8,(V.pm m hm).2⟩
    .rw[qaa.1 hm];exact⟨(hxo.turn G36).turn G8,hxm⟩
  .intro h1;replace h1:=AV h1;have heq:=V.eq;dsimp only at heq;rw[qbx (by omega),ED]at heq;have hflat:=JM inner L [] [];rw[<-heq]at hflat;have hfull:CW inner L=Y4 inner (ps.map fun p=>p.2.1) (pm.map (·.it)):=by unfold CW;rw[<-heq]
   obtain⟨w9,rfl⟩:=qD w;have H:=V.O.ctx;have hlt9:=hlt0 V.hx;have hyo9:=V.yo;refine B9 (A8 (A8 (Bd (Aa (Ar (Ad (Ai U (AO Er U (B4 U U ?_)))))))));refine Ac U (qA (Ad (BB (α:=Unit) 18010000462970880 (fun _=>[(53,.bool ((inner && decide (pm.length=1)) && decide (0<ps.length)))]) (fun _ w'=>w9=w') U ?_ ?_)))
   .refine Af Dl U (AG Gx U H at1 U (AC U (AX 44 U ?_ ?_)))
    .intro h1;refine Af Bq U (AG BK U H at0 U (AO Br U (B1 U U (AQ U (.bool _) U (AC U (AX 50 U ?_ ?_))))))
     .intro h2;replace h2:=AU h2;refine Ae U (HN U U (AQ U (.bool _) U (Ab ?_)));exact⟨rfl,(),rfl,⟨qac Value.bool (by rw[qar];simp_all;try omega),trivial⟩,rfl⟩
     .intro h3;replace h3:=AV h3;refine Ak U (Ak U (AN U (.bool _) U (Ab ?_)));exact⟨rfl,(),rfl,⟨qac Value.bool (by rw[qar];simp_all;try omega),trivial⟩,rfl⟩
    .intro h4;refine Ak U (Ak U (Ak U (Ak U (AN U (.bool _) U (AC U (Ak U (Ak U (AN U (.bool _) U (Ab ?_)))))))));exact⟨rfl,(),rfl,⟨qac Value.bool (by rw[qar];simp_all;try omega),trivial⟩,rfl⟩
   rintro - j53 w rfl;refine Au _ U ?_ ?_
   .intro h5;simp only[qao,qap]at h5;obtain⟨⟨hin,hp1⟩,hps⟩:=h5;obtain⟨qs,q,rfl⟩:=Ajm (l:=ps) (fun h=>by rw[h]at hps;exact absurd hps (by simp));have hql:(qs++[q]).length=qs.length+1:=by simp
    rw[show(((qs++[q]).length:Nat):Int) - 1=((qs.length:Nat):Int)by omega];have hq1:(qs++[q])[qs.length]?=some q:=by simp
    obtain⟨Iq,hqne⟩:=V.ps q (qax _ (qaa.2 rfl));obtain⟨r,hr⟩:∃r,q.2.1.length=r+1:=⟨q.2.1.length - 1,by have:=qbv.2 hqne;omega⟩
    have hq5:q.2.1.length<=n:=by
     have h:=qac List.length hflat;simp at h;omega
    obtain⟨bl,hbl⟩:=V.OL.form (by dsimp only;omega);dsimp only at hbl;subst hbl;have hcap:=V.OL.le;have hlfl:=V.OL.len;dsimp only at hcap hlfl;have hqcap:=Iq.le;have hRL:∀{z:World} {S:List Nat} {A B:List (Nat × Obj)} {z0:World},Ctx z0 S z (A++((bl,Bl 183 lf)::B))->Rd z (some ⟨bl,0,none⟩) 2 (K2 inner) (qs++[q]):=fun{z S A B z0} H=>OS.rd V.OL (fun y hy=>H.blk y (qax _ (qab.2 (.inl (qaa.1 hy))))) (fun _ _=>rfl) (by decide);have RL:=hRL (A:=[_,_]) H;refine Ad (Ai U (Ae U (Bj RL Er Ba U U (hn:=by rfl) ?_)));refine Af Bq U (Bf BK U (RL.fld hq1 U (j:=1) U) ?_);refine AO Br U (B4 U U ?_);rw[show((q.2.1.length:Nat):Int) - 1=(r:Int)by omega];refine Ac U (qA ?_)
    obtain⟨O2,Ip⟩:=Its.push (Y:=(b3,Bl 183 [.bool inner,.slice pa pm.length pc])::(b1,Bl 183 [.bool inner,.slice a n c])::[(bl,Bl 183 lf)]) V.O V.OP fun m hm=>(V.pm m hm).1;have hsub:∀x,MY M ((b3,Bl 183 [.bool inner,.slice pa pm.length pc])::(b1,Bl 183 [.bool inner,.slice a n c])::[(bl,Bl 183 lf)]) x->_:=MY.sub (Y:=((b3,Bl 183 [.bool inner,.slice pa pm.length pc])::(b1,Bl 183 [.bool inner,.slice a n c])::[(bl,Bl 183 lf)])++ent pa 185 pf) fun y hy=>qa4 _ hy
    have hyo2:∀y∈((b3,Bl 183 [.bool inner,.slice pa pm.length pc])::(b1,Bl 183 [.bool inner,.slice a n c])::[(bl,Bl 183 lf)]).map (·.1),w0.heap.size<=y:=fun y hy=>by
     obtain⟨z,hz,rfl⟩:=qah.1 hy;exact hyo9 _ (qah.2 ⟨z,qa4 (bs:=ent pa 185 pf) hz,rfl⟩)
    have Iq2:=(Iq.weak hsub).drop (k:=r) (by omega);have Iq3:=(Iq.weak hsub).take (k:=r) (by omega);have hdl:(q.2.1.drop r).length=q.2.1.length - r:=qbe;have htl:(q.2.1.take r).length=r:=by rw[qa1];omega
    have hpml:(pm.map (·.it)).length=pm.length:=qal ..;have H:=O2.ctx;have hb3:=H.get at0;have RL2:=hRL (A:=[_,_]) (B:=[]) H;refine BR [([0,1,2,3,4,5,6,7,8],9),([],10),([11],12)] (fun z=>z.heap[b3]?=some (Bl 183 [.bool inner,.slice pa pm.length pc])/\Rd z (some ⟨bl,0,none⟩) 2 (K2 inner) (qs++[q])) [12] mixed (⟨hb3,RL2.ext0 (Ext.drew [] w9)⟩) ?_;refine AB U U (Cg U (BM U (DS RL Er Ba U U (hn:=by rfl) ?_)));refine AE Bq U (BJ BK U (fun _ hx=>hx.2.fld hq1 rfl (j:=1) rfl) ?_);refine BM U (FG Br Bh U U ?_);refine AE Bq U (BJ BK U (fun _ hx=>Ap hx.1 (0+1)) ?_);refine Bm ?_;replace H:=H.drew;refine BQ [.slice (Em q.1 q.2.2 r 3) (q.2.1.length - r) (q.2.2 - r),.slice pa pm.length pc] HV C4 Mf H ?_;rintro b70 w10 - H
    refine Ab (Bb (⟨H.get at1,hRL (A:=[_,_,_]) (B:=[]) H⟩) ?_);refine AB U U (Bm ?_);obtain⟨O10,G10⟩:=O2.own hlt9 H;have hx10:Ext [] w0 w10:=V.hx.then H.ext (fun x hx => .inr (hyo2 x hx));have hyo10:=Ny hyo2 V.hx.size H;refine Ah qB (FK (O10.lt (hlt0 hx10)) [(Em q.1 q.2.2 r 3,q.2.1.drop r,q.2.2 - r),(pa,pm.map (·.it),pc)] (Rd.of_bl (r:=[]) (H.get at0) (by simp[Nu]) (fun _ _=>rfl)) (fun x hx=>(qab.1 hx).elim (fun e=>by subst e;dsimp only;rw[hdl];exact Iq2.turn G10) fun hx=>by rw[qaa.1 hx];dsimp only;rw[hpml];exact Ip.turn G10) U (hm:=by show 2<=1000000;omega) (by simp;omega)) U ?_;rintro v w11 ⟨a71,c71,rfl,I71,hx71⟩;obtain⟨O11,G11⟩:=O10.call (.call0 hx71);have hx11:=hx10.trans hx71;replace H:=O11.ctx;refine Ab (Bb (⟨H.get at1,hRL (A:=[_,_,_]) (B:=[]) H⟩) ?_);refine AB U U ?_
    refine AE Bq U (Bm (Bc (.slice _ _ _) C4 U U U H at1 (by(simp;done)) ?_));rintro w H;refine Ab (CR U (B3 ?_));have RL3:=hRL (A:=[_,_,_]) (B:=[]) H;refine Av (Ai U (Ae U (Ai U (Ae U (Bj RL3 Er Ba U U (hn:=by rfl) ?_)))));refine Af Bq U (Bf BK U (RL3.fld hq1 U (j:=1) U) ?_);refine Ae U (Ee Br Bh U U ?_);refine Bj RL3 Er Ba U U (hn:=by rfl) (Af Bq U (Bc (.slice _ _ _) C4 U U U H at3 (by show 0+qs.length*2+1<_;omega) ?_));rintro w H;refine qA ?_;have O13:OS (some ⟨bl,0,none⟩) (qs++[q]).length lc 2 (lf.set (0+qs.length*2+1) (.slice q.1 r q.2.2)) (((qs++[q]).flatMap (K2 inner)).set (qs.length*2+1) (.slice q.1 r q.2.2)):=by rw[qa3];exact OS.setN V.OL _ _
    rw[Acu inner qs q _ (q.1,q.2.1.take r,q.2.2) (by rw[htl])]at O13;refine Ad (Ai U (BG BH Ba U H at1 U (BP _ (.agg _) Er Ba Cb U U U U H ?_)));rintro b86 w - H;refine Cf (L:=[_,_,_]) Er Er Ba XP Cb U U U H O13 U (Fu _ _ _ _) ?_;rintro a87 c87 f87 w H O87;refine Aj U (qA (Ax (AH (v:=(.slice _ _ _)) U U U ?_)));obtain⟨O14,G14⟩:=O11.own (hlt0 hx11) H;have GT:=(G10.trans G11).trans G14;have I71':=I71.turn G14;have hfm:([(Em q.1 q.2.2 r 3,q.2.1.drop r,q.2.2 - r),(pa,pm.map (·.it),pc)]:List SI).flatMap (fun x=>x.2.1)=q.2.1.drop r++pm.map (·.it):=by simp
    rw[hfm]at I71' O87
    have heqF:((qs++[((q.1,q.2.1.take r,q.2.2):SN)])++[((a71,q.2.1.drop r++pm.map (·.it),c71):SN)]).map (fun x=>x.2.1)=CW inner L:=by
     rw[hfull,show(qs++[q]).map (fun p=>p.2.1)=qs.map (fun p=>p.2.1)++[q.2.1]by simp,Acv,if_pos ⟨hin,by rw[hpml];exact hp1⟩,show q.2.1.length - 1=r by omega];simp
    have O88:OS a87 ((qs++[q]).length+1) c87 2 f87 (((qs++[((q.1,q.2.1.take r,q.2.2):SN)])++[((a71,q.2.1.drop r++pm.map (·.it),c71):SN)]).flatMap (K2 inner)):=by
     rw[qbp,qc7];exact O87
    refine⟨a87,(qs++[q]).length+1,c87,rfl,⟨⟨_,OS.rd O88 (fun y hy=>O14.blk y (qax _ hy)) (fun _ _=>rfl) (by decide),?_,heqF,fun m hm=>?_⟩,by rw[<-heqF];simp⟩,hx11.then H.ext fun x hx => .inr (hyo10 x hx)⟩
    .obtain⟨b,rfl⟩:=O88.form (by omega);exact .inr fun h=>O14.off (b,_) (qax _ (qaa.2 rfl)) h
    .rcases qau.1 hm with hm|hm
     .rcases qau.1 hm with hm|hm
      .exact(((V.ps m (qa4 _ hm)).1.weak hsub).turn GT).weak MY.le
      .rw[qaa.1 hm];have:=(Iq3.turn GT).weak MY.le;dsimp only;rw[htl];exact this
     .rw[qaa.1 hm];exact I71'.weak MY.le
   .intro h5;refine Aq (Aa ?_);have H:=V.O.ctx;refine Ad (Ai U (BG BH Ba U H at0 U (BP _ (.agg _) Er Ba Cb U U U U H ?_)));rintro b86 w - H;refine Cf (L:=_::_::ent pa 185 pf) Er Er Ba XP Cb U U U (H.perm (List.Perm.cons _ (List.Perm.cons _ (List.Perm.cons _ qcj)))) VOL U (Fu _ _ _ _) ?_;rintro a87 c87 f87 w H O87;refine Aj U (qA (Ax (AH (v:=(.slice _ _ _)) U U U ?_)));obtain⟨O14,G14⟩:=V.O.own hlt9 H;have hpml:(pm.map (·.it)).length=pm.length:=qal ..
    have heqF:(ps++[((pa,pm.map (·.it),pc):SN)]).map (fun x=>x.2.1)=CW inner L:=by
     rw[hfull];unfold Y4
     have hn:¬(inner=true/\(pm.map (·.it)).length=1/\(ps.map fun p=>p.2.1)≠[]):=fun⟨h1,h2,h3⟩=>by
      have e:((inner && decide (pm.length=1)) && decide (0<ps.length))=true:=by
       rw[h1,qam (show pm.length=1 by rw[<-hpml];exact h2),qam (show 0<ps.length from qbv.2 fun e=>h3 (by rw[e];rfl))];rfl
      exact absurd (e.symm.trans h5) (by decide)
     rw[if_neg hn,qaz];rfl
    have O88:OS a87 (ps.length+1) c87 2 f87 ((ps++[((pa,pm.map (·.it),pc):SN)]).flatMap (K2 inner)):=by
     rw[qbp,qc7];show OS _ _ _ _ _ (_++[.bool inner,.slice pa (pm.map (·.it)).length pc]);rw[hpml];exact O87
    refine⟨a87,ps.length+1,c87,rfl,⟨⟨_,OS.rd O88 (fun y hy=>O14.blk y (qax _ hy)) (fun _ _=>rfl) (by decide),?_,heqF,fun m hm=>?_⟩,by rw[<-heqF];simp⟩,V.hx.then H.ext fun x hx => .inr (hyo9 x hx)⟩
    .obtain⟨b,rfl⟩:=O88.form (by omega);exact .inr fun h=>O14.off (b,_) (qax _ (qaa.2 rfl)) h
    .rcases qau.1 hm with hm|hm
     .exact((V.ps m hm).1.turn G14).weak MY.le
     .rw[qaa.1 hm];have:=Its.mine O14 V.OP (fun y hy=>qa4 _ (qag _ (qag _ hy))) fun m hm=>((V.pm m hm).1.turn G14).weak MY.le;dsimp only;rw[hpml];exact this
theorem Vj{P:Program}{fn:Func}{R:Value->World->Prop}{e:Env}{w:World}(hd:e.ds=[])(hK:∀tmps:Array Value,(∀i,tmps.getD i undef=e.g i)->∃v,(results fn tmps).run P w=.ok v w/\R v w):Adv P fn R .ret e w:=by
 show Defs P e.ds w _;rw[hd];exact hK
theorem Uo{w:World}{bt bd bp ba fr bc:Nat}{c:Ch}{F:Mut}{L:List (Nat × Obj)}(X:Cx w bt bd bp ba fr bc c F L){b10 b9 t1 t2:Nat}{e:Int}{l1 l2:List Value}(h10:w.heap[b10]?=some (Bl t1 (ptr bc::l1)))(h9:w.heap[b9]?=some (Bl t2 (.int .i64 e::l2)))(hgn:c.gn.length<=1000000)(htk:c.tk.length<=1000000:=by omega):
  Adu prog 128 #[ptr b10,ptr b9] w fun w'=>Cx w' bt bd bp ba fr bc (Dq c e) F L/\Grown (TM F ba bt bp L) (TM F ba bt bp L) w w':=by
 obtain⟨w0,rfl,H⟩:=qE w;refine SW (fn:=f128) func128 U [.pointer (some ⟨b10,0,none⟩),.pointer (some ⟨b9,0,none⟩)] U ?_;refine Av (Bf Qr U ((by rw[Ap h10];rfl)) ?_);refine Bf Ev U ((by rw[Ap h9];rfl)) ?_;refine Ah qB (We X e htk hgn) U ?_;rintro v w2 ⟨rfl,X2,g2⟩;refine Ab (Hw U U ?_);exact⟨X2,g2⟩
theorem Fr.sub{w0 w:World}{Z M0:Mut}{bt bd bp ba fr bc:Nat}{c:Ch}{F:Mut}{L Y Y2:List (Nat × Obj)}(E:Fr w0 Z M0 w bt bd bp ba fr bc c F L Y)(h:∀y∈Y2,y∈Y)(nd:Y2.Pairwise fun x y=>x.1≠y.1):Fr w0 Z M0 w bt bd bp ba fr bc c F L Y2 :=
 ⟨E.X,E.O.sub h nd,E.GT,E.GA.weak (MY.sub h),fun y hy=>by
  obtain⟨z,hz,rfl⟩:=qah.1 hy
  exact E.yo _ (qah.2 ⟨z,h z hz,rfl⟩),E.sz,E.hZ⟩
theorem Acw{fr:Nat}{c:Ch}{inner:Bool}{M:List It}{m:Nat}(h:Few c.A (m+c.tk.length)):Few (wrC fr c inner M).2.A (m+(wrC fr c inner M).2.tk.length):=by
 unfold wrC
 split
 .exact h
 .split
  .rw[qan];exact h.mono (by rw[qbu];omega)
  .rw[qan];exact GI h _ _
theorem Amo{c:Ch}{i:Bool}{M:List It}(h:okF c i M=true):M.length<=100000/\c.tk.length+(CW i M).length<=50000/\(∀x∈M,x.key.length<=65535/\x.val.length<=65535)/\(∀x∈M,x.page<9223372036854775808)/\(∀x∈M,C1 i x<=503)/\∀a∈CW i M,a≠[]/\a.length<=1000/\∀x∈a,x∈M:=by
 unfold okF at h;simp only[qao,qap,qbz]at h;obtain⟨h1,h2,h3,h4⟩:=h;refine⟨h1,h2,fun x hx=>⟨(h3 x hx).1,(h3 x hx).2.1⟩,fun x hx=>(h3 x hx).2.2.1,fun x hx=>(h3 x hx).2.2.2,fun a ha=>⟨(h4 a ha).1,(h4 a ha).2,fun x hx=>?_⟩⟩
 have hf:(CW i M).flatten=M:=by
  have hfl:=JM i M [] [];simp only[List.flatten_nil,qba]at hfl;unfold CW;obtain⟨l,hl⟩:=qD ((ED i M [] []).1);obtain⟨pt,hpt⟩:=qD ((ED i M [] []).2);rw[<-hl,<-hpt]at hfl |-;unfold Y4
  split
  .rename_i hc
   have hs:=LW hc.2.2;rw[<-hfl]
   conv=>rhs;rw[hs]
   simp only[qcq,qcr,qa0]
   congr 1
   rw[<-qa0,KH]
  .rw[qcq,qcr];exact hfl
 rw[<-hf];exact qe0.2 ⟨a,ha,hx⟩
def zI(m:Im):Im:=⟨m.ka,m.kc,m.va,m.vc,BC (prI m.it)⟩
structure BS where
 n:Nat
 i:Bool
 a:Option Addr
 k:Nat
 c:Nat
 M:List It
 ch:Ch
 F:Mut
 L:List (Nat × Obj)
abbrev Y0(b5 b6 b9 bc:Nat)(i:Bool)(a:Option Addr)(k c:Nat):List (Nat × Obj) :=
 [(b9,Bl 186 [ptr bc]),(b6,Bl 183 [.bool i,.slice a k c]),(b5,Bl 28 [.int .i64 0])]
structure BInv(w0 w:World)(Z M0:Mut)(bt bd bp ba fr bc b5 b6 b9 mx:Nat)(R:Int × Ch × Int)(s:BS):Prop where
 E:Fr w0 Z M0 w bt bd bp ba fr bc s.ch s.F s.L (Y0 b5 b6 b9 bc s.i s.a s.k s.c)
 I:Its w (MY (MZ (TM s.F ba bt bp s.L) Z) (Y0 b5 b6 b9 bc s.i s.a s.k s.c)) s.a s.k s.c s.M
 eq:R=BZ fr s.n s.ch s.i s.M
 few:Few s.ch.A (mx+s.ch.tk.length)
 gn:s.ch.gn=[]
 tk:s.ch.tk.length<=50000
structure LS where
 j:Nat
 a:Option Addr
 c:Nat
 full:List Value
 ms:List Im
 ch:Ch
 F:Mut
 L:List (Nat × Obj)
abbrev Y1(b5 b6 b9 b10 bc:Nat)(i:Bool)(a:Option Addr)(k c:Nat)(s:LS):List (Nat × Obj) :=
 (b10,Bl 183 [.bool true,.slice s.a s.ms.length s.c])::(Y0 b5 b6 b9 bc i a k c++ent s.a 185 s.full)
structure LInv(w0 w:World)(Z M0:Mut)(bt bd bp ba fr bc b5 b6 b9 b10 mx:Nat)(i:Bool)(a:Option Addr)(k c:Nat)(an:Option Addr)(nn cn:Nat)(Ps:List (List It))(T:Int × Ch × List It)(c0:Ch)(s:LS):Prop where
 E:Fr w0 Z M0 w bt bd bp ba fr bc s.ch s.F s.L (Y1 b5 b6 b9 b10 bc i a k c s)
 N:Nds w (MY (MZ (TM s.F ba bt bp s.L) Z) (Y1 b5 b6 b9 b10 bc i a k c s)) i an nn cn Ps
 O:OS s.a s.ms.length s.c 3 s.full (s.ms.flatMap Im.enc)
 ms:∀m∈s.ms,m.Ok w (MY (MZ (TM s.F ba bt bp s.L) Z) (Y1 b5 b6 b9 b10 bc i a k c s))
 eq:T=Cs fr i (Ps.drop s.j) s.ch (s.ms.map (·.it))
 few:Few s.ch.A (mx+s.ch.tk.length)
 gn:s.ch.gn=[]
 tk:s.ch.tk.length<=c0.tk.length+s.j
 num:s.ms.length=s.j
def Xg(fr:Nat)(A:Dev)(P:List Nat)(L:List Pr):Int × Ch × Int:=BZ fr 1500 ⟨A,P,[],[]⟩ false (L.map BC)
theorem Acx{fr:Nat}{w:World}{bt bd bp ba:Nat}{A:Dev}{P:List Nat}{F:Mut}(T:Tx w bt bd bp ba fr A P F []){a:Option Addr}{n c:Nat}{L:List Pr}(PL:Prs w (TM F ba bt bp []) a n c L)(hn:n<=100000){mx:Nat}(hfew:Few A mx)(hmx:mx<=800000000)(hok:(∀i,i<L.length->Rr L i)->L≠[]->(Xg fr A P L).1≠99)(hfr:fr<=5000:=by decide):
  Ret prog 93 #[ptr bt,.slice a n c] w fun v w' =>
   ((∃i,i<L.length/\¬Rr L i)/\v=.tuple #[.int .i64 (-1),.int .i64 1]/\Ext [] w w') \/
   ((∀i,i<L.length->Rr L i)/\L=[]/\v=.tuple #[.int .i64 (-1),.int .i64 0]/\Ext [] w w') \/
   ((∀i,i<L.length->Rr L i)/\L≠[]/\∃F',v=.tuple #[.int .i64 (Xg fr A P L).2.2,.int .i64 (Xg fr A P L).1]/\Tx w' bt bd bp ba fr (Xg fr A P L).2.1.A (Dq (Xg fr A P L).2.1 (Xg fr A P L).1).P F' []/\Grown (TM F ba bt bp []) (TM F' ba bt bp []) w w'):=by
 obtain⟨w0,rfl⟩:=qD w;have hnL:=PL.num;obtain⟨ps,Rp,hps,hl,hp⟩:=PL.ex;have hpn:ps.length=n:=by rw[hnL,<-hl,qal]
 have hmlt:=T.mlt;have H:=Ctx.start w0 [];refine SX (fn:=f93) func93 U [.pointer (some ⟨bt,0,none⟩),.slice a n c] U ?_;refine Ad (Ac U (Be VJ H ?_));rintro b5 w - H;refine qA (Ar (Ad (An U (BN Akn U ?_))));refine qA (Bw U (Aq (Aa (Ad (B0 [.bool false,.slice none 0 0] Gp Cb ?_)))));refine Be Cb H ?_;rintro b6 w - H;refine Bi Ba U U U (by exact Fu _ _ _ _) H at0 U ?_;rintro w H;refine qA (Ar (Ad (Ai U (AO EU U (Ae U (qA (AD (BF 72057594036879760 (α:=Nat × Option Addr × Nat × List Value) (fun s=>[(20,.int .i64 (s.1:Int))]) (fun s w'=>s.1<=n/\(∀i,i<s.1->Rr L i)/\Ctx w0 [] w' ([(b6,Bl 183 [.bool false,.slice s.2.1 s.1 s.2.2.1]),(b5,Bl 28 [.int .i64 0])]++ent s.2.1 185 s.2.2.2)/\OS s.2.1 s.1 s.2.2.1 3 s.2.2.2 (((ps.take s.1).map zI).flatMap Im.enc)) (fun s=>n - s.1) (0,none,0,[]) U ?_ ?_ ?_))))))))
 .exact⟨rfl,trivial⟩
 .exact⟨qak _,(fun i h=>absurd h (qcp _)),H,OS.nil⟩
 .rintro⟨i,ia,ic,fi⟩ j w ⟨hi,hg,H,O⟩;dsimp only at hi hg H O;dsimp only;refine Ad (Bt U U (qA (Ar (Au _ U ?_ ?_))))
  .intro h1;replace h1:=AU h1;obtain⟨x,hx1⟩:=AR (l:=ps) (i:=i);have hxo:=hp x (qad hx1);have hxL:L[i]?=some (prI x.it):=by rw[<-hl,qav,hx1];rfl
   have hts:((ps.take (i+1)).map zI).flatMap Im.enc=((ps.take i).map zI).flatMap Im.enc++(zI x).enc:=by rw[Bx hx1,qaz,qbp];simp
   refine Aq (Aa (Ar (AD (Ad (Ae U (Bj Rp EU FV U U ?_))))));refine EL _ Ady FV U U ((Rp.ext0 H.ext).row hx1 U) (Be Ku H ?_);rintro b8 w - H;refine Ac U (Bi FV U U U (by exact KF _) H at0 U ?_);rintro w H;refine qA (Ar (Ad (Af H3 U (AG BL U H at0 U (Af Lf U (AG BL U H at0 U (Ah qB (Oj x.ka x.va _ _ x.kc x.vc _) U ?_)))))));rintro v w9 ⟨rfl,rfl⟩;refine Cl U (qA (Au _ U ?_ ?_))
   .intro h2;replace h2:=CJ h2;refine Ad (Ac U (Bc (.int _ _) Fw U U U H at2 (by decide) ?_));rintro w H;refine qA (Ax (Ao (AL (Ao (Ao (AL (Ao ?_)))))));refine Vj U fun tmps ht=>⟨_,OR rfl ht rfl rfl Ev (H.get at2),.inl ⟨⟨i,by omega,fun⟨p,q1,q2,_⟩=>?_⟩,rfl,H.ext⟩⟩;rw[hxL]at q1;cases q1;have q3:CU x.it.key.length x.it.val.length=true:=q2;rw[h2]at q3;cases q3
   .intro h2;replace h2:=CK h2;obtain⟨w8,rfl⟩:=qD w;have hb8:=H.get at0;have hx08:=H.ext;have hk8:∀{z:World},Ext [] w8 z->z.heap[b8]?=some (Bl 68 (LD x)):=fun{z} h=>by rw[h.block b8 (Al hb8) (by simp)];exact hb8
    have hD:=Ext.drew [] w8;refine Aq (Aa (Ar (BR [([0,1,2,3,4,5,6,7,8,9,10],11),([12],13)] (fun z=>Ext [] w8 z) [] mixed (hD) ?_)));refine AB U U (BM U (Ajw U U U (U5 U U (Qg 33 U ?_ ?_))))
    .intro h3;replace h3:=AU h3;refine Cg U (BM U ?_);obtain⟨y,hy⟩:=AR (l:=ps) (i:=i - 1);have hyo:=hp y (qad hy);refine HD U U U ?_;rw[show(i:Int) - 1=((i - 1:Nat):Int)by omega];refine DS Rp EU FV U U ?_;refine AE H3 U (BJ BL U (fun _ hx=>(((Rp.ext0 hx08).ext0 hx).fld hy rfl (j:=0) rfl)) ?_);refine AE H3 U (BJ BL U (fun _ hx=>(by rw[Ap (hk8 hx)];rfl)) ?_);refine Bm ?_;replace H:=H.drew;refine Ah qB (Ib y.ka x.ka y.kc x.kc _ _ y.it.key x.it.key (hyo.k.1.ext0 (hx08.trans hD)) (hxo.k.1.ext0 (hx08.trans hD)) U U) U ?_;rintro v w9 ⟨rfl,rfl⟩;refine Ab (Bb (hD) (AB U U ?_));refine t_geq U U U (Bm (AQ U (.bool _) U (Ab (Bb (hD) (B3 (Au _ U ?_ ?_))))))
     .intro h4;replace h4:=AU h4;refine Ad (Ac U (Bc (.int _ _) Fw U U U H at2 (by decide) ?_));rintro w H;refine qA (Ax (Ao (AL (Ao (Ao (AL (Ao ?_)))))));refine Vj U fun tmps ht=>⟨_,OR rfl ht rfl rfl Ev (H.get at2),.inl ⟨⟨i,by omega,fun⟨p,q1,_,q3⟩=>?_⟩,rfl,H.ext⟩⟩;rw[hxL]at q1;cases q1;have hyL:L[i - 1]?=some (prI y.it):=by rw[<-hl,qav,hy];rfl
      have q4:DE y.it.key x.it.key<0:=JF.2 (q3 _ (by omega) hyL);omega
     .intro h4;replace h4:=AV h4;refine Aq (Aa (Av (Af Bq U (AG BK U H at1 U (Af H3 U (AG BL U H at0 U (Af Lf U (AG BL U H at0 U (B0 (zI x).enc Me Cr ?_)))))))));refine BP _ (.agg _) Br Bh Cr U U U U H ?_;rintro b52 w - H;refine Cf (L:=[_,_,_]) Br Br Bh J8 Cr U U U H O U (Im.oneE (zI x)) ?_;rintro a53 c53 f53 w H O53;refine Af Bq U (Bc (.slice _ _ _) C4 U U U H at1 (by(simp;done)) ?_);rintro w H;refine Ab (AF (Aa (Av (AA U U ?_))));refine Ae U (qA ?_);refine⟨(i+1,a53,c53,f53),rfl,⟨rfl,trivial⟩,⟨by dsimp only;omega,fun k hk=>?_,H.tail,by dsimp only;rw[hts];exact O53⟩,by dsimp only;omega⟩;dsimp only at hk
      rcases qbk k i with h7|h7
      .exact hg k h7
      .obtain rfl:k=i:=by omega
       exact⟨_,hxL,h2,fun q h0 hq=>by
        have hyL:L[k - 1]?=some (prI y.it):=by rw[<-hl,qav,hy];rfl
        rw[hyL]at hq;cases hq
        exact JF.1 (show DE y.it.key x.it.key<0 by omega)⟩
    .intro h3;replace h3:=AV h3;refine DJ U (DJ U (DJ U (DJ U (DJ U (DJ U (DJ U (DJ U (Bm ?_))))))));replace H:=H.drew;refine Ak U (Ab (Bb (hD) (AB U U ?_)));refine DJ U (Bm (AN U (.bool _) U (Ab (Bb (hD) (B3 (Bw U (Aq (Aa (Av (Af Bq U (AG BK U H at1 U ?_)))))))))));refine Af H3 U (AG BL U H at0 U (Af Lf U (AG BL U H at0 U (B0 (zI x).enc Me Cr ?_))));refine BP _ (.agg _) Br Bh Cr U U U U H ?_;rintro b52 w - H;refine Cf (L:=[_,_,_]) Br Br Bh J8 Cr U U U H O U (Im.oneE (zI x)) ?_;rintro a53 c53 f53 w H O53;refine Af Bq U (Bc (.slice _ _ _) C4 U U U H at1 (by(simp;done)) ?_);rintro w H;refine Ab (AF (Aa (Av (AA U U ?_))));refine Ae U (qA ?_)
     refine⟨(i+1,a53,c53,f53),rfl,⟨rfl,trivial⟩,⟨by dsimp only;omega,fun k hk=>?_,H.tail,by dsimp only;rw[hts];exact O53⟩,by dsimp only;omega⟩;dsimp only at hk
     rcases qbk k i with h7|h7
     .exact hg k h7
     .obtain rfl:k=i:=by omega
      exact⟨_,hxL,h2,fun q h0 hq=>absurd h0 (by omega)⟩
  .intro h1;replace h1:=AV h1;have hin:i=n:=by omega
   rw[qa5 (by omega)]at O;have hgood:∀k,k<L.length->Rr L k:=fun k hk=>hg k (by omega);refine B9 (A8 (A8 (Bd (Aa (Ar (Ad (Ai U (AO EU U (B1 U U (qA (Au _ U ?_ ?_)))))))))))
   .intro h5;replace h5:=AU h5;refine Ad (Ac U (Bc (.int _ _) Fw U U U H at1 (by decide) ?_));rintro w H;refine qA (Ax (Ao ?_));exact Vj U fun tmps ht=>⟨_,OR rfl ht rfl rfl Ev (H.get at1),.inr (.inl ⟨hgood,qa9 (by omega),rfl,H.ext⟩)⟩
   .intro h5;replace h5:=AV h5;have hne:L≠[]:=fun e=>h5 (by rw[hnL,e];rfl);have hok':=hok hgood hne;obtain⟨R,hR⟩:=qD (Xg fr A P L);rw[<-hR]at hok' |-;refine Aq (Aa (Ad (An U (B0 [ptr bt,.slice none 0 0,.slice none 0 0] Aex Ae4 ?_))));refine Co [ptr bt,.slice none 0 0,.slice none 0 0] (.agg _) U U H ?_;rintro bc w - H;refine Be Ae3 H ?_;rintro b9 w - H;refine Bc (.pointer _) Ae0 U U U H at0 (by decide) ?_;rintro w H;refine qA (Ad (Cz [.pointer _,.pointer _] U (V5 U U ?_)));refine qA (AD ?_);have E1:Fr w0 (fun _=>False) (TM F ba bt bp []) w bt bd bp ba fr bc ⟨A,P,[],[]⟩ F [(bc,Bl TC [ptr bt,.slice none 0 0,.slice none 0 0])] (Y0 b5 b6 b9 bc false ia i ic++ent ia 185 fi):=Fr.born T (fun x h=>h.elim) (H.perm (List.Perm.swap _ _ _)) ⟨none,0,[],none,0,[],rfl,OS.nil,OS.nil⟩;have hpsl:(ps.map zI).length=i:=by rw[qal];omega
    have O9:OS ia (ps.map zI).length ic 3 fi ((ps.map zI).flatMap Im.enc):=by rw[hpsl];exact O
    obtain⟨-,I9⟩:=Its.push E1.O O9 fun m hm=>by
     obtain⟨q,hq,rfl⟩:=qah.1 hm;have:=((hp q hq).weak (M':=MZ (TM F ba bt bp []) fun _=>False) fun x h=>h.elim id False.elim).turn E1.GA;exact⟨this.k,this.v,this.kc,this.vc⟩
    have hmap:(ps.map zI).map (·.it)=L.map BC:=by rw[<-hl,qbf,qbf];rfl
    rw[hpsl,hmap]at I9;have E2:=E1.sub (Y2:=Y0 b5 b6 b9 bc false ia i ic) (fun y hy=>qa4 _ hy) (qcb.1 E1.O.nd).1;refine BF 158456325019305303150233154576 (α:=BS) (fun _=>[]) (fun s w'=>BInv w0 w' (fun _=>False) (TM F ba bt bp []) bt bd bp ba fr bc b5 b6 b9 mx R s) (fun s=>s.n) ⟨1500,false,ia,i,ic,L.map BC,⟨A,P,[],[]⟩,F,[(bc,Bl TC [ptr bt,.slice none 0 0,.slice none 0 0])]⟩ U ?_ ?_ ?_
    .exact trivial
    .exact⟨E2,I9,hR,hfew,rfl,qak _⟩
    .rintro⟨m,si,sa,sk,sc,sM,sch,sF,sL⟩ j w V;have hVeq:=V.eq;dsimp only at hVeq;dsimp only
     cases m with
     |zero=>rw[hVeq]at hok';exact absurd rfl hok'
     |succ m =>
     have hokF:okF sch si sM=true:=by
      cases h:okF sch si sM with
      |true=>rfl
      |false =>
       rw[hVeq]at hok';unfold BZ at hok';rw[if_pos h]at hok';exact absurd U hok'
     obtain⟨k1,k2,k3,k4,k5,k6⟩:=Amo hokF;unfold BZ at hVeq;rw[if_neg (by rw[hokF];simp)]at hVeq;obtain⟨Tp,hTp⟩:=qD (Cs fr si (CW si sM) sch []);rw[<-hTp]at hVeq;have hskn:=V.I.num;have hfew9:=V.few;have hgn9:=V.gn;dsimp only at hskn hfew9 hgn9;have H:=V.E.O.ctx;refine AD (Ad (B0 [.bool true,.slice none 0 0] Gp Cb ?_));refine Be Cb H ?_;rintro b10 w - H;refine Bi Ba U U U (by exact Fu _ _ _ _) H at0 U ?_;rintro w H;refine qA (Ar (Ad (BG BH Ba U H at2 U ?_)));obtain⟨E3,g3⟩:=V.E.own H;refine Ah qB (Ajn E3.mylt si (V.I.turn g3) (by dsimp only;omega) k3 k5) U ?_;rintro v w2 ⟨an,nn,cn,rfl,N,hx2⟩;obtain⟨E4,g4⟩:=E3.call0 hx2;have N4:=N;refine AO Er U (Ae U (qA (AD ?_)));have hnn:nn=(CW si sM).length:=N4.num
     refine BF 154742357336719944686006288 (α:=LS) (fun s=>[(67,.int .i64 (s.j:Int))]) (fun s w'=>s.j<=nn/\LInv w0 w' (fun _=>False) (TM F ba bt bp []) bt bd bp ba fr bc b5 b6 b9 b10 mx si sa sk sc an nn cn (CW si sM) Tp sch s) (fun s=>nn - s.j) ⟨0,none,0,[],[],sch,sF,sL⟩ U ?_ ?_ ?_
     .exact⟨rfl,trivial⟩
     .exact⟨qak _,E4,N4,OS.nil,(fun m h=>by cases h),hTp,hfew9,hgn9,qaf _,rfl⟩
     .rintro⟨jj,ua,uc,uf,um,ch,cF,cL⟩ j w ⟨hj,V2⟩;dsimp only at hj;dsimp only;obtain⟨ns,R3,hs3,hl3,hok3⟩:=V2.N.ex;have hnl:ns.length=nn:=by rw[hnn,<-hl3,qal]
      have htk2:=V2.tk;have hum:=V2.num;have hTq:=V2.eq;have hf2:=V2.few;have VE:=V2.E;have VO:=V2.O;dsimp only at htk2 hum hTq hf2 VE VO;have H:=VE.O.ctx;refine Ad (Bt U U (qA (Ar (Au _ U ?_ ?_))))
      .intro h6;replace h6:=AU h6;obtain⟨x,hx1⟩:=AR (l:=ns) (i:=jj);have hxL:(CW si sM)[jj]?=some x.2.1:=by rw[<-hl3,qav,hx1];rfl
       obtain⟨kx1,kx2,kx3⟩:=k6 _ (qad hxL);have Ix:=hok3 x (qad hx1);rw[EI hxL,Cs]at hTq;refine Aq (Aa (Ar (AD (Ad (Bj R3 Er Ba U U ?_)))));refine EL (K2 si x) BH Ba U U (R3.row hx1 U) (Be Cb H ?_);rintro b12 w - H;refine Bi Ba U U U (by exact Fu _ _ _ _) H at0 U ?_;rintro w H;refine qA (Ad (AG Qr U H at2 U (BG BH Ba U H at0 U ?_)));obtain⟨E5,g5⟩:=VE.own H;have Iy:=Ix.turn g5;refine Ah qB (Ol E5.X (by omega) si (MY (fun _=>False) _) (Iy.weak MYZ) kx1 (fun y hy=>k3 y (kx3 y hy)) (fun y hy=>k4 y (kx3 y hy)) hf2) U ?_;rintro v w5 ⟨mi,F5,L5,rfl,X5,G5,hmo,hmp,hmi⟩;have hmo:=hmo.weak Abi;obtain⟨E6,g6⟩:=E5.call X5 G5;replace H:=E6.O.ctx;refine AM U (Ag U U (Ag U U (Be Cr H ?_)));rintro b13 w - H;refine Bi Bh U U U (by exact Im.oneE _) H at0 U ?_
       rintro w H;refine Ac U (qA (Ar (Ad (Ae U (AZ U U (qA (Au _ U ?_ ?_)))))))
       .intro h7;replace h7:=Bu h7;rw[if_neg (show ¬(wrC fr ch si x.2.1).1=0 from h7)]at hTq;rw[hTq,if_pos (show(wrC fr ch si x.2.1).1≠0 from h7)]at hVeq;have hgn6:(wrC fr ch si x.2.1).2.gn=[]:=wrC_gn.trans V2.gn;have htk6:=QQ (fr:=fr) (c:=ch) (inner:=si) (M:=x.2.1);refine Ad (Ae U (Ac U (Bc (.int _ _) Fw U U U H at5 (by decide) ?_)));rintro w H;refine qA (Ax (Ao (AL (Ao (Ao (AL (Ao (AL (Ao (AL ?_))))))))));obtain⟨E7,-⟩:=E6.own H;refine Qo U qB _ (Uo E7.X (H.get at3) (H.get at5) (by rw[hgn6];exact qak _)) (fun w7 hK tmps ht=>?_);exact⟨_,OR U ht U U Ev ((E7.O.call (hK.2.or _)).1.blk (b5,_) (qad (i:=5) U)),.inr (.inr ⟨hgood,hne,F5,by rw[hVeq];rfl,by rw[hVeq];exact hK.1.T.none,(E7.GT.trans hK.2).weak TM.none⟩)⟩
       .intro h7;replace h7:=Bv h7;have h7':(wrC fr ch si x.2.1).1=0:=by simpa using h7
        rw[if_pos h7']at hTq;have hmi':=hmi h7';refine Aq (Aa (Av (Af Bq U (AG BK U H at2 U (BG Dd Bh U H at0 U (BP _ (.agg _) Br Bh Cr U U U U H ?_))))));rintro b83 w - H;refine Cf (n:=um.length) (L:=[_,_,_,_,_,_]) Br Br Bh J8 Cr U U U H VO U (Im.oneE mi) ?_;rintro a84 c84 f84 w H O84;refine Af Bq U (Bc (.slice _ _ _) C4 U U U H at2 (by(simp;done)) ?_);rintro w H;refine Ab (AF (Aa (Av (AA U U ?_))));refine Ae U (qA ?_);have H8:=H.tail.tail;obtain⟨E7,g7⟩:=E6.own H8;have hql:(um++[mi]).length=um.length+1:=by simp
        have gg:=(g5.trans g6).trans g7;have htk6:=QQ (fr:=fr) (c:=ch) (inner:=si) (M:=x.2.1)
        have hfin:∀Y,Y=Y1 b5 b6 b9 b10 bc si sa sk sc ⟨jj+1,a84,c84,f84,um++[mi],(wrC fr ch si x.2.1).2,F5,L5⟩->Fr w0 (fun _=>False) (TM F ba bt bp []) w bt bd bp ba fr bc (wrC fr ch si x.2.1).2 F5 L5 Y->Nds w (MY (MZ (TM F5 ba bt bp L5) fun _=>False) Y) si an nn cn (CW si sM)->(∀m∈um++[mi],m.Ok w (MY (MZ (TM F5 ba bt bp L5) fun _=>False) Y))->LInv w0 w (fun _=>False) (TM F ba bt bp []) bt bd bp ba fr bc b5 b6 b9 b10 mx si sa sk sc an nn cn (CW si sM) Tp sch ⟨jj+1,a84,c84,f84,um++[mi],(wrC fr ch si x.2.1).2,F5,L5⟩:=by
         rintro Y rfl v1 v2 v3;refine⟨v1,v2,?_,v3,?_,Acw hf2,wrC_gn.trans V2.gn,by dsimp only;omega,by dsimp only;rw[hql,hum]⟩
         .dsimp only;rw[hql,qbp]
          simpa using O84
         .dsimp only;rw[hTq,qaz,<-hmi'];rfl
        refine⟨⟨jj+1,a84,c84,f84,um++[mi],(wrC fr ch si x.2.1).2,F5,L5⟩,rfl,⟨rfl,trivial⟩,⟨by dsimp only;omega,hfin _ ?_ E7 (V2.N.turn gg) fun q hq=>?_⟩,by dsimp only;omega⟩
        .show(b10,Bl 183 [.bool true,.slice a84 (um.length+1) c84])::_=(b10,Bl 183 [.bool true,.slice a84 (um++[mi]).length c84])::_;rw[hql];rfl
        .rcases qau.1 hq with hq|hq
         .exact(V2.ms q hq).turn gg
         .rw[qaa.1 hq];exact hmo.turn g7
      .intro h6;replace h6:=AV h6;rw[qbx (by omega),Cs]at hTq;rw[hTq,if_neg (by simp)]at hVeq;dsimp only at hVeq;rw[qal]at hVeq;have hgn2:=V2.gn;dsimp only at hgn2;refine B9 (A8 (A8 (Bd (Aa (Ad (BG BH Ba U H at0 U (Bi Ba U U U (by exact Fu _ _ _ _) H at2 U ?_)))))));rintro w H;refine qA (Ad (Af Bq U (AG BK U H at2 U (AO Br U (B1 U U (qA (Au _ U ?_ ?_)))))))
       .intro h8;replace h8:=AU h8;have h81:um.length=1:=by have h9:(um.length:Int)=1:=h8;omega
        rw[if_pos h81]at hVeq;obtain⟨q0,hq0⟩:=AR (l:=um) (i:=0);have Rm:Rd w ua 3 Im.enc um:=OS.rd VO (fun y hy=>H.blk y (show y∈(b10,Bl 183 [.bool true,.slice ua um.length uc])::(Y0 b5 b6 b9 bc true ua um.length uc++ent ua 185 uf)from qag _ (qax _ hy))) (fun _ _=>rfl) (by decide);have hpg0:Cd (um.map (·.it)) 0=q0.it.page:=by unfold Cd;rw[qav,hq0];rfl
        refine Ad (Af Bq U (AG BK U H at2 U (Bj Rm Br Bh U U (hn:=by rfl) ?_)));refine Af F8 U (Bf DU U (Rm.fld hq0 U (j:=2) U) ?_);refine Ac U (Bc (.int _ _) Fw U U U H at3 (by decide) ?_);rintro w H;refine qA (Ax (AL (Ao (AL ?_))));obtain⟨E7,-⟩:=VE.own H;refine Qo U qB _ (Uo E7.X (H.get at1) (H.get at3) (by rw[hgn2];exact qak _)) (fun w7 hK tmps ht=>?_);exact⟨_,OR U ht U U Ev ((E7.O.call (hK.2.or _)).1.blk (b5,_) (qad (i:=3) U)),.inr (.inr ⟨hgood,hne,cF,by rw[hVeq,hpg0];rfl,by rw[hVeq];exact hK.1.T.none,(E7.GT.trans hK.2).weak TM.none⟩)⟩
       .intro h8;replace h8:=AV h8;rw[if_neg (show ¬um.length=1 by have h9:¬(um.length:Int)=1:=h8;omega)]at hVeq;refine Aq (AF (Aa ?_));obtain⟨E7,g7⟩:=VE.own H;obtain⟨-,I7⟩:=Its.push (Y:=(b10,Bl 183 [.bool true,.slice ua um.length uc])::Y0 b5 b6 b9 bc true ua um.length uc) E7.O VO fun q hq=>(V2.ms q hq).turn g7;have hsub:∀y∈Y0 b5 b6 b9 bc true ua um.length uc,y∈((b10,Bl 183 [.bool true,.slice ua um.length uc])::Y0 b5 b6 b9 bc true ua um.length uc)++ent ua 185 uf:=fun y hy=>qa4 _ (qag _ hy);have E8:=E7.sub hsub (qbj.1 (qcb.1 (show(((b10,Bl 183 [.bool true,.slice ua um.length uc])::Y0 b5 b6 b9 bc true ua um.length uc)++ent ua 185 uf).Pairwise _ from E7.O.nd)).1).2
        exact⟨⟨m,true,ua,um.length,uc,um.map (·.it),ch,cF,cL⟩,rfl,trivial,⟨E8,I7.weak (MY.sub fun y hy=>qag _ hy),hVeq,hf2,hgn2,by dsimp only;omega⟩,by dsimp only;omega⟩
section
variable {w0 w w':World}{p:Sp}{A A':Dev}{P P':List Nat}{F F':Mut}{J:Jr}{gen:Nat}{root n:Int}{l:List (Byt × Sv)}{o1 o2:Obj}
theorem Gk.page(g:Gk w0 w p A P F J gen root n l o1 o2)(h:PgAt w' p.bp p.ba P')(hx:Ext [p.ba] w w'):Gk w0 w' p A P' F J gen root n l o1 o2/\Grown (Ms F p) (Ms F p) w w':=by
 obtain⟨T,t⟩:=g.T.page h hx;exact⟨g.tree T t,Js t⟩
theorem Acy(g:Gk w0 w p A P F J gen root n l o1 o2)(hA:A.B.length<=4096):Ret prog 90 #[ptr p.bs] w fun v w'=>v=.bool (decide (KJ A.B.length<(Gw P:Int)))/\w=w':=by
 obtain⟨wI,rfl⟩:=qD w;obtain⟨dn,ds,hhd⟩:=g.T.dev.hd;have hs:=Fo.at g.O (k:=0) rfl;have hPl:=g.T.pg.len;refine A6 (fn:=f90) func90 U [ptr p.bs] U (Ad (Am U (qA (Ad (Ac U (qA (Ar (Ad (An U (Ay U ?_))))))))));refine Af IE U (Bf JQ U ((by rw[Ap hs];rfl)) ?_);refine Ah qB (Nv g.T.pg) U ?_;rintro v w ⟨rfl,rfl⟩;refine Ae U (qA (AD (BF 536868920 (α:=Nat) (fun i=>[(11,.int .i64 (i:Int)),(3,.int .i64 ((Gu P i).length:Int))]) (fun i w'=>i<=P.length/\w'=wI) (fun i=>P.length - i) 0 U ?_ ?_ ?_)))
 .exact⟨rfl,rfl,trivial⟩
 .exact⟨qak _,rfl⟩
 .rintro i j w1 ⟨hi,hw⟩;rw[hw]
  have hhl:(Gu P i).length<=i:=by
   have:=List.length_filter_le (II P) (List.range i);rw[List.length_range]at this;exact this
  refine Ad (Bt U U (qA (Ar (Au _ U ?_ ?_))))
  .intro h1;replace h1:=AU h1;obtain⟨s,hk⟩:=AR (l:=P) (i:=i);have hs3:=g.T.pg.ok s (qad hk);have hb:II P i=(decide (s=1) || decide (s=2)):=by unfold II;rw[hk];simp
   have hsu:(Gu P (i+1)).length=(Gu P i).length+if II P i=true then 1 else 0:=by
    rw[QZ,qan]
    split <;> rfl
   refine Aq (Aa (Ar (AD (Ad (Ae U (Ac U (qA (Ad (An U (Ay U ?_))))))))));refine Af IE U (Bf JQ U ((by rw[Ap hs];rfl)) ?_);refine Ae U (Ah qB (Abc g.T.pg i hk) U ?_);rintro v w ⟨rfl,rfl⟩;refine Ac U (qA (Ad (BB (α:=Unit) 66060288 (fun _=>[(25,.bool (II P i))]) (fun _ w'=>w'=wI) U ?_ ?_)))
   .refine Ae U (B1 U U (AC U (AX 22 U ?_ ?_)))
    .intro h1;replace h1:=AU h1;refine Ak U (Ak U (AQ U (.bool _) U (Ab ?_)));exact⟨rfl,(),rfl,⟨qac Value.bool (by rw[hb,qar];simp_all;try omega),trivial⟩,rfl⟩
    .intro h2;replace h2:=AV h2;refine Ae U (B1 U U (AN U (.bool _) U (Ab ?_)));exact⟨rfl,(),rfl,⟨qac Value.bool (by rw[hb,qar];simp_all;try omega),trivial⟩,rfl⟩
   rintro - j25 w hw2;rw[hw2];refine Au _ U ?_ ?_
   .intro h2;rw[if_pos h2]at hsu;refine Av (Ae U (AA U U ?_));refine Ac U (Ab (AF (Aa (Av (AA U U ?_)))));refine Ae U (qA ?_);exact⟨i+1,rfl,⟨rfl,by rw[hsu];rfl,trivial⟩,⟨by omega,rfl⟩,by omega⟩
   .intro h2;rw[if_neg (by rw[h2];simp)]at hsu;refine Aq (AF (Aa (Av (AA U U ?_))));refine Ae U (qA ?_);exact⟨i+1,rfl,⟨rfl,by rw[hsu];rfl,trivial⟩,⟨by omega,rfl⟩,by omega⟩
  .intro h1;replace h1:=AV h1;obtain rfl:i=P.length:=by omega
   refine B9 (A8 (A8 (Bd (Aa (Ad (Ae U (An U (Ay U (Af P7 U (Bf CY U ((by rw[Ap hs];rfl)) ?_))))))))));refine Ah qB (Gr hhd) U ?_;rintro v w ⟨rfl,rfl⟩;refine Ah qB (ZG _ (by omega) _) U ?_;rintro v w ⟨rfl,rfl⟩;refine Ci U U (Am U (qA (Ax (AH (v:=(.bool _)) U U U ?_))));exact⟨rfl,rfl⟩
theorem Ajo{L:List Pr}(ho:OkP L)(hr:Rising L):∀i,i<L.length->Rr L i:=fun i hi=>by
 obtain⟨q,hq⟩:=AR (l:=L) (i:=i) (h:=hi);have hok:=ho q (qad hq);refine⟨q,hq,by unfold CU;simp only[qao,qap];omega,fun r h0 hr2=>?_⟩;obtain⟨q1,q2⟩:=qaq.1 hq;obtain⟨q3,q4⟩:=qaq.1 hr2;have:=qb5.1 hr (i - 1) i q3 q1 (by omega);rw[q2,q4]at this;exact this
theorem Ahn{M M':Mut}{a:Option Addr}{n c:Nat}{L:List Pr}(h:Prs w M a n c L)(hM:∀x,M' x->M x):Prs w M' a n c L:=by
 obtain⟨ps,R,hs,hl,hm⟩:=h.ex;exact⟨⟨ps,R,hs.imp id fun h5 h6=>h5 (hM _ h6),hl,fun m hm'=>(hm m hm').weak hM⟩,h.num,h.le⟩
theorem Ajp{bt bd bp ba:Nat}(T:Tx w bt bd bp ba 362 A P F []){a:Option Addr}{c:Nat}{L:List Pr}(PL:Prs w (TM F ba bt bp []) a L.length c L)(hn:L.length<=100000){mx:Nat}(hfew:Few A mx)(ho:OkP L)(hr:Rising L)(hok:(Jp A P L).1≠99)(hmx:mx<=800000000:=by decide):
  Ret prog 93 #[ptr bt,.slice a L.length c] w fun v w'=>∃F',v=.tuple #[.int .i64 (Jp A P L).2.2,.int .i64 (Jp A P L).1]/\Tx w' bt bd bp ba 362 (Jp A P L).2.1.A (RW A P L) F' []/\Grown (TM F ba bt bp []) (TM F' ba bt bp []) w w':=by
 have hg:=Ajo ho hr;have hbF:L≠[]->Xg 362 A P L=Jp A P L:=fun h=>(if_neg h).symm;refine(Acx T PL hn hfew hmx fun _ h=>by rw[hbF h];exact hok).mono fun v w' h=>?_
 rcases h with⟨⟨i,hi,h⟩,-⟩|⟨-,h,hv,hx⟩|⟨-,h,F',hv,T',t'⟩
 .exact absurd (hg i hi) h
 .subst h;exact⟨F,hv,T.call hx,Grown.call hx⟩
 .rw[hbF h]at hv T';refine⟨F',hv,?_,t'⟩;unfold RW;rw[if_neg h];unfold Jp at T' |-;rw[if_neg h]at T' |-;exact T'
theorem Aho{M L:List Pr}{t:List (Byt × Int)}{S:List Nat}{h:Nat}(g:Gk w0 w p A P F J gen root n l o1 o2)(hM:DT str (mi t) o2)(hnt:(t.map (·.1)).Nodup)(htk:∀q∈t,1<=q.1.length/\q.1.length<=32)(hkl:KL (Ei l) L)(ho:OkP L)(hdiff:∀k,k∉t.map (·.1)->DK M k=DK L k)(TT:TreeAt 362 A P root M)(h01:∀s∈P,s=0\/s=1)(hnd:S.Nodup)(hS:∀x:Nat,x∈S↔P[x]?=some 1\/P[x]?=some 2)(hsort:(S.map fun x:Nat=>(x:Int)).Pairwise (·<=·))(hon:A.on=true)(hfew:Few A 0)(hh:(h:Int)=KJ A.B.length)(hroom:S.length+h<=P.length)(hm:Fg 1500 (2*Bz L / 503+1)<=h)(hb:2*Bz L / 503+1<=1500)(htn:t.length<=100000:=by omega)(hLn:L.length<=100000:=by omega)(hl:362+P.length<=A.B.length:=by omega)(hA:A.B.length<=4096:=by omega)(hP:P.length<=2000:=by omega):
  Ret prog 53 #[ptr p.bs] w fun v w'=>v=.int .i64 (DG (BA (Ei l)) (Cy (mi t)) L h A P root S).1/\∃F' root',Gk w0 w' p (DG (BA (Ei l)) (Cy (mi t)) L h A P root S).2.2.1 (DG (BA (Ei l)) (Cy (mi t)) L h A P root S).2.2.2 F' J gen root' n l o1 o2/\((DG (BA (Ei l)) (Cy (mi t)) L h A P root S).1=0->root'=(DG (BA (Ei l)) (Cy (mi t)) L h A P root S).2.1)/\Grown (Ms F p) (Ms F' p) w w':=by
 obtain⟨wI,rfl⟩:=qD w;obtain⟨f,hf⟩:=qD (BA (Ei l));obtain⟨ts,hts⟩:=qD (Cy (mi t));have hstep:=Ahl g hM hnt htn htk TT hon hl hP hfew;rw[<-hf,<-hts]at hstep |-
 have htm:∀k,k∈ts↔k∈t.map (·.1):=fun k=>by
  rw[hts];have h1:=(qcc ((mi t).map (·.1)) fun x y=>decide (x<=y)).mem_iff (a:=k);rw[show(mi t).map (·.1)=t.map (·.1)by simp[qcm]]at h1;unfold Cy;rw[show(mi t).map (·.1)=t.map (·.1)by simp[qcm]];exact h1
 have htl:ts.length<=100000:=by rw[hts,L4,qal];exact htn
 obtain⟨s1,s2,s3⟩:=Oz (A0:=A) (P0:=P) (f:=f) (fun k v hv=>(ho (k,v) ((EG hkl.rise).1 (by rw[<-hkl.get,<-hf,hv]))).2.2) ts root A P M 0 (fun k hk=>by
  obtain⟨q,hq,rfl⟩:=qah.1 ((htm k).1 hk)
  exact htk q hq) TT hon hl hP hfew (Base9.start h01)
 rw[Uj TT.rise hkl.rise (fun k=>by rw[hf,hkl.get]) (fun k hk=>hdiff k fun h=>hk ((htm k).2 h))]at s3;obtain⟨e1,r1,A1,P1,hst⟩:∃e1 r1 A1 P1,CZ f ts root A P=(e1,r1,A1,P1):=⟨_,_,_,_,rfl⟩;unfold DG;rw[hst]at hstep s1 s2 s3 |-;dsimp only at hstep s1 s2 s3 |-;have H:=Ctx.start wI [];have hs:=Fo.at g.O (k:=0) rfl;refine A6 (fn:=Tryz.f53) func53 U [ptr p.bs] U (Ad (Ac U (qA (Ad (An U (Ay U (Af IF U (Bf DU U ((by rw[Ap hs];rfl)) ?_))))))));refine Ac U (qA (Ad (An U (Ah qB hstep U ?_))));rintro v w1 ⟨rfl,F1,g1,G1⟩;refine Ac U (qA (Ar (Ad (BB (α:=Unit) 134152192 (fun _=>[(26,.bool (decide (e1≠7/\(e1≠0\/Gw P1<=h))))]) (fun _ w'=>w'=w1) U ?_ ?_))))
 .refine Ae U (AZ U U (AC U (AX 18 U ?_ ?_)))
  .intro h1;replace h1:=Bu h1;refine Ae U (AZ U U (AC U (AX 21 U ?_ ?_)))
   .intro h2;replace h2:=Bu h2;refine Ak U (Ak U (Ak U (AQ U (.bool _) U (AQ U (.bool _) U (Ab ?_)))));exact⟨rfl,(),rfl,⟨qac Value.bool (by rw[qar];have:=s1.blen;simp_all;try omega),trivial⟩,rfl⟩
   .intro h3;replace h3:=Bv h3;refine An U (Ah qB (Acy g1 (by rw[s1.blen];exact hA)) U ?_);rintro v w ⟨rfl,rfl⟩;refine Cl U (AN U (.bool _) U (AQ U (.bool _) U (Ab ?_)));exact⟨rfl,(),rfl,⟨qac Value.bool (by rw[qar];have:=s1.blen;simp_all;try omega),trivial⟩,rfl⟩
  .intro h4;replace h4:=Bv h4;refine Ak U (Ak U (Ak U (Ak U (Ak U (Ak U (Ak U (AN U (.bool _) U (Ab ?_))))))));exact⟨rfl,(),rfl,⟨qac Value.bool (by rw[qar];have:=s1.blen;simp_all;try omega),trivial⟩,rfl⟩
 rintro - j26 w hw2;rw[hw2];clear H;refine Au _ U ?_ ?_
 .intro h1;have h1:=qde h1;rw[if_pos h1];refine Ad (Ae U (Ac U (qA (Ax (Ao (AH (v:=(.int _ _)) U U U ?_))))));refine⟨rfl,F1,_,g1,fun h2=>if_pos h2,G1⟩
 .intro h1;have h1:=qdf h1;rw[if_neg h1];have hbk:P1.map Dm=P:=s1.back;rw[hbk]
  have hon1:A1.on=true:=by
   rcases s3 with⟨-,h2,-⟩|⟨h2,-,-⟩|⟨-,h2⟩
   .exact h2
   .exact absurd ⟨by rw[h2];decide,.inl (by rw[h2];decide)⟩ h1
   .exact h2
  have hs1:=Fo.at g1.O (k:=0) rfl;have TM1:=s1.old TT;obtain⟨S',td,hnd',hS'⟩:=TM1.told hon1 (by rw[s1.blen];exact hl) hP;have hperm:S'.Perm S:=(qdw hnd' hnd).2 fun x=>(hS' x).trans (hS x).symm
  have hwk:KD A1 362 P.length root=(0,S.map fun x:Nat=>(x:Int)):=by
   rw[td.walk]
   have h2:(Ik (S'.map fun x:Nat=>(x:Int))).Pairwise (·<=·):=by
    have:=qe4 (le:=fun x y:Int=>decide (x<=y)) (fun a b c h1 h2=>by simp only[qap]at *;omega) (fun a b=>by simp only[qcd,qap];omega) (S'.map fun x:Nat=>(x:Int));exact this.imp fun h=>by simpa using h
   rw[qfb (le:=fun x y:Int=>x<=y) (fun a b _ _ h1 h2=>by omega) h2 hsort ((qcc _ _).trans (hperm.map _))]
  have hnn:=td.num;have hr1:=td.rlo;have hr2:=td.rhi
  have hSl:S'.length<=2000:=by
   have h5:=hperm.length_eq;omega
  have hs4:Few A1 4000000:=s2.mono (by omega);have hspec:=Pn (A:=A1) (P:=P) (L:=L) (mx:=4000000) hon1 (by rw[s1.blen];exact hl) hP hs4 h01 hkl.rise ho hnd hS hroom hm hb
  have h99:(Jp A1 P L).1≠99:=by rcases hspec.2.2 with h|h <;> (have:=h.1;omega)
  have hwalk:=fun(z:World) (Tz:Tx z p.bt p.bd p.bp p.ba 362 A1 P F1 [])=>Wl Tz root hs4 (by decide);simp only[hwk]at hwalk;refine Aq (Aa (Ad (An U (Ay U (Af IE U (Bf JQ U ((by rw[Ap hs1];rfl)) ?_))))));refine Ah qB (Af7 g1.T.pg) U ?_;rw[hbk];rintro v w2 ⟨rfl,P2,hx2⟩;obtain⟨g2,G2⟩:=g1.page P2 hx2;refine qA (Ad (An U (Ay U (Af JC U (Bf Jc U ((by rw[Ap (Fo.at g2.O (k:=0) rfl)];rfl)) ?_)))));refine Ae U (Ah qB (hwalk _ g2.T) U ?_);rintro v w3 ⟨a39,c39,rfl,R39,hn39,hc39,hx39⟩;have g3:=g2.call hx39;have lt2:=g2.mlt;refine AM U (Ag U U (Ag U U (Aj U (Ac U (qA (Ar (Ad (Ae U (AZ U U ?_)))))))));refine qA (Au _ U ?_ ?_)
  .intro h2;replace h2:=Bu h2;exact absurd U h2
  .intro h2;replace h2:=Bv h2
   have X39:∀{z:World} {F2:Mut},Grown (Ms F1 p) (Ms F2 p) w3 z->Rd z a39 1 (fun x:Int=>[.int .i64 x]) (S.map fun x:Nat=>(x:Int)):=fun{z F2} hz=>by
    rcases hn39 with h|h
    .rw[h];exact Rd.nil
    .exact(Rd.turnM R39 (.inr fun h5=>by have:=lt2 _ h5;omega) (by decide) (fun _ _=>rfl) hz).1
   have hsc:Pl l [] []=L:=by rw[WU,hkl.scan,Lu]
   have hscan:=WT (Fo.at g3.O (k:=0) rfl) (Fo.at g3.O (k:=1) rfl) g3.K (by rw[show(mv l).map (·.1)=(Ei l).map (·.1)by simp[Ei,qcm]];exact hkl.nd) (by have:=hkl.len;rw[show(Ei l).length=l.length from qal ..]at this;omega) none none 0 0 [] [] Rd.nil Rd.nil;rw[hsc]at hscan;have lt3:=g3.mlt;refine Aq (Aa (Ad (An U (Ah qB hscan U ?_))));rintro v w4 ⟨a47,c47,rfl,P47,hx47⟩;have g4:=g3.call hx47;refine AM U (Ag U U (Ag U U (Aj U (Ac U (qA (Ar (Ad (An U (An U ?_)))))))));refine Ay U (Af JC U (Bf Jc U ((by rw[Ap (Fo.at g4.O (k:=0) rfl)];rfl)) ?_));refine Ai U (Ah qB (Ajp g4.T (Ahn P47 fun x hx=>lt3 x (Un x hx)) hLn hs4 ho hkl.rise h99) U ?_);rintro v w5 ⟨F5,rfl,T5,t5⟩;have g5:=g4.tree T5 t5;have G5:Grown (Ms F1 p) (Ms F5 p) w3 w5:=Grown.trans (Grown.call hx47) (Js t5)
   have H:=Ctx.start1 (Fo.at g5.O (k:=0) rfl);refine AM U (Ag U U (Ag U U (Ay U (Af IF U (Bc (.int _ _) GZ U U U H at0 (by(simp;done)) ?_)))));rintro w H;refine Ac U (qA (Ad (Ae U (AZ U U (qA (Au _ U ?_ ?_))))))
   .intro h3;replace h3:=Bu h3;rw[if_pos h3];have g6:=g5.set H;refine Ad (Ae U (Ac U (qA (Ax (Ao (AH (v:=(.int _ _)) U U U ?_))))));exact⟨rfl,F5,_,g6,fun h=>absurd h h3,Grown.trans G1 (Grown.trans G2 (Grown.trans (Grown.call hx39) (Grown.trans G5 (OD H))))⟩
   .intro h3;replace h3:=Bv h3;rw[if_neg (by rw[h3];simp)];have g6:=g5.set H;have G6:=Grown.trans G5 (OD (F:=F5) H);have hpl:(RW A1 P L).length=P.length:=hspec.1.len;obtain⟨w6,hw6⟩:=qD w;rw[<-hw6]at g6 G6 H |-;clear H;refine Aq (Aa (Ar (Ad (Ai U (AO Fv U (Ae U (qA (AD (BF 302083880951067617264128 (α:=Nat) (fun i=>[(67,.int .i64 (i:Int))]) (fun i w'=>i<=S.length/\Gk w0 w' p (Jp A1 P L).2.1.A ((S.take i).foldl Ef (RW A1 P L)) F5 J gen (Jp A1 P L).2.2 n l o1 o2/\Grown (Ms F1 p) (Ms F5 p) w3 w') (fun i=>S.length - i) 0 U ?_ ?_ ?_)))))))))
    .exact⟨rfl,trivial⟩
    .exact⟨qak _,g6,G6⟩
    .rintro i j w7 ⟨hi,g7,G7⟩;have H:=Ctx.start w7 [];refine Ad (Bt U U (qA (Ar (Au _ U ?_ ?_))))
     .intro h4;replace h4:=AU h4;obtain⟨k,hk⟩:=AR (l:=S) (i:=i) (h:=by simpa using h4);have hkI:(S.map fun x:Nat=>(x:Int))[i]?=some (k:Int):=by rw[qav,hk];rfl
      have hkl2:k<P.length:=by
       rcases(hS k).1 (qad hk)with h|h <;> exact(qaq.1 h).1
      refine Aq (Aa (Ar (AD (Ad (Bj (X39 G7) Fv GZ U U (hn:=by rfl) ?_)))));refine Bf DU U (((X39 G7).one (f:=fun x:Int => .int .i64 x) hkI)) ?_;refine Ac U (qA (Av (An U (Ay U (Af IE U (Bf JQ U ((by rw[Ap (H.ext.to (Fo.at g7.O (k:=0) rfl) (by simp))];rfl)) ?_))))));refine Ae U (Ah qB (VX (g7.call H.ext).T.pg k (by rw[Oo,hpl];exact hkl2)) U ?_);rintro v w8 ⟨⟨e8,rfl⟩,P8,hx8⟩;obtain⟨g8,G8⟩:=(g7.call H.ext).page P8 hx8;have G9:=Grown.trans G7 (Grown.trans (Grown.call H.ext) G8);clear H;refine Ab (AF (Aa (Av (AA U U ?_))));refine Ae U (qA ?_);exact⟨i+1,rfl,⟨rfl,trivial⟩,⟨by have:=(qaq.1 hk).1;omega,by rw[Bx hk,qdm];exact g8,G9⟩,by have:=(qaq.1 hk).1;omega⟩
     .intro h4;replace h4:=AV h4;have hiS:i=S.length:=by simp at h4;omega
      subst hiS;rw[qbb]at g7;refine B9 (A8 (A8 (Bd (Aa (Ad (Ac U (qA (Ax (AH (v:=(.int _ _)) U U U ?_)))))))));exact⟨rfl,F5,_,g7,fun _=>rfl,Grown.trans G1 (Grown.trans G2 (Grown.trans (Grown.call hx39) G7))⟩
end
section
variable {P:Program}{ops rest:List Oper}{e:Env}{dst:Option Tmp}{ty:TypeId}{pos:String}{af:Array Edge}{g:Option (Nat × Bool)}{C:World->Prop}{K:Env->Prop}
theorem IK{fn:Fn}{x:Operand}(v:Value)(hg:AK ⟨dst,.makeFunc fn #[x] #[],ty,pos,af,g⟩ ops e=true)(hx:ev e x=v)(h:Wt P ops C K rest (put e dst (.func fn #[v] #[]))) :
  Wt P ops C K (⟨dst,.makeFunc fn #[x] #[],ty,pos,af,g⟩::rest) e :=
 Eu hg (fun w _=>by simp[execOp,hx,Instr.makeFunc]) h
theorem Pp{fn:Fn}{cap:Array Operand}(l:List Value)(hg:AK ⟨dst,.makeFunc fn #[] cap,ty,pos,af,g⟩ ops e=true)(hl:cap.toList.map (ev e)=l)(h:Wt P ops C K rest (put e dst (.func fn #[] l.toArray))) :
  Wt P ops C K (⟨dst,.makeFunc fn #[] cap,ty,pos,af,g⟩::rest) e:=by
 have h1:cap.map (ev e)=l.toArray:=by subst hl;apply qca;simp only[qcu]
 exact Eu hg (fun w _=>by simp[execOp,h1,Instr.makeFunc]) h
end
section
variable {w0 w w':World}{p:Sp}{A A':Dev}{P P':List Nat}{F F':Mut}{J J':Jr}{gen gen':Nat}{root root' n:Int}{l:List (Byt × Sv)}{o1 o2 o2':Obj}
theorem Gk.own(g:Gk w0 w p A P F J gen root n l o1 o2):Own w0 w p.bd A F:=⟨g.x0,g.T.dev,fun x h=>⟨g.ge x (.inl (.inl h)),g.T.lt x h⟩⟩
theorem Gk.devs(g:Gk w0 w p A P F J gen root n l o1 o2)(O:Own w0 w' p.bd A' F')(t:Grown F F' w w'):Gk w0 w' p A' P F' J gen root n l o1 o2/\Grown (Ms F p) (Ms F' p) w w':=by
 obtain⟨T,t2⟩:=g.T.devs (F':=F') O.dev t.1 fun x hx=>(t.2 x hx).imp id fun h=>⟨h,(O.own x hx).2⟩;exact⟨g.tree T t2,Js t2⟩
theorem Gk.turns{T:List Nat}(g:Gk w0 w p A P F J gen root n l o1 o2)(hx:Ext T w w')(hT:∀y∈T,y=p.bs\/y=p.m2\/y=p.bj)(hs:w'.heap[p.bs]?=some (Bl CA (C3 (ptr p.bd) (ptr p.bj) (ptr p.bp) (ptr p.bt) gen' root' p.m1 p.m2 n false)))(h2:w'.heap[p.m2]?=some o2')(hj:w'.heap[p.bj]?=some (Bl TJ (JB p.bd J'))) :
  Gk w0 w' p A P F J' gen' root' n l o1 o2'/\Grown (Ms F p) (Ms F p) w w':=by
 have hb:∀y∈T,Ms F p y:=fun y hy=>by
  rcases hT y hy with rfl|rfl|rfl
  .exact .inr (by simp[Sp.own])
  .exact .inr (by simp[Sp.own])
  .exact .inl (.inr U)
 have hoff:∀y∈T,¬TM F p.ba p.bt p.bp [] y:=fun y hy=>by
  rcases hT y hy with rfl|rfl|rfl
  .exact g.O.off _ (qad (i:=0) U)
  .exact g.O.off _ (qad (i:=2) U)
  .exact g.O.off _ (qad (i:=3) U)
 have hTx:Tx w' p.bt p.bd p.bp p.ba 362 A P F [] :=
  ⟨hx.to g.T.tr fun h=>hoff _ h (.inr (.inr (.inl rfl))),g.T.pg.keep hx (fun h=>hoff _ h (.inr (.inr (.inr (.inl rfl))))) (fun h=>hoff _ h (.inr (.inl rfl))),g.T.dev.keep hx (fun y hy h=>hoff y hy (.inl h)),(fun x hx=>by cases hx),List.Pairwise.nil,(fun x hx=>by cases hx),g.T.nbt,g.T.nbp,g.T.nba,fun x hx2=>qat (g.T.lt x hx2) hx.size⟩
 have h1:p.m1∉T:=fun h=>by
  rcases hT _ h with h|h|h
  .exact absurd h (CQ g.O 1 0 U U)
  .exact absurd h (CQ g.O 1 2 U U)
  .exact absurd h (CQ g.O 1 3 U U)
 refine⟨⟨hTx,LA g.O hx U fun y hy=>?_,⟨g.K.m,fun q hq=>⟨⟨Rdx.read (g.K.ok q hq).1 hx (fun y hy => .inl (hb y hy)),(g.K.ok q hq).1.2⟩,(g.K.ok q hq).2⟩,g.K.few⟩,g.x0.then hx fun y hy => .inr (g.ge y (hb y hy)),g.ge⟩,Turn.of hx hb,fun _ h => .inl h⟩;simp only[qab,qaj,or_false]at hy
 rcases hy with rfl|rfl|rfl|rfl
 .exact .inl hs
 .exact .inr ⟨qad (i:=1) rfl,h1⟩
 .exact .inl h2
 .exact .inl hj
abbrev ckB(b39 b1 b4 b5 bs q:Nat)(z:Int)(fv:List Value):List (Nat × Obj):=[(b39,Bl 46 fv),(b5,Bl 74 [.int .u64 (q:Int)]),(b4,Bl 3 [.int .i64 z]),(b1,Bl 31 [ptr bs])]
theorem Acz{b39 b1 b4 b5 q pp mx:Nat}{fv:List Value}(g:Gk w0 w p A P F J gen root n l o1 o2)(Y:Fo w (Ms F p) (ckB b39 b1 b4 b5 p.bs q pp fv))(hr : -1<=root/\root<=4294967294)(hp:pp<4294967296)(hq:q<18446744073709551616)(hg:gen+1<18446744073709551616)(hfew:Few A mx)(hmx:mx<1000000000000:=by omega):
  Ret prog 55 #[ptr b1,ptr b4,ptr b5] w fun v w'=>v=.int .i64 (Gf A (gen+1) (tpB root pp q))/\∃F',Gk w0 w' p (Eh A (gen+1) (tpB root pp q)) P F' J gen root n l o1 o2/\Grown (Ms F p) (Ms F' p) w w':=by
 obtain⟨wI,rfl,H⟩:=qE w;have h1:=Fo.at Y (k:=3) rfl;have h4:=Fo.at Y (k:=2) rfl;have h5:=Fo.at Y (k:=1) rfl;have hs:=Fo.at g.O (k:=0) rfl;refine A6 (fn:=f55) func55 U [ptr b1,ptr b4,ptr b5] U ?_;refine Ad (Ac U (qA (BR [([0,1,2,3,4,5,6,7,8,9,10,11,12,13,14,15],16),([],17),([],18)] (fun z=>(z.heap[b1]?=some (Bl 31 [ptr p.bs])/\z.heap[b4]?=some (Bl 3 [.int .i64 (pp:Int)])/\z.heap[b5]?=some (Bl 74 [.int .u64 (q:Int)])/\z.heap[p.bs]?=some (Bl CA (C3 (ptr p.bd) (ptr p.bj) (ptr p.bp) (ptr p.bt) gen root p.m1 p.m2 n false)))) [] mixed (⟨H.drew.ext.to h1 (by simp),H.drew.ext.to h4 (by simp),H.drew.ext.to h5 (by simp),H.drew.ext.to hs (by simp)⟩) ?_)));refine AB U U (BJ ET U (fun _ hx=>(by rw[Ap hx.1];rfl)) ?_);refine Bn U (AE P7 U (BJ CY U (fun _ hx=>(by rw[Ap hx.2.2.2];rfl)) ?_))
 refine BJ ET U (fun _ hx=>(by rw[Ap hx.1];rfl)) ?_;refine Bn U (AE P9 U (BJ FU U (fun _ hx=>(by rw[Ap hx.2.2.2];rfl)) ?_));refine SQ U U U ?_;rw[show((gen:Int)+1)=((gen+1:Nat):Int)by omega];refine BJ ET U (fun _ hx=>(by rw[Ap hx.1];rfl)) ?_;refine Bn U (AE IF U (BJ DU U (fun _ hx=>(by rw[Ap hx.2.2.2];rfl)) ?_));refine BJ DU U (fun _ hx=>(by rw[Ap hx.2.1];rfl)) ?_;refine BJ FU U (fun _ hx=>(by rw[Ap hx.2.2.1];rfl)) ?_;refine HS (tpC root pp q) Aez Q7 (Bm ?_);replace H:=H.drew;refine Ah qB (ZI root pp q _ hr hp hq) U ?_;rintro v w F10;obtain⟨a10,c10,rfl,R10,hc10,h10⟩:=Fresh.newB F10;replace H:=H.call F10.ext;refine Ab (Bb ((by exact⟨H.ext.to h1 (by simp),H.ext.to h4 (by simp),H.ext.to h5 (by simp),H.ext.to hs (by simp)⟩)) ?_);refine AB U U ?_
 refine Bm (Ah qB (W7 (g.call H.ext).own (gen+1) hg a10 c10 _ (tpB root pp q) R10 U (by rw[DN];decide) hfew hmx) U ?_);rintro v w ⟨rfl,F',O',G'⟩;obtain⟨g2,G2⟩:=(g.call H.ext).devs O' G';have Y2:=(Y.call (Grown.trans (Grown.call H.ext) G2)).1;refine Ab (Bb ((by exact⟨Fo.at Y2 (k:=3) rfl,Fo.at Y2 (k:=2) rfl,Fo.at Y2 (k:=1) rfl,Fo.at g2.O (k:=0) rfl⟩)) ?_);refine AB U U (Bm (Ac U (Ab (Bb ((by exact⟨Fo.at Y2 (k:=3) rfl,Fo.at Y2 (k:=2) rfl,Fo.at Y2 (k:=1) rfl,Fo.at g2.O (k:=0) rfl⟩)) ?_))));refine B3 (Ax (AH (v:=(.int _ _)) U U U ?_));exact⟨rfl,F',g2,Grown.trans (Grown.call H.ext) G2⟩
theorem Ac0{b39 b1 b4 b5 q pp:Nat}{fv:List Value}{t:List (Byt × Int)}(g:Gk w0 w p A P F J gen root n l o1 o2)(hM:DT str (mi t) o2)(Y:Fo w (Ms F p) (ckB b39 b1 b4 b5 p.bs q pp fv))(hg:gen+1<18446744073709551616) :
  Ret prog 58 #[ptr b1] w fun v w'=>v=.int .i64 0/\∃o2',Gk w0 w' p A P F J (gen+1) root n l o1 o2'/\DT str ([]:List (Byt × Value)) o2'/\Grown (Ms F p) (Ms F p) w w':=by
 obtain⟨wI,rfl⟩:=qD w;have h1:=Fo.at Y (k:=3) rfl;have hs:=Fo.at g.O (k:=0) rfl;have h2:=Fo.at g.O (k:=2) rfl;have hne:=CQ g.O 0 2 rfl rfl;have hbj:=CD g.O (k:=3) rfl [0,2] rfl
 have hb1:b1∉[p.bs,p.m2]:=by
  have h3:=Y.off (b1,Bl 31 [ptr p.bs]) (by simp);intro h;simp only[qab,qaj,or_false]at h
  rcases h with rfl|rfl
  .exact h3 (.inr (by simp[Sp.own]))
  .exact h3 (.inr (by simp[Sp.own]))
 have H:=Ctx.startL (w:=wI) (L:=[(p.bs,Bl CA (C3 (ptr p.bd) (ptr p.bj) (ptr p.bp) (ptr p.bt) gen root p.m1 p.m2 n false)),(p.m2,o2)]) (fun y hy=>by
  simp only[qab,qaj,or_false]at hy
  rcases hy with rfl|rfl
  .exact hs
  .exact h2) (by simpa using hne)
 refine A6 (fn:=f58) func58 U [ptr b1] U (Ad (Ac U (qA (Ad (Bf ET U ((by rw[Ap (H.ext.to h1 hb1)];rfl)) ?_)))));refine Ay U (Af P9 U (AG FU U H at0 U (Jw U U U ?_)));rw[show((gen:Int)+1)=((gen+1:Nat):Int)by omega];refine Ay U (Af P9 U (Bc (.int _ _) VH U U U H at0 (by(simp;done)) ?_));rintro w H;refine qA (Ad (Bf ET U ((by rw[Ap (H.ext.to h1 hb1)];rfl)) ?_));refine Ay U (Af PA U (AG Zi U H at0 U (SZ (V:=str) (κ:=Byt) U Q4 U H at1 hM ?_)));rintro o2' w hM2 H2;refine qA (Ad (Ac U (qA (Ax (AH (v:=(.int _ _)) U U U ?_)))))
 obtain⟨g2,G2⟩:=g.turns (J':=J) (gen':=gen+1) (root':=root) (o2':=o2') H2.ext (fun y hy=>by
  simp only[qay,qbr,qab,qaj,or_false]at hy
  rcases hy with h|h
  .exact .inl h
  .exact .inr (.inl h)) (H2.get at0) (H2.get at1) (H2.ext.to (Fo.at g.O (k:=3) U) hbj)
 exact⟨rfl,o2',g2,hM2,G2⟩
end
end Go.Proofs.YtcpgbcabmcbclaaGreatDoor
