/- Part 12 of the proof. -/
import Derived.Test.YtcpgbcabmcbclaaGreatDoorPart11
set_option maxRecDepth 20000
set_option maxHeartbeats 8000000
namespace Go.Proofs.YtcpgbcabmcbclaaGreatDoor
open Go.GV Go.Proofs.Tryz
attribute [local irreducible] AA W Wq Wt
theorem Wu{P:Program}{r:Option Nat}{ops rest:List Oper}{Q:Exit->Env->World->Prop}{e:Env}{w:World}{dst:Option Tmp}{ty:TypeId}{pos:String}{af:Array Edge}{g:Option (Nat × Bool)}{fn:Fn}{x:Operand}(v:Value)(hg:AJ ⟨dst,.makeFunc fn #[x] #[],ty,pos,af,g⟩ ops e=true)(hx:ev e x=v)(h:AA P r ops Q rest (put e dst (.func fn #[v] #[])) w) :
  AA P r ops Q (⟨dst,.makeFunc fn #[x] #[],ty,pos,af,g⟩::rest) e w:=by
 refine PI hg ?_;have h1:(#[x]:Array Operand).map (ev e)=#[v]:=by simp[hx]
 have h2:(#[]:Array Operand).map (ev e)=#[]:=by simp
 rw[h1,h2];exact h
section
variable {w0 wI wb w w':World}{b16 b11 b10 b8 b1 bd bs bp ba bt gen m1 m2 m:Nat}{F:Mut}{A:Dev}{R:Rj}{V:Nat->Byt}{root:Int}{pq qq:Nat}{o1 o2:Obj}{L0:List Pr}{S:List Nat}{Ws:List (List Wr)}
theorem My{M:Mut}{T:List Nat}{Z Z':List (Nat × Obj)}(h:Fo w M Z)(hx:Ext T w w')(hk:Z'.map (·.1)=Z.map (·.1))(hb:∀y∈Z',w'.heap[y.1]?=some y.2\/(y∈Z/\y.1∉T)):Fo w' M Z':=by
 refine⟨fun y hy=>?_,?_,fun y hy=>?_⟩
 .rcases hb y hy with h1|⟨h1,h2⟩
  .exact h1
  .exact hx.to (h.blk y h1) h2
 .have h1:(Z.map (·.1)).Pairwise (·≠·):=qbs.2 h.nd;rw[<-hk]at h1;exact qbs.1 h1
 .have h1:y.1∈Z'.map (·.1):=qah.2 ⟨y,hy,rfl⟩;rw[hk]at h1;obtain⟨z,hz,he⟩:=qah.1 h1;rw[<-he];exact h.off z hz
theorem fo_lt{M:Mut}{Z Z':List (Nat × Obj)}(h:Fo w M Z)(hk:Z'.map (·.1)=Z.map (·.1)):∀y∈Z',y.1<w.heap.size:=fun y hy=>by
 have h1:y.1∈Z'.map (·.1):=qah.2 ⟨y,hy,rfl⟩;rw[hk]at h1;obtain⟨z,hz,he⟩:=qah.1 h1;rw[<-he];exact Al (h.blk z hz)
theorem CV{M:Mut}{Z:List (Nat × Obj)}(h:Fo w M Z){k:Nat}{y:Nat × Obj}(hk:Z[k]?=some y)(I:List Nat)(hI:(I.all fun i=>decide (i≠k))=true):y.1∉I.filterMap fun i=>Z[i]?.map (·.1):=fun hm=>by
 obtain⟨i,hi,he⟩:=List.mem_filterMap.1 hm;obtain⟨z,hz,he⟩:=qey.1 he;have hik:i≠k:=by simpa using qb5.1 hI i hi
 obtain⟨q1,q2⟩:=qap.1 hz;obtain⟨q3,q4⟩:=qap.1 hk
 rcases Nat.lt_or_gt_of_ne hik with h5|h5
 .exact qb9.1 h.nd i k q1 q3 h5 (by rw[q2,q4];exact he)
 .exact qb9.1 h.nd k i q3 q1 h5 (by rw[q2,q4];exact he.symm)
theorem Dd{M:Mut}{Z:List (Nat × Obj)}(h:Fo w M Z)(i j:Nat){a b:Nat}{o o':Obj}(hi:Z[i]?=some (a,o))(hj:Z[j]?=some (b,o'))(hij:i≠j:=by decide):a≠b:=fun e=>by
 obtain⟨q1,q2⟩:=qap.1 hi;obtain⟨q3,q4⟩:=qap.1 hj
 rcases Nat.lt_or_gt_of_ne hij with h5|h5
 .exact qb9.1 h.nd i j q1 q3 h5 (by rw[q2,q4];exact e)
 .exact qb9.1 h.nd j i q3 q1 h5 (by rw[q2,q4];exact e.symm)
theorem Yt{a b c:Nat}{x y z:Obj}(h1:a≠b)(h2:a≠c)(h3:b≠c):[(a,x),(b,y),(c,z)].Pairwise fun p q=>p.1≠q.1:=by
 simp[h1,h2,h3]
theorem fo_fj{bj:Nat}{Z:List (Nat × Obj)}(h:Fo w F Z)(hb:∀y∈Z,y.1≠bj):Fo w (Fj F bj) Z:=⟨h.blk,h.nd,fun y hy h5=>h5.elim (h.off y hy) (hb y hy)⟩
theorem Own.over{T:List Nat}(O:Own w0 w bd A F)(hx:Ext T w w')(hS:∀y∈T,¬F y)(hge:∀y∈T,w0.heap.size<=y):Own w0 w' bd A F :=
 ⟨O.ext.then hx fun y hy => .inr (hge y hy),O.dev.keep hx hS,fun y h=>by have:=O.own y h;have:=hx.size;omega⟩
abbrev opF(b11 b10 b8 b1 bs:Nat):List Value:=[.func (.func 61) #[ptr bs] #[],.func (.func 62) #[] #[ptr b1,ptr b8,ptr b10,ptr b11],.func (.func 63) #[] #[ptr b11,ptr b10]]
abbrev opY(m1 m2 bp ba bt bd m:Nat)(P:List Nat)(z1 z2:Obj):List (Nat × Obj):=[(m2,z2),(m1,z1),(bp,Bl TPg [.slice (some ⟨ba,0,none⟩) m m]),(ba,Bl TSt (P.map stv)),(bt,Bl TT (Qd bd bp 362))]
abbrev kv1(L0:List Pr):Kvl:=Gb [] (L0.map toW)
abbrev pgU(m:Nat)(S:List Nat):List Nat:=KH (List.replicate m 0) (Jh (S.map fun x:Nat=>(x:Int)))
def Mb(wb:World)(bj:Nat):Mut:=fun y=>y<wb.heap.size\/y=bj
def opI(w0 wI wb:World)(b16 b11 b10 b8 b1 bs bd bp ba bt gen m1 m2 m:Nat)(root:Int)(L0:List Pr)(S:List Nat)(Ws:List (List Wr))(o1 o2:Obj)(A:Dev)(R:Rj)(F:Mut):Nat->World->Prop
 |0,w'=>Own w0 w' bd A F/\Ext [] wI w'/\Ext [] wb w'/\Fo w' F (Aae b16 b11 b10 b8 b1 bs bd gen m1 m2 R.first R.seq root 0 root (opF b11 b10 b8 b1 bs) Gi (ptr bp) (ptr bt) (.slice none 0 0)++opY m1 m2 bp ba bt bd m (List.replicate m 0) o1 o2)
 |1,w'=>∃l z1 z2,Own w0 w' bd A F/\Ext [] wI w'/\wb.heap.size<=w'.heap.size/\Fo w' F (Aae b16 b11 b10 b8 b1 bs bd gen m1 m2 R.first R.seq root (Eh [] 0 (L0.map toW)) root (opF b11 b10 b8 b1 bs) Gi (ptr bp) (ptr bt) (.slice none 0 0)++opY m1 m2 bp ba bt bd m (pgU m S) z1 z2)/\KvAt w' (Old wb) l z1/\EE l=kv1 L0/\Ek str (mi []) z2
 |2,w'=>∃l z1 z2 bj al nl cl N,Jone w0 w' bd bj A (jrK 2 R R.L) F/\Ext [] wI w'/\wb.heap.size<=bj/\wb.heap.size<=N/\bj<w'.heap.size/\StrsF N w' al nl cl R.L/\Fo w' (Fj F bj) (Aae b16 b11 b10 b8 b1 bs bd gen m1 m2 R.first R.seq root (Eh [] 0 (L0.map toW)) root (opF b11 b10 b8 b1 bs) (ptr bj) (ptr bp) (ptr bt) (.slice al nl cl)++opY m1 m2 bp ba bt bd m (pgU m S) z1 z2)/\KvAt w' (Mb wb bj) l z1/\EE l=kv1 L0/\Ek str (mi []) z2
 |_,w'=>∃l z1 z2 bj al nl cl,Jone w0 w' bd bj A (jrK 2 R R.L) F/\Ext [] wI w'/\wb.heap.size<=bj/\Fo w' (Fj F bj) (Aae b16 b11 b10 b8 b1 bs bd gen m1 m2 R.first R.seq root (Eh (kv1 L0) (Eh [] 0 (L0.map toW)) Ws.flatten) root (opF b11 b10 b8 b1 bs) (ptr bj) (ptr bp) (ptr bt) (.slice al nl cl)++opY m1 m2 bp ba bt bd m (pgU m S) z1 z2)/\KvAt w' (Mb wb bj) l z1/\EE l=Gb (kv1 L0) Ws.flatten/\Ek str (mi (Ev [] Ws.flatten)) z2
theorem Apu{i:Nat}(h:opI w0 wI wb b16 b11 b10 b8 b1 bs bd bp ba bt gen m1 m2 m root L0 S Ws o1 o2 A R F i w):w.heap[b16]?=some (Bl 46 (opF b11 b10 b8 b1 bs)):=by
 match i,h with
 |0,h=>exact Fo.at h.2.2.2 (k:=0) rfl
 |1,⟨_,_,_,h⟩=>exact Fo.at h.2.2.2.1 (k:=0) rfl
 |2,⟨_,_,_,_,_,_,_,_,h⟩=>exact Fo.at h.2.2.2.2.2.2.1 (k:=0) rfl
 |_+3,⟨_,_,_,_,_,_,_,h⟩=>exact Fo.at h.2.2.2.1 (k:=0) rfl
theorem Amn(hw0:w0.heap.size<=wI.heap.size)(h0:opI w0 wI wb b16 b11 b10 b8 b1 bs bd bp ba bt gen m1 m2 m root L0 S Ws o1 o2 A R F 0 wb)(hI:Ext [] wI wb)(g:SG (m+362) A R V)(hR:R.size=360/\1<=R.seq/\R.seq<=4611686018427387904)(hnew:∀y∈[bs,m1,m2,ba,b11],wI.heap.size<=y)(hm1:Ek str (mv []) o1)(hm2:Ek str (mi []) o2)(td:Told 362 A (List.replicate m 0) root L0 S)(hS:∀x∈S,x<m)(hnd:S.Nodup)(hL:Rising L0)(ho:OkP L0)(hLn:L0.length<=50000)(hRL:R.L=Ws.map opB)(hW:∀W∈Ws,W.length<=1000/\∀x∈W,x.Few)(hWn:Ws.length<=400) :
  Ret prog 37 #[.slice (some ⟨b16,0,none⟩) 3 3] wb fun v w'=>∃e,v=.int .i64 e/\((e=0/\opI w0 wI wb b16 b11 b10 b8 b1 bs bd bp ba bt gen m1 m2 m root L0 S Ws o1 o2 A R F 3 w')\/(e≠0/\False)):=by
 have FY0:=h0.2.2.2;have lt:∀(k b:Nat) (o:Obj),(Aae b16 b11 b10 b8 b1 bs bd gen m1 m2 R.first R.seq root 0 root (opF b11 b10 b8 b1 bs) Gi (ptr bp) (ptr bt) (.slice none 0 0)++opY m1 m2 bp ba bt bd m (List.replicate m 0) o1 o2)[k]?=some (b,o)->b<wb.heap.size:=fun k b o h=>Al (Fo.at FY0 h);have lbs:=lt 5 bs _ rfl;have lm1:=lt 7 m1 _ rfl;have lm2:=lt 6 m2 _ rfl;have lba:=lt 9 ba _ rfl;have l11:=lt 1 b11 _ rfl;have lbt:=lt 10 bt _ rfl;have lbp:=lt 8 bp _ rfl;have nF:∀(k b:Nat) (o:Obj),(Aae b16 b11 b10 b8 b1 bs bd gen m1 m2 R.first R.seq root 0 root (opF b11 b10 b8 b1 bs) Gi (ptr bp) (ptr bt) (.slice none 0 0)++opY m1 m2 bp ba bt bd m (List.replicate m 0) o1 o2)[k]?=some (b,o)->¬F b:=fun k b o h=>FY0.off (b,o) (qad h);have fbs:=nF 5 bs _ rfl;have fm1:=nF 7 m1 _ rfl;have fm2:=nF 6 m2 _ rfl;have fba:=nF 9 ba _ rfl;have f11:=nF 1 b11 _ rfl;have fbt:=nF 10 bt _ rfl
 have fbp:=nF 8 bp _ rfl
 have fs4:∀y∈[bs,m1,m2,ba],¬F y:=fun y hy=>by
  simp only[qac,qam,or_false]at hy
  rcases hy with rfl|rfl|rfl|rfl <;> assumption
 refine VZ (E:=fun _ _=>False) (opF b11 b10 b8 b1 bs) wb (by simp) (I:=opI w0 wI wb b16 b11 b10 b8 b1 bs bd bp ba bt gen m1 m2 m root L0 S Ws o1 o2 A R F) h0 (fun i w' h=>Apu h) (fun v hv=>?_) (fun i f fi caps w' hi h=>?_)
 .simp only[qac,qam,or_false]at hv
  rcases hv with rfl|rfl|rfl <;> exact⟨_,_,_,rfl⟩
 .match i,hi,h with
  |0,hi,⟨O,hxI,hxb,FY⟩ =>
   cases hi
   have hT:Tx w' bt bd bp ba 362 A (List.replicate m 0) F [(bs,Bl CU (CN (ptr bd) Gi (ptr bp) (ptr bt) gen root m1 m2 0 false)),(m1,o1),(m2,o2)]:=by
    refine⟨Fo.at FY (k:=10) rfl,⟨?_,Fo.at FY (k:=9) rfl,?_,?_,?_⟩,O.dev,fun x hx=>?_,?_,fun x hx=>?_,⟨fbt,?_⟩,fbp,fba,fun x hx=>(O.own x hx).2⟩
    .rw[qa8];exact Fo.at FY (k:=8) rfl
    .exact Dd FY 8 9 U U
    .intro s hs;rw[(qed.1 hs).2];decide
    .rw[qa8];have:=g.lim;omega
    .simp only[qac,qam,or_false]at hx
     rcases hx with rfl|rfl|rfl
     .exact Fo.at FY (k:=5) U
     .exact Fo.at FY (k:=7) U
     .exact Fo.at FY (k:=6) U
    .exact Yt (Dd FY 5 7 U U) (Dd FY 5 6 U U) (Dd FY 7 6 U U)
    .simp only[qac,qam,or_false]at hx
     rcases hx with rfl|rfl|rfl
     .exact⟨fbs,Dd FY 5 9 U U,Dd FY 5 10 U U,Dd FY 5 8 U U⟩
     .exact⟨fm1,Dd FY 7 9 U U,Dd FY 7 10 U U,Dd FY 7 8 U U⟩
     .exact⟨fm2,Dd FY 6 9 U U,Dd FY 6 10 U U,Dd FY 6 8 U U⟩
    .exact Dd FY 10 9 U U
   refine⟨by kernel_rfl,(Aj3 hT hm1 hm2 td hS hnd hL ho g.good.few hLn).mono fun v w'' ⟨hv,l,z1,z2,H,K,hk,hM⟩=>⟨0,hv,.inl ⟨rfl,l,z1,z2,?_,?_,?_,?_,?_,hk,hM⟩⟩⟩
   .exact O.over H.ext fs4 fun y hy=>qaw hw0 (hnew y (by simp only[qac,qam,or_false]at hy |-;rcases hy with h|h|h|h <;> simp[h]))
   .exact hxI.then H.ext fun y hy => .inr (hnew y (by simp only[qac,qam,or_false]at hy |-;rcases hy with h|h|h|h <;> simp[h]))
   .exact qaw hxb.size H.ext.size
   .refine My FY H.ext U fun y hy=>?_;simp only[qbx,qa7,qac,qam,or_false]at hy
    rcases hy with rfl|rfl|rfl|rfl|rfl|rfl|rfl|rfl|rfl|rfl|rfl
    .exact .inr ⟨qad (i:=0) rfl,CV FY (k:=0) U [5,7,6,9] rfl⟩
    .exact .inr ⟨qad (i:=1) rfl,CV FY (k:=1) U [5,7,6,9] rfl⟩
    .exact .inr ⟨qad (i:=2) rfl,CV FY (k:=2) U [5,7,6,9] rfl⟩
    .exact .inr ⟨qad (i:=3) rfl,CV FY (k:=3) U [5,7,6,9] rfl⟩
    .exact .inr ⟨qad (i:=4) rfl,CV FY (k:=4) U [5,7,6,9] rfl⟩
    .exact .inl (H.get at0)
    .exact .inl (H.get at2)
    .exact .inl (H.get at1)
    .exact .inr ⟨qad (i:=8) rfl,CV FY (k:=8) U [5,7,6,9] rfl⟩
    .exact .inl (H.get at3)
    .exact .inr ⟨qad (i:=10) rfl,CV FY (k:=10) U [5,7,6,9] rfl⟩
   .exact⟨K.m,(fun q hq=>⟨⟨(K.ok q hq).1.1,(K.ok q hq).1.2.imp id fun h5 h6=>h5 (qau h6 hxb.size)⟩,(K.ok q hq).2⟩),K.few⟩
  |1,hi,⟨l,z1,z2,O,hxI,hsz,FY,K,hk,hM⟩ =>
   cases hi;refine⟨by kernel_rfl,(Aj4 O ⟨qaw hw0 (hnew bs (by simp)),qaw hw0 (hnew b11 (by simp))⟩ g ⟨hR.1,rfl,rfl,hR.2⟩ FY).mono fun v w'' ⟨hv,bj,al,nl,cl,hbj,J,H,SF⟩=>⟨0,hv,.inl ⟨rfl,l,z1,z2,bj,al,nl,cl,w'.heap.size,J,?_,qaw hsz hbj,hsz,Al J.jr,SF,fo_fj (My FY H.ext rfl fun y hy=>?_) (fun y hy=>?_),?_,hk,hM⟩⟩⟩
   .exact hxI.then H.ext fun y hy => .inr (hnew y (by simp only[qac,qam,or_false]at hy |-;rcases hy with h|h <;> simp[h]))
   .simp only[qbx,qa7,qac,qam,or_false]at hy
    rcases hy with rfl|rfl|rfl|rfl|rfl|rfl|rfl|rfl|rfl|rfl|rfl
    .exact .inr ⟨qad (i:=0) rfl,CV FY (k:=0) U [5,1] rfl⟩
    .exact .inl (H.get at1)
    .exact .inr ⟨qad (i:=2) rfl,CV FY (k:=2) U [5,1] rfl⟩
    .exact .inr ⟨qad (i:=3) rfl,CV FY (k:=3) U [5,1] rfl⟩
    .exact .inr ⟨qad (i:=4) rfl,CV FY (k:=4) U [5,1] rfl⟩
    .exact .inl (H.get at0)
    .exact .inr ⟨qad (i:=6) rfl,CV FY (k:=6) U [5,1] rfl⟩
    .exact .inr ⟨qad (i:=7) rfl,CV FY (k:=7) U [5,1] rfl⟩
    .exact .inr ⟨qad (i:=8) rfl,CV FY (k:=8) U [5,1] rfl⟩
    .exact .inr ⟨qad (i:=9) rfl,CV FY (k:=9) U [5,1] rfl⟩
    .exact .inr ⟨qad (i:=10) rfl,CV FY (k:=10) U [5,1] rfl⟩
   .exact Nat.ne_of_lt (qau (fo_lt FY (by rfl) y hy) hbj)
   .refine⟨K.m,(fun q hq=>?_),K.few⟩;have h5:=(K.ok q hq).1;refine⟨⟨Rdx.read h5 H.ext fun y hy=>?_,?_⟩,(K.ok q hq).2⟩
    .simp only[qac,qam,or_false]at hy
     rcases hy with rfl|rfl
     .exact lbs
     .exact l11
    .rcases Rd.lt8 h5.1 with h6|h6
     .exact .inl h6
     .exact h5.2.imp id fun h7 h8=>h8.elim h7 fun h9=>by omega
  |2,hi,⟨l,z1,z2,bj,al,nl,cl,N,J,hxI,hbj,hN,hbw,SF,FY,K,hk,hM⟩ =>
   cases hi
   have hkW:∀x∈L0.map toW,x.Few:=fun x hx=>by
    obtain⟨y,hy,rfl⟩:=qah.1 hx;exact⟨(ho y hy).2.1,(ho y hy).2.2⟩
   have hn0:=Ji (m:=0) (kv:=[]) (n:=0) (L:=L0.map toW) (fun q hq=>by cases hq) hkW (by decide) (by decide);rw[qai,Int.zero_add]at hn0
   have hm3:∀y∈[bs,m1,m2],y<wb.heap.size:=fun y hy=>by
    simp only[qac,qam,or_false]at hy
    rcases hy with rfl|rfl|rfl <;> assumption
   have hg3:∀y∈[bs,m1,m2],wI.heap.size<=y:=fun y hy=>hnew y (by simp only[qac,qam,or_false]at hy |-;rcases hy with h|h|h <;> simp[h])
   have hno:∀y∈[bs,m1,m2],¬Fj F bj y:=fun y hy h5=>by
    have h6:=hm3 y hy
    rcases h5 with h5|h5
    .exact fs4 y (by simp only[qac,qam,or_false]at hy |-;rcases hy with h|h|h <;> simp[h]) h5
    .omega
   refine⟨by kernel_rfl,(Aj5 (bs:=bs) (m1:=m1) (m2:=m2) (gen:=gen) (vd:=ptr bd) (vj:=ptr bj) (vp:=ptr bp) (vt:=ptr bt) (root:=root) (n:=Eh [] 0 (L0.map toW)) (N:=N) (T:=L0.length) (Fo.at FY (k:=1) rfl) (Fo.at FY (k:=2) rfl) (by rw[hRL]at SF;exact SF) (fun y hy=>qau (hm3 y hy) hN) ?_ ?_ (Ctx.startL (L:=[(bs,Bl CU (CN (ptr bd) (ptr bj) (ptr bp) (ptr bt) gen root m1 m2 (Eh [] 0 (L0.map toW)) false)),(m1,z1),(m2,z2)]) (fun y hy=>?_) ?_) K hM (fun y hy => .inl (hm3 y hy)) (fun y hy=>hy.elim (fun h=>qau h (by omega)) fun h=>by omega) hW hWn).mono fun v w'' ⟨hv,l',z1',z2',D⟩=>⟨0,hv,.inl ⟨rfl,l',z1',z2',bj,al,nl,cl,J.over D.H.ext hno (fun y hy=>qaw hw0 (hg3 y hy)),hxI.then D.H.ext (fun y hy => .inr (hg3 y hy)),hbj,My FY D.H.ext rfl (fun y hy=>?_),D.K,by rw[D.k,hk],D.m⟩⟩⟩
   .exact CV FY (k:=2) U [5,7,6] U
   .exact CV FY (k:=1) U [5,7,6] U
   .simp only[qac,qam,or_false]at hy
    rcases hy with rfl|rfl|rfl
    .exact Fo.at FY (k:=5) U
    .exact Fo.at FY (k:=7) U
    .exact Fo.at FY (k:=6) U
   .exact Yt (Dd FY 5 7 U U) (Dd FY 5 6 U U) (Dd FY 7 6 U U)
   .have Hb:=D.H;rw[hk]at Hb;simp only[qbx,qa7,qac,qam,or_false]at hy
    rcases hy with rfl|rfl|rfl|rfl|rfl|rfl|rfl|rfl|rfl|rfl|rfl
    .exact .inr ⟨qad (i:=0) rfl,CV FY (k:=0) U [5,7,6] rfl⟩
    .exact .inr ⟨qad (i:=1) rfl,CV FY (k:=1) U [5,7,6] rfl⟩
    .exact .inr ⟨qad (i:=2) rfl,CV FY (k:=2) U [5,7,6] rfl⟩
    .exact .inr ⟨qad (i:=3) rfl,CV FY (k:=3) U [5,7,6] rfl⟩
    .exact .inr ⟨qad (i:=4) rfl,CV FY (k:=4) U [5,7,6] rfl⟩
    .exact .inl (Hb.get at0)
    .exact .inl (Hb.get at2)
    .exact .inl (Hb.get at1)
    .exact .inr ⟨qad (i:=8) rfl,CV FY (k:=8) U [5,7,6] rfl⟩
    .exact .inr ⟨qad (i:=9) rfl,CV FY (k:=9) U [5,7,6] rfl⟩
    .exact .inr ⟨qad (i:=10) rfl,CV FY (k:=10) U [5,7,6] rfl⟩
theorem Yu(O:Own w0 w bd A F)(g:SG (m+362) A R V)(hmay:K3 A=0)(hm:1<=m)(hE:EG A=0)(hLo:DS A=tpB root R.first R.seq)(hG:F8 A=gen)(hroot : -1<=root/\root<=4294967294)(hR:R.size=360/\1<=R.seq/\R.seq<=4611686018427387904)(td:Told 362 A (List.replicate m 0) root L0 S)(hS:∀x∈S,x<m)(hnd:S.Nodup)(hL:Rising L0)(ho:OkP L0)(hLn:L0.length<=50000)(hRL:R.L=Ws.map opB)(hW:∀W∈Ws,W.length<=1000/\∀x∈W,x.Few)(hWn:Ws.length<=400) :
  Ret prog 19 #[ptr bd] w fun v w'=>∃p,v=.tuple #[ptr p.bs,.int .i64 0]/\p.bd=bd/\Sok w0 w' p A R ⟨gen,root,Eh (kv1 L0) (Eh [] 0 (L0.map toW)) Ws.flatten,Gb (kv1 L0) Ws.flatten,Ev [] Ws.flatten,pgU m S,L0.length+Ws.flatten.length,V⟩ F/\Ext [] w w'/\(∀y,Ms F p y->F y\/w.heap.size<=y)/\(∀y,y<w.heap.size->p.z y):=by
 obtain⟨wI,rfl⟩:=qD w;have hN:=g.lim;have hlen:=g.len;have hok:=g.ok;have H:=Ctx.start wI []
 have hrt:tpR (tpB root R.first R.seq)=tpC root R.first R.seq:=Ack hroot (by have:=hok.a;omega)
 have htl:=DZ root R.first R.seq
 refine A8 (fn:=f19) func19 U [ptr bd] U (Ad (Cu _ (.pointer _) U U H ?_));rintro b1 w - H;refine B7 U (Ac U (qA (Ar (Ad (AH Dm U H at0 U (Aj qB (VW (O.call H.ext).dev) U ?_))))));rintro v w ⟨rfl,rfl⟩;rw[hmay];refine Ac U (qA (Ad (Ae U (Be U U (qA (Av _ U ?_ ?_))))))
 .intro h1;replace h1:=Bv h1;exact absurd U h1
 .intro h1;replace h1:=Bw h1;refine Ap (Aa (Ad (AH Dm U H at0 U (Aj qB (S7 g.good.few (O.call H.ext).dev) U ?_))));rw[hG,hE,hLo];rintro v w ⟨a19,c19,rfl,R19,h19,-,hx19⟩;replace H:=H.call hx19;refine AW U (Ai U U (Ai U U (Ai U U (Ac U (Ak U (Ac U (qA (Ar (Ad ?_)))))))));refine Ae U (Be U U (qA (Av _ U ?_ ?_)))
  .intro h2;replace h2:=Bv h2;exact absurd U h2
  .intro h2;replace h2:=Bw h2;refine Ap (Aa (Ad (Ah U (Aj qB (Xz a19 c19 (tpB root R.first R.seq) _ R19 h19) U ?_))));rw[hrt,qal htl];rintro v w ⟨rfl,hx28⟩;replace H:=H.call hx28;refine AW U (Ai U U (Ai U U (Bi Si H ?_)));rintro b8 w - H;refine Bo NL U U U (by simp[Bh]) H at0 U ?_;rintro w H;refine Am U (qA (Ar (Ad (AF U (Cl U (qA (Av _ U ?_ ?_)))))))
   .intro h3;replace h3:=C8 h3;exact absurd h3 (by decide)
   .intro h3;replace h3:=CA h3;refine Ap (Aa (Ad (AH Dm U H at1 U (Ae U (Aj qB (Xt _ (O.call H.ext).dev hlen ⟨hm,by omega⟩ gen) U ?_)))));rintro v w ⟨bs,m1,m2,o1,o2,bp,ba,bt,rfl,hm1,hm2,HE⟩;replace H:=H.callEnt HE.ext (fun x hx=>⟨HE.blk x hx,(HE.own x hx).resolve_left (by simp)⟩) HE.nd;refine AW U (Ai U U (Ai U U (Bi Ahu H ?_)));rintro b10 w - H;refine Bf (.pointer _) Ahp U U U H at0 (by decide) ?_;rintro w H;refine Ac U (qA (Ar (Ad (Ae U (Be U U (qA (Av _ U ?_ ?_)))))))
    .intro h4;replace h4:=Bv h4;exact absurd U h4
    .intro h4;replace h4:=Bw h4;refine Ap (Aa (Ad (AH F6 U H at0 U (Af Abh U (AH DV U H at1 U (A7 U (Af Jw U (Bf (.int _ _) HN U U U H at3 (by(simp;done)) ?_))))))));rintro w H;refine qA (Ad (Bi zc_69 H ?_));rintro b11 w - H;refine qA (Ad (AH F6 U H at1 U (Wu (ptr bs) U U ?_)));refine CG [.pointer _,.pointer _,.pointer _,.pointer _] U (CG [.pointer _,.pointer _] U (Cc (opF b11 b10 b8 b1 bs) Pa WU Abk H ?_));rintro b51 w - H;have hall:=(fun(k:Nat) (b:Nat) (o:Obj) (hy)=>(H.own (b,o) (qad (i:=k) hy)).resolve_left (by simp));have hnw:∀y∈[bs,m1,m2,ba,b11],wI.heap.size<=y:=(by simp only[qac,qam,or_false,forall_eq_or_imp,forall_eq];exact⟨hall 5 bs _ rfl,hall 7 m1 _ rfl,hall 6 m2 _ rfl,hall 9 ba _ rfl,hall 1 b11 _ rfl⟩)
     have hnp:wI.heap.size<=bp/\wI.heap.size<=bt:=⟨hall 8 bp _ rfl,hall 10 bt _ rfl⟩;have hFw:=(O.call H.ext);have hlw:=(fun(k:Nat) (b:Nat) (o:Obj) (hy)=>Al (H.blk (b,o) (qad (i:=k) hy)));have hlow:=And.intro (hlw 5 bs _ rfl) (And.intro (hlw 7 m1 _ rfl) (And.intro (hlw 6 m2 _ rfl) (And.intro (hlw 8 bp _ rfl) (And.intro (hlw 9 ba _ rfl) (hlw 10 bt _ rfl)))));clear hlw;refine Aj qB (Amn (wI:=wI) (b16:=b51) (b11:=b11) (b10:=b10) (b8:=b8) (b1:=b1) (bs:=bs) (bp:=bp) (ba:=ba) (bt:=bt) (gen:=gen) (m1:=m1) (m2:=m2) (m:=m) (root:=root) (L0:=L0) (S:=S) (Ws:=Ws) (o1:=o1) (o2:=o2) O.ext.size ⟨O.call H.ext,H.ext,Ext.refl _ _,ZW H (fun x h=>(O.own x h).2) (List.Sublist.refl _)⟩ H.ext g hR hnw hm1 hm2 td hS hnd hL ho hLn hRL hW hWn) U ?_;rintro v w ⟨e,rfl,he⟩;obtain⟨rfl,l,z1,z2,bj,al,nl,cl,J,hxI,hbj,FY,K,hk,hM⟩:=he.resolve_right (fun h=>h.2);clear he;clear hall;clear H
     refine Ac U (qA (Ar (Ad (Ae U (Be U U (qA (Av _ U ?_ ?_)))))))
     .intro h5;replace h5:=Bv h5;exact absurd U h5
     .intro h5;replace h5:=Bw h5;refine Ap (Aa (Ad (Bd F6 U ((by rw[Aq (Fo.at FY (k:=2) rfl)];rfl)) ?_)));refine B7 U (Ac U (qA (A6 (Cs (v1:=(.pointer _)) (v2:=(.int _ _)) U U U U ?_))));have hpl:(pgU m S).length=m:=by rw[Kb,qa8]
      have hge:∀q∈[bs,m1,m2,bp,ba,bt],wI.heap.size<=q:=fun q hq=>by
       simp only[qac,qam,or_false]at hq
       rcases hq with h|h|h|h|h|h <;> rw[h]
       .exact hnw _ (by simp)
       .exact hnw _ (by simp)
       .exact hnw _ (by simp)
       .exact hnp.1
       .exact hnw _ (by simp)
       .exact hnp.2
      have hkW:∀x∈L0.map toW,x.Few:=fun x hx=>by
       obtain⟨y,hy,rfl⟩:=qah.1 hx;exact⟨(ho y hy).2.1,(ho y hy).2.2⟩
      have hfW:∀x∈Ws.flatten,x.Few:=fun x hx=>by
       obtain⟨W,hW1,hW2⟩:=qe8.1 hx;exact(hW W hW1).2 x hW2
      have hfl:Ws.flatten.length<=400000:=by
       have h6:=Vn (L:=Ws) (m:=1000) fun W hW1=>(hW W hW1).1;have h7:1000*Ws.length<=1000*400:=qb7 _ hWn;omega
      have hk1:∀q∈kv1 L0,q.1.length<=32/\q.2.length<=128:=fun q hq=>by
       have h6:=(Vm L0 hL).perm.mem_iff.1 hq;exact(ho q h6).2
      have hn0:=Ji (m:=0) (kv:=[]) (n:=0) (L:=L0.map toW) (fun q hq=>by cases hq) hkW (by decide) (by decide);rw[qai,Int.zero_add]at hn0;have hn1:=Ji (m:=L0.length) (n:=Eh [] 0 (L0.map toW)) hk1 hfW (by omega) (by omega);have htt:=P3 (W:=Ws.flatten) (t:=[]) (T:=0) (fun q hq=>by cases hq) (by decide);refine⟨⟨bd,bs,bj,bp,ba,bt,m1,m2,fun y=>y<wI.heap.size⟩,rfl,rfl,⟨J,by rw[hlen];exact g,⟨l,z1,z2,?_,K.weak fun y hy=>?_,hk,hM⟩,fun q hq=>qaw O.ext.size (hge q hq),hn1,(fun q hq=>by have:=htt q hq;dsimp only;omega),by dsimp only;omega,fun y hy=>qau hy hxI.size⟩,hxI,fun y hy=>?_,fun y hy=>hy⟩
      .refine Acj FY (fun y hy=>?_) ?_
       .simp only[Sp.blk,qac,qam,or_false,hpl]at hy
        rcases hy with rfl|rfl|rfl|rfl|rfl|rfl
        .exact qad (i:=5) U
        .exact qad (i:=7) U
        .exact qad (i:=6) U
        .exact qad (i:=8) U
        .exact qad (i:=9) U
        .exact qad (i:=10) U
       .have hp6:=FY.nd.sublist (List.drop_sublist 5 _);simp only[Sp.blk,hpl];exact(List.Perm.pairwise_iff (fun h=>Ne.symm h) ((List.Perm.swap _ _ _).cons _)).1 hp6
      .rcases hy with((hy|hy)|hy)|hy
       .exact .inl (hFw.own y hy).2
       .exact .inr hy
       .simp only[Sp.own,qac,qam,or_false]at hy;left
        rcases hy with h|h|h|h|h|h <;> rw[h]
        .exact hlow.1
        .exact hlow.2.1
        .exact hlow.2.2.1
        .exact hlow.2.2.2.1
        .exact hlow.2.2.2.2.1
        .exact hlow.2.2.2.2.2
       .left;have h1:=hnw bs (by simp);have h2:=hlow.1;have h3:y<wI.heap.size:=hy;omega
      .rcases hy with(hy|hy)|hy
       .exact .inl hy
       .right;have h1:=hnw bs (by simp);have h2:=hlow.1;have h3:y=bj:=hy;omega
       .exact .inr (hge y hy)
end
theorem QE{l:Byt}{i:Nat}{p:UInt8}(h:l[i]?=some p):l.drop i=p::l.drop (i+1):=by
 obtain⟨h1,h2⟩:=qap.1 h;rw[qdz h1,h2]
theorem Yv:∀(a:Byt) {x y:Byt},DU (a++x) (a++y)=DU x y
 | [],x,y=>rfl
 |p::a,x,y=>by
  rw[qbx,qbx,GQ,if_neg (UInt8.lt_irrefl p),if_neg (UInt8.lt_irrefl p),Yv a]
theorem Mz{x y:Byt}{i:Nat}(h:x.take i=y.take i):DU x y=DU (x.drop i) (y.drop i):=by
 have h1:=Yv (x.take i) (x:=x.drop i) (y:=y.drop i);rw[qbl,h,qbl]at h1;exact h1
theorem M6(a a2:Option Addr)(c c2:Nat)(x y:Byt)(w:World)(Rx:Rd w a 1 B8 x)(Ry:Rd w a2 1 B8 y)(hx:x.length<=1000000000)(hy:y.length<=1000000000:=by omega):
  Ret prog 69 #[.slice a x.length c,.slice a2 y.length c2] w fun v w'=>v=.int .i64 (DU x y)/\Ext [] w w':=by
 obtain⟨w0,rfl⟩:=qD w;refine A8 (fn:=f69) func69 U [.slice a x.length c,.slice a2 y.length c2] U ?_;refine Ad (Ac U (qA (Ar (Ad (Ac U (qA (AB (B6 68719476720 (α:=Nat) (fun i=>[(5,.int .i64 (i:Int))]) (fun i w'=>i<=x.length/\i<=y.length/\x.take i=y.take i/\Ext [] w0 w') (fun i=>x.length - i) 0 U ?_ ?_ ?_))))))))
 .exact⟨rfl,trivial⟩
 .exact⟨qak _,qak _,rfl,Ext.refl _ _⟩
 .rintro i j w1 ⟨hi,hi2,ht,hE⟩;have H:=Ctx.start w1 [];refine Ar (Ad (BG (α:=Unit) 65472 (fun _=>[(15,.bool ((decide (i<x.length) && decide (i<y.length))))]) (fun _ w'=>w1=w') U ?_ ?_))
  .refine Ae U (Ah U (AO AX U (Bj U U (AF U (AQ 10 U ?_ ?_)))))
   .intro h1;replace h1:=AR h1;refine Ae U (Ah U (AO AX U (Bj U U (AN U (.bool _) U (Ab ?_)))));exact⟨rfl,(),rfl,⟨qab Value.bool (by simp_all;try omega),trivial⟩,rfl⟩
   .intro h2;replace h2:=AU h2;refine Ag U (Ag U (Ag U (Ag U (AM U (.bool _) U (Ab ?_)))));exact⟨rfl,(),rfl,⟨qab Value.bool (by simp_all;try omega),trivial⟩,rfl⟩
  rintro - j15 w rfl;refine Av _ U ?_ ?_
  .intro h1;simp only[qao,qaq]at h1;obtain⟨p,hp⟩:=AP (l:=x) (i:=i) (h:=h1.1);obtain⟨q,hq⟩:=AP (l:=y) (i:=i) (h:=h1.2);have hcm:=Mz ht;rw[QE hp,QE hq,GQ]at hcm;have hEd:=hE.trans (Ext.drew [] w1);have hEdd:=hEd.trans (Ext.drew [] w1.drew);refine Ap (Aa (Ar (AB (Ar (J9 (fun x=>x=_) mixed U ?_)))));refine Gm U (DK U (Ej Rx AX CJ U U (hn:=by rfl) ?_));refine Ig Qu U (by rintro _ rfl;exact(((Rx.ext0 hEd).one (f:=bv) hp))) ?_;refine Gm U (DK U (Ej Ry AX CJ U U (hn:=by rfl) ?_));refine Ig Qu U (by rintro _ rfl;exact(((Ry.ext0 hEd).one (f:=bv) hq))) ?_;refine q_lss U U U (Js ?_);rintro _ rfl;replace H:=H.drew;refine Av _ U ?_ ?_
   .intro h2;replace h2:=AR h2;refine Ad (Ac U (qA (A6 (Ao (AK (Ao (Ao (AK (Ao (AG (v:=(.int _ _)) U U U ?_))))))))));exact⟨by rw[hcm,if_pos (UInt8.lt_iff_toNat_lt.2 (by omega))],hEd⟩
   .intro h2;replace h2:=AU h2;refine Ap (Aa (J9 (fun x=>x=_) mixed U ?_));refine Gm U (DK U (Ej Rx AX CJ U U (hn:=by rfl) ?_));refine Ig Qu U (by rintro _ rfl;exact(((Rx.ext0 hEd).one (f:=bv) hp))) ?_;refine Gm U (DK U (Ej Ry AX CJ U U (hn:=by rfl) ?_));refine Ig Qu U (by rintro _ rfl;exact(((Ry.ext0 hEd).one (f:=bv) hq))) ?_;refine q_gtr U U U (Js ?_);rintro _ rfl;replace H:=H.drew;refine Av _ U ?_ ?_
    .intro h3;replace h3:=AR h3;refine Ad (Ac U (qA (A6 (AK (Ao (Ao (AK (Ao (AG (v:=(.int _ _)) U U U ?_)))))))));exact⟨by rw[hcm,if_neg (fun h=>by have:=UInt8.lt_iff_toNat_lt.1 h;omega),if_pos (UInt8.lt_iff_toNat_lt.2 (by omega))],hEdd⟩
    .intro h3;replace h3:=AU h3;refine Ap (AE (Aa (Au (Ae U (Ay U U ?_)))));refine Ac U (qA ?_);have he:p=q:=UInt8.toNat_inj.1 (by omega);exact⟨i+1,rfl,⟨rfl,trivial⟩,⟨by omega,by omega,by rw[Bp hp,Bp hq,ht,he],hEdd⟩,by omega⟩
  .intro h1;simp only[qe5,qct]at h1;refine B2 (Aw (Aw (AZ (Aa (Ar (Ad (Ah U (AO AX U (Ah U (AO AX U (Bj U U (qA (Av _ U ?_ ?_)))))))))))))
   .intro h2;replace h2:=AR h2;refine Ad (Ac U (qA (A6 (Ao (AG (v:=(.int _ _)) U U U ?_)))));obtain⟨q,hq⟩:=AP (l:=y) (i:=i);exact⟨by rw[Mz ht,qd1 (by omega),QE hq];rfl,hE⟩
   .intro h2;replace h2:=AU h2;refine Ap (Aa (Ar (Ad (Ah U (AO AX U (Ah U (AO AX U (BZ U U (qA (Av _ U ?_ ?_))))))))))
    .intro h3;replace h3:=AR h3;refine Ad (Ac U (qA (A6 (Ao (AG (v:=(.int _ _)) U U U ?_)))));obtain⟨q,hq⟩:=AP (l:=x) (i:=i);exact⟨by rw[Mz ht,qd1 (show y.length<=i by omega),QE hq];rfl,hE⟩
    .intro h3;replace h3:=AU h3;refine Ap (Aa (Ad (Ac U (qA (A6 (AG (v:=(.int _ _)) U U U ?_))))));exact⟨by rw[Mz ht,qd1 (by omega),qd1 (by omega)];rfl,hE⟩
theorem OC(a a2:Option Addr)(c c2:Nat)(x y:Byt)(w:World)(Rx:Rd w a 1 B8 x)(Ry:Rd w a2 1 B8 y)(hx:x.length<=1000000000:=by omega)(hy:y.length<=1000000000:=by omega):
  Ret prog 68 #[.slice a x.length c,.slice a2 y.length c2] w fun v w'=>v=.bool (decide (x=y))/\Ext [] w w':=by
 obtain⟨w0,rfl⟩:=qD w;refine A8 (fn:=f68) func68 U [.slice a x.length c,.slice a2 y.length c2] U (Ad (Am U (qA (Ad (Ah U (Ah U (Aj qB (M6 a a2 c c2 x y _ Rx Ry hx (hy:=hy)) U ?_)))))));rintro v w ⟨rfl,hx7⟩;refine BA U U (Am U (qA (A6 (AG (v:=(.bool _)) U U U ?_))));exact⟨qab Value.bool (decide_eq_decide.2 ⟨NT,fun h=>by rw[h];exact Mi _⟩),hx7⟩
theorem Ty{w:World}{M M2:Mut}{a b:Option Addr}{n c m d:Nat}{L K:List Pr}(PL:Prs w M a n c L)(PK:Prs w M2 b m d K)(hL:∀p∈L,p.1.length<=1000/\p.2.length<=1000)(hK:∀p∈K,p.1.length<=1000/\p.2.length<=1000)(hn:n<=100000000:=by omega)(hm:m<=100000000:=by omega):
  Ret prog 21 #[.slice a n c,.slice b m d] w fun v w'=>v=.bool (decide (L=K))/\Ext [] w w':=by
 obtain⟨w0,rfl⟩:=qD w;obtain⟨ps,Rp,-,hl,hp⟩:=PL.ex;obtain⟨qs,Rq,-,hk,hq⟩:=PK.ex;have hnL:=PL.num;have hmK:=PK.num;have hpn:ps.length=n:=by rw[hnL,<-hl,qai]
 have hqm:qs.length=m:=by rw[hmK,<-hk,qai]
 refine A8 (fn:=f21) func21 U [.slice a n c,.slice b m d] U (Ad (Am U (qA (Ar (Ad (Ah U (AO Cb U (Ah U (AO Cb U (Be U U ?_))))))))));refine qA (Av _ U ?_ ?_)
 .intro hA;replace hA:=Bv hA;refine Ad (Am U (qA (A6 (Ao (AG (v:=(.bool _)) U U U ?_)))));exact⟨qab Value.bool (qag fun h=>hA (by rw[h]at hnL;omega)).symm,.refl _ _⟩
 .intro hA;replace hA:=Bw hA;have hnm:n=m:=by omega
  refine Ap (Aa (Ar (Ad (Ac U (qA (AB (B6 8796093020208 (α:=Nat) (fun i=>[(5,.int .i64 (i:Int))]) (fun i w'=>i<=n/\Ext [] w0 w'/\L.take i=K.take i) (fun i=>n - i) 0 U ?_ ?_ ?_)))))))
  .exact⟨rfl,trivial⟩
  .exact⟨qak _,.refl _ _,rfl⟩
  .rintro i j w ⟨hi,hE,he⟩;have H:=(Ctx.start w []);refine Ar (Ad (Ae U (Ah U (AO Cb U (Bj U U (qA (Av _ U ?_ ?_)))))))
   .intro hB;replace hB:=AR hB;obtain⟨x,hx1⟩:=AP (l:=ps) (i:=i);obtain⟨y,hy1⟩:=AP (l:=qs) (i:=i);have hxo:=hp x (qad hx1);have hyo:=hq y (qad hy1);have hxL:L[i]?=some (prI x.it):=by rw[<-hl,qas,hx1];rfl
    have hyK:K[i]?=some (prI y.it):=by rw[<-hk,qas,hy1];rfl
    have hxf:x.it.key.length<=1000/\x.it.val.length<=1000:=hL _ (qad hxL);have hyf:y.it.key.length<=1000/\y.it.val.length<=1000:=hK _ (qad hyK);have hne:prI x.it≠prI y.it->¬L=K:=fun h e=>h (by rw[e]at hxL;exact qbw (hxL.symm.trans hyK));refine Ap (Aa (Ar (AB (BV [([0,1,2,3,4,5,6,7,8,9],10),([11,12,13,14,15,16,17,18,19,20,21,22],23),([24],25)] (fun z=>Ext [] w0 z) [] mixed (hE.trans (Ext.drew [] w)) ?_))));refine AD U U (B9 U (B0 U (BX Rp Cb CR U U ?_)));refine AC Fa U (BC B1 U (fun _ hx=>(Rp.ext0 hx).fld hx1 rfl (j:=0) rfl) ?_);refine B9 U (B0 U (BX Rq Cb CR U U ?_));refine AC Fa U (BC B1 U (fun _ hx=>(Rq.ext0 hx).fld hy1 rfl (j:=0) rfl) ?_);refine AV ?_;replace H:=H.drew
    refine Aj qB (OC _ _ _ _ x.it.key y.it.key _ (hxo.k.1.ext0 (hE.trans H.ext)) (hyo.k.1.ext0 (hE.trans H.ext))) U ?_;rintro v w ⟨rfl,hx27⟩;replace H:=H.call hx27;refine Ab (Bb (hE.trans H.ext) (AD U U ?_));refine Af8 U U (LV U U (KS 29 U ?_ ?_))
    .intro hC;replace hC:=C8 hC;have hC':¬x.it.key=y.it.key:=by simpa using hC
     refine Cp U (Cp U (Cp U (Cp U (Cp U (Cp U (Cp U (Cp U (Cp U (Cp U ?_)))))))));refine AV (Ag U (Ab (Bb (hE.trans H.ext) (AD U U ?_))));refine Cp U (AV (AN U (.bool _) U (Ab (Bb (hE.trans H.ext) (B4 (EI U (Ad (Am U (qA (A6 (AK (Ao (Ao (AK (Ao (AG (v:=(.bool _)) U U U ?_))))))))))))))));exact⟨qab Value.bool (qag (hne fun e=>hC' (qab Prod.fst e))).symm,hE.trans H.ext⟩
    .intro hC;replace hC:=CA hC;have hC':x.it.key=y.it.key:=by simpa using hC
     refine B9 U (B0 U (BX Rp Cb CR U U ?_));refine AC Ju U (BC B1 U (fun _ hx=>(Rp.ext0 hx).fld hx1 rfl (j:=1) rfl) ?_);refine B9 U (B0 U (BX Rq Cb CR U U ?_));refine AC Ju U (BC B1 U (fun _ hx=>(Rq.ext0 hx).fld hy1 rfl (j:=1) rfl) ?_);refine AV (Aj qB (OC _ _ _ _ x.it.val y.it.val _ (hxo.v.1.ext0 (hE.trans H.ext)) (hyo.v.1.ext0 (hE.trans H.ext))) U ?_);rintro v w ⟨rfl,hx40⟩;replace H:=H.call hx40;refine Ab (Bb (hE.trans H.ext) (AD U U ?_));refine Af8 U U (AV (AM U (.bool _) U (Ab (Bb (hE.trans H.ext) (B4 (Av _ U ?_ ?_))))))
     .intro hD;replace hD:=C8 hD;have hD':¬x.it.val=y.it.val:=by simpa using hD
      refine Ad (Am U (qA (A6 (AK (Ao (Ao (AK (Ao (AG (v:=(.bool _)) U U U ?_)))))))));exact⟨qab Value.bool (qag (hne fun e=>hD' (qab Prod.snd e))).symm,hE.trans H.ext⟩
     .intro hD;replace hD:=CA hD;have hD':x.it.val=y.it.val:=by simpa using hD
      refine Ap (AE (Aa (Au (Ae U (Ay U U ?_)))));refine Ac U (qA ?_);exact⟨i+1,rfl,⟨rfl,trivial⟩,⟨by omega,hE.trans H.ext,by rw[Bp hxL,Bp hyK,he,show prI x.it=prI y.it by unfold prI;rw[hC',hD']]⟩,by omega⟩
   .intro hB;replace hB:=AU hB;refine B2 (Aw (Aw (AZ (Aa (Ad (Am U (qA (A6 (AG (v:=(.bool _)) U U U ?_)))))))));rw[qa6 (by omega),qa6 (by omega)]at he;exact⟨qab Value.bool (qal he).symm,hE⟩
section
variable {w0 w w':World}{p:Sp}{A:Dev}{R:Rj}{x:Sx}{F:Mut}
theorem T7(O:Sok w0 w p A R x F)(hl:A.left = -1)(a:Option Addr)(nn c:Nat)(L:List Wr)(X:Wrs w (Ms F p) a nn c L)(hT:x.T<=3000000)(hr:Ef x.kv x.n (Da A.B.length) L=0)(hfit:BF R.L+blk (opB L).length<=R.size)(hnn:nn<=1000000000:=by decide)(hne:L≠[]:=by decide):
  Ret prog 13 #[ptr p.bs,.slice a nn c] w fun v w'=>v=.int .i64 0/\∃A' F' x',Sok w0 w' p A' (R.more (opB L)) x' F'/\x'.gen=x.gen/\x'.root=x.root/\x'.n=Eh x.kv x.n L/\x'.kv=Gb x.kv L/\x'.t=Ev x.t L/\x'.P=x.P/\x'.T=x.T+L.length/\A'.B.length=A.B.length/\A'.left = -1/\(∀q,(q<2\/2+R.size<=q)->q<A.B.length->x'.V q=x.V q)/\Grown (Ms F p) (Ms F' p) w w':=by
 refine(Nq (C:=fun A1 R1 x1=>A1=A/\R1=R/\x1=x) (Z:=fun _=>False) O a nn c L X hnn hT (fun⟨h1,h2,h3⟩=>by subst h1 h2 h3;exact⟨rfl,rfl,rfl,rfl,hfit⟩) (fun _ _ _=>⟨rfl,rfl,rfl⟩) (fun _ _ _ _ h=>absurd hfit h)).mono fun v w' h=>?_
 rcases h with⟨-,h,-⟩|⟨-,-,hv,A1,R1,x1,A',F',V',⟨h1,h2,h3⟩,O',hln,hle,hV,G⟩|⟨-,-,-,A',F',-,-,h|⟨A1,R1,x1,⟨h1,-⟩,h2,-⟩⟩
 .rcases h with h|h
  .exact absurd hr h
  .exact absurd h hne
 .subst h1 h2 h3;exact⟨hv,A',F',_,O',rfl,rfl,rfl,rfl,rfl,rfl,rfl,hln,hle hl,hV,G⟩
 .cases h
 .rw[h1]at h2;exact absurd hl h2
theorem Aag(O:Sok w0 w p A R x F)(a:Option Addr)(nn c:Nat)(L:List Wr)(X:Wrs w (Ms F p) a nn c L)(hT:x.T<=3000000)(hr:Ef x.kv x.n (Da A.B.length) L≠0)(hnn:nn<=1000000000:=by decide):
  Ret prog 13 #[ptr p.bs,.slice a nn c] w fun v w'=>v=.int .i64 (Ef x.kv x.n (Da A.B.length) L)/\Sok w0 w' p A R x F/\Ext [] w w':=by
 refine(Nq (C:=fun _ _ _=>False) (Z:=fun _=>False) O a nn c L X hnn hT (fun h=>h.elim) (fun h=>absurd h hr) (fun _ _ h=>absurd h hr)).mono fun v w' h=>?_
 rcases h with⟨hv,-,O',hx⟩|⟨h,-⟩|⟨h,-⟩
 .exact⟨hv,O',hx⟩
 .exact absurd h hr
 .exact absurd h hr
theorem Wv{M:Mut}{b t:Nat}{m1 m2:Wm}(h:w.heap[b]?=some (Bl t (CE m1++CE m2)))(hb:¬M b)(h1:m1.Ok w M)(h2:m2.Ok w M):Wrs w M (some ⟨b,0,none⟩) 2 2 [m1.x,m2.x] :=
 ⟨⟨[m1,m2],Rd.of_bl (r:=[]) h (by simp) (fun _ _=>rfl),.inr hb,rfl,fun m hm=>by
  simp only[qac,qam,or_false]at hm
  rcases hm with rfl|rfl
  .exact h1
  .exact h2⟩,rfl,qae _⟩
theorem J7{wb:World}{M:Mut}{a:Option Addr}{l:Byt}(R:Rd w a 1 B8 l)(hn:l=[]\/wb.heap.size<=(adr a).block)(hM:∀y,M y->y<wb.heap.size):Rdx w M a l:=⟨R,hn.imp id fun h h5=>by have:=hM _ h5;omega⟩
end
def wrA:Wr:=⟨[97],[49],false⟩
def wrBb:Wr:=⟨[98],[50],false⟩
def wrG:Wr:=⟨[97],[],true⟩
def wrA3:Wr:=⟨[97],[51],false⟩
def wrC3:Wr:=⟨[99],[51],false⟩
def R09:Rj:=⟨[],360,0,1⟩
def W91:List (List Wr):=[[wrA,wrBb],[wrG,wrC3]]
theorem few91:∀W∈W91,W.length<=1000/\∀y∈W,y.Few:=by
 unfold W91 Wr.Few;simp only[qac,qam,or_false,forall_eq_or_imp,forall_eq];decide
theorem kl91:KL (Gb (kv1 []) W91.flatten) [([98],[50]),([99],[51])]:=KL.nil.sets (W:=W91.flatten)
theorem Ib{w w':World}{M:Mut}{a:Option Addr}{n c:Nat}{L:List Pr}(h:Prs w M a n c L)(hx:Ext [] w w'):Prs w' M a n c L:=by
 obtain⟨ps,R,hs,hl,hm⟩:=h.ex;exact⟨⟨ps,R.ext0 hx,hs,hl,fun m hm'=>⟨(hm m hm').k.call hx,(hm m hm').v.call hx,(hm m hm').kc,(hm m hm').vc⟩⟩,h.num,h.le⟩
theorem Amo{w:World}{b t:Nat}{m:Im}(h:w.heap[b]?=some (Bl t (Gz m)))(hk:Rd w m.ka 1 B8 m.it.key)(hv:Rd w m.va 1 B8 m.it.val)(h1:m.it.key.length<=m.kc)(h2:m.it.val.length<=m.vc):Prs w (fun _=>False) (some ⟨b,0,none⟩) 1 1 [prI m.it] :=
 ⟨⟨[m],Rd.of_bl (r:=[]) h (by simp) (fun _ _=>rfl),.inr id,rfl,fun y hy=>by rw[qaa.1 hy];exact⟨⟨hk,.inr id⟩,⟨hv,.inr id⟩,h1,h2⟩⟩,rfl,qae _⟩
theorem Apv:R09.Ok:=⟨by decide,by decide,by decide,by decide,by decide⟩
set_option maxRecDepth 100000 in
theorem M8(w:World):Ret prog 8 #[] w fun v w'=>v=.bool true/\Ext [] w w':=by
 obtain⟨w0,rfl⟩:=qD w;have g0:SG (80+362) (Fu 442) R09 (fun _=>zeros):=SG.new Apv rfl (by decide) (by decide);have l0:(Fu 442).left = -1:=rfl;obtain⟨e1,e2,e3⟩:=g0.load (g0:=0) (g1:=0) (l0:=[]) (l1:=[]) (GP _) (GP _) (fun h=>absurd h (by decide)) (fun _ h=>absurd h (by decide));rw[if_pos ⟨rfl,rfl⟩]at e1;rw[if_neg (by decide)]at e2 e3;rw[if_pos rfl]at e3;have em:K3 (Fu 442)=0:=by decide
 refine A8 (fn:=Tryz.f8) func8 U [] U (Ad (Am U (qA (Ad (Aj qB (Abp (by decide) (by decide) _) U ?_)))));rintro v w ⟨bd,F,rfl,O⟩;replace O:Own w0 w bd (Fu 442) F:=O;refine AW U (Ai U U (Ai U U (B7 U (Ac U (qA (Ar (Ad (Ae U (Be U U ?_)))))))));refine AF U (An U (BU MK U ?_));refine AM U (.bool _) U (qA (Bz U (Ap (Aa (Ad (An U (Aj qB (ZX O.dev em (by rw[e1];decide) g0.good.few) U ?_)))))));rw[e1];rintro v w ⟨rfl,hx28⟩;replace O:=O.call hx28;refine AW U (Ai U U (Ai U U (B7 U (Ac U (qA (Ad (An U (Aj qB (Acl (pq:=0) (qq:=1) O g0 l0 ⟨rfl,rfl,rfl,rfl⟩ (by decide) (by decide) (by rw[e2];decide) (by decide) em (.inl ⟨e1,e3,rfl,rfl⟩)) U ?_))))))));rw[e2];have hs1:=g0.save0 l0 (0+1) (tpB (-1) 0 1) (by decide) (by decide) (by rw[DZ];decide)
 generalize EB (Fu 442) (0+1) (tpB (-1) 0 1)=A1 at hs1 |-;clear O;rintro v w ⟨p,F1,rfl,hpb,O,-⟩;have hl1:=hs1.2.1;have hn1:=hs1.2.2.len;subst hpb;refine AW U (Ai U U (Ai U U (B7 U (Ac U (qA (Ar (Ad (Ae U (Be U U ?_)))))))));refine AF U (Ae U (Be U U (AM U (.bool _) U (AF U (An U (BU U2 U ?_))))));refine AM U (.bool _) U (AF U (An U ?_));have lt48:=O.lt;refine Aj qB (Acm [97] [49] _) U ?_;rintro v w48 ⟨hx48,m48,rfl,hm48,Rk48,Rv48,kc48,vc48,nk48,nv48⟩;replace O:=O.call hx48;refine Aj qB (Acm [98] [50] _) U ?_;rintro v w49 ⟨hx49,m49,rfl,hm49,Rk49,Rv49,kc49,vc49,nk49,nv49⟩;have lt49:=O.lt;replace O:=O.call hx49;have lt50:=O.lt;have H:=Ctx.start w49 [];refine Cc (CE m48++CE m49) Cn Cw F7 H ?_;rintro b50 w hb50 H;have hx50:=H.ext
 have X51:=Wv (M:=Ms F1 p) (H.get at0) (fun h=>by have:=lt50 _ h;omega) ⟨J7 (by rw[hm48];exact(Rk48.ext0 hx49).ext0 hx50) (by rw[hm48];exact nk48) lt48,J7 (by rw[hm48];exact(Rv48.ext0 hx49).ext0 hx50) (by rw[hm48];exact nv48) lt48,by rw[hm48];exact kc48,by rw[hm48];exact vc48⟩ ⟨J7 (by rw[hm49];exact Rk49.ext0 hx50) (by rw[hm49];exact nk49) lt49,J7 (by rw[hm49];exact Rv49.ext0 hx50) (by rw[hm49];exact nv49) lt49,by rw[hm49];exact kc49,by rw[hm49];exact vc49⟩;rw[hm48,hm49]at X51;refine Aj qB (T7 (O.call hx50) hl1 (some ⟨b50,0,none⟩) 2 2 [wrA,wrBb] X51 (by decide) (by rw[hn1];decide +kernel) (by decide +kernel)) U ?_;rintro v w51 ⟨rfl,A2,F2,x2,O,hgen2,hroot2,hbn2,hkv2,-,hP2,hT2,hn2,hl2,hV2,-⟩;replace hkv2:x2.kv=[([97],[49]),([98],[50])]:=hkv2;replace hbn2:x2.n=12:=hbn2
 refine Be U U (AM U (.bool _) U (AF U (An U (Aj qB (Vf O) U ?_))));rintro v w ⟨rfl,rfl⟩;rw[hbn2];refine Be U U (AM U (.bool _) U (qA (Bz U (Ap (Aa (Ad (An U ?_)))))));have lt60:=O.lt;have H:=Ctx.start w51 [];refine Cc [bv 97] AX CJ IW H ?_;rintro b60 w hb60 H;refine FD (l:=[97]) AX Hm U H at0 ?_;rintro w61 H Rk61;have hx61:=H.ext;replace O:=O.call hx61;clear H;refine B5 (CE ⟨some ⟨b60,0,none⟩,1,none,0,wrG⟩) PW F7 ?_;have lt63:=O.lt;refine Aj qB (Acm [97] [51] _) U ?_;rintro v w63 ⟨hx63,m63,rfl,hm63,Rk63,Rv63,kc63,vc63,nk63,nv63⟩;replace O:=O.call hx63;have lt64:=O.lt;have H:=Ctx.start w63 [];refine Cc (CE ⟨some ⟨b60,0,none⟩,1,none,0,wrG⟩++CE m63) Cn Cw F7 H ?_;rintro b64 w hb64 H;have hx64:=H.ext
 have X65:=Wv (M:=Ms F2 p) (H.get at0) (fun h=>by have:=lt64 _ h;omega) ⟨⟨(Rk61.ext0 hx63).ext0 hx64,.inr fun h=>by have:=lt60 _ h;dsimp only[adr]at this;omega⟩,⟨Rd.nil,.inl rfl⟩,qae _,qae _⟩ ⟨J7 (by rw[hm63];exact Rk63.ext0 hx64) (by rw[hm63];exact nk63) lt63,J7 (by rw[hm63];exact Rv63.ext0 hx64) (by rw[hm63];exact nv63) lt63,by rw[hm63];exact kc63,by rw[hm63];exact vc63⟩;rw[hm63]at X65;have hr65:Ef x2.kv x2.n (Da A2.B.length) [wrG,wrA3]=1:=(by rw[hkv2,hbn2,hn2,hn1];decide +kernel);refine Aj qB (Aag (O.call hx64) (some ⟨b64,0,none⟩) 2 2 [wrG,wrA3] X65 (by rw[hT2];decide) (by rw[hr65];decide)) U ?_;rw[hr65];rintro v w65 ⟨rfl,O,-⟩;refine Ac U (qA (Ad (An U ?_)));have lt67:=O.lt;have H:=Ctx.start w65 [];refine Cc [bv 97] AX CJ IW H ?_;rintro b67 w hb67 H
 refine FD (l:=[97]) AX Hm U H at0 ?_;rintro w68 H Rk68;have hx68:=H.ext;replace O:=O.call hx68;clear H;refine B5 (CE ⟨some ⟨b67,0,none⟩,1,none,0,wrG⟩) PW F7 ?_;have lt70:=O.lt;refine Aj qB (Acm [99] [51] _) U ?_;rintro v w70 ⟨hx70,m70,rfl,hm70,Rk70,Rv70,kc70,vc70,nk70,nv70⟩;replace O:=O.call hx70;have lt71:=O.lt;have H:=Ctx.start w70 [];refine Cc (CE ⟨some ⟨b67,0,none⟩,1,none,0,wrG⟩++CE m70) Cn Cw F7 H ?_;rintro b71 w hb71 H;have hx71:=H.ext
 have X72:=Wv (M:=Ms F2 p) (H.get at0) (fun h=>by have:=lt71 _ h;omega) ⟨⟨(Rk68.ext0 hx70).ext0 hx71,.inr fun h=>by have:=lt67 _ h;dsimp only[adr]at this;omega⟩,⟨Rd.nil,.inl rfl⟩,qae _,qae _⟩ ⟨J7 (by rw[hm70];exact Rk70.ext0 hx71) (by rw[hm70];exact nk70) lt70,J7 (by rw[hm70];exact Rv70.ext0 hx71) (by rw[hm70];exact nv70) lt70,by rw[hm70];exact kc70,by rw[hm70];exact vc70⟩;rw[hm70]at X72;refine Aj qB (T7 (O.call hx71) hl2 (some ⟨b71,0,none⟩) 2 2 [wrG,wrC3] X72 (by rw[hT2];decide) (by rw[hkv2,hbn2,hn2,hn1];decide +kernel) (by decide +kernel)) U ?_;rintro v w72 ⟨rfl,A3,F3,x3,O,hgen3,hroot3,hbn3,hkv3,-,hP3,hT3,hn3,hl3,hV3,-⟩;replace hkv3:x3.kv=[([98],[50]),([99],[51])]:=(by rw[hkv3,hkv2];rfl);refine Ac U (qA (Ad (An U ?_)));have H:=Ctx.start w72 []
 refine Cc [bv 97] AX CJ IW H ?_;rintro b75 w - H;refine FD (l:=[97]) AX Hm U H at0 ?_;rintro w76 H Rk76;replace O:=O.call H.ext;clear H;refine Aj qB (Wo O (some ⟨b75,0,none⟩) 1 [97] Rk76) U ?_;rw[hkv3,show BJ ([([98],[50]),([99],[51])]:Kvl) [97]=none from rfl];rintro v w77 ⟨a77,c77,rfl,-,O,-⟩;refine AW U (Ai U U (Ai U U (Ai U U (Ak U (Am U (Ac U (qA (Ad (An U ?_)))))))));have H:=Ctx.start w77 [];refine Cc [bv 99] AX CJ IW H ?_;rintro b83 w - H;refine FD (l:=[99]) AX Hm U H at0 ?_;rintro w84 H Rk84;replace O:=O.call H.ext;clear H;refine Aj qB (Wo O (some ⟨b83,0,none⟩) 1 [99] Rk84) U ?_;rw[hkv3,show BJ ([([98],[50]),([99],[51])]:Kvl) [99]=some [51]from rfl];rintro v w85 ⟨a85,c85,rfl,R85,O,-⟩
 refine AW U (Ai U U (Ai U U (Ai U U (Ak U (Am U (Ac U (qA (Ar (Ad ?_)))))))));refine Ae U (Be U U (AF U (Ae U (Be U U (AM U (.bool _) U (AF U (AF U (AM U (.bool _) U (AF U ?_)))))))));refine AF U (Cl U (AM U (.bool _) U (AF U (Ah U (Kk (l:=[51]) AX Hm FA U R85 ?_)))));refine Af9 (l:=[51]) (m:=[51]) U U U (AM U (.bool _) U (AF U (An U ?_)));have hd9:=ZZ O;refine Aj qB (Abo hd9.1) U ?_;rw[hd9.2.on];rintro v w109 ⟨rfl,D109,-⟩;refine Be U U (AM U (.bool _) U (AF U (An U (Aj qB (Aie D109 none 0 0 [] Rd.nil U (by decide) (by decide) (.inl U) (fun _ h=>by cases h) hd9.2.good.few) U ?_))));rintro v w114 ⟨rfl,D114,-⟩;refine Be U U (AM U (.bool _) U (qA (Bz U (Ap (Aa ?_)))))
 have g4:SG (80+362) (onD (KF A3) []) ((R09.more (opB [wrA,wrBb])).more (opB [wrG,wrC3])) x3.V:=(by have h:=hd9.2.off [];rw[hn3,hn2,hn1]at h;exact h);have v0:x3.V 0=zeros:=by rw[hV3 0 (by decide) (by rw[hn2,hn1];decide),hV2 0 (by decide) (by rw[hn1];decide)];rfl
 have v1:x3.V 1=DH 1 (tpB (-1) 0 1):=by rw[hV3 1 (by decide) (by rw[hn2,hn1];decide),hV2 1 (by decide) (by rw[hn1];decide)];rfl
 obtain⟨f1,f2,f3⟩:=g4.load (g0:=0) (g1:=1) (l0:=[]) (l1:=tpB (-1) 0 1) (by rw[v0];exact GP _) (by rw[v1];exact Ng (gen:=1) (by rw[DZ];decide) (h1:=by decide) (hg:=by decide)) (fun h=>absurd h (by decide)) (fun _ _=>by rw[v1];exact Nh (gen:=1) (by rw[DZ];decide) (h1:=by decide) (hg:=by decide));rw[if_neg (by decide)]at f1 f2 f3;rw[if_neg (by decide)]at f3;have l4:=g4.len;have em4:K3 (onD (KF A3) [])=0:=by unfold K3;rw[g4.on,l4];decide
 have td4:=told (fr:=362) (A:=onD (KF A3) []) (P:=List.replicate 80 0) (root := -1) (L:=[]) (S:=[]) (.inl ⟨rfl,rfl,rfl⟩) g4.on (by rw[l4];decide) (by decide) qcb (fun _ h=>by cases h) List.Pairwise.nil;refine Ad (An U (Aj qB (Yu (m:=80) (gen:=1) (root := -1) (L0:=[]) (S:=[]) (Ws:=W91) D114 g4 em4 (by decide) f1 f3 f2 (by decide) ⟨rfl,by decide,by decide⟩ td4 (fun _ h=>by cases h) qcb List.Pairwise.nil (fun _ h=>by cases h) (by decide) U few91 (by decide)) U ?_));clear O;rintro v w119 ⟨p4,rfl,hb4,O,hx119,-,-⟩;refine AW U (Ai U U (Ai U U (B7 U (Ac U (qA (Ar (Ad (Ae U (Be U U ?_)))))))));refine AF U (An U (BU U2 U ?_));refine AM U (.bool _) U (qA (Bz U (Ap (Aa (Ad (An U ?_))))));have H:=Ctx.start w119 [];refine Cc [bv 98] AX CJ IW H ?_;rintro b130 w - H
 refine FD (l:=[98]) AX Hm U H at0 ?_;rintro w131 H Rk131;replace O:=O.call H.ext;clear H;have H:=Ctx.start w131 [];refine Cc [bv 99] AX CJ IW H ?_;rintro b132 w - H;refine FD (l:=[99]) AX Hm U H at0 ?_;rintro w133 H Rk133;replace O:=O.call H.ext;replace Rk131:=Rk131.ext0 H.ext;clear H;refine Aj qB (Yi O kl91.nd (by rw[kl91.len];decide) (some ⟨b130,0,none⟩) (some ⟨b132,0,none⟩) 1 1 [98] [99] Rk131 Rk133) U ?_;rw[show LI (Gb (kv1 []) W91.flatten) [98] [99]=[([98],[50])]from(kl91.scan [98] [99]).trans rfl];rintro v w134 ⟨a134,c134,rfl,P134,O,-⟩;refine AW U (Ai U U (Ai U U (Ak U (Ac U (qA (Ad (Ae U (BA U U (AF U ?_)))))))));refine Ah U ?_;have H:=Ctx.start w134 [];refine Cc [bv 98] AX CJ IW H ?_;rintro b141 w - H;refine FD (l:=[98]) AX Hm U H at0 ?_;rintro w142 H Rk142
 replace O:=O.call H.ext;have hx142:=H.ext;clear H;have H:=Ctx.start w142 [];refine Cc [bv 50] AX CJ IW H ?_;rintro b143 w - H;refine FD (l:=[50]) AX Hm U H at0 ?_;rintro w144 H Rk144;replace O:=O.call H.ext;have hx144:=H.ext;replace Rk142:=Rk142.ext0 hx144;clear H;have H:=Ctx.start w144 [];refine B5 (Gz ⟨some ⟨b141,0,none⟩,1,some ⟨b143,0,none⟩,1,⟨[98],[50],0⟩⟩) U1 Fd ?_;refine BI (Gz ⟨some ⟨b141,0,none⟩,1,some ⟨b143,0,none⟩,1,⟨[98],[50],0⟩⟩) (.agg _) Cb CR Fd U U U U H ?_;rintro b146 w - H;refine Aj qB (Ty (Ib P134 ((hx142.trans hx144).trans H.ext)) (Amo (H.get at0) (Rk142.ext0 H.ext) (Rk144.ext0 H.ext) (qae _) (qae _)) (hn:=by decide) (hm:=by decide) (by decide) (fun q hq=>by rw[qaa.1 hq];exact(show([98]:Byt).length<=1000/\([50]:Byt).length<=1000 from by decide))) U ?_
 rintro v w147 ⟨rfl,hx147⟩;refine AN U (.bool _) U (AF U (Aj qB (Ll 441 _) U ?_));rintro v w ⟨rfl,rfl⟩;refine BA U U (AN U (.bool _) U (AF U (Aj qB (Ll 442 _) U ?_)));rintro v w ⟨rfl,rfl⟩;refine BA U U (AN U (.bool _) U (AF U (Aj qB (Ll 3000 _) U ?_)));rintro v w ⟨rfl,rfl⟩;refine BA U U (AN U (.bool _) U (Am U (qA (A6 (AG (v:=(.bool _)) U U U ?_)))));exact⟨rfl,(O.call (H.ext.trans hx147)).jone.own.ext⟩
def EF(L:List Pr)(key:Byt):Nat:=(L.filter fun p=>decide (ltB p.1 key)).length
theorem Ae6{L:List Pr}(hL:Rising L){key:Byt}{i:Nat}(h:∀p∈L.take i,ltB p.1 key)(he:i=L.length\/∃p,L[i]?=some p/\¬ltB p.1 key)(hi:i<=L.length:=by omega):EF L key=i:=by
 have h1:(L.drop i).filter (fun p=>decide (ltB p.1 key))=[]:=by
  refine FJ fun q hq=>qag fun h5=>?_
  rcases he with rfl|⟨p,hp,hn⟩
  .rw[qe4]at hq;cases hq
  .have hd:=qca.1 (show(L.take i++L.drop i).Pairwise _ by rw[qbl];exact hL);rw[Ew hp]at hq hd
   rcases qac.1 hq with rfl|hq
   .exact hn h5
   .exact hn (ET ((qbh.1 hd.2.1).1 q hq) h5)
 have h2:L.filter (fun p=>decide (ltB p.1 key))=L.take i:=by
  conv=>lhs;rw[<-qbl i L]
  rw[qbn,h1,qa3,Eo fun p hp=>qal (h p hp)]
 unfold EF;rw[h2,qa0];omega
theorem Aj6(L:List Pr)(key:Byt):EF L key<=L.length:=qel ..
theorem Aj7{w:World}{M:Mut}{a ka:Option Addr}{n c kc:Nat}{L:List Pr}{key:Byt}(PL:Prs w M a n c L)(Rk:Rd w ka 1 B8 key)(hL:Rising L)(hl:∀p∈L,p.1.length<=1000)(hn:n<=100000000:=by omega)(hk:key.length<=1000000:=by omega):
  Ret prog 88 #[.slice a n c,.slice ka key.length kc] w fun v w'=>v=.int .i64 (EF L key:Int)/\Ext [] w w':=by
 obtain⟨w0,rfl⟩:=qD w;obtain⟨ps,Rp,-,hps,hp⟩:=PL.ex;have hnL:=PL.num;have hpn:ps.length=n:=by rw[hnL,<-hps,qai]
 refine A8 (fn:=f88) func88 U [.slice a n c,.slice ka key.length kc] U ?_;refine Ad (Ac U (qA (Ad (Ac U (qA (Ar (AB (B6 4194272 (α:=Nat) (fun i=>[(5,.int .i64 (i:Int))]) (fun i w'=>i<=n/\Ext [] w0 w'/\∀p∈L.take i,ltB p.1 key) (fun i=>n - i) 0 U ?_ ?_ ?_))))))))
 .exact⟨rfl,trivial⟩
 .exact⟨qak _,.refl _ _,fun p h=>by cases h⟩
 .rintro i j w ⟨hi,hx,he⟩;have H:=Ctx.start w [];refine Ar (QP 1048512 (α:=Unit) (fun _=>[(19,.bool (match L[i]? with|some p=>decide (ltB p.1 key)|none=>false))]) (fun _ w'=>Ext [] w0 w') U ?_ ?_)
  .skip
   refine Au (Ae U (Ah U (AO Cb U (Bj U U (AF U (AQ 10 U ?_ ?_))))))
   .intro hB;replace hB:=AR hB;obtain⟨x,hx1⟩:=AP (l:=ps) (i:=i);have hxo:=hp x (qad hx1);have hxL:L[i]?=some (prI x.it):=by rw[<-hps,qas,hx1];rfl
    have hxl:=hl _ (qad hxL);refine Ah U (Ae U (AY Rp Cb CR U U ?_));refine Af Fa U (Bd B1 U ((Rp.ext0 hx).fld hx1 U (j:=0) U) ?_);refine Ah U (Aj qB (M6 x.ka ka x.kc kc x.it.key key _ (hxo.k.1.ext0 hx) (Rk.ext0 hx) (by dsimp only[prI]at hxl;omega)) U ?_);rintro v w17 ⟨rfl,hx17⟩;refine Bj U U (AN U (.bool _) U (qA ?_));refine⟨(),rfl,⟨qab Value.bool ?_,trivial⟩,hx.trans hx17⟩;rw[hxL];exact decide_eq_decide.2 Iw
   .intro hB;replace hB:=AU hB;refine Ag U (Ag U (Ag U (Ag U (Ag U (Ag U (Ag U (Ag U (AM U (.bool _) U (qA ?_)))))))));refine⟨(),rfl,⟨qab Value.bool ?_,trivial⟩,hx⟩;rw[qbz (by omega)]
  .rintro - j19 w1 hx1;refine Av _ U ?_ ?_
   .intro hC
    obtain⟨p,hp1,hp2⟩:∃p,L[i]?=some p/\ltB p.1 key:=by
     cases h5:L[i]? with
     |none=>rw[h5]at hC;cases hC
     |some p=>rw[h5]at hC;exact⟨p,rfl,qb6 hC⟩
    have hin:=(qap.1 hp1).1;refine Ap (Aa (AB (Au (Ae U (Ay U U ?_)))));refine Ac U (Ab (AE (Aa ?_)));refine⟨i+1,rfl,⟨rfl,trivial⟩,⟨by omega,hx1,fun q hq=>?_⟩,by omega⟩;rw[Bp hp1]at hq
    rcases qat.1 hq with hq|hq
    .exact he q hq
    .rw[qaa.1 hq];exact hp2
   .intro hC;refine B2 (Aw (Aw (AZ (Aa (Ad (Ae U (Ac U (qA (A6 (AG (v:=(.int _ _)) U U U ?_))))))))));refine⟨qab (fun z:Nat=>Value.int .i64 (z:Int)) (Ae6 hL he ?_).symm,hx1⟩
    cases h5:L[i]? with
    |none=>exact .inl (by have:=List.getElem?_eq_none_iff.1 h5;omega)
    |some p=>rw[h5]at hC;exact .inr ⟨p,rfl,qcx hC⟩
theorem Vo{w:World}{M:Mut}{a:Option Addr}{n c:Nat}{L:List Pr}(PL:Prs w M a n c L)(hl:∀p∈L,p.1.length<=1000/\p.2.length<=1000)(hn:n<=1000000:=by omega):
  Ret prog 52 #[.slice a n c] w fun v w'=>v=.int .i64 (Bx L:Int)/\Ext [] w w':=by
 obtain⟨w0,rfl⟩:=qD w;obtain⟨ps,Rp,-,hps,hp⟩:=PL.ex;have hnL:=PL.num;have hpn:ps.length=n:=by rw[hnL,<-hps,qai]
 refine A8 (fn:=Tryz.f52) func52 U [.slice a n c] U (Ad (Ac U (qA (Ad (Ac U (qA (Ar (Ad (Ac U (qA ?_))))))))));refine AB (B6 134217720 (α:=Nat) (fun i=>[(4,.int .i64 (i:Int)),(3,.int .i64 (Bx (L.take i):Int))]) (fun i w'=>i<=n/\Ext [] w0 w'/\Bx (L.take i)<=2004*i) (fun i=>n - i) 0 U ?_ ?_ ?_)
 .exact⟨rfl,rfl,trivial⟩
 .exact⟨qak _,.refl _ _,qae _⟩
 .rintro i j w ⟨hi,hx,hb⟩;have H:=Ctx.start w [];refine Ar (Ad (Ae U (Ah U (AO Cb U (Bj U U (qA (Av _ U ?_ ?_)))))))
  .intro hB;replace hB:=AR hB;obtain⟨x,hx1⟩:=AP (l:=ps) (i:=i);have hxL:L[i]?=some (prI x.it):=by rw[<-hps,qas,hx1];rfl
   have hxl:=hl _ (qad hxL);dsimp only[prI]at hxl;have hxd:=hx.trans (Ext.drew [] w)
   have hst:Bx (L.take (i+1))=Bx (L.take i)+(4+x.it.key.length+x.it.val.length):=by
    rw[Bp hxL,Tt,FO];rfl
   refine Ap (Aa (Ar (AB (Aat (fun x=>x=_) mixed U ?_))));refine DK U (Gm U (DK U (Ej Rp Cb CR U U ?_)));refine BP Fa U (Ig B1 U (by rintro _ rfl;exact((Rp.ext0 hxd).fld hx1 rfl (j:=0) rfl)) ?_);refine Ui U AX U (Fk U U ?_);refine Gm U (DK U (Ej Rp Cb CR U U ?_));refine BP Ju U (Ig B1 U (by rintro _ rfl;exact((Rp.ext0 hxd).fld hx1 rfl (j:=1) rfl)) ?_);refine Ui U AX U (Fk U U ?_);refine Fk U U (EO U (Js ?_));rintro _ rfl;replace H:=H.drew;refine AE (Aa (Au (Ae U (Ay U U ?_))));refine Ac U (qA ?_);exact⟨i+1,rfl,⟨rfl,qab (Value.int .i64) (by rw[hst];omega),trivial⟩,⟨by omega,hxd,by omega⟩,by omega⟩
  .intro hB;replace hB:=AU hB;refine B2 (Aw (Aw (AZ (Aa (Ad (Ae U (Ac U (qA (A6 (AG (v:=(.int _ _)) U U U ?_))))))))));exact⟨by rw[qa6 (by omega)],hx⟩
theorem MA{x:Wr}{W:List Wr}{seen:List Byt}:Hk seen (x::W)=(!HA (decide (x.k∈seen)) x && Hk (seen++[x.k]) W):=by
 rw[Hk]
theorem T8:∀(A:List Wr) {B:List Wr} {seen:List Byt},Hk seen (A++B)=(Hk seen A && Hk (seen++A.map (·.k)) B)
 | [],B,seen=>by simp[Hk]
 |x::A,B,seen=>by
  rw[qbx,MA,MA,T8 A (seen:=seen++[x.k]),qaz,Bool.and_assoc,qa1];rfl
theorem Yw{W:List Wr}{i:Nat}{x:Wr}(h:W[i]?=some x)(hb:HA (decide (x.k∈(W.take i).map (·.k))) x=true):Hk [] W=false:=by
 have h1:W=W.take i++x::W.drop (i+1):=by rw[<-Ew h,qbl]
 rw[h1,T8,MA,qa7,hb];simp
theorem Ae7{W:List Wr}{i:Nat}{x:Wr}(h:W[i]?=some x)(hm:Hk [] (W.take i)=true)(hb:HA (decide (x.k∈(W.take i).map (·.k))) x=false):Hk [] (W.take (i+1))=true:=by
 rw[Bp h,T8,hm,MA,qa7,hb];rfl
theorem Amp{w:World}{M:Mut}{a:Option Addr}{n c:Nat}{W:List Wr}(X:Wrs w M a n c W)(hl:∀y∈W,y.k.length<=1000000)(hn:n<=1000000:=by omega):
  Ret prog 50 #[.slice a n c] w fun v w'=>v=.bool (Hk [] W)/\Ext [] w w':=by
 obtain⟨w0,rfl⟩:=qD w;obtain⟨ps,Rp,-,hps,hp⟩:=X.ex;have hnL:=X.num;have hpn:ps.length=n:=by rw[hnL,<-hps,qai]
 refine A8 (fn:=f50) func50 U [.slice a n c] U ?_;refine Ad (Am U (qA (Ar (Ad (Ac U (qA (AB (B6 295147905179352825852 (α:=Nat) (fun i=>[(3,.int .i64 (i:Int))]) (fun i w'=>i<=n/\Ext [] w0 w'/\Hk [] (W.take i)=true) (fun i=>n - i) 0 U ?_ ?_ ?_))))))))
 .exact⟨rfl,trivial⟩
 .exact⟨qak _,.refl _ _,rfl⟩
 .rintro i j w ⟨hi,hE,hm⟩;have hx:=hE;have H:=Ctx.start w [];refine Ar (Ad (Ae U (Ah U (AO Cn U (Bj U U (qA (Av _ U ?_ ?_)))))))
  .intro hB;replace hB:=AR hB;obtain⟨x,hx1⟩:=AP (l:=ps) (i:=i);have hxo:=hp x (qad hx1);have hxL:W[i]?=some x.x:=by rw[<-hps,qas,hx1];rfl
   have hxl:=hl _ (qad hxL);obtain⟨wB,hwB⟩:=qD w;refine Ap (Aa (Ar (AB (Ar (Ad (BG (α:=Unit) 4503599627368448 (fun _=>[(51,.bool (HA false x.x))]) (fun _ w'=>w'=wB) U ?_ ?_))))))
   .refine Ah U (Ae U (AY Rp Cn Cw U U ?_));refine Af EK U (Bd B1 U ((Rp.ext0 hx).fld hx1 U (j:=0) U) ?_);refine AO AX U (Bj U U (AF U (AQ 18 U ?_ ?_)))
    .intro h1;replace h1:=AR h1;refine Ag U (Ag U (Ag U (Ag U (Ag U (Ag U (Ag U (AN U (.bool _) U (AF U (Ag U ?_)))))))));refine Ag U (Ag U (Ag U (Ag U (Ag U (Ag U (AN U (.bool _) U (AF U (Ag U (Ag U ?_)))))))));refine Ag U (Ag U (Ag U (Ag U (Ag U (Ag U (Ag U (Ag U (Ag U (Ag U ?_)))))))));refine Ag U (Ag U (AN U (.bool _) U (Ab ?_)));exact⟨rfl,(),rfl,⟨qab Value.bool (by unfold HA;rw[show decide (x.x.k=[])=decide (x.x.k.length<1)from decide_eq_decide.2 ⟨fun h=>by rw[h];decide,fun h=>qa4 (by omega)⟩];clear hxl;generalize x.x.k.length=ka at *;generalize x.x.v.length=va at *;rw[qar];simp_all;try omega),trivial⟩,hwB.symm⟩
    .intro h2;replace h2:=AU h2;refine Ah U (Ae U (AY Rp Cn Cw U U ?_));refine Af EK U (Bd B1 U ((Rp.ext0 hx).fld hx1 U (j:=0) U) ?_);refine AO AX U (BZ U U (AM U (.bool _) U (AF U (AQ 27 U ?_ ?_))))
     .intro h3;replace h3:=AR h3;refine Ag U (Ag U (Ag U (Ag U (Ag U (Ag U (Ag U (AN U (.bool _) U (AF U (Ag U ?_)))))))));refine Ag U (Ag U (Ag U (Ag U (Ag U (Ag U (Ag U (Ag U (Ag U (Ag U ?_)))))))));refine Ag U (Ag U (Ag U (AN U (.bool _) U (Ab ?_))));exact⟨rfl,(),rfl,⟨qab Value.bool (by unfold HA;rw[show decide (x.x.k=[])=decide (x.x.k.length<1)from decide_eq_decide.2 ⟨fun h=>by rw[h];decide,fun h=>qa4 (by omega)⟩];clear hxl;generalize x.x.k.length=ka at *;generalize x.x.v.length=va at *;rw[qar];simp_all;try omega),trivial⟩,hwB.symm⟩
     .intro h4;replace h4:=AU h4;refine Ah U (Ae U (AY Rp Cn Cw U U ?_));refine Af EL U (Bd B1 U ((Rp.ext0 hx).fld hx1 U (j:=1) U) ?_);refine AO AX U (BZ U U (AM U (.bool _) U (AF U (AQ 36 U ?_ ?_))))
      .intro h5;replace h5:=AR h5;refine Ag U (Ag U (Ag U (Ag U (Ag U (Ag U (Ag U (Ag U (Ag U (Ag U ?_)))))))));refine Ag U (Ag U (Ag U (Ag U (AN U (.bool _) U (Ab ?_)))));exact⟨rfl,(),rfl,⟨qab Value.bool (by unfold HA;rw[show decide (x.x.k=[])=decide (x.x.k.length<1)from decide_eq_decide.2 ⟨fun h=>by rw[h];decide,fun h=>qa4 (by omega)⟩];clear hxl;generalize x.x.k.length=ka at *;generalize x.x.v.length=va at *;rw[qar];simp_all;try omega),trivial⟩,hwB.symm⟩
      .intro h6;replace h6:=AU h6;refine Ah U (Ae U (AY Rp Cn Cw U U ?_));refine Af Jt U (Bd Ge U ((Rp.ext0 hx).fld hx1 U (j:=2) U) ?_);refine AF U (AQ 42 U ?_ ?_)
       .intro h7;refine Ah U (Ae U (AY Rp Cn Cw U U ?_));refine Af EL U (Bd B1 U ((Rp.ext0 hx).fld hx1 U (j:=1) U) ?_);refine AO AX U (BZ U U (AN U (.bool _) U (AM U (.bool _) U (Ab ?_))));exact⟨rfl,(),rfl,⟨qab Value.bool (by unfold HA;rw[show decide (x.x.k=[])=decide (x.x.k.length<1)from decide_eq_decide.2 ⟨fun h=>by rw[h];decide,fun h=>qa4 (by omega)⟩];clear hxl;generalize x.x.k.length=ka at *;generalize x.x.v.length=va at *;rw[qar];simp_all;try omega),trivial⟩,hwB.symm⟩
       .intro h8;refine Ag U (Ag U (Ag U (Ag U (Ag U (Ag U (Ag U (AM U (.bool _) U (AM U (.bool _) U (Ab ?_)))))))));exact⟨rfl,(),rfl,⟨qab Value.bool (by unfold HA;rw[show decide (x.x.k=[])=decide (x.x.k.length<1)from decide_eq_decide.2 ⟨fun h=>by rw[h];decide,fun h=>qa4 (by omega)⟩];clear hxl;generalize x.x.k.length=ka at *;generalize x.x.v.length=va at *;rw[qar];simp_all;try omega),trivial⟩,hwB.symm⟩
   rintro - j51 w hw51;rw[hw51];rw[hwB]at hw51;clear hw51;rw[<-hwB]at hE hx H;clear hwB;refine Av _ U ?_ ?_
   .intro hC;refine Ad (Am U (qA (A6 (Ao (AK (Ao (Ao (AK (Ao (AG (v:=(.bool _)) U U U ?_))))))))));refine⟨qab Value.bool (Yw hxL ?_).symm,hE⟩;unfold HA at hC |-;rw[Bool.false_or]at hC;rw[hC,Bool.or_true]
   .intro hC;refine Ap (Aa (Ad (Ac U (qA (AB (B6 295143401579725455380 (α:=Nat) (fun k=>[(4,.int .i64 (k:Int))]) (fun k w'=>k<=i/\Ext [] w0 w'/\∀y∈W.take k,y.k≠x.x.k) (fun k=>i - k) 0 U ?_ ?_ ?_))))))
    .exact⟨rfl,trivial⟩
    .exact⟨qak _,hE,fun y h=>by cases h⟩
    .rintro k j2 w ⟨hk,hE2,hne⟩;have H:=Ctx.start w [];refine Ar (Ad (Ae U (Ae U (Bj U U (qA (Av _ U ?_ ?_))))))
     .intro hD;replace hD:=AR hD;obtain⟨y,hy1⟩:=AP (l:=ps) (i:=k);have hyo:=hp y (qad hy1);have hyL:W[k]?=some y.x:=by rw[<-hps,qas,hy1];rfl
      have hyl:=hl _ (qad hyL);refine Ap (Aa (Ar (AB (BV [([0,1,2,3,4,5,6,7,8,9],10)] (fun z=>Ext [] w0 z) [] mixed (hE2.trans (Ext.drew [] w)) ?_))));refine AD U U (B9 U (B0 U (BX Rp Cn Cw U U ?_)));refine AC EK U (BC B1 U (fun _ hx=>(Rp.ext0 hx).fld hx1 rfl (j:=0) rfl) ?_);refine B9 U (B0 U (BX Rp Cn Cw U U ?_));refine AC EK U (BC B1 U (fun _ hx=>(Rp.ext0 hx).fld hy1 rfl (j:=0) rfl) ?_);refine AV ?_;replace H:=H.drew;refine Aj qB (OC _ _ _ _ x.x.k y.x.k _ (hxo.k.1.ext0 (hE2.trans H.ext)) (hyo.k.1.ext0 (hE2.trans H.ext))) U ?_;rintro v w ⟨rfl,hx67⟩;replace H:=H.call hx67;refine Ab (Bb (hE2.trans H.ext) (B4 (Av _ U ?_ ?_)))
      .intro hF;have hF':x.x.k=y.x.k:=by simpa using hF
       refine Ad (Am U (qA (A6 (AK (Ao (Ao (AK (AK (Ao (Ao (AK (Ao (AG (v:=(.bool _)) U U U ?_)))))))))))));refine⟨qab Value.bool (Yw hxL ?_).symm,hE2.trans H.ext⟩;unfold HA;have hin:x.x.k∈(W.take i).map (·.k):=qah.2 ⟨y.x,qad (i:=k) (by rw[qdt,if_pos (by omega)];exact hyL),hF'.symm⟩;rw[qal hin];rfl
      .intro hF;have hF':¬x.x.k=y.x.k:=by simpa using hF
       refine Ap (AE (Aa (Au (Ae U (Ay U U ?_)))));refine Ac U (qA ?_);refine⟨k+1,rfl,⟨rfl,trivial⟩,⟨by omega,hE2.trans H.ext,fun q hq=>?_⟩,by omega⟩;rw[Bp hyL]at hq
       rcases qat.1 hq with hq|hq
       .exact hne q hq
       .rw[qaa.1 hq];exact fun e=>hF' e.symm
     .intro hD;replace hD:=AU hD;have hki:k=i:=by omega
      rw[hki]at hne;refine B2 (Aw (Aw (AZ (AE (Aa (Au (Ae U (Ay U U ?_))))))));refine Ac U (qA ?_);refine⟨i+1,rfl,⟨rfl,trivial⟩,⟨by omega,hE2,Ae7 hxL hm ?_⟩,by omega⟩;rw[qag fun h=>?_]
      .exact hC
      .obtain⟨q,hq,he⟩:=qah.1 h;exact hne q hq he
  .intro hB;replace hB:=AU hB;refine B2 (Aw (Aw (AZ (Aa (Ad (Am U (qA (A6 (AG (v:=(.bool _)) U U U ?_)))))))));rw[qa6 (by omega)]at hm;exact⟨by rw[hm],hE⟩
theorem LL{w0 w2:World}{e:List (Nat × Obj)}{l:Byt}{a:Option Addr}(H:Ctx w0 [] w2 e)(hf:l=[]\/w2.heap.size<=(adr a).block):l=[]\/¬Mk w0 e (adr a).block:=hf.imp id fun h h5=>by
 rcases h5 with h5|h5
 .have:=H.ext.size;omega
 .obtain⟨y,hy,he⟩:=qah.1 h5;have:=Al (H.blk y hy);omega
theorem Nw{w0 w1 w:World}{e1 e:List (Nat × Obj)}(H1:Ctx w0 [] w1 e1)(H:Ctx w1 (e1.map (·.1)) w e):Ctx w0 [] w e:=by
 have h1:∀x∈e1.map (·.1),w0.heap.size<=x:=fun x hx=>by
  obtain⟨y,hy,rfl⟩:=qah.1 hx;exact(H1.own y hy).resolve_left (by simp)
 exact⟨H1.ext.then H.ext fun x hx => .inr (h1 x hx),H.blk,H.nd,fun y hy => .inr ((H.own y hy).elim (h1 _) fun h=>qaw H1.ext.size h)⟩
theorem Ww{wi wd w:World}{e:List (Nat × Obj)}{b:Nat}{o:Obj}{m:Im}(h:m.Ok wd (Mk wi e))(Hb:Ctx wd [] w [(b,o)]):m.Ok w (Mk wi ((b,o)::e)):=by
 have hb:wd.heap.size<=b:=(Hb.own _ (qaa.2 rfl)).resolve_left (by simp)
 have key:∀{a:Option Addr} {l:Byt},Rdx wd (Mk wi e) a l->Rdx w (Mk wi ((b,o)::e)) a l:=fun{a l} ⟨R,hn⟩=>⟨R.ext0 Hb.ext,by
  rcases Rd.lt8 R with h5|h5
  .exact .inl h5
  .refine hn.imp id fun h6 h7=>?_
   rcases h7 with h7|h7
   .exact h6 (.inl h7)
   .rw[qaz,qac]at h7
    rcases h7 with h7|h7
    .omega
    .exact h6 (.inr h7)⟩
 exact⟨key h.k,key h.v,h.kc,h.vc⟩
theorem Acu{w0 w:World}{M:Mut}(hM:∀x,M x->x<w0.heap.size){a:Option Addr}{n c:Nat}{full:List Value}{ps:List Im}(H:Ctx w0 [] w (ent a 68 full))(O:OS a n c 2 full (ps.flatMap Gz))(hok:∀m∈ps,m.Ok w M){L:List Pr}(hl:ps.map (fun m=>prI m.it)=L):Prs w M a L.length c L:=by
 have hn:n=ps.length:=O.numN (fun _ _=>rfl) (by decide);have hL:L.length=n:=by rw[<-hl,qai,hn]
 refine⟨⟨ps,OS.rd O H.blk (fun _ _=>rfl) (by decide),?_,hl,hok⟩,rfl,by rw[hL];exact O.le⟩
 cases ha:a with
 |none =>
  left;have h8:=O.none' ha;have h9:=O.le;exact qa4 (by omega)
 |some q =>
  right;have h8:=(H.own (q.block,Bl 68 full) (by rw[ha];exact qaa.2 rfl)).elim (fun h=>by cases h) id;obtain⟨qb,qo,qs⟩:=q;exact fun h=>by have:=hM _ h;dsimp only[adr]at this h8;omega
theorem Ae8{p:Pr}{D:List Pr}(h:Rising (p::D))(key:Byt):EF (p::D) key=if ltB p.1 key then EF D key+1 else 0:=by
 unfold EF;rw[qbk]
 by_cases hp:ltB p.1 key
 .rw[qal hp,if_pos hp];rfl
 .rw[qag hp,if_neg hp,FJ fun q hq=>qag fun h5=>hp (ET ((qbh.1 h).1 q hq) h5)];rfl
def isP(D:List Pr)(key:Byt):Bool:=match D[EF D key]? with|some p=>decide (p.1=key)|none=>false
def Jl(D:List Pr)(key:Byt):Nat:=if isP D key=true then EF D key+1 else EF D key
theorem Yx:∀{D:List Pr} (_:Rising D) (key:Byt),(∀q∈D.take (EF D key),ltB q.1 key)/\(∀q∈D.drop (Jl D key),ltB key q.1)/\(D=D.take (EF D key)++D.drop (Jl D key)\/∃u,D=D.take (EF D key)++(key,u)::D.drop (Jl D key))
 | [],_,key=>⟨fun q h=>(by cases h),fun q h=>(by cases h),.inl rfl⟩
 |p::D,h,key=>by
  have hc:=Ae8 h key;obtain⟨h1,h2⟩:=qbh.1 h
  by_cases hp:ltB p.1 key
  .obtain⟨i1,i2,i3⟩:=Yx h2 key;rw[if_pos hp]at hc;have hi:isP (p::D) key=isP D key:=by unfold isP;rw[hc,qez]
   have hn:Jl (p::D) key=Jl D key+1:=by unfold Jl;rw[hi,hc];split <;> rfl
   rw[hc,hn,qeh,List.drop_succ_cons];refine⟨fun q hq=>?_,i2,i3.imp (fun h5=>by rw[qbx,<-h5]) fun⟨u,h5⟩=>⟨u,by rw[qbx,<-h5]⟩⟩
   rcases qac.1 hq with rfl|hq
   .exact hp
   .exact i1 q hq
  .rw[if_neg hp]at hc;have hi:isP (p::D) key=decide (p.1=key):=by unfold isP;rw[hc];rfl
   by_cases he:p.1=key
   .have hn:Jl (p::D) key=1:=by unfold Jl;rw[hi,qal he,hc];rfl
    rw[hc,hn];exact⟨fun q hq=>(by cases hq),fun q hq=>he ▸ h1 q hq,.inr ⟨p.2,by rw[<-he];rfl⟩⟩
   .have hn:Jl (p::D) key=0:=by unfold Jl;rw[hi,qag he,hc];rfl
    have hgt:ltB key p.1:=by
     rcases Mj key p.1 with h5|h5|h5
     .exact h5
     .exact absurd h5.symm he
     .exact absurd h5 hp
    rw[hc,hn];refine⟨fun q hq=>(by cases hq),fun q hq=>?_,.inl rfl⟩
    rcases qac.1 hq with rfl|hq
    .exact hgt
    .exact ET hgt (h1 q hq)
theorem Ae9{D:List Pr}(h:Rising D)(x:Wr):doP D x=D.take (EF D x.k)++(if x.d=true then[]else[(x.k,x.v)])++D.drop (Jl D x.k):=by
 obtain⟨h1,h2,h3⟩:=Yx h x.k;unfold doP
 split
 .rw[Wh h1 h2 h3,qa3]
 .rw[QB h1 h2 h3,qa1];rfl
theorem P6{q:List Im}:∀v∈q.flatMap Gz,Bh v=true:=fun v hv=>by
 obtain⟨m,-,hv⟩:=qem.1 hv;exact Gl m v hv
theorem Aj8{w:World}{M M2:Mut}{a a2:Option Addr}{n c m c2:Nat}{L:List Pr}{W:List Wr}(PL:Prs w M a n c L)(X:Wrs w M2 a2 m c2 W)(hM:∀x,M x->x<w.heap.size)(hL:Rising L)(ho:OkP L)(hW:∀y∈W,y.Few/\1<=y.k.length)(hn:n<=1000000:=by omega)(hm:m<=1000000:=by omega):
  Ret prog 51 #[.slice a n c,.slice a2 m c2] w fun v w'=>∃a' c',v=.slice a' (Ep L W).length c'/\Prs w' M a' (Ep L W).length c' (Ep L W)/\Ext [] w w':=by
 obtain⟨w0,rfl⟩:=qD w;obtain⟨qs0,R0,hs0,hq0,hok0⟩:=PL.ex;obtain⟨ps,Rp,-,hps,hp⟩:=X.ex;have hnL:=PL.num;have hmW:=X.num;have hqn:qs0.length=n:=by rw[hnL,<-hq0,qai]
 have hpn:ps.length=m:=by rw[hmW,<-hps,qai]
 have H:=Ctx.start w0 [];refine A8 (fn:=f51) func51 U [.slice a n c,.slice a2 m c2] U (Ad (Ak U (qA (Ad (JH U Cb CR H ?_)))));rintro b9 w H O;refine Ah U (DQ U Cb Cb CR NC Fd U (qs0.flatMap Gz) U U H O (by rw[JZ];omega) P6 (Rd.app (R0.ext0 H.ext) (fun _ _=>rfl) (by decide)) ?_);clear H O;rintro a11 c11 f11 w H O;rw[qa7]at O H;rw[qa2]at O |-;have P11:=Acu hM H O (fun x hx=>(hok0 x hx).call H.ext) hq0;rw[hnL];have hE:=H.ext;clear H O
 refine Ak U (qA (Ar (Ad (Ac U (qA (AB (B6 302231454903657293672928 (α:=Nat × Option Addr × Nat) (fun s=>[(6,.int .i64 (s.1:Int)),(5,.slice s.2.1 (Ep L (W.take s.1)).length s.2.2)]) (fun s w'=>s.1<=m/\Ext [] w0 w'/\Prs w' M s.2.1 (Ep L (W.take s.1)).length s.2.2 (Ep L (W.take s.1))/\(Ep L (W.take s.1)).length<=n+s.1) (fun s=>m - s.1) (0,a11,c11) U ?_ ?_ ?_)))))))
 .exact⟨rfl,rfl,trivial⟩
 .exact⟨qak _,hE,P11,by show L.length<=_;omega⟩
 .clear hE P11;rintro⟨i,a5,c5⟩ j w ⟨hi,hE,P5,hl5⟩;dsimp only at hi P5 hl5;dsimp only;have hx:=hE;obtain⟨D,hD⟩:=qD (Ep L (W.take i));refine Ar (Ad (Ae U (Ah U (AO Cn U (Bj U U (qA (Av _ U ?_ ?_)))))))
  .intro hB;replace hB:=AR hB;obtain⟨x,hx1⟩:=AP (l:=ps) (i:=i);have hxo:=hp x (qad hx1);have hxL:W[i]?=some x.x:=by rw[<-hps,qas,hx1];rfl
   have hxf:=hW _ (qad hxL);have hWi:∀y∈W.take i,y.Few/\1<=y.k.length:=fun y hy=>hW y (qbq hy);have hDr:Rising D:=by rw[hD];exact LK hL
   have hDo:OkP D:=by rw[hD];exact QD ho hWi
   have hnext:Ep L (W.take (i+1))=doP D x.x:=by rw[Bp hxL,Ys,<-hD];rfl
   have hdone:=Ae9 hDr x.x;rw[<-hnext]at hdone;rw[<-hD]at P5 hl5 |-;obtain⟨qs,R5,hs5,hq5,hok5⟩:=P5.ex;have hqD:qs.length=D.length:=by rw[<-hq5,qai]
   have hkl:=Aj6 D x.x.k
   have hnl:Jl D x.x.k<=D.length:=by
    unfold Jl
    split
    .rename_i h5
     unfold isP at h5
     cases h6:D[EF D x.x.k]? with
     |none=>rw[h6]at h5;cases h5
     |some p=>have:=(qap.1 h6).1;omega
    .exact hkl
   have hP5:=P5.le;have hxk:x.x.k.length<=32/\x.x.v.length<=128:=hxf.1
   have hfull:(Ep L (W.take (i+1))).length<=n+(i+1):=by
    rw[hdone];simp only[qan,qa0,qbg]
    have:EF D x.x.k<=Jl D x.x.k:=by unfold Jl;split <;> omega
    split <;> simp <;> omega
   have hMi:∀y,M y->y<w.heap.size:=fun y hy=>qau (hM y hy) hE.size;obtain⟨wi,rfl,H⟩:=qE w;refine Ap (Aa (Ar (AB (Ad (Ah U (Ah U (Ae U (AY Rp Cn Cw U U ?_))))))));refine Af EK U (Bd B1 U ((Rp.ext0 (hx.trans H.ext)).fld hx1 U (j:=0) U) ?_);refine Aj qB (Aj7 P5 (hxo.k.1.ext0 hE) hDr (fun q hq=>by have:=hDo q hq;omega)) U ?_;rintro v w ⟨rfl,hx24⟩;have H:=(Ctx.start wi []).call hx24;refine Ac U (qA (Ad (Ak U (qA (Ad (Ah U (Ah U (Ae U (Eg Cb CR U U ?_)))))))));refine DQ (L:=[]) U Cb Cb CR NC Fd U ((qs.take (EF D x.x.k)).flatMap Gz) U U H OS.nil (by rw[JZ,qa0];omega) P6 (Rd.app ((R5.ext0 H.ext).take _) (fun _ _=>rfl) (by decide)) ?_;clear H;rintro a29 c29 f29 w H O;rw[qa7]at O H
   rw[qa2]at O |-;refine Ak U (qA (Ar ?_));have hE2:=hx.trans H.ext;refine Ad (Ah U (Ae U (AY Rp Cn Cw U U ?_)));refine Af Jt U (Bd Ge U ((Rp.ext0 (hx.trans H.ext)).fld hx1 U (j:=2) U) ?_);refine Cl U (qA (Gn 18014329790005504 (α:=Option Addr × Nat × Nat × List Value × List Im) (fun s=>[(8,.slice s.1 s.2.1 s.2.2.1)]) (fun s w'=>Ctx wi [] w' (ent s.1 68 s.2.2.2.1)/\OS s.1 s.2.1 s.2.2.1 2 s.2.2.2.1 ((qs.take (EF D x.x.k)++s.2.2.2.2).flatMap Gz)/\s.2.2.2.2.map (fun m=>prI m.it)=(if x.x.d=true then[]else[(x.x.k,x.x.v)])/\(∀m∈s.2.2.2.2,m.Ok w' (Mk wi (ent s.1 68 s.2.2.2.1)))/\s.2.1<=D.length+1) U ?_ ?_))
   .skip
    refine Av _ U ?_ ?_
    .intro hG;replace hG:=C8 hG;have hG':x.x.d=false:=by simpa using hG
     obtain⟨w2,rfl⟩:=qD w;have fin:∀(z:World) (a1:Option Addr) (c1:Nat) (a4:Option Addr) (c4:Nat),Ext [] w2 z->Rd z a1 1 B8 x.x.k->x.x.k.length<=c1->(x.x.k=[]\/w2.heap.size<=(adr a1).block)->Rd z a4 1 B8 x.x.v->x.x.v.length<=c4->(x.x.v=[]\/w2.heap.size<=(adr a4).block)->(⟨a1,c1,a4,c4,⟨x.x.k,x.x.v,0⟩⟩:Im).Ok z (Mk wi (ent a29 68 f29)):=fun z a1 c1 a4 c4 _ q1 q2 q3 q4 q5 q6=>⟨⟨q1,LL H q3⟩,⟨q4,LL H q6⟩,q2,q5⟩;refine Am5 (.two [0,2,3,4,5,6,9,10,11,12,13] 1 (.two [] 7 (.one [] 8 (.one [] 14 (.one [15] 16 (.one [] 17 (.one [] 18 .stop))))) 8 (.one [] 7 (.one [] 14 (.one [15] 16 (.one [] 17 (.one [] 18 .stop)))))) 8 (.one [] 1 (.one [] 7 (.one [] 14 (.one [15] 16 (.one [] 17 (.one [] 18 .stop))))))) (fun z=>Ext [] w0 z) mixed (hE2.trans (Ext.drew [] w2)) (V5 U U U ?_);refine B9 U (B9 U (B0 U (BX Rp Cn Cw U U ?_)))
     refine AC EK U (BC B1 U (fun _ hx=>(Rp.ext0 hx).fld hx1 rfl (j:=0) rfl) ?_);refine B9 U (B0 U (BX Rp Cn Cw U U ?_));refine AC EL U (BC B1 U (fun _ hx=>(Rp.ext0 hx).fld hx1 rfl (j:=1) rfl) ?_);refine AV ?_;have E:=Ext.drew [] w2;refine⟨?_,?_⟩
     .skip
      refine HK ?_;rintro b1 wa Ea hn1 hb1;have hs1a:=E.size;replace E:=E.trans Ea;have E0:=hE2.trans E;refine Ab (Dh (E0) (V5 U U U ?_));refine AV ?_;refine⟨?_,?_⟩
      .skip
       refine Mq U U U hb1 (hxo.k.1.ext0 (hE2.trans E)) ?_;rintro a1 c1 wc Ec R1 hc1 hs1;have hs3:=E.size;have hf1:=Ex (w2:=w2) hs1 hs3;replace E:=E.then Ec (fun x h => .inr (by rw[qaa.1 h];omega));have E0:=hE2.trans E;refine Ab (Dh (E0) (CT U U ?_));refine AV (HK ?_);rintro b2 wb Eb hn2 hb2;have hs2a:=E.size;replace E:=E.trans Eb;have hne:=Ajr R1 hn2;replace R1:=R1.ext0 Eb;have E0:=hE2.trans E;refine Ab (Dh (E0) (CT U U ?_));refine AV (Mq U U U hb2 (hxo.v.1.ext0 (hE2.trans E)) ?_);rintro a2' c2' wd Ed R2 hc2 hs2;have hs4:=E.size;have hf2:=Ex (w2:=w2) hs2 hs4;replace R1:=JU R1 hne Ed;replace E:=E.then Ed (fun x h => .inr (by rw[qaa.1 h];omega));have E0:=hE2.trans E;refine Ab (Dh (E0) (CT U U ?_));refine EP (Gz ⟨a1,c1,a2',c2',⟨x.x.k,x.x.v,0⟩⟩) U1 Fd ?_;refine AV ?_
       have hz:=fin _ _ _ _ _ E R1 hc1 hf1 R2 hc2 hf2;have HE:=H.call E;have Hs:=Ctx.start wd [];refine BI (Gz ⟨a1,c1,a2',c2',⟨x.x.k,x.x.v,0⟩⟩) (.agg _) Cb CR Fd U U U U Hs ?_;rintro b52 w52 - Hb;have HE2:=Ctx.comm (HE.callEnt Hb.ext (fun x hx=>⟨Hb.blk x hx,(Hb.own x hx).resolve_left (by simp)⟩) Hb.nd);replace hz:=Ww hz Hb;have E0:=hE.trans HE2.ext;refine Ab (Dh (E0) (CT U U ?_));refine AV ?_;have Hs:=Ctx.startL HE2.blk HE2.nd;refine BL (L:=[]) Cb Cb CR NC Fd U U U Hs O U (Gl ⟨a1,c1,a2',c2',⟨x.x.k,x.x.v,0⟩⟩) ?_;rintro a53 c53 f53 w53 H53 O53;have H54:=Nw HE2 H53;have E0:=hE.trans H54.ext;refine Ab (Dh (E0) (CT U U ?_));refine AV (Ak U (Ab (Dh (E0) (LR ?_))));refine Aa ?_
       exact⟨(a53,_,c53,f53,[⟨a1,c1,a2',c2',⟨x.x.k,x.x.v,0⟩⟩]),rfl,⟨rfl,trivial⟩,H54,by dsimp only;rw[qbc,qb0];exact O53,by rw[if_neg (by rw[hG'];decide)];rfl,fun q hq=>by rw[qaa.1 hq];exact Mw hz (.refl _ _) H53,by dsimp only;omega⟩
      .skip
       refine HK ?_;rintro b2 wb Eb hn2 hb2;have hs2a:=E.size;replace E:=E.trans Eb;have h12:b1≠b2:=(by have:=Al hb1;omega);replace hb1:wb.heap[b1]?=some (Bl 5 []):=(by rw[Eb.block b1 (Al hb1) (by simp)];exact hb1);have E0:=hE2.trans E;refine Ab (Dh (E0) (CT U U ?_));refine AV (Mq U U U hb1 (hxo.k.1.ext0 (hE2.trans E)) ?_);rintro a1 c1 wc Ec R1 hc1 hs1;have hs3:=E.size;have hf1:=Ex (w2:=w2) hs1 hs3;replace E:=E.then Ec (fun x h => .inr (by rw[qaa.1 h];omega));have hne:x.x.k=[]\/(adr a1).block≠b2:=hs1.imp id (fun h=>h.elim (fun h=>by omega) fun h=>by have:=Al hb2;omega);replace hb2:wc.heap[b2]?=some (Bl 5 []):=(by rw[Ec.block b2 (Al hb2) (by simpa using Ne.symm h12)];exact hb2);have E0:=hE2.trans E;refine Ab (Dh (E0) (CT U U ?_));refine AV (Mq U U U hb2 (hxo.v.1.ext0 (hE2.trans E)) ?_);rintro a2' c2' wd Ed R2 hc2 hs2
       have hs4:=E.size;have hf2:=Ex (w2:=w2) hs2 hs4;replace R1:=JU R1 hne Ed;replace E:=E.then Ed (fun x h => .inr (by rw[qaa.1 h];omega));have E0:=hE2.trans E;refine Ab (Dh (E0) (CT U U ?_));refine EP (Gz ⟨a1,c1,a2',c2',⟨x.x.k,x.x.v,0⟩⟩) U1 Fd ?_;refine AV ?_;have hz:=fin _ _ _ _ _ E R1 hc1 hf1 R2 hc2 hf2;have HE:=H.call E;have Hs:=Ctx.start wd [];refine BI (Gz ⟨a1,c1,a2',c2',⟨x.x.k,x.x.v,0⟩⟩) (.agg _) Cb CR Fd U U U U Hs ?_;rintro b52 w52 - Hb;have HE2:=Ctx.comm (HE.callEnt Hb.ext (fun x hx=>⟨Hb.blk x hx,(Hb.own x hx).resolve_left (by simp)⟩) Hb.nd);replace hz:=Ww hz Hb;have E0:=hE.trans HE2.ext;refine Ab (Dh (E0) (CT U U ?_));refine AV ?_;have Hs:=Ctx.startL HE2.blk HE2.nd;refine BL (L:=[]) Cb Cb CR NC Fd U U U Hs O U (Gl ⟨a1,c1,a2',c2',⟨x.x.k,x.x.v,0⟩⟩) ?_;rintro a53 c53 f53 w53 H53 O53
       have H54:=Nw HE2 H53;have E0:=hE.trans H54.ext;refine Ab (Dh (E0) (CT U U ?_));refine AV (Ak U (Ab (Dh (E0) (LR ?_))));refine Aa ?_;exact⟨(a53,_,c53,f53,[⟨a1,c1,a2',c2',⟨x.x.k,x.x.v,0⟩⟩]),rfl,⟨rfl,trivial⟩,H54,by dsimp only;rw[qbc,qb0];exact O53,by rw[if_neg (by rw[hG'];decide)];rfl,fun q hq=>by rw[qaa.1 hq];exact Mw hz (.refl _ _) H53,by dsimp only;omega⟩
     .skip
      refine HK ?_;rintro b2 wb Eb hn2 hb2;have hs2a:=E.size;replace E:=E.trans Eb;have E0:=hE2.trans E;refine Ab (Dh (E0) (CT U U ?_));refine AV (HK ?_);rintro b1 wa Ea hn1 hb1;have hs1a:=E.size;replace E:=E.trans Ea;have h12:b1≠b2:=(by have:=Al hb2;omega);replace hb2:wa.heap[b2]?=some (Bl 5 []):=(by rw[Ea.block b2 (Al hb2) (by simp)];exact hb2);have E0:=hE2.trans E;refine Ab (Dh (E0) (CT U U ?_));refine AV (Mq U U U hb1 (hxo.k.1.ext0 (hE2.trans E)) ?_);rintro a1 c1 wc Ec R1 hc1 hs1;have hs3:=E.size;have hf1:=Ex (w2:=w2) hs1 hs3;replace E:=E.then Ec (fun x h => .inr (by rw[qaa.1 h];omega));have hne:x.x.k=[]\/(adr a1).block≠b2:=hs1.imp id (fun h=>h.elim (fun h=>by omega) fun h=>by have:=Al hb2;omega);replace hb2:wc.heap[b2]?=some (Bl 5 []):=(by rw[Ec.block b2 (Al hb2) (by simpa using Ne.symm h12)];exact hb2);have E0:=hE2.trans E
      refine Ab (Dh (E0) (CT U U ?_));refine AV (Mq U U U hb2 (hxo.v.1.ext0 (hE2.trans E)) ?_);rintro a2' c2' wd Ed R2 hc2 hs2;have hs4:=E.size;have hf2:=Ex (w2:=w2) hs2 hs4;replace R1:=JU R1 hne Ed;replace E:=E.then Ed (fun x h => .inr (by rw[qaa.1 h];omega));have E0:=hE2.trans E;refine Ab (Dh (E0) (CT U U ?_));refine EP (Gz ⟨a1,c1,a2',c2',⟨x.x.k,x.x.v,0⟩⟩) U1 Fd ?_;refine AV ?_;have hz:=fin _ _ _ _ _ E R1 hc1 hf1 R2 hc2 hf2;have HE:=H.call E;have Hs:=Ctx.start wd [];refine BI (Gz ⟨a1,c1,a2',c2',⟨x.x.k,x.x.v,0⟩⟩) (.agg _) Cb CR Fd U U U U Hs ?_;rintro b52 w52 - Hb;have HE2:=Ctx.comm (HE.callEnt Hb.ext (fun x hx=>⟨Hb.blk x hx,(Hb.own x hx).resolve_left (by simp)⟩) Hb.nd);replace hz:=Ww hz Hb;have E0:=hE.trans HE2.ext;refine Ab (Dh (E0) (CT U U ?_));refine AV ?_;have Hs:=Ctx.startL HE2.blk HE2.nd
      refine BL (L:=[]) Cb Cb CR NC Fd U U U Hs O U (Gl ⟨a1,c1,a2',c2',⟨x.x.k,x.x.v,0⟩⟩) ?_;rintro a53 c53 f53 w53 H53 O53;have H54:=Nw HE2 H53;have E0:=hE.trans H54.ext;refine Ab (Dh (E0) (CT U U ?_));refine AV (Ak U (Ab (Dh (E0) (LR ?_))));refine Aa ?_;exact⟨(a53,_,c53,f53,[⟨a1,c1,a2',c2',⟨x.x.k,x.x.v,0⟩⟩]),rfl,⟨rfl,trivial⟩,H54,by dsimp only;rw[qbc,qb0];exact O53,by rw[if_neg (by rw[hG'];decide)];rfl,fun q hq=>by rw[qaa.1 hq];exact Mw hz (.refl _ _) H53,by dsimp only;omega⟩
    .intro hG;replace hG:=CA hG;have hG':x.x.d=true:=by simpa using hG
     refine Ap (Aa ?_);exact⟨(a29,EF D x.x.k,c29,f29,[]),rfl,⟨rfl,trivial⟩,H,by dsimp only;rw[qa3];exact O,by rw[if_pos hG'];rfl,fun q hq=>(by cases hq),by dsimp only;omega⟩
   .clear O;rintro⟨a8,n8,c8,f8,zs⟩ j35 w ⟨H8,O8,hz8,hok8,hn8⟩;dsimp only at H8 O8 hz8 hok8 hn8;dsimp only;have hE8:=hx.trans H8.ext;obtain⟨w8,rfl,H⟩:=qE w
    obtain⟨y,hy⟩:∃y:Im,EF D x.x.k<D.length->qs[EF D x.x.k]?=some y:=by
     by_cases h5:EF D x.x.k<D.length
     .obtain⟨y,hy1⟩:=AP (l:=qs) (i:=EF D x.x.k);exact⟨y,fun _=>hy1⟩
     .exact⟨⟨none,0,none,0,⟨[],[],0⟩⟩,fun h=>absurd h h5⟩
    have hyD:EF D x.x.k<D.length->D[EF D x.x.k]?=some (prI y.it):=fun h=>by
     have h5:=qab (fun l=>l[EF D x.x.k]?) hq5;rw[<-h5,qas,hy h];rfl
    have hyo:EF D x.x.k<D.length->Rd wi y.ka 1 B8 y.it.key/\y.it.key.length<=32:=fun h=>⟨(hok5 y (qad (hy h))).k.1,(hDo _ (qad (hyD h))).2.1⟩;refine Ar (QP 2361165227036313124864 (α:=Unit) (fun _=>[(70,.bool (isP D x.x.k))]) (fun _ w'=>Ext [] w8 w') U ?_ ?_)
    .skip
     refine IK [([0,1,2,3,4,5,6,7,8,9,10,11,12,13,14],15),([],16)] (fun z=>Ext [] w8 z) [] mixed (Ext.drew [] w8) (AD U U ?_);refine B0 U (B9 U (PO Cb U (t_lss U U U (LV U U (KS 58 U ?_ ?_)))))
     .intro hI;replace hI:=AR hI;refine B9 U (B0 U (BX R5 Cb CR U U ?_));refine AC Fa U (BC B1 U (fun _ hx=>(R5.ext0 (H8.ext.trans hx)).fld (hy (by omega)) rfl (j:=0) rfl) ?_);refine B9 U (B0 U (BX Rp Cn Cw U U ?_));refine AC EK U (BC B1 U (fun _ hx=>(Rp.ext0 (hE8.trans hx)).fld hx1 rfl (j:=0) rfl) ?_);refine AV ?_;replace H:=H.drew;refine Aj qB (OC _ _ _ _ y.it.key x.x.k _ ((hyo (by omega)).1.ext0 (H8.ext.trans H.ext)) (hxo.k.1.ext0 (hE8.trans H.ext)) (hx:=by have:=(hyo (by omega)).2;omega)) U ?_;rintro v w ⟨rfl,hx69⟩;replace H:=H.call hx69;refine Ab (Bb (H.ext) (AD U U ?_));refine AV (AN U (.bool _) U (Ab (Bb (H.ext) (B4 (Aa ?_)))));exact⟨(),rfl,⟨qab Value.bool (by unfold isP;rw[hyD (by omega)];rfl),trivial⟩,H.ext⟩
     .intro hI;replace hI:=AU hI;refine Cp U (Cp U (Cp U (Cp U (Cp U (Cp U (Cp U (Cp U (Cp U (Cp U ?_)))))))));refine AV ?_;replace H:=H.drew;refine Ag U (Ab (Bb (H.ext) (AD U U ?_)));refine AV (AM U (.bool _) U (Ab (Bb (H.ext) (B4 (Aa ?_)))));exact⟨(),rfl,⟨qab Value.bool (by unfold isP;rw[qbz (by omega)]),trivial⟩,H.ext⟩
    .rintro - j70 w hx70;obtain⟨w9,rfl⟩:=qD w;refine Gn 7083549724304467820672 (α:=Unit) (fun _=>[(7,.int .i64 (Jl D x.x.k:Int))]) (fun _ w'=>w'=w9) U ?_ ?_
     .skip
      refine Av _ U ?_ ?_
      .intro hJ;refine Au (Ae U (Ay U U ?_));refine Ac U (qA ?_);exact⟨(),rfl,⟨qab (Value.int .i64) (by unfold Jl;rw[if_pos hJ];omega),trivial⟩,rfl⟩
      .intro hJ;refine Ap (Aa ?_);exact⟨(),rfl,⟨qab (Value.int .i64) (by unfold Jl;rw[if_neg (by rw[hJ];decide)]),trivial⟩,rfl⟩
     .rintro - j7 w hw7;rw[hw7];clear hw7;have H9:=H8.call hx70;have Hs:=Ctx.startL H9.blk H9.nd;refine Au (Ah U (Ah U (Ae U (FB Cb CR U U ?_))));refine DQ (L:=[]) U Cb Cb CR NC Fd U ((qs.drop (Jl D x.x.k)).flatMap Gz) U U Hs O8 (by rw[JZ,qbg];omega) P6 (Rd.app ((R5.ext0 H9.ext).cut _ _ (by omega)) (fun _ _=>rfl) (by decide)) ?_;rintro a77 c77 f77 w77 H77 O77;refine Ak U (Ab (AE (Aa (Au (Ae U (Ay U U ?_))))));refine Ac U (qA ?_);have H10:=Nw H9 H77;have O10:OS a77 (n8+(D.length - Jl D x.x.k)) c77 2 f77 ((qs.take (EF D x.x.k)++zs++qs.drop (Jl D x.x.k)).flatMap Gz):=by rw[qbc];exact O77
      have hmap:(qs.take (EF D x.x.k)++zs++qs.drop (Jl D x.x.k)).map (fun m=>prI m.it)=Ep L (W.take (i+1)):=by rw[qay,qay,List.map_take,qd0,hq5,hz8,hdone]
      have hnum:n8+(D.length - Jl D x.x.k)=(Ep L (W.take (i+1))).length:=by rw[<-hmap,qai];exact O10.numN (fun _ _=>rfl) (by decide)
      refine⟨(i+1,a77,c77),rfl,⟨rfl,by dsimp only;rw[<-hnum];rfl,trivial⟩,⟨by dsimp only;omega,hE.trans H10.ext,Acu hMi H10 O10 (fun q hq=>?_) hmap,hfull⟩,by dsimp only;omega⟩
      rcases qat.1 hq with hq|hq
      .rcases qat.1 hq with hq|hq
       .exact(hok5 q (qbq hq)).call H10.ext
       .exact(Mw (hok8 q hq) hx70 H77).weak fun y hy => .inl (hMi y hy)
      .exact(hok5 q (qcy hq)).call H10.ext
  .intro hB;replace hB:=AU hB;have hiW:W.take i=W:=qa6 (by omega);rw[hiW]at P5;refine B2 (Aw (Aw (AZ (Aa (Ad (Ah U (Ak U (qA (A6 (AG (v:=(.slice _ _ _)) U U U ?_))))))))));rw[hiW];exact⟨a5,c5,rfl,P5,hE⟩
structure Res9(A:Dev)(P:List Nat)(L':List Pr)(e r':Int)(A':Dev)(P':List Nat)(mx:Nat):Prop where
 aft:After 362 A P A' P'
 few:Few A' mx
 out:(e=0/\A'.on=true/\TreeAt 362 A' P' r' L')\/(e=8/\A.left ≠ -1/\A'.on=false)\/(e=7/\A'.on=true)
section
variable {A:Dev}{P:List Nat}{root:Int}{L:List Pr}{key val:Byt}{mx:Nat}
theorem Vp{G:List It->List It}{g:List Pr->List Pr}(act:Acts key G g)(hr:∀L,Rising L->Rising (g L))(T:TreeAt 362 A P root L)(hon:A.on=true)(hl:362+P.length<=A.B.length)(hP:P.length<=2000)(hfew:Few A mx) :
  Res9 A P (g L) (DE 362 A P root key G).1 (DE 362 A P root key G).2.1 (DE 362 A P root key G).2.2.A (DE 362 A P root key G).2.2.P (mx+40):=by
 have ht:=Yl (fr:=362) (P:=P) (root:=root) (key:=key) (G:=G) hon;obtain⟨h1,h2⟩:=UV act hr T hon hl hP (hm24 hP);refine⟨h1,UX hfew,?_⟩
 rcases h2 with⟨h3,h4,h5⟩|⟨_,h4,h3⟩
 .exact .inl ⟨h3,h4,h5⟩
 .rcases h3 with⟨h3,h5⟩|⟨h3,h5⟩
  .rw[h3]at ht;exact .inr (.inl ⟨h3,h5,ht.off⟩)
  .exact .inr (.inr ⟨h3,ht.on (by rw[h3];decide)⟩)
theorem Aj9(T:TreeAt 362 A P root L)(hon:A.on=true)(hl:362+P.length<=A.B.length)(hP:P.length<=2000)(hfew:Few A mx)(hk:Dg key.length val.length=true) :
  Res9 A P (HU L key val) (JR 362 A P root key val).1 (JR 362 A P root key val).2.1 (JR 362 A P root key val).2.2.1 (JR 362 A P root key val).2.2.2 (mx+40):=by
 obtain⟨S,td,-,-⟩:=T.told hon hl hP;unfold JR;rw[if_neg (by rw[td.may];simp),if_pos hk];unfold Dg at hk;simp only[qao,qaq]at hk;exact Vp (g:=fun L=>HU L key val) (XP hk.1 hk.2.1 hk.2.2) (fun L h=>GR h key val) T hon hl hP hfew
theorem Aka(T:TreeAt 362 A P root L)(hon:A.on=true)(hl:362+P.length<=A.B.length)(hP:P.length<=2000)(hfew:Few A mx)(hk:Dg key.length 0=true) :
  Res9 A P (JD L key) (Hi 362 A P root key).1 (Hi 362 A P root key).2.1 (Hi 362 A P root key).2.2.2.1 (Hi 362 A P root key).2.2.2.2 (mx+40):=by
 have hget:=XS (key:=key) T hon hl hP;rw[if_pos hk]at hget;unfold Hi;rw[hget,if_neg (by simp)]
 cases hg:DO L key with
 |none =>
  rw[if_pos (show((0,(none:Option Byt)):Int × Option Byt).2.isSome=false from rfl),UF hg];exact⟨After.refl _ _ _,hfew.mono (by omega),.inl ⟨rfl,hon,T⟩⟩
 |some u =>
  rw[if_neg (by simp)];exact Vp (g:=fun L=>JD L key) (XQ key) (fun L h=>HV h key) T hon hl hP hfew
end
theorem TA{fr h:Nat}{i:Bool}:∀{Hs:List (List It)} {c:Ch} {acc:List It} {L:List Pr} {S:List Nat},Part (RD c.A fr) h i Hs.flatten L S->OkP L->Held c.P S->On fr c->(∀a∈Hs,Many i a/\Bc i a<=503)->Hs.length<=DD c.P ->
  ∃t,CI fr c (C3 fr i Hs c acc).2.1 t []/\(((C3 fr i Hs c acc).1=8/\c.A.left ≠ -1)\/∃K S',t.length=Hs.length/\(C3 fr i Hs c acc).1=0/\On fr (C3 fr i Hs c acc).2.1/\(C3 fr i Hs c acc).2.2=acc++K/\K.length=Hs.length/\Kids (Lies (RD (C3 fr i Hs c acc).2.1.A fr) h) K L S'/\S'.Perm (S++t)/\Held (C3 fr i Hs c acc).2.1.P S')
 | [],c,acc,L,S,hp,ho,hh,hn,hm,hf=>by
  have hLS:L=[]/\S=[]:=by
   cases h with
   |zero =>
    obtain⟨_,he,rfl⟩:=hp
    cases L with
    |nil=>exact⟨rfl,rfl⟩
    |cons _ _=>cases he
   |succ h=>exact hp.2
  obtain⟨rfl,rfl⟩:=hLS;exact⟨[],CI.refl _ _,.inr ⟨[],[],rfl,rfl,hn,by simp[C3],rfl,⟨rfl,rfl⟩,by simp,fun x hx=>by cases hx⟩⟩
 |a::Hs,c,acc,L,S,hp,ho,hh,hn,hm,hf=>by
  rw[qe7]at hp;obtain⟨La,Lb,Sa,Sb,rfl,rfl,pa,pb⟩:=hp.append;have hoa:OkP La:=fun p hp=>ho p (qa5 _ hp);have hob:OkP Lb:=fun p hp=>ho p (qax _ hp);have hha:Held c.P Sa:=hh.sub fun x hx=>qa5 _ hx;have hhb:Held c.P Sb:=hh.sub fun x hx=>qax _ hx;obtain⟨hma,hta⟩:=hm a (qaf ..);rw[qav]at hf;obtain⟨t,w1,w2,w3⟩:=Mn pa hoa hha hn hma hta
  rcases w3 with⟨h7,rfl,h8,h9,h10⟩|h7
  .have hfr:=w1.free;rw[qbu]at hfr
   have hput:C3 fr i (a::Hs) c acc=C3 fr i Hs (wrC fr c i a).2 (acc++[⟨Gy a,[],Ci c.P⟩]):=by
    conv=>lhs;unfold C3
    rw[if_pos h7]
   rw[hput];obtain⟨t',v1,v⟩:=TA (Hs:=Hs) (acc:=acc++[⟨Gy a,[],Ci c.P⟩]) (pb.frame (w1.rd hhb)) hob (hhb.keep w1) h8 (fun b hb=>hm b (qaj _ hb)) (by omega);have hCI:=w1.trans v1;refine⟨[Ci c.P]++t',hCI,?_⟩
   rcases v with⟨v,vl⟩|⟨K,S',v2,v3,v4,v5,v6,v7,v8,v9⟩
   .exact .inl ⟨v,fun h=>vl (w1.left h)⟩
   .refine .inr ⟨⟨Gy a,[],Ci c.P⟩::K,(Ci c.P::Sa)++S',by rw[qan,v2];simp;omega,v3,v4,by rw[v5];simp,by simp[v6],?_,?_,?_⟩
    .exact⟨La,Lb,Ci c.P::Sa,S',rfl,rfl,h9.frame (v1.rd (w1.held.app (hha.keep w1))),h10,rfl,v7⟩
    .have h1:((Ci c.P::Sa)++S').Perm (([Ci c.P]++Sa)++(t'++Sb)):=qfh _ (v8.trans qcn);exact h1.trans (perm_front.trans qcn)
    .exact((w1.held.app (hha.keep w1)).keep v1).app v9
  .rcases h7 with⟨h7,h8⟩|⟨_,h7⟩
   .have hput:C3 fr i (a::Hs) c acc=((wrC fr c i a).1,(wrC fr c i a).2,[]):=by
     conv=>lhs;unfold C3
     rw[if_neg (by rw[h7];decide)]
    rw[hput];exact⟨t,w1,.inl ⟨h7,h8⟩⟩
   .omega
theorem Qm{fr:Nat}:∀{n h:Nat} {c:Ch} {i:Bool} {M:List It} {L:List Pr} {S:List Nat} (lv:Nat),lv<=n->n<=1500->Part (RD c.A fr) h i M L S->OkP L->Held c.P S->On fr c->Many i M->2*Bc i M / 503+1<=lv->FN n lv<=DD c.P->c.tk.length+DD c.P<=5000 ->
  ∃t,CI fr c (Cg fr n c i M).2.1 t []/\(((Cg fr n c i M).1=8/\c.A.left ≠ -1)\/(t.length<=FN n lv/\(Cg fr n c i M).1=0/\On fr (Cg fr n c i M).2.1/\∃S',Root (RD (Cg fr n c i M).2.1.A fr) (Cg fr n c i M).2.2 L S'/\S'.Perm (S++t)/\Held (Cg fr n c i M).2.1.P S'))
 |0,h,c,i,M,L,S,lv,hlv,hn15,hp,ho,hh,hn,hm,h3,hf,htk=>by omega
 |n+1,h,c,i,M,L,S,lv,hlv,hn15,hp,ho,hh,hn,hm,h3,hf,htk=>by
  have hx:=hp.ok ho hh hn.few
  have hsz:∀x∈M,CM i x<=Nt i:=fun x hx'=>by
   obtain⟨_,h4,h5⟩:=hx x hx';unfold Nt
   split
   .rename_i hi;exact h5 hi
   .exact h4
  obtain⟨f1,f2,f3,f4⟩:=Vi hm hsz;have hklv:(Dj i M).length<=lv:=by omega
  have hfl:lv<=FN (n+1) lv:=Tn _ _
  have hok:okF c i M=true:=by
   have hM:=Jd i M;unfold okF;simp only[qao,qaq,qb5];refine⟨by omega,by omega,fun x hx'=>?_,fun a ha=>?_⟩
   .obtain⟨⟨h4,h5,h6,_⟩,h7,_⟩:=hx x hx';omega
   .have h4:=Jd i a;have h5:=(f2 a ha).2;exact⟨(f2 a ha).1.ne,by omega⟩
  obtain⟨t,p1,p⟩:=TA (Hs:=Dj i M) (acc:=[]) (by rw[f1];exact hp) ho hh hn f2 (by omega)
  rcases p with⟨p,pl⟩|⟨K,S',p2,p3,p4,p5,p6,p7,p8,p9⟩
  .refine⟨t,?_,.inl ⟨?_,pl⟩⟩ <;> unfold Cg <;> rw[if_neg (by rw[hok];simp),if_pos (by rw[p];decide)]
   .exact p1
   .exact p
  .rw[qa7]at p5;unfold Cg;rw[if_neg (by rw[hok];simp),if_neg (by rw[p3];simp)]
   split
   .rename_i h1
    refine⟨t,p1,.inr ⟨by omega,rfl,p4,S',?_,p8,p9⟩⟩;rw[p5]at h1 |-
    match K,h1 with
    | [z],_ =>
     obtain⟨L1,L2,S1,S2,rfl,rfl,k1,k2,k3,rfl,rfl⟩:=p7;rw[qa3,qa3];exact .inr ⟨h,z.page,rfl,k1⟩
   .rename_i h1
    rw[p5]at h1 |-;have hK2:2<=K.length:=by omega
    have hlv2:1<lv:=by omega
    have hmg:FN (n+1) lv=lv+FN n (2*lv*38 / 503+1):=by
     conv=>lhs;unfold FN
     rw[if_pos hlv2]
    rw[hmg]at hf |-;have hfree:=p1.free;have htk2:(C3 fr i (Dj i M) c []).2.1.tk.length=c.tk.length+t.length:=by rw[p1.tk,qan]
    have hP1:Part (RD (C3 fr i (Dj i M) c []).2.1.A fr) (h+1) true K L S':=⟨rfl,p7⟩;have hKs:=Fq (inner:=true) (m:=38) (l:=K) fun x hx'=>((hP1.ok ho p9 p4.few) x hx').2.2 rfl
    have hle:2*Bc true K / 503+1<=2*lv*38 / 503+1:=by
     have h5:2*Bc true K<=2*lv*38:=by
      have:38*K.length<=38*lv:=qb7 _ (by omega)
      omega
     have:=Nat.div_le_div_right (c:=503) h5;omega
    obtain⟨t',b1,b⟩:=Qm (n:=n) (2*lv*38 / 503+1) (by omega) (by omega) hP1 ho p9 p4 (show 2<=K.length from hK2) hle (by omega) (by omega);have hCI:=p1.trans b1;refine⟨t++t',hCI,?_⟩
    rcases b with⟨b,bl⟩|⟨b2,b3,b4,S'',b5,b6,b7⟩
    .exact .inl ⟨b,fun h=>bl (p1.left h)⟩
    .refine .inr ⟨by rw[qan];omega,b3,b4,S'',b5,?_,b7⟩;rw[<-qa1];exact b6.trans (p8.append_right _)
theorem OD{fr:Nat}:∀{n:Nat} {c:Ch} {i:Bool} {M:List It},c.A.on=true->Tells (Cg fr n c i M).2.1.A (Cg fr n c i M).1
 |0,c,i,M,h => .ok h (show(99:Int)≠8 by decide)
 |n+1,c,i,M,h=>by
  have h1:=Ns (fr:=fr) (i:=i) (Hs:=Dj i M) (acc:=[]) h;unfold Cg
  split
  .exact .ok h (show(99:Int)≠8 by decide)
  .split
   .exact h1
   .rename_i h0
    have h2:=h1.on (by rw[Classical.not_not.1 h0];decide)
    split
    .exact .ok h2 (show(0:Int)≠8 by decide)
    .exact OD h2
theorem Yy{fr:Nat}{c:Ch}{inner:Bool}{M:List It}{m:Nat}(h:Few c.A (m+c.tk.length)):Few (wrC fr c inner M).2.A (m+(wrC fr c inner M).2.tk.length):=by
 unfold wrC
 split
 .exact h
 .split
  .rw[qan];exact h.mono (by rw[qbu];omega)
  .rw[qan];exact Hv h _ _
theorem Vq{fr:Nat}{i:Bool}{m:Nat}:∀{Hs:List (List It)} {c:Ch} {acc:List It},Few c.A (m+c.tk.length)->Few (C3 fr i Hs c acc).2.1.A (m+(C3 fr i Hs c acc).2.1.tk.length)
 | [],_,_,h=>h
 |x::Hs,c,acc,h=>by
  unfold C3
  split
  .exact Vq (Yy h)
  .exact Yy h
theorem Qn{fr m:Nat}:∀{n:Nat} {c:Ch} {i:Bool} {M:List It},Few c.A (m+c.tk.length)->Few (Cg fr n c i M).2.1.A (m+(Cg fr n c i M).2.1.tk.length)
 |0,_,_,_,h=>h
 |n+1,c,i,M,h=>by
  have h1:=Vq (fr:=fr) (i:=i) (Hs:=Dj i M) (acc:=[]) h;unfold Cg
  split
  .exact h
  .split
   .exact h1
   .split
    .exact h1
    .exact Qn h1
theorem Aah:∀lv,lv<200->FN 1500 lv<=max 40 ((5*lv+3) / 4):=by decide +kernel
structure Base9(A0:Dev)(P0:List Nat)(A:Dev)(P:List Nat):Prop where
 back:P.map DC=P0
 blk:∀q,(∀x:Nat,P0[x]?=some 0->q≠362+x)->A.B.getD q (zeros,[])=A0.B.getD q (zeros,[])
 blen:A.B.length=A0.B.length
 left:A0.left = -1->A.left = -1
section
variable {A0 A A':Dev}{P0 P P':List Nat}{root:Int}{L M:List Pr}{mx:Nat}
theorem Base9.len(s:Base9 A0 P0 A P):P.length=P0.length:=by rw[<-s.back,qai]
theorem Base9.after(s:Base9 A0 P0 A P)(af:After 362 A P A' P'):Base9 A0 P0 A' P' :=
 ⟨af.back.trans s.back,fun q hq=>(af.blk q fun x hx=>hq x (by rw[<-s.back,qas,hx];rfl)).trans (s.blk q hq),af.blen.trans s.blen,fun h=>af.left (s.left h)⟩
theorem Base9.start(h01:∀s∈P,s=0\/s=1):Base9 A P A P:=by
 refine⟨?_,fun q _=>rfl,rfl,id⟩
 have h:∀s∈P,DC s=id s:=fun s hs=>by rcases h01 s hs with rfl|rfl <;> rfl
 rw[qc0 h,List.map_id]
theorem Base9.old(s:Base9 A0 P0 A P)(T:TreeAt 362 A0 P0 root M):TreeAt 362 A P0 root M:=by
 obtain⟨S,h1,h2,h3⟩:=T.lies;refine⟨⟨S,h1.frame fun x hx=>?_,h2,h3⟩,T.rise,T.ok⟩;unfold RD;rw[s.blk _ fun y hy he=>?_];obtain rfl:x=y:=by omega
 rcases(h3 x).1 hx with h|h <;> (rw[hy]at h;cases h)
def MQ(f:Byt->Option Byt)(M:List Pr)(k:Byt):List Pr:=match f k with|some v=>HU M k v|none=>JD M k
def P7(f:Byt->Option Byt)(M:List Pr)(ts:List Byt):List Pr:=ts.foldl (MQ f) M
theorem Wx(h:Rising M)(f:Byt->Option Byt)(k:Byt):Rising (MQ f M k):=by
 unfold MQ
 split
 .exact GR h _ _
 .exact HV h _
theorem Afa(h:Rising M)(f:Byt->Option Byt)(k k':Byt):DO (MQ f M k) k'=if k'=k then f k else DO M k':=by
 unfold MQ
 cases hf:f k with
 |none=>dsimp only;rw[Yo h]
 |some v=>dsimp only;rw[Yn h]
theorem TE(f:Byt->Option Byt):∀{ts:List Byt} {M:List Pr},Rising M->Rising (P7 f M ts)/\∀k,DO (P7 f M ts) k=if k∈ts then f k else DO M k
 | [],M,h=>⟨h,fun k=>by simp[P7]⟩
 |t::ts,M,h=>by
  obtain⟨h1,h2⟩:=TE f (ts:=ts) (Wx h f t);refine⟨h1,fun k=>?_⟩;show DO (P7 f (MQ f M t) ts) k=_;rw[h2,Afa h]
  by_cases h3:k∈ts
  .rw[if_pos h3,if_pos (qaj _ h3)]
  .rw[if_neg h3]
   by_cases h4:k=t
   .rw[if_pos h4,if_pos (by rw[h4];exact qaf ..),h4]
   .rw[if_neg h4,if_neg (by simp[h3,h4])]
theorem Vr{f:Byt->Option Byt}{ts:List Byt}(hM:Rising M)(hL:Rising L)(hf:∀k,f k=DO L k)(hts:∀k,k∉ts->DO M k=DO L k):P7 f M ts=L:=by
 obtain⟨h1,h2⟩:=TE f (ts:=ts) hM;refine Yp h1 hL fun k=>?_;rw[h2]
 split
 .exact hf k
 .rename_i h;exact hts k h
def Jm(f:Byt->Option Byt)(k:Byt)(r:Int)(A:Dev)(P:List Nat):Int × Int × Dev × List Nat :=
 match f k with
 |some v=>JR 362 A P r k v
 |none=>((Hi 362 A P r k).1,(Hi 362 A P r k).2.1,(Hi 362 A P r k).2.2.2.1,(Hi 362 A P r k).2.2.2.2)
def Dn(f:Byt->Option Byt):List Byt->Int->Dev->List Nat->Int × Int × Dev × List Nat
 | [],r,A,P=>(0,r,A,P)
 |k::ts,r,A,P=>if(Jm f k r A P).1=0 then Dn f ts (Jm f k r A P).2.1 (Jm f k r A P).2.2.1 (Jm f k r A P).2.2.2 else Jm f k r A P
theorem Yz{f:Byt->Option Byt}{k:Byt}(hf:∀v,f k=some v->v.length<=128)(hk:1<=k.length/\k.length<=32)(T:TreeAt 362 A P root M)(hon:A.on=true)(hl:362+P.length<=A.B.length)(hP:P.length<=2000)(hfew:Few A mx) :
  Res9 A P (MQ f M k) (Jm f k root A P).1 (Jm f k root A P).2.1 (Jm f k root A P).2.2.1 (Jm f k root A P).2.2.2 (mx+40):=by
 unfold Jm MQ
 cases h:f k with
 |none =>
  dsimp only;exact Aka T hon hl hP hfew (by unfold Dg;simp only[qao,qaq];omega)
 |some v =>
  dsimp only;have:=hf v h;exact Aj9 T hon hl hP hfew (by unfold Dg;simp only[qao,qaq];omega)
theorem P9{f:Byt->Option Byt}(hf:∀k v,f k=some v->v.length<=128):∀(ts:List Byt) (root:Int) (A:Dev) (P:List Nat) (M:List Pr) (mx:Nat),(∀k∈ts,1<=k.length/\k.length<=32)->TreeAt 362 A P root M->A.on=true->362+P.length<=A.B.length->P.length<=2000->Few A mx->Base9 A0 P0 A P ->
  Base9 A0 P0 (Dn f ts root A P).2.2.1 (Dn f ts root A P).2.2.2/\Few (Dn f ts root A P).2.2.1 (mx+40*ts.length) /\
   (((Dn f ts root A P).1=0/\(Dn f ts root A P).2.2.1.on=true/\TreeAt 362 (Dn f ts root A P).2.2.1 (Dn f ts root A P).2.2.2 (Dn f ts root A P).2.1 (P7 f M ts))\/((Dn f ts root A P).1=8/\A0.left ≠ -1/\(Dn f ts root A P).2.2.1.on=false)\/((Dn f ts root A P).1=7/\(Dn f ts root A P).2.2.1.on=true))
 | [],root,A,P,M,mx,_,T,hon,hl,hP,hfew,b=>⟨b,hfew,.inl ⟨rfl,hon,T⟩⟩
 |k::ts,root,A,P,M,mx,hts,T,hon,hl,hP,hfew,b=>by
  have h:=Yz (f:=f) (hf k) (hts k (qaf ..)) T hon hl hP hfew;have b1:=b.after h.aft
  rcases h.out with⟨h1,h2,h3⟩|⟨h1,h2,h3⟩|⟨h1,h2⟩
  .have hst:Dn f (k::ts) root A P=Dn f ts (Jm f k root A P).2.1 (Jm f k root A P).2.2.1 (Jm f k root A P).2.2.2:=if_pos h1;rw[hst];obtain⟨i1,i2,i3⟩:=P9 hf ts _ _ _ _ _ (fun k hk=>hts k (qaj _ hk)) h3 h2 (by rw[h.aft.blen,h.aft.len];exact hl) (by rw[h.aft.len];exact hP) h.few b1;exact⟨i1,i2.mono (by rw[qav];omega),i3⟩
  .have hst:Dn f (k::ts) root A P=Jm f k root A P:=if_neg (by rw[h1];decide);rw[hst];exact⟨b1,h.few.mono (by rw[qav];omega),.inr (.inl ⟨h1,fun h=>h2 (b.left h),h3⟩)⟩
  .have hst:Dn f (k::ts) root A P=Jm f k root A P:=if_neg (by rw[h1];decide);rw[hst];exact⟨b1,h.few.mono (by rw[qav];omega),.inr (.inr ⟨h1,h2⟩)⟩
def Hl(P:List Nat):Nat:=(Hj P P.length).length
theorem Afb{P S:List Nat}(hnd:S.Nodup)(hS:∀x:Nat,x∈S↔P[x]?=some 1\/P[x]?=some 2):S.Perm (Hj P P.length):=by
 refine(qd2 hnd (List.nodup_range.filter _)).2 fun x=>?_;rw[qbj,qdc,hS];unfold Jz;rw[qcf,qaq,qaq];refine⟨fun h=>⟨h.elim (fun h=>(qap.1 h).1) fun h=>(qap.1 h).1,h⟩,And.right⟩
theorem II{P S:List Nat}(hnd:S.Nodup)(hS:∀x:Nat,x∈S↔P[x]?=some 1\/P[x]?=some 2):Hl P=S.length:=(Afb hnd hS).length_eq.symm
def Kc(A:Dev)(P:List Nat)(L:List Pr):Int × Ch × Int:=if L=[]then(0,⟨A,P,[],[]⟩,-1)else Cg 362 1500 ⟨A,P,[],[]⟩ false (L.map BM)
def TF(A:Dev)(P:List Nat)(L:List Pr):List Nat:=if L=[]then P else(DI (Cg 362 1500 ⟨A,P,[],[]⟩ false (L.map BM)).2.1 (Cg 362 1500 ⟨A,P,[],[]⟩ false (L.map BM)).1).P
theorem Aai{P:List Nat}(h01:∀s∈P,s=0\/s=1):Hl P+DD P=P.length:=by
 have hs:P.map BN=P:=by
  have h:∀s∈P,BN s=id s:=fun s hs=>by rcases h01 s hs with rfl|rfl <;> rfl
  rw[qc0 h,List.map_id]
 have h1:=Ky (P:=P) (fun s hs=>by rcases h01 s hs with rfl|rfl <;> decide) P.length (qae _);rw[qa6 (by rw[qai];omega),hs]at h1;exact h1
theorem Qo(hon:A.on=true)(hl:362+P.length<=A.B.length)(hP:P.length<=2000)(hfew:Few A mx)(h01:∀s∈P,s=0\/s=1)(hL:Rising L)(ho:OkP L){S:List Nat}(hnd:S.Nodup)(hS:∀x:Nat,x∈S↔P[x]?=some 1\/P[x]?=some 2){h:Nat}(hroom:S.length+h<=P.length)(hh:FN 1500 (2*Bx L / 503+1)<=h)(hb:2*Bx L / 503+1<=1500) :
  Base9 A P (Kc A P L).2.1.A (TF A P L)/\Few (Kc A P L).2.1.A (mx+2000)/\(((Kc A P L).1=8/\A.left ≠ -1/\(Kc A P L).2.1.A.on=false)\/((Kc A P L).1=0/\(Kc A P L).2.1.A.on=true/\TreeAt 362 (Kc A P L).2.1.A (S.foldl EC (TF A P L)) (Kc A P L).2.2 L/\Base9 A P (Kc A P L).2.1.A (S.foldl EC (TF A P L))/\Hl (S.foldl EC (TF A P L))<=h)):=by
 have hdrop:∀{A':Dev} {P':List Nat},Base9 A P A' P'->Base9 A P A' (S.foldl EC P'):=fun{A' P'} b=>by
  refine⟨?_,b.blk,b.blen,b.left⟩;rw[<-b.back];refine qci fun x=>?_;rw[qas,qas,JT S P' hnd x]
  split
  .cases P'[x]? with
   |none=>rfl
   |some s=>simp only[qbd];rw[UU]
  .rfl
 have hfc:=Aai h01;rw[II hnd hS]at hfc;unfold Kc TF
 by_cases hne:L=[]
 .rw[if_pos hne,if_pos hne];subst hne;have b0:Base9 A P A P:=Base9.start h01
  have hT:∀x:Nat,(S.foldl EC P)[x]?=some 1\/(S.foldl EC P)[x]?=some 2->False:=fun x hx=>by
   rw[JT S P hnd x]at hx
   by_cases hxS:x∈S
   .rw[if_pos hxS]at hx
    cases hpx:P[x]? with
    |none=>rw[hpx]at hx;simp at hx
    |some s =>
     rw[hpx]at hx;simp only[qbd,qbb]at hx;have:=Mp s;omega
   .rw[if_neg hxS]at hx;exact hxS ((hS x).2 hx)
  refine⟨b0,hfew.mono (by omega),.inr ⟨rfl,hon,⟨⟨[],.inl ⟨rfl,rfl,rfl⟩,qcb,fun x=>⟨(fun h=>by cases h),fun hx=>(hT x hx).elim⟩⟩,hL,ho⟩,hdrop b0,?_⟩⟩;rw[II (S:=[]) qcb fun x=>⟨(fun h=>by cases h),fun hx=>(hT x hx).elim⟩];exact qak _
 .rw[if_neg hne,if_neg hne];have hm0:=Tn 1500 (2*Bx L / 503+1);obtain⟨t,c1,c2⟩:=Qm (fr:=362) (n:=1500) (h:=0) (c:=⟨A,P,[],[]⟩) (i:=false) (M:=L.map BM) (L:=L) (S:=[]) (2*Bx L / 503+1) hb (qae _) ⟨rfl,rfl,rfl⟩ ho (fun x hx=>by cases hx) ⟨hon,hl,by show P.length<=4096;omega⟩ (by show L.map BM≠[];simpa using hne) (by rw[Ts];exact qae _) (by show _<=DD P;omega) (by show 0+DD P<=5000;omega);have ht:=OD (fr:=362) (n:=1500) (c:=⟨A,P,[],[]⟩) (i:=false) (M:=L.map BM) hon
  have hft:t.length<=P.length:=by
   have:=c1.free;have h2:DD P<=P.length:=Ai2 P;dsimp only at this;omega
  have hfw:Few (Cg 362 1500 ⟨A,P,[],[]⟩ false (L.map BM)).2.1.A (mx+2000):=by
   have h1:=Qn (fr:=362) (n:=1500) (c:=⟨A,P,[],[]⟩) (i:=false) (M:=L.map BM) (m:=mx) (hfew.mono (qcp ..));rw[c1.tk]at h1;exact h1.mono (by simp;omega)
  rcases c2 with⟨e8,el⟩|⟨d1,e0,d3,S',d5,d6,d7⟩
  .rw[e8]at ht |-;obtain⟨af,hPP⟩:=Ta (e:=8) c1 ⟨rfl,rfl⟩ (by decide);have b1:=(Base9.start (A:=A) h01).after af;exact⟨b1,hfw,.inl ⟨rfl,el,ht.off⟩⟩
  .rw[e0]at ht |-
   have hP2:(DI (Cg 362 1500 ⟨A,P,[],[]⟩ false (L.map BM)).2.1 0).P=(Cg 362 1500 ⟨A,P,[],[]⟩ false (L.map BM)).2.1.P:=by
    unfold DI;rw[if_neg (by decide)];have:=c1.gn;dsimp only at this |-;rw[this];rfl
   rw[hP2];have hnow:=c1.now;have hwas:=c1.was;dsimp only at hnow hwas
   have b1:Base9 A P (Cg 362 1500 ⟨A,P,[],[]⟩ false (L.map BM)).2.1.A (Cg 362 1500 ⟨A,P,[],[]⟩ false (L.map BM)).2.1.P:=by
    refine⟨qci fun x=>?_,fun q hq=>c1.blk q fun x hx=>hq x (hwas x hx),c1.blen,c1.left⟩;rw[qas,hnow x]
    by_cases hx:x∈t
    .rw[if_pos hx,hwas x hx];rfl
    .rw[if_neg hx]
     cases hpx:P[x]? with
     |none=>rfl
     |some s=>rcases h01 s (qad hpx)with rfl|rfl <;> rfl
   have hSt:S'.Perm t:=by simpa using d6
   have hm:∀x:Nat,x∈S'↔(S.foldl EC (Cg 362 1500 ⟨A,P,[],[]⟩ false (L.map BM)).2.1.P)[x]?=some 1\/(S.foldl EC (Cg 362 1500 ⟨A,P,[],[]⟩ false (L.map BM)).2.1.P)[x]?=some 2:=fun x=>by
    rw[hSt.mem_iff,JT S _ hnd x,hnow x]
    by_cases hx:x∈t
    .have h0:=hwas x hx
     have hxS:x∉S:=fun h=>by rcases(hS x).1 h with h|h <;> (rw[h0]at h;cases h)
     rw[if_neg hxS,if_pos hx];simp[hx]
    .rw[if_neg hx]
     by_cases hxS:x∈S
     .rw[if_pos hxS];refine⟨fun h=>absurd h hx,fun h=>?_⟩
      cases hpx:P[x]? with
      |none=>rw[hpx]at h;simp at h
      |some s =>
       rw[hpx]at h;simp only[qbd,qbb]at h;have:=Mp s;omega
     .rw[if_neg hxS];exact⟨fun h=>absurd h hx,fun h=>absurd ((hS x).2 h) hxS⟩
   have hnS:S'.Nodup:=hSt.nodup_iff.2 c1.nd;refine⟨b1,hfw,.inr ⟨rfl,ht.on (by decide),⟨⟨S',d5,hnS,hm⟩,hL,ho⟩,hdrop b1,?_⟩⟩;rw[II hnS hm,hSt.length_eq];omega
def DX(f:Byt->Option Byt)(ts:List Byt)(L:List Pr)(h:Nat)(A:Dev)(P:List Nat)(root:Int)(S:List Nat):Int × Int × Dev × List Nat :=
 let s:=Dn f ts root A P
 if s.1≠7/\(s.1≠0\/Hl s.2.2.2<=h)then(s.1,s.2.1,s.2.2.1,s.2.2.2)
 else
  let b:=Kc s.2.2.1 (s.2.2.2.map DC) L
  if b.1≠0 then(b.1,b.2.2,b.2.1.A,TF s.2.2.1 (s.2.2.2.map DC) L)
  else(0,b.2.2,b.2.1.A,S.foldl EC (TF s.2.2.1 (s.2.2.2.map DC) L))
theorem Afc{f:Byt->Option Byt}{ts:List Byt}{h:Nat}{S:List Nat}(T:TreeAt 362 A P root M)(h01:∀s∈P,s=0\/s=1)(hnd:S.Nodup)(hS:∀x:Nat,x∈S↔P[x]?=some 1\/P[x]?=some 2)(hon:A.on=true)(hfew:Few A 0)(hL:Rising L)(ho:OkP L)(hf:∀k,f k=DO L k)(hts:∀k,k∉ts->DO M k=DO L k)(htk:∀k∈ts,1<=k.length/\k.length<=32)(hroom:S.length+h<=P.length)(hh:FN 1500 (2*Bx L / 503+1)<=h)(hb:2*Bx L / 503+1<=1500)(hl:362+P.length<=A.B.length:=by omega)(hP:P.length<=2000:=by omega):
  Base9 A P (DX f ts L h A P root S).2.2.1 (DX f ts L h A P root S).2.2.2/\Few (DX f ts L h A P root S).2.2.1 (40*ts.length+2000)/\(((DX f ts L h A P root S).1=8/\A.left ≠ -1/\(DX f ts L h A P root S).2.2.1.on=false)\/((DX f ts L h A P root S).1=0/\(DX f ts L h A P root S).2.2.1.on=true/\TreeAt 362 (DX f ts L h A P root S).2.2.1 (DX f ts L h A P root S).2.2.2 (DX f ts L h A P root S).2.1 L/\Hl (DX f ts L h A P root S).2.2.2<=h)):=by
 obtain⟨s1,s2,s3⟩:=P9 (A0:=A) (P0:=P) (f:=f) (fun k v hv=>(ho (k,v) ((EU hL).1 (by rw[<-hf,hv]))).2.2) ts root A P M 0 htk T hon hl hP hfew (Base9.start h01);rw[Vr T.rise hL hf hts]at s3;unfold DX;dsimp only
 have hbld:(Dn f ts root A P).2.2.1.on=true->(Dn f ts root A P).1=7\/(Dn f ts root A P).1=0->¬((Dn f ts root A P).1≠7/\((Dn f ts root A P).1≠0\/Hl (Dn f ts root A P).2.2.2<=h)) ->
   Base9 A P (DX f ts L h A P root S).2.2.1 (DX f ts L h A P root S).2.2.2/\Few (DX f ts L h A P root S).2.2.1 (40*ts.length+2000)/\(((DX f ts L h A P root S).1=8/\A.left ≠ -1/\(DX f ts L h A P root S).2.2.1.on=false)\/((DX f ts L h A P root S).1=0/\(DX f ts L h A P root S).2.2.1.on=true/\TreeAt 362 (DX f ts L h A P root S).2.2.1 (DX f ts L h A P root S).2.2.2 (DX f ts L h A P root S).2.1 L/\Hl (DX f ts L h A P root S).2.2.2<=h)):=fun hon2 _ hc=>by
  have hbk:(Dn f ts root A P).2.2.2.map DC=P:=s1.back;have hlen:=s1.blen;have b:=Qo (A:=(Dn f ts root A P).2.2.1) (P:=P) (L:=L) (mx:=40*ts.length) hon2 (by rw[hlen];exact hl) hP (s2.mono (by omega)) h01 hL ho hnd hS hroom hh hb;have hlift:∀{A':Dev} {P':List Nat},Base9 (Dn f ts root A P).2.2.1 P A' P'->Base9 A P A' P':=fun b=>⟨b.back,fun q hq=>(b.blk q hq).trans (s1.blk q hq),b.blen.trans hlen,fun h=>b.left (s1.left h)⟩;unfold DX;dsimp only;rw[if_neg hc,hbk];obtain⟨b1,b2,b3⟩:=b
  rcases b3 with⟨b3,b4,b5⟩|⟨b3,b4,b5,b6,b7⟩
  .rw[if_pos (by rw[b3];decide)];exact⟨hlift b1,b2,.inl ⟨b3,fun h=>b4 (s1.left h),b5⟩⟩
  .rw[if_neg (by rw[b3];simp)];exact⟨hlift b6,b2,.inr ⟨rfl,b4,b5,b7⟩⟩
 rcases s3 with⟨t1,t2,t3⟩|⟨t1,t2,t3⟩|⟨t1,t2⟩
 .by_cases hlo:Hl (Dn f ts root A P).2.2.2<=h
  .rw[if_pos ⟨by rw[t1];decide,.inr hlo⟩];exact⟨s1,s2.mono (by omega),.inr ⟨t1,t2,t3,hlo⟩⟩
  .have:=hbld t2 (.inr t1) (fun h=>h.2.elim (fun h=>h t1) hlo);unfold DX at this;exact this
 .rw[if_pos ⟨by rw[t1];decide,.inl (by rw[t1];decide)⟩];exact⟨s1,s2.mono (by omega),.inl ⟨t1,t2,t3⟩⟩
 .have:=hbld t2 (.inl t1) (fun h=>h.1 t1);unfold DX at this;exact this
end
end Go.Proofs.YtcpgbcabmcbclaaGreatDoor
