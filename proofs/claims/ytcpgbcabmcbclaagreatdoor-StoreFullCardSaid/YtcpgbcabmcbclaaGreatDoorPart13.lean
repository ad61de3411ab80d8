/- Part 13 of the proof. The last text: StoreFull: for every input the law answers true, and turns nothing. The tables that its row lists are premises, and tied to the text by its card. -/
import Derived.Test.YtcpgbcabmcbclaaGreatDoorPart12
import Derived.Test.YtcpgbcabmcbclaaGreatDoorCards
import Derived.Test.YtcpgbcabmcbclaaGreatDoorTie
import Derived.WalkKit
import Derived.ProofKit
import Derived.OpenShut
import Derived.Deep.DeepHandedRow
set_option maxRecDepth 20000
set_option maxHeartbeats 4000000
namespace Go.Proofs.YtcpgbcabmcbclaaGreatDoor
open Go.GV Go.Proofs.Tryz
attribute [local irreducible] A7 W Wq Wt
section
variable {w0 wb w w':World}{p:Sp}{A A':Dev}{P P':List Nat}{F F':Mut}{J J':Jr}{gen gen':Nat}{root root' n:Int}{l:List (Byt × Sv)}{o1 o2 o2':Obj}{b39 b1 b4 b5 q pp:Nat}{G:Int × Int × Dev × List Nat}{t:List (Byt × Int)}
abbrev ckF(b1 b4 b5:Nat)(p:Sp):List Value:=[.func (.func 53) #[ptr p.bs] #[],.func (.func 54) #[ptr p.bd] #[],.func (.func 55) #[] #[ptr b1,ptr b4,ptr b5],.func (.func 56) #[ptr p.bp] #[],.func (.func 57) #[ptr p.bj] #[],.func (.func 58) #[] #[ptr b1]]
abbrev NH(G:Int × Int × Dev × List Nat):Dev:=Cc G.2.2.1
abbrev RY(G:Int × Int × Dev × List Nat)(pp q:Nat):Byt:=tpB G.2.1 pp q
abbrev Xh(G:Int × Int × Dev × List Nat)(gen pp q:Nat):Dev:=Eh (NH G) (gen+1) (RY G pp q)
def Gok(G:Int × Int × Dev × List Nat):Prop:=G.1=0 /\ -1<=G.2.2.1.left
def Ahp(G:Int × Int × Dev × List Nat)(gen pp q:Nat)(e:Int)(A':Dev):Prop :=
 (G.1=e/\A'=G.2.2.1)\/(Gok G/\Df G.2.2.1=e/\A'=NH G)\/(Gok G/\Df G.2.2.1=0/\Gf (NH G) (gen+1) (RY G pp q)=e/\A'=Xh G gen pp q)
structure Cs9(w0 wb w:World)(p:Sp)(F:Mut)(b39 b1 b4 b5 q pp:Nat)(A:Dev)(P:List Nat)(F':Mut)(J:Jr)(gen:Nat)(root n:Int)(l:List (Byt × Sv))(o1 o2:Obj):Prop where
 g:Gk w0 w p A P F' J gen root n l o1 o2
 Y:Fo w (Ms F' p) (ckB b39 b1 b4 b5 p.bs q pp (ckF b1 b4 b5 p))
 G:Grown (Ms F p) (Ms F' p) wb w
def ckI(w0 wb:World)(p:Sp)(F:Mut)(b39 b1 b4 b5 q pp:Nat)(A:Dev)(P:List Nat)(G:Int × Int × Dev × List Nat)(J:Jr)(gen:Nat)(root n:Int)(l:List (Byt × Sv))(o1 o2:Obj):Nat->World->Prop
 |0,w'=>∃F',Cs9 w0 wb w' p F b39 b1 b4 b5 q pp A P F' J gen root n l o1 o2
 |1,w'=>Gok G/\∃F',Cs9 w0 wb w' p F b39 b1 b4 b5 q pp G.2.2.1 G.2.2.2 F' J gen G.2.1 n l o1 o2
 |2,w'=>(Gok G/\Df G.2.2.1=0)/\∃F',Cs9 w0 wb w' p F b39 b1 b4 b5 q pp (NH G) G.2.2.2 F' J gen G.2.1 n l o1 o2
 |3,w'=>(Gok G/\Df G.2.2.1=0/\Gf (NH G) (gen+1) (RY G pp q)=0)/\∃F',Cs9 w0 wb w' p F b39 b1 b4 b5 q pp (Xh G gen pp q) G.2.2.2 F' J gen G.2.1 n l o1 o2
 |4,w'=>(Gok G/\Df G.2.2.1=0/\Gf (NH G) (gen+1) (RY G pp q)=0)/\∃F',Cs9 w0 wb w' p F b39 b1 b4 b5 q pp (Xh G gen pp q) (G.2.2.2.map BD) F' J gen G.2.1 n l o1 o2
 |5,w'=>(Gok G/\Df G.2.2.1=0/\Gf (NH G) (gen+1) (RY G pp q)=0)/\∃F',Cs9 w0 wb w' p F b39 b1 b4 b5 q pp (Xh G gen pp q) (G.2.2.2.map BD) F' { J with taken:=0 } gen G.2.1 n l o1 o2
 |_,w'=>(Gok G/\Df G.2.2.1=0/\Gf (NH G) (gen+1) (RY G pp q)=0)/\∃F' o2',Cs9 w0 wb w' p F b39 b1 b4 b5 q pp (Xh G gen pp q) (G.2.2.2.map BD) F' { J with taken:=0 } (gen+1) G.2.1 n l o1 o2'/\DT str (mi []) o2'
theorem Cs9.at(h:Cs9 w0 wb w p F b39 b1 b4 b5 q pp A P F' J gen root n l o1 o2):w.heap[b39]?=some (Bl 46 (ckF b1 b4 b5 p)):=Fo.at h.Y (k:=0) rfl
theorem Amp{i:Nat}(h:ckI w0 wb p F b39 b1 b4 b5 q pp A P G J gen root n l o1 o2 i w):w.heap[b39]?=some (Bl 46 (ckF b1 b4 b5 p)):=by
 match i,h with
 |0,⟨_,h⟩=>exact h.at
 |1,⟨_,_,h⟩=>exact h.at
 |2,⟨_,_,h⟩=>exact h.at
 |3,⟨_,_,h⟩=>exact h.at
 |4,⟨_,_,h⟩=>exact h.at
 |5,⟨_,_,h⟩=>exact h.at
 |_+6,⟨_,_,_,h,_⟩=>exact h.at
theorem Cs9.next{F2:Mut}{A2:Dev}{P2:List Nat}{J2:Jr}{gen2:Nat}{root2:Int}{o22:Obj}(h:Cs9 w0 wb w p F b39 b1 b4 b5 q pp A P F' J gen root n l o1 o2)(g:Gk w0 w' p A2 P2 F2 J2 gen2 root2 n l o1 o22)(t:Grown (Ms F' p) (Ms F2 p) w w'):Cs9 w0 wb w' p F b39 b1 b4 b5 q pp A2 P2 F2 J2 gen2 root2 n l o1 o22 :=
 ⟨g,(h.Y.call t).1,h.G.trans t⟩
def ckE(w0 wb:World)(p:Sp)(F:Mut)(b39 b1 b4 b5 q pp:Nat)(G:Int × Int × Dev × List Nat)(J:Jr)(gen:Nat)(n:Int)(l:List (Byt × Sv))(o1 o2:Obj)(e:Int)(w':World):Prop :=
 ∃A' P' F' root',Cs9 w0 wb w' p F b39 b1 b4 b5 q pp A' P' F' J gen root' n l o1 o2/\Ahp G gen pp q e A'
theorem ckAll{mx:Nat}(h0:ckI w0 wb p F b39 b1 b4 b5 q pp A P G J gen root n l o1 o2 0 wb)(hM:DT str (mi t) o2)(hJ:J.dead=false)(hgrow:∀(z:World) (F1:Mut),Gk w0 z p A P F1 J gen root n l o1 o2->Ret prog 53 #[ptr p.bs] z fun v w'=>v=.int .i64 G.1/\∃F' root',Gk w0 w' p G.2.2.1 G.2.2.2 F' J gen root' n l o1 o2/\(G.1=0->root'=G.2.1)/\Grown (Ms F1 p) (Ms F' p) z w')(hfew:Few G.2.2.1 mx)(hmx:mx<=1000000000)(hr:G.1=0 -> -1<=G.2.1/\G.2.1<=4294967294)(hp:pp<4294967296)(hq:q<18446744073709551616)(hg:gen+1<18446744073709551616) :
  Ret prog 37 #[.slice (some ⟨b39,0,none⟩) 6 6] wb fun v w'=>∃e,v=.int .i64 e/\((e=0/\ckI w0 wb p F b39 b1 b4 b5 q pp A P G J gen root n l o1 o2 6 w')\/(e≠0/\ckE w0 wb p F b39 b1 b4 b5 q pp G J gen n l o1 o2 e w')):=by
 refine UZ (E:=ckE w0 wb p F b39 b1 b4 b5 q pp G J gen n l o1 o2) (ckF b1 b4 b5 p) wb (by simp) (I:=ckI w0 wb p F b39 b1 b4 b5 q pp A P G J gen root n l o1 o2) h0 (fun i w' h=>Amp h) (fun v hv=>?_) (fun i f fi caps w' hi h=>?_)
 .simp only[qab,qaj,or_false]at hv
  rcases hv with rfl|rfl|rfl|rfl|rfl|rfl <;> exact⟨_,_,_,rfl⟩
 .match i,hi,h with
  |0,hi,⟨F1,h⟩ =>
   cases hi;refine⟨by kernel_rfl,(hgrow w' F1 h.g).mono fun v w'' ⟨hv,F2,r2,g2,hr2,G2⟩=>⟨G.1,hv,?_⟩⟩
   by_cases he:G.1=0
   .exact .inl ⟨he,⟨he,g2.T.dev.wf.left⟩,F2,by have:=h.next g2 G2;rw[hr2 he]at this;exact this⟩
   .exact .inr ⟨he,_,_,F2,r2,h.next g2 G2,.inl ⟨rfl,rfl⟩⟩
  |1,hi,⟨he0,F1,h⟩ =>
   cases hi;refine⟨by kernel_rfl,(Ln hfew h.g.T.dev).mono fun v w'' ⟨hv,hD,hT⟩=>⟨Df G.2.2.1,hv,?_⟩⟩;obtain⟨g2,G2⟩:=h.g.devs (h.g.own.same hD hT).1 (h.g.own.same hD hT).2
   by_cases he:Df G.2.2.1=0
   .exact .inl ⟨he,⟨he0,he⟩,F1,h.next g2 G2⟩
   .exact .inr ⟨he,_,_,F1,_,h.next g2 G2,.inr (.inl ⟨he0,rfl,rfl⟩)⟩
  |2,hi,⟨⟨he0,he1⟩,F1,h⟩ =>
   cases hi;refine⟨by kernel_rfl,(Acz h.g h.Y (hr he0.1) hp hq hg (HI hfew)).mono fun v w'' ⟨hv,F2,g2,G2⟩=>⟨_,hv,?_⟩⟩
   by_cases he:Gf (NH G) (gen+1) (RY G pp q)=0
   .exact .inl ⟨he,⟨he0,he1,he⟩,F2,h.next g2 G2⟩
   .exact .inr ⟨he,_,_,F2,_,h.next g2 G2,.inr (.inr ⟨he0,he1,rfl,rfl⟩)⟩
  |3,hi,⟨he,F1,h⟩ =>
   cases hi;refine⟨by kernel_rfl,(Yn h.g.T.pg).mono fun v w'' ⟨hv,hP,hx⟩=>⟨0,hv,.inl ⟨rfl,he,F1,?_⟩⟩⟩;obtain⟨g2,G2⟩:=h.g.page hP hx
   exact h.next g2 G2
  |4,hi,⟨he,F1,h⟩ =>
   cases hi;refine⟨by kernel_rfl,(YB (Fo.at h.g.O (k:=3) rfl)).mono fun v w'' ⟨hv,hb,hx⟩=>⟨0,by rw[hv,hJ];rfl,.inl ⟨rfl,he,F1,?_⟩⟩⟩;rw[if_neg (by rw[hJ];decide)]at hb;have hn0:p.bs∉[p.bj]:=CD h.g.O (k:=0) rfl [3] rfl;have hn2:p.m2∉[p.bj]:=CD h.g.O (k:=2) rfl [3] rfl;obtain⟨g2,G2⟩:=h.g.turns (J':={ J with taken:=0 }) (gen':=gen) (root':=G.2.1) (o2':=o2) hx (fun y hy => .inr (.inr (qaa.1 hy))) (hx.to (Fo.at h.g.O (k:=0) rfl) hn0) (hx.to (Fo.at h.g.O (k:=2) rfl) hn2) hb
   exact h.next g2 G2
  |5,hi,⟨he,F1,h⟩ =>
   cases hi;refine⟨by kernel_rfl,(Ac0 h.g hM h.Y hg).mono fun v w'' ⟨hv,o2',g2,hM2,G2⟩=>⟨0,hv,.inl ⟨rfl,he,F1,o2',h.next g2 G2,hM2⟩⟩⟩
theorem ckEnd{e:Int}(h:(e=0/\ckI w0 wb p F b39 b1 b4 b5 q pp A P G J gen root n l o1 o2 6 w)\/(e≠0/\ckE w0 wb p F b39 b1 b4 b5 q pp G J gen n l o1 o2 e w)):∃A' P' F' J' gen' root' o2',Cs9 w0 wb w p F b39 b1 b4 b5 q pp A' P' F' J' gen' root' n l o1 o2':=by
 rcases h with⟨-,-,F',o2',h,-⟩|⟨-,A',P',F',root',h,-⟩
 .exact⟨_,_,_,_,_,_,_,h⟩
 .exact⟨_,_,_,_,_,_,_,h⟩
def CkRes(w0 w:World)(p:Sp)(F:Mut)(q pp:Nat)(G:Int × Int × Dev × List Nat)(J:Jr)(gen:Nat)(n:Int)(l:List (Byt × Sv))(o1:Obj)(v:Value)(w':World):Prop :=
 (v=.int .i64 0/\(Gok G/\Df G.2.2.1=0/\Gf (NH G) (gen+1) (RY G pp q)=0)/\∃F' o2',Gk w0 w' p (Xh G gen pp q) (G.2.2.2.map BD) F' { J with taken:=0 } (gen+1) G.2.1 n l o1 o2'/\DT str (mi []) o2'/\Grown (Ms F p) (Ms F' p) w w') \/
 (∃e A' F' root',v=.int .i64 e/\e≠0/\Ahp G gen pp q e A'/\Own w0 w' p.bd A' F'/\¬F' p.bs/\w'.heap[p.bs]?=some (Bl CA (C3 (ptr p.bd) (ptr p.bj) (ptr p.bp) (ptr p.bt) gen root' p.m1 p.m2 n true))/\Grown (Ms F p) (Ms F' p) w w')
theorem Ac1{mx:Nat}(g:Gk w0 w p A P F J gen root n l o1 o2)(hM:DT str (mi t) o2)(hJ:J.dead=false)(hgrow:∀(z:World) (F1:Mut),Gk w0 z p A P F1 J gen root n l o1 o2->Ret prog 53 #[ptr p.bs] z fun v w'=>v=.int .i64 G.1/\∃F' root',Gk w0 w' p G.2.2.1 G.2.2.2 F' J gen root' n l o1 o2/\(G.1=0->root'=G.2.1)/\Grown (Ms F1 p) (Ms F' p) z w')(hfew:Few G.2.2.1 mx)(hr:G.1=0 -> -1<=G.2.1/\G.2.1<=4294967294)(hp:J.at'<4294967296)(hq:J.seq<18446744073709551616)(hmx:mx<=1000000000:=by decide)(hg:gen+1<18446744073709551616:=by omega):
  Ret prog 16 #[ptr p.bs] w (CkRes w0 w p F J.seq J.at' G J gen n l o1):=by
 obtain⟨wI,rfl,H⟩:=qE w;have hs:=Fo.at g.O (k:=0) rfl;have hj:=Fo.at g.O (k:=3) rfl;have lt:=g.mlt;refine A6 (fn:=f16) func16 U [ptr p.bs] U (Ad (Co _ (.pointer _) U U H ?_));rintro b1 w - H;refine Ac U (qA (Ar (Ad (AG ET U H at0 U (Ah qB (Jn (H.ext.to hs (by simp))) U ?_)))));rintro v w ⟨rfl,rfl⟩;refine Ac U (qA (Ad (Ae U (AZ U U (qA (Au _ U ?_ ?_))))))
 .intro h1;replace h1:=Bu h1;exact absurd U h1
 .intro h1;replace h1:=Bv h1;refine Aq (Aa (Ad (AG ET U H at0 U (Ay U (Af Lh U (Bf LM U ((by rw[Ap (H.ext.to hs (by simp))];rfl)) ?_))))));refine Ah qB (ZM (H.ext.to hj (by simp))) U ?_;rintro v w ⟨rfl,hx16⟩;replace H:=H.call hx16;refine AM U (Ag U U (Ag U U (Be Yb H ?_)));rintro b4 w - H;refine Be zc_74 H ?_;rintro b5 w - H;refine Bc (.int _ _) GZ U U U H at1 (by decide) ?_;rintro w H;refine Bc (.int _ _) VH U U U H at0 (by decide) ?_;rintro w H;refine qA (BR [([0,1,2,3,4,5,6,7,8,9,10,11,12,13,14,15,16,17,18,19],20),([],21),([],22),([],23)] (fun z=>(z.heap[b1]?=some (Bl 31 [ptr p.bs])/\∃(gen':Nat) (root' n':Int) (dd:Bool),z.heap[p.bs]?=some (Bl CA (C3 (ptr p.bd) (ptr p.bj) (ptr p.bp) (ptr p.bt) gen' root' p.m1 p.m2 n' dd)))) [] mixed (⟨H.drew.get at2,gen,root,n,false,H.drew.ext.to hs (by simp)⟩) ?_);refine AB U U ?_
  refine BJ ET U (fun _ hx=>(by rw[Ap hx.1];rfl)) ?_;refine BJ ET U (fun _ hx=>(by rw[Ap hx.1];rfl)) ?_;refine IK (ptr p.bs) U U (BJ ET U (fun _ hx=>(by rw[Ap hx.1];rfl)) ?_);refine Bn U (AE P7 U (BJ CY U (fun _ hx=>(by obtain⟨_,_,_,_,_,hx2⟩:=hx;rw[Ap hx2];rfl)) ?_));refine IK (ptr p.bd) U U (Pp [.pointer _,.pointer _,.pointer _] U U ?_);refine BJ ET U (fun _ hx=>(by rw[Ap hx.1];rfl)) ?_;refine Bn U (AE IE U (BJ JQ U (fun _ hx=>(by obtain⟨_,_,_,_,_,hx2⟩:=hx;rw[Ap hx2];rfl)) ?_));refine IK (ptr p.bp) U U (BJ ET U (fun _ hx=>(by rw[Ap hx.1];rfl)) ?_);refine Bn U (AE Lh U (BJ LM U (fun _ hx=>(by obtain⟨_,_,_,_,_,hx2⟩:=hx;rw[Ap hx2];rfl)) ?_));refine IK (ptr p.bj) U U (Pp [.pointer _] U U ?_);refine Bm ?_;replace H:=H.drew;refine BQ (ckF b1 b4 b5 p) NW VG Zr H ?_
  rintro b39 w39 - H;have hx39:=H.ext;refine Ab (Bb (⟨H.get at3,gen,root,n,false,H.ext.to hs (by simp)⟩) ?_);refine AB U U (Bm (Ah qB (ckAll (wb:=w39) (p:=p) (F:=F) (b39:=b39) (b1:=b1) (b4:=b4) (b5:=b5) (q:=J.seq) (pp:=J.at') (A:=A) (P:=P) (G:=G) (J:=J) (gen:=gen) (root:=root) (n:=n) (l:=l) (o1:=o1) (o2:=o2) (t:=t) ⟨F,g.call hx39,YI H lt (List.Sublist.refl _),Grown.call (Ext.refl _ _)⟩ hM hJ hgrow hfew hmx hr hp hq hg) U ?_));clear H;rintro v w40 ⟨e,rfl,h40⟩;obtain⟨A4,P4,F4,J4,gen4,root4,o24,h4⟩:=ckEnd h40;have hs4:=Fo.at h4.g.O (k:=0) rfl;have hb14:=Fo.at h4.Y (k:=3) rfl;have hS40:w40.heap[b1]?=some (Bl 31 [ptr p.bs])/\∃(gen':Nat) (root' n':Int) (dd:Bool),w40.heap[p.bs]?=some (Bl CA (C3 (ptr p.bd) (ptr p.bj) (ptr p.bp) (ptr p.bt) gen' root' p.m1 p.m2 n' dd)):=⟨hb14,gen4,root4,n,false,hs4⟩;refine Ab (Bb (hS40) (AB U U ?_));refine Bm (Ah qB (WH (Ctx.start1 hs4) e) U ?_)
  rintro v w41 ⟨rfl,H6⟩;have hnb:b1∉[p.bs]:=(fun h5=>h4.Y.off (b1,Bl 31 [ptr p.bs]) (by simp) (by rw[qaa.1 h5];exact .inr (by simp[Sp.own])));have hS41:w41.heap[b1]?=some (Bl 31 [ptr p.bs])/\∃(gen':Nat) (root' n':Int) (dd:Bool),w41.heap[p.bs]?=some (Bl CA (C3 (ptr p.bd) (ptr p.bj) (ptr p.bp) (ptr p.bt) gen' root' p.m1 p.m2 n' dd)):=⟨H6.ext.to hb14 hnb,gen4,root4,n,_,H6.get at0⟩;refine Ab (Bb (hS41) (AB U U ?_));refine Bm (Ac U (Ab (Bb (hS41) (B3 (Ax (AH (v:=(.int _ _)) U U U ?_))))));have htl:∀{F5:Mut},Grown (Ms F5 p) (Ms F5 p) w40 w41:=fun{F5}=>⟨Turn.of H6.ext fun y hy => .inr (by rw[qaa.1 hy];simp[Sp.own]),fun _ h => .inl h⟩
  have hsame:∀{g5:Nat} {r5:Int},w40.heap[p.bs]?=some (Bl CA (C3 (ptr p.bd) (ptr p.bj) (ptr p.bp) (ptr p.bt) g5 r5 p.m1 p.m2 n false))->gen4=g5/\root4=r5:=fun{g5 r5} h5=>by
   have h6:=hs4.symm.trans h5;have h7:(gen4:Int)=g5/\root4=r5:=by simpa[Bl,C3]using h6
   exact⟨by omega,h7.2⟩
  rcases h40 with⟨rfl,he,F5,o25,h5,hM5⟩|⟨he,A5,P5,F5,root5,h5,hbad⟩
  .obtain⟨hg4,hr4⟩:=hsame (Fo.at h5.g.O (k:=0) rfl);rw[hg4,hr4]at H6;refine .inl ⟨rfl,he,F5,o25,h5.g.set H6,hM5,Grown.trans (Grown.trans (Grown.call hx39) h5.G) htl⟩
  .obtain⟨hg4,hr4⟩:=hsame (Fo.at h5.g.O (k:=0) rfl);rw[hg4,hr4]at H6;have hnF:¬F5 p.bs:=fun h=>h5.g.O.off _ (qad (i:=0) rfl) (.inl h);have hb:=H6.get at0;rw[qai he]at hb;exact .inr ⟨e,A5,F5,root5,rfl,he,hbad,h5.g.own.over H6.ext (fun y hy=>by rw[qaa.1 hy];exact hnF) (fun y hy=>by rw[qaa.1 hy];exact g.ge p.bs (.inr (by simp[Sp.own]))),hnF,hb,Grown.trans (Grown.trans (Grown.call hx39) h5.G) htl⟩
end
section
variable {N b:Nat}{A:Dev}{R:Rj}{V V':Nat->Byt}{gen:Nat}{root:Int}{M L:List Pr}{S:List Nat}{Ws:List (List Wr)}{x:Sx}
theorem HM(h:Pend A N V (fun _=>[])){q:Nat}(hq:q<N):A.B.getD q (zeros,[])=(V q,[]):=by rw[qa6,h.get q hq];rfl
theorem Alv.tree(a:Alv N A R x M S Ws L b):TreeAt 362 A x.P x.root M:=by
 refine⟨⟨S,a.d.tr.frame fun y hy=>?_,a.d.nd,a.mem⟩,a.d.rise,a.d.ok⟩;unfold RD RV;rw[HM a.sg.pend (by have:=a.d.low y hy;omega)];rfl
theorem SG.forget(g:SG N A R V)(hq:R.seq+R.L.length<=8000000000000000000):SG N A R.forget V:=⟨Ue g.ok hq,g.fit,g.lim,g.on,g.left,g.pend,g.held.forget⟩
theorem Up{t:List (Byt × Int)}{k:Byt}:k∈Cy (mi t)↔k∈t.map (·.1):=by
 have h1:=(qcc ((mi t).map (·.1)) fun x y=>decide (x<=y)).mem_iff (a:=k);have h2:(mi t).map (·.1)=t.map (·.1):=by simp[qcm]
 unfold Cy;rw[h2]at h1 |-;exact h1
theorem Xi(P:List Nat)(y:Nat):y∈Gu P P.length↔P[y]?=some 1\/P[y]?=some 2:=by
 unfold Gu;rw[qbh,qdo];unfold II;rw[qcd,qap,qap];exact⟨And.right,fun h=>⟨h.elim (fun h=>(qaq.1 h).1) fun h=>(qaq.1 h).1,h⟩⟩
theorem Aag(P:List Nat):(Gu P P.length).Nodup:=List.nodup_range.filter _
theorem Alv.keys(a:Alv N A R x M S Ws L b):(x.t.map (·.1)).Nodup/\x.t.length<=28800/\(∀q∈x.t,1<=q.1.length/\q.1.length<=32)/\∀k,k∉x.t.map (·.1)->DK M k=DK L k:=by
 obtain⟨h1,h2,h3⟩:=Po (W:=Ws.flatten) (t:=[]) qb9;rw[<-a.t]at h1 h2 h3;have hn:=(a.d.num2 a.sg.ok).1;refine⟨h1,by rw[qbw]at h3;omega,fun q hq=>?_,fun k hk=>?_⟩
 .obtain⟨y,hy,he⟩:=((h2 q.1).1 (qah.2 ⟨q,hq,rfl⟩)).resolve_left (by simp);have:=a.d.fewW y hy;unfold Wr.Few at this;rw[<-he];omega
 .rw[a.d.l,Ui a.d.rise fun y hy he=>hk ((h2 k).2 (.inr ⟨y,hy,he⟩))]
abbrev ckG(N:Nat)(A:Dev)(x:Sx)(L:List Pr):Int × Int × Dev × List Nat:=DG (BA x.kv) (Cy (mi x.t)) L ((N - 362) / 2) A x.P x.root (Gu x.P x.P.length)
theorem Alv.grow(a:Alv N A R x M S Ws L b):Base9 A x.P (ckG N A x L).2.2.1 (ckG N A x L).2.2.2/\Few (ckG N A x L).2.2.1 2000000/\(((ckG N A x L).1=8/\A.left ≠ -1/\(ckG N A x L).2.2.1.on=false)\/((ckG N A x L).1=0/\(ckG N A x L).2.2.1.on=true/\TreeAt 362 (ckG N A x L).2.2.1 (ckG N A x L).2.2.2 (ckG N A x L).2.1 L/\Gw (ckG N A x L).2.2.2<=(N - 362) / 2)):=by
 obtain⟨k1,k2,k3,k4⟩:=a.keys;have hn:=a.d.n;have hlen:=a.sg.len;have hP:=a.len;have hh:=HL a.d.nd a.mem;have hhalf:=a.d.half;obtain⟨m1,m2⟩:=a.d.most
 obtain⟨g1,g2,g3⟩:=Acp (f:=BA x.kv) (ts:=Cy (mi x.t)) (h:=(N - 362) / 2) (L:=L) (S:=Gu x.P x.P.length) a.tree a.p01 (Aag _) (Xi _) a.sg.on a.sg.good.few a.d.riseL a.d.okL a.kl.get (fun k hk=>k4 k fun h=>hk (Up.2 h)) (fun k hk=>by
  obtain⟨q,hq,rfl⟩:=qah.1 (Up.1 hk)
  exact k3 q hq) (by unfold Gw at hh;omega) m1 m2
 refine⟨g1,g2.mono ?_,g3⟩;rw[L4,qal];omega
theorem Alv.loo(a:Alv N A R x M S Ws L b){A':Dev}{P':List Nat}(h:Base9 A x.P A' P'):Loo N x.V (fun q=>∃y:Nat,x.P[y]?=some 0/\q=362+y) A':=by
 refine⟨h.blen.trans a.sg.len,fun q hq hn=>?_⟩;have h1:=h.blk q fun y hy he=>hn ⟨y,hy,he⟩;rw[HM a.sg.pend hq]at h1;obtain⟨z,hz⟩:=AR (l:=A'.B) (i:=q) (h:=by rw[h.blen,a.sg.len];exact hq);rw[qa6,hz]at h1;rw[hz];exact qac some h1
theorem Alv.back(a:Alv N A R x M S Ws L b){D:Dev}(h:Loo N x.V (fun q=>∃y:Nat,x.P[y]?=some 0/\q=362+y) D)(ho:D.on=false){b':Nat}(hb:b<=b')(picks:List Int):Bk N b' L (onD D picks):=by
 obtain⟨k1,k2,V',k3,k4⟩:=h.on ho picks;have hz:=a.d.z;have hn:=a.d.n;have hne:∀q,q<362->¬ ∃y:Nat,x.P[y]?=some 0/\q=362+y:=fun q hq ⟨y,_,he⟩=>by omega
 refine⟨k2,R,V',x.gen,x.root,M,S,Ws,a.sg.put k1 (by omega) k3 fun q h1 h2=>k4 q (by omega) (hne q (by omega)),a.d.congr (fun q hq=>k4 q (by omega) (hne q (by omega))) (fun y hy=>k4 _ (by have:=a.d.low y hy;omega) fun⟨z,h1,h2⟩=>?_),qas a.gen hb,a.seq.1,qas a.seq.2 hb⟩;obtain rfl:y=z:=by omega
 rcases(a.mem y).1 hy with h|h <;> (rw[h1]at h;cases h)
theorem OE{D:Dev}(ho:D.on=true):(D.left=0/\Df D=8/\Cc D={ D with on:=false })\/(D.left≠0/\Df D=0/\Cc D=Hv D.less/\D.less.on=true/\D.less.left=if D.left = -1 then -1 else D.left - 1):=by
 by_cases h:D.left=0
 .left;have h1:D.goes=true:=by unfold Dev.goes;rw[qam h]
  refine⟨h,by unfold Df;rw[ho,h1];rfl,?_⟩;unfold Cc;rw[ho,h1];show D.less=_;unfold Dev.less;rw[if_pos h]
 .right;have h1:D.goes=false:=by unfold Dev.goes;rw[qai h]
  obtain⟨h2,h3⟩:=Vd h ho;refine⟨h,by unfold Df;rw[ho,h1];rfl,?_,h2,h3⟩;unfold Cc;rw[ho,h1];rfl
def Sq(D:Dev)(q:Nat):Byt:=stands (D.B.getD q (zeros,[]))
theorem RZ{D:Dev}(h:D.B.length=N):Pend (Hv D.less) N (Sq D) (fun _=>[]):=by
 refine⟨by simp[Hv,FJ,h],fun q hq=>?_⟩;obtain⟨z,hz⟩:=AR (l:=D.B) (i:=q);show(D.less.B.map fun p=>(stands p,([]:List Byt)))[q]?=_;rw[FJ,qav,hz];unfold Sq;rw[qa6,hz];rfl
theorem Ac2{P P0:List Nat}(h:P.map Dm=P0)(h0:∀s∈P0,s=0\/s=1):∀s∈P.map BD,s=0\/s=1:=fun s hs=>by
 obtain⟨z,hz,rfl⟩:=qah.1 hs;have h1:=h0 (Dm z) (by rw[<-h];exact qah.2 ⟨z,hz,rfl⟩);unfold Dm at h1;unfold BD
 split at h1
 .rename_i h2;rw[if_pos h2];exact .inr rfl
 .split at h1
  .rename_i h2 h3;rw[if_neg h2,if_pos h3];exact .inl rfl
  .rename_i h2 h3;rw[if_neg h2,if_neg h3];exact h1
theorem par2(n:Nat):(n+1+1) % 2=n % 2/\(n+1) % 2≠n % 2:=by omega
theorem Alv.saved(a:Alv N A R x M S Ws L b)(hb:b<=1000000){D1:Dev}{P1:List Nat}{root':Int}(hB:Base9 A x.P D1 P1)(TT:TreeAt 362 D1 P1 root' L)(hlo:Gw P1<=(N - 362) / 2){A3:Dev}{V3:Nat->Byt}(g3:SG N A3 R V3)(hV:∀q,q<N->V3 q=if q=(x.gen+1) % 2 then Ds (x.gen+1) (tpB root' R.at' (R.seq+R.L.length))else Sq D1 q) :
  ∃S',Alv N A3 R.forget ⟨x.gen+1,root',x.n,x.kv,[],P1.map BD,x.T,V3⟩ L S' [] L (b+1):=by
 have hn:=a.d.n;have hz:=a.d.z;have hq:=a.seq;have hg:=a.gen;have hlen:=a.sg.len;have hblen:=hB.blen;have hPl:=hB.len;have hal:=a.len
 have hold:∀q,q<362->Sq D1 q=x.V q:=fun q hq5=>by
  have h1:=hB.blk q fun y hy he=>by omega
  rw[HM a.sg.pend (by omega)]at h1;unfold Sq;rw[h1];rfl
 have htl:=DN root' R.at' (R.seq+R.L.length);obtain⟨S',s1,s2,s3⟩:=TT.lies;have hlow:∀y∈S',y<P1.length:=fun y hy=>((s3 y).1 hy).elim (fun h=>(qaq.1 h).1) fun h=>(qaq.1 h).1;have hm:=qbi (x.gen+1) (show 0<2 by decide);have hm0:=qbi x.gen (show 0<2 by decide);have hgo:=hV ((x.gen+1) % 2) (by omega);rw[if_pos rfl]at hgo;refine⟨S',⟨SG.forget g3 (by omega),⟨hn,hz,?_,?_,?_,s1.frame fun y hy=>?_,s2,fun y hy=>by have:=hlow y hy;omega,by rw[<-HL s2 s3];exact hlo,TT.rise,TT.ok,a.d.num.1,rfl,(fun W hW=>by cases hW),rfl,a.d.room⟩,a.kl,a.n,rfl,by rw[qal];show P1.length=_;omega,Ac2 hB.back a.p01,fun y=>(s3 y).trans (Pd P1 y).symm,by show x.gen+1<=_;omega,⟨by show 1<=R.seq+R.L.length;omega,by show R.seq+R.L.length+0<=_;omega⟩⟩⟩
 .show Cn (((x.gen+1) % 2:Nat):Int) (V3 ((x.gen+1) % 2))=x.gen+1;rw[hgo];exact Mq (gen:=x.gen+1) (by omega)
 .show Dr (((x.gen+1) % 2:Nat):Int) (V3 ((x.gen+1) % 2))=tpB root' R.at' (R.seq+R.L.length);rw[hgo];exact Mr (gen:=x.gen+1) (by omega)
 .show Cn (((x.gen+1+1) % 2:Nat):Int) (V3 ((x.gen+1+1) % 2))<x.gen+1;rw[(par2 x.gen).1,hV (x.gen % 2) (by omega),if_neg (fun h=>(par2 x.gen).2 h.symm),hold _ (by omega),a.d.r1];omega
 .have:=hlow y hy;unfold RD RV;show DZ (V3 (362+y))=_;rw[hV (362+y) (by omega),if_neg (by omega)];rfl
end
section
variable {N b:Nat}{A:Dev}{R:Rj}{V V':Nat->Byt}{gen:Nat}{root:Int}{M L:List Pr}{S:List Nat}{Ws:List (List Wr)}{x:Sx}
theorem Alv.done(a:Alv N A R x M S Ws L b)(hb:b<=1000000)(h0:Gok (ckG N A x L))(h1:Df (ckG N A x L).2.2.1=0)(h2:Gf (NH (ckG N A x L)) (x.gen+1) (RY (ckG N A x L) R.at' (R.seq+R.L.length))=0) :
  ∃V3 S',Alv N (Xh (ckG N A x L) x.gen R.at' (R.seq+R.L.length)) R.forget ⟨x.gen+1,(ckG N A x L).2.1,x.n,x.kv,[],(ckG N A x L).2.2.2.map BD,x.T,V3⟩ L S' [] L (b+1)/\(A.left = -1->(Xh (ckG N A x L) x.gen R.at' (R.seq+R.L.length)).left = -1):=by
 obtain⟨hB,hF,hO⟩:=a.grow;obtain⟨-,on1,TT,hlo⟩:=hO.resolve_left (fun h=>by have:=h.1;have:=h0.1;omega);have hlen:(ckG N A x L).2.2.1.B.length=N:=hB.blen.trans a.sg.len;have hz:=a.d.z;have hn:=a.d.n;have hg:=a.gen;have hleft:=h0.2
 rcases OE on1 with⟨-,h3,-⟩|⟨f1,f2,f3,f4,f5⟩
 .rw[h3]at h1;cases h1
 .have g2:SG N (NH (ckG N A x L)) R (Sq (ckG N A x L).2.2.1):=by
   have hp:=RZ (N:=N) hlen;rw[<-f3]at hp;refine a.sg.put (by show(Cc _).on=true;rw[f3];exact f4) (by show -1<=(Cc _).left;rw[f3];show -1<=(Dev.less _).left;rw[f5];split <;> omega) hp fun q q1 q2=>?_;have h5:=hB.blk q fun y hy he=>by omega
   rw[HM a.sg.pend (by omega)]at h5;unfold Sq;rw[h5];rfl
  have hl2:A.left = -1->(NH (ckG N A x L)).left = -1:=fun h=>by
   show(Cc _).left = -1;rw[f3];show(Dev.less _).left = -1;rw[f5,if_pos (hB.left h)]
  rcases g2.save (x.gen+1) (RY (ckG N A x L) R.at' (R.seq+R.L.length)) (by omega) (by omega) (by rw[DN];decide)with⟨-,s2,s3⟩|⟨-,s2,-⟩
  .obtain⟨S',h6⟩:=a.saved hb hB TT hlo s3 fun q _=>rfl;exact⟨_,S',h6,fun h=>s2 (hl2 h)⟩
  .rw[s2]at h2;cases h2
theorem Alv.cut(a:Alv N A R x M S Ws L b)(hb:b<=1000000){e:Int}{A':Dev}(he:e≠0)(h:Ahp (ckG N A x L) x.gen R.at' (R.seq+R.L.length) e A'):e=8/\A.left ≠ -1/\A'.on=false/\Few A' 10000000/\∀picks,Bk N (b+1) L (onD A' picks):=by
 obtain⟨hB,hF,hO⟩:=a.grow;have hlen:(ckG N A x L).2.2.1.B.length=N:=hB.blen.trans a.sg.len;have hz:=a.d.z;have hn:=a.d.n;have hg:=a.gen
 rcases h with⟨h1,rfl⟩|⟨h0,h1,rfl⟩|⟨h0,h1,h2,rfl⟩
 .obtain⟨o1,o2,o3⟩:=hO.resolve_right (fun h=>he (by rw[<-h1];exact h.1));exact⟨by rw[<-h1];exact o1,o2,o3,hF.mono (by decide),fun picks=>a.back (a.loo hB) o3 (qc8 b) picks⟩
 .obtain⟨-,on1,TT,hlo⟩:=hO.resolve_left (fun h=>by have:=h.1;have:=h0.1;omega)
  rcases OE on1 with⟨f0,f1,f2⟩|⟨-,f2,-⟩
  .refine⟨by rw[<-h1];exact f1,fun h=>by have:=hB.left h;omega,by show(Cc _).on=false;rw[f2],(HI hF).mono (by decide),fun picks=>a.back ?_ (by show(Cc _).on=false;rw[f2]) (qc8 b) picks⟩;have hl:=a.loo hB;show Loo N x.V _ (Cc _);rw[f2];exact⟨hl.len,hl.get⟩
  .exact absurd (h1.symm.trans f2) he
 .obtain⟨-,on1,TT,hlo⟩:=hO.resolve_left (fun h=>by have:=h.1;have:=h0.1;omega);have hleft:=h0.2
  rcases OE on1 with⟨-,h3,-⟩|⟨f1,f2,f3,f4,f5⟩
  .rw[h3]at h1;cases h1
  .have hold:∀q,q<N->(¬ ∃y:Nat,x.P[y]?=some 0/\q=362+y)->Sq (ckG N A x L).2.2.1 q=x.V q:=fun q q1 q2=>by
    have h5:=hB.blk q fun y hy he=>q2 ⟨y,hy,he⟩;rw[HM a.sg.pend q1]at h5;unfold Sq;rw[h5];rfl
   have hne:∀q,q<362->¬ ∃y:Nat,x.P[y]?=some 0/\q=362+y:=fun q hq ⟨y,_,he⟩=>by omega
   have g2:SG N (NH (ckG N A x L)) R (Sq (ckG N A x L).2.2.1):=by
    have hp:=RZ (N:=N) hlen;rw[<-f3]at hp;exact a.sg.put (by show(Cc _).on=true;rw[f3];exact f4) (by show -1<=(Cc _).left;rw[f3];show -1<=(Dev.less _).left;rw[f5];split <;> omega) hp fun q q1 q2=>hold q (by omega) (hne q (by omega))
   rcases g2.save (x.gen+1) (RY (ckG N A x L) R.at' (R.seq+R.L.length)) (by omega) (by omega) (by rw[DN];decide)with⟨s1,-⟩|⟨s1,s2,s3,s4,-,s6⟩
   .exact absurd (h2.symm.trans s1) he
   .refine⟨by rw[<-h2];exact s2,fun h=>s1 ?_,s3,s4.mono (by decide),fun picks=>?_⟩
    .show(Cc _).left = -1;rw[f3];show(Dev.less _).left = -1;rw[f5,if_pos (hB.left h)]
    .obtain⟨p1,p2⟩:=s6 picks
     rcases p2 with p2|p2
     .refine⟨p1,R,_,x.gen,x.root,M,S,Ws,p2,a.d.congr (fun q hq=>hold q (by omega) (hne q (by omega))) (fun y hy=>hold _ (by have:=a.d.low y hy;omega) fun⟨z,q1,q2⟩=>?_),by omega,a.seq.1,by have:=a.seq.2;omega⟩;obtain rfl:y=z:=by omega
      rcases(a.mem y).1 hy with h|h <;> (rw[q1]at h;cases h)
     .obtain⟨S',h6⟩:=a.saved hb hB TT hlo p2 fun q _=>rfl;exact⟨p1,R.forget,_,x.gen+1,(ckG N A x L).2.1,L,S',[],h6.sg,h6.d,h6.gen,h6.seq.1,h6.seq.2⟩
theorem Alv.more(a:Alv N A R x M S Ws L b){W:List Wr}(hW:W.length<=1000/\∀y∈W,y.Few/\1<=y.k.length)(hroom:(Bz (GM L W):Int)<=DY N){A':Dev}{V':Nat->Byt}(g:SG N A' (R.more (opB W)) V')(hV:∀q,(q<2\/2+R.size<=q)->q<N->V' q=x.V q){T:Int} :
  Alv N A' (R.more (opB W)) { x with n:=DQ x.kv x.n W,kv:=Fy x.kv W,t:=Ec x.t W,T:=T,V:=V' } M S (Ws++[W]) (GM L W) (b+1):=by
 have hz:=a.d.z;have hn:=a.d.n;have hd:=a.d.congr (V':=V') (fun q hq=>hV q (.inl hq) (by omega)) (fun y hy=>hV _ (.inr (by omega)) (by have:=a.d.low y hy;omega));have hkl:=a.kl.sets (W:=W);refine⟨g,⟨hd.n,hz,hd.r1,hd.rl,hd.r0,hd.tr,hd.nd,hd.low,hd.half,hd.rise,hd.ok,hd.mx,?_,fun W' hW'=>?_,?_,hroom⟩,hkl,?_,?_,a.len,a.p01,a.mem,by have:=a.gen;show x.gen<=_;omega,a.seq.1,?_⟩
 .show R.L++[opB W]=_;rw[a.d.ws,qaz];rfl
 .rcases qau.1 hW' with h|h
  .exact a.d.few W' h
  .rw[qaa.1 h];exact hW
 .rw[qcq,qcr,Ahg,<-a.d.l]
 .show DQ x.kv x.n W=_;rw[Iv a.kl.nd,a.n,<-Gi a.kl.perm,<-Gi hkl.perm];omega
 .show Ec x.t W=_;rw[a.t,qcq,qcr];unfold Ec;rw[qdm]
 .show R.seq+(R.L++[opB W]).length<=_;have:=a.seq.2;rw[qan,qbu];omega
theorem Alv.torn(a:Alv N A R x M S Ws L b){W:List Wr}(hW:W.length<=1000/\∀y∈W,y.Few/\1<=y.k.length)(hroom:(Bz (GM L W):Int)<=DY N){A':Dev}{V':Nat->Byt}(hl:A'.left = -1)(hV:∀q,(q<2\/2+R.size<=q)->q<N->V' q=x.V q)(g:SG N A' R V'\/SG N A' (R.more (opB W)) V') :
  Bk N (b+1) L A'\/Bk N (b+1) (GM L W) A':=by
 have hz:=a.d.z;have hn:=a.d.n
 rcases g with g|g
 .exact .inl ⟨hl,R,V',x.gen,x.root,M,S,Ws,g,a.d.congr (fun q hq=>hV q (.inl hq) (by omega)) (fun y hy=>hV _ (.inr (by omega)) (by have:=a.d.low y hy;omega)),by have:=a.gen;omega,a.seq.1,by have:=a.seq.2;omega⟩
 .have h:=a.more (T:=0) hW hroom g hV;exact .inr ⟨hl,_,_,_,_,_,_,_,h.sg,h.d,h.gen,h.seq.1,h.seq.2⟩
theorem Alv.mono(a:Alv N A R x M S Ws L b){b':Nat}(h:b<=b'):Alv N A R x M S Ws L b':=⟨a.sg,a.d,a.kl,a.n,a.t,a.len,a.p01,a.mem,qas a.gen h,a.seq.1,qas a.seq.2 h⟩
theorem Bk.mono(h:Bk N b L A){b':Nat}(hb:b<=b'):Bk N b' L A:=by
 obtain⟨h1,R,V,gen,root,M,S,Ws,h2,h3,h4,h5,h6⟩:=h;exact⟨h1,R,V,gen,root,M,S,Ws,h2,h3,qas h4 hb,h5,qas h6 hb⟩
theorem Alv.off(a:Alv N A R x M S Ws L b)(picks:List Int):Bk N b L (onD (LC A) picks) :=
 ⟨rfl,R,x.V,x.gen,x.root,M,S,Ws,a.sg.off picks,a.d,a.gen,a.seq.1,a.seq.2⟩
end
section
variable {w0 w w':World}{p:Sp}{N b:Nat}{A A':Dev}{R R':Rj}{M L:List Pr}{S:List Nat}{Ws:List (List Wr)}{x:Sx}{F F':Mut}{P:List Nat}{J:Jr}{gen:Nat}{root n:Int}{l:List (Byt × Sv)}{o1 o2:Obj}
theorem Sok.gk(O:Sok w0 w p A R x F)(h3:∀s∈x.P,s<=3)(hP:x.P.length<=4096):∃l o1 o2,Gk w0 w p A x.P F (jrK 2 R R.L) x.gen x.root x.n l o1 o2/\Ei l=x.kv/\DT str (mi x.t) o2:=by
 obtain⟨l,o1,o2,hF,K,hk,hM⟩:=O.ex;have hoff:∀y∈p.blk x o1 o2,¬F y.1/\y.1≠p.bj:=fun y hy=>⟨fun h=>hF.off y hy (.inl h),fun h=>hF.off y hy (.inr h)⟩;have hb:=hoff (p.bs,Bl CA (C3 (ptr p.bd) (ptr p.bj) (ptr p.bp) (ptr p.bt) x.gen x.root p.m1 p.m2 x.n false)) (qae ..);have h1:=hoff (p.m1,o1) (by simp[Sp.blk]);have h2:=hoff (p.m2,o2) (by simp[Sp.blk]);have hbp:=hoff (p.bp,Bl TPg [.slice (some ⟨p.ba,0,none⟩) x.P.length x.P.length]) (by simp[Sp.blk]);have hba:=hoff (p.ba,Bl TSt (x.P.map stv)) (by simp[Sp.blk]);have hbt:=hoff (p.bt,Bl TT (Pa p.bd p.bp 362)) (by simp[Sp.blk]);dsimp only at hb h1 h2 hbp hba hbt
 have hno:∀{y:Nat},¬F y->y≠p.ba->y≠p.bt->y≠p.bp->¬TM F p.ba p.bt p.bp [] y:=fun q1 q2 q3 q4 h=>by
  rcases h with h|h|h|h|h
  .exact q1 h
  .exact q2 h
  .exact q3 h
  .exact q4 h
  .cases h
 refine⟨l,o1,o2,⟨⟨Fo.at hF (k:=5) rfl,⟨Fo.at hF (k:=3) rfl,Fo.at hF (k:=4) rfl,CQ hF 3 4 U U,h3,hP⟩,O.jone.own.dev,(fun y hy=>by cases hy),List.Pairwise.nil,(fun y hy=>by cases hy),⟨hbt.1,CQ hF 5 4 U U⟩,hbp.1,hba.1,fun y hy=>(O.jone.own.own y hy).2⟩,⟨fun y hy=>?_,?_,fun y hy=>?_⟩,K,O.jone.own.ext,fun y hy=>?_⟩,hk,hM⟩
 .simp only[qab,qaj,or_false]at hy
  rcases hy with rfl|rfl|rfl|rfl
  .exact Fo.at hF (k:=0) U
  .exact Fo.at hF (k:=1) U
  .exact Fo.at hF (k:=2) U
  .exact O.jone.jr
 .have q1:=CQ hF 0 1 rfl rfl;have q2:=CQ hF 0 2 rfl rfl;have q3:=CQ hF 1 2 rfl rfl;simp[q1,q2,q3,hb.2,h1.2,h2.2]
 .simp only[qab,qaj,or_false]at hy
  rcases hy with rfl|rfl|rfl|rfl
  .exact hno hb.1 (CQ hF 0 4 U U) (CQ hF 0 5 U U) (CQ hF 0 3 U U)
  .exact hno h1.1 (CQ hF 1 4 U U) (CQ hF 1 5 U U) (CQ hF 1 3 U U)
  .exact hno h2.1 (CQ hF 2 4 U U) (CQ hF 2 5 U U) (CQ hF 2 3 U U)
  .exact hno O.jone.nF (Ne.symm hba.2) (Ne.symm hbt.2) (Ne.symm hbp.2)
 .rcases hy with(hy|rfl)|hy
  .exact(O.jone.own.own y hy).1
  .exact O.jone.ge
  .exact O.ge y hy
theorem Gk.sok(g:Gk w0 w p A P F (jrK 2 R R.L) gen root n l o1 o2)(sg:SG N A R x.V)(h:x.gen=gen/\x.root=root/\x.n=n/\x.P=P/\x.kv=Ei l)(hM:DT str (mi x.t) o2)(hn : -(200*x.T)<=x.n/\x.n<=200*x.T)(ht:∀q∈x.t,0<=q.2/\q.2<=x.T)(hT:0<=x.T/\x.T<=4000000)(hz:p.z2<=w.heap.size):Sok w0 w p A R x F:=by
 obtain⟨rfl,rfl,rfl,rfl,hkv⟩:=h;have hno:∀{y:Nat},¬TM F p.ba p.bt p.bp [] y->¬F y/\y≠p.ba/\y≠p.bt/\y≠p.bp:=fun h=>⟨fun q=>h (.inl q),fun q=>h (.inr (.inl q)),fun q=>h (.inr (.inr (.inl q))),fun q=>h (.inr (.inr (.inr (.inl q))))⟩;have hb:=hno (g.O.off _ (qad (i:=0) rfl));have h1:=hno (g.O.off _ (qad (i:=1) rfl));have h2:=hno (g.O.off _ (qad (i:=2) rfl));have hj:=hno (g.O.off _ (qad (i:=3) rfl));have b0:=CQ g.O 0 3 rfl rfl;have b1:=CQ g.O 1 3 rfl rfl;have b2:=CQ g.O 2 3 rfl rfl;have hfj:∀{y:Nat},¬F y->y≠p.bj->¬Fj F p.bj y:=fun q1 q2 h=>h.elim q1 q2
 have hpt:p.bp≠p.bt:=fun h=>by
  have h5:=g.T.pg.hd;rw[h,g.T.tr]at h5;simp[Bl,Pa]at h5
 refine⟨⟨g.own,Fo.at g.O (k:=3) rfl,hj.1,g.ge _ (.inl (.inr U))⟩,by rw[sg.len];exact sg,⟨l,o1,o2,⟨fun y hy=>?_,?_,fun y hy=>?_⟩,g.K,hkv.symm,hM⟩,fun q hq=>g.ge q (.inr hq),hn,ht,hT,hz⟩
 .simp only[Sp.blk,qab,qaj,or_false]at hy
  rcases hy with rfl|rfl|rfl|rfl|rfl|rfl
  .exact Fo.at g.O (k:=0) U
  .exact Fo.at g.O (k:=1) U
  .exact Fo.at g.O (k:=2) U
  .exact g.T.pg.hd
  .exact g.T.pg.st
  .exact g.T.tr
 .have q1:=CQ g.O 0 1 rfl rfl;have q2:=CQ g.O 0 2 rfl rfl;have q3:=CQ g.O 1 2 rfl rfl;simp[Sp.blk,q1,q2,q3,hb.2.1,hb.2.2.1,hb.2.2.2,h1.2.1,h1.2.2.1,h1.2.2.2,h2.2.1,h2.2.2.1,h2.2.2.2,g.T.pg.ne,hpt,Ne.symm g.T.nbt.2]
 .simp only[Sp.blk,qab,qaj,or_false]at hy
  rcases hy with rfl|rfl|rfl|rfl|rfl|rfl
  .exact hfj hb.1 b0
  .exact hfj h1.1 b1
  .exact hfj h2.1 b2
  .exact hfj g.T.nbp (Ne.symm hj.2.2.2)
  .exact hfj g.T.nba (Ne.symm hj.2.1)
  .exact hfj g.T.nbt.1 (Ne.symm hj.2.2.1)
theorem Ac3(P:List Nat):((Gu P P.length).map fun x:Nat=>(x:Int)).Pairwise (·<=·):=by
 rw[qbn];unfold Gu;exact(List.Pairwise.filter _ List.pairwise_lt_range).imp fun h=>by omega
def CkC(N:Nat)(A:Dev)(x:Sx)(L:List Pr)(b:Nat)(A':Dev)(R':Rj)(x':Sx):Prop :=
 (∃M' S',Alv N A' R' x' M' S' [] L b)/\(A.left = -1->A'.left = -1)/\x'.kv=x.kv/\x'.n=x.n/\x'.T=x.T
def CkZ(N:Nat)(A:Dev)(L:List Pr)(b:Nat)(A':Dev):Prop:=A.left ≠ -1/\∀picks,Bk N b L (onD A' picks)
theorem Sc(O:Sok w0 w p A R x F)(a:Alv N A R x M S Ws L b)(hb:b<=1000000:=by omega):
  Ret prog 16 #[ptr p.bs] w (CkOut w0 p F (CkC N A x L (b+1)) (CkZ N A L (b+1)) w):=by
 have h3:∀s∈x.P,s<=3:=fun s hs=>by rcases a.p01 s hs with rfl|rfl <;> decide
 have hn:=a.d.n;have hlen:=a.sg.len;have hP:=a.len;have hg:=a.gen;have hq:=a.seq;have hok:=a.sg.ok;obtain⟨l,o1,o2,g,hk,hM⟩:=O.gk h3 (by omega);obtain⟨k1,k2,k3,k4⟩:=a.keys;obtain⟨gb,gf,go⟩:=a.grow;obtain⟨m1,m2⟩:=a.d.most;have hnum:=a.d.num;have hhalf:=a.d.half;have hlo:=HL a.d.nd a.mem;have hkl:KL (Ei l) L:=by rw[hk];exact a.kl
 have hroot:(ckG N A x L).1=0 -> -1<=(ckG N A x L).2.1/\(ckG N A x L).2.1<=4294967294:=fun h0=>by
  obtain⟨-,on1,TT,-⟩:=go.resolve_left (fun h=>by have:=h.1;omega);have hl1:=gb.len;obtain⟨S1,td,-⟩:=TT.told on1 (by rw[gb.blen];omega) (by omega);have:=td.rlo;have:=td.rhi;omega
 have hat:R.at'<360:=by
  have h1:=a.d.z;unfold Rj.at';rw[h1];exact qbi _ (by decide)
 have hgrow:∀(z:World) (F1:Mut),Gk w0 z p A x.P F1 (jrK 2 R R.L) x.gen x.root x.n l o1 o2->Ret prog 53 #[ptr p.bs] z fun v w'=>v=.int .i64 (ckG N A x L).1/\∃F' root',Gk w0 w' p (ckG N A x L).2.2.1 (ckG N A x L).2.2.2 F' (jrK 2 R R.L) x.gen root' x.n l o1 o2/\((ckG N A x L).1=0->root'=(ckG N A x L).2.1)/\Grown (Ms F1 p) (Ms F' p) z w':=fun z F1 gz=>by
  have h:=Aho (h:=(N - 362) / 2) (S:=Gu x.P x.P.length) gz hM k1 k3 hkl a.d.okL k4 a.tree a.p01 (Aag _) (Xi _) (Ac3 _) a.sg.on a.sg.good.few (by rw[hlen];exact(L6 hn).symm) (by unfold Gw at hlo;omega) m1 m2;rw[hk]at h;exact h
 refine(Ac1 g hM U hgrow gf hroot (by show R.at'<_;omega) (by show R.seq+R.L.length<_;omega)).mono fun v w' h=>?_
 rcases h with⟨hv,⟨h0,h1,h2⟩,F',o2',g',hM',G'⟩|⟨e,A',F',root',hv,he,hbad,O',hnF,hbs,G'⟩
 .obtain⟨V3,S',a',hl'⟩:=a.done hb h0 h1 h2;refine⟨0,_,F',hv,G',.inl ⟨rfl,R.forget,_,?_,⟨L,S',a'⟩,hl',rfl,rfl,rfl⟩⟩;have hjr:jrK 2 R.forget R.forget.L={ jrK 2 R R.L with taken:=0 }:=YH hok;rw[<-hjr]at g';exact g'.sok a'.sg ⟨rfl,rfl,rfl,rfl,hk.symm⟩ hM' O.nn (fun q hq=>by cases hq) O.tT (qas O.zl G'.1.size)
 .obtain⟨rfl,hl,hoff,hfw,hbk⟩:=a.cut hb he hbad;exact⟨8,A',F',hv,G',.inr ⟨rfl,⟨O',⟨_,_,_,_,_,_,hbs⟩,hnF,O.ge p.bs (by simp[Sp.own]),hoff,hfw⟩,hl,hbk⟩⟩
end
def IU(N:Nat)(L:List Pr)(W:List Wr):Int:=if 1000<W.length then 6 else if LH [] W=true then(if DY N<Bz (GM L W)then 7 else 0)else 1
def Lv(w0 w:World)(p:Sp)(A:Dev)(F:Mut)(N b:Nat)(L:List Pr):Prop :=
 ∃R x M S Ws,Sok w0 w p A R x F/\Alv N A R x M S Ws L b/\x.T<=80000+500*(b:Int)
section
variable {w0 w w':World}{p:Sp}{N b:Nat}{A A':Dev}{M L:List Pr}{F F':Mut}
theorem CkOut.weak{C C':Dev->Rj->Sx->Prop}{Z Z':Dev->Prop}{v:Value}(h:CkOut w0 p F C Z w v w')(hC:∀{A' R' x'},C A' R' x'->C' A' R' x')(hZ:∀{A'},Z A'->Z' A'):CkOut w0 p F C' Z' w v w':=by
 obtain⟨e,A',F',hv,hG,h⟩:=h;exact⟨e,A',F',hv,hG,h.imp (fun⟨h1,R',x',h2,h3⟩=>⟨h1,R',x',h2,hC h3⟩) fun⟨h1,h2,h3⟩=>⟨h1,h2,hZ h3⟩⟩
theorem Lv.call(O:Lv w0 w p A F N b L)(hx:Ext [] w w'):Lv w0 w' p A F N b L :=
 let ⟨R,x,M,S,Ws,h1,h2,h3⟩:=O;⟨R,x,M,S,Ws,h1.call hx,h2,h3⟩
theorem Lv.mono(O:Lv w0 w p A F N b L){b':Nat}(h:b<=b'):Lv w0 w p A F N b' L :=
 let ⟨R,x,M,S,Ws,h1,h2,h3⟩:=O;⟨R,x,M,S,Ws,h1,h2.mono h,by omega⟩
theorem MB{W:List Wr}(h:IU N L W=0):W.length<=1000/\(∀y∈W,y.Few/\1<=y.k.length)/\(Bz (GM L W):Int)<=DY N:=by
 unfold IU at h
 by_cases h1:1000<W.length
 .rw[if_pos h1]at h;cases h
 .rw[if_neg h1]at h
  by_cases h2:LH [] W=true
  .rw[if_pos h2]at h
   by_cases h3:DY N<Bz (GM L W)
   .rw[if_pos h3]at h;cases h
   .exact⟨by omega,Xb h2,by omega⟩
  .rw[if_neg h2]at h;cases h
def Cut9(w0 w:World)(p:Sp)(A:Dev)(F:Mut)(N b:Nat)(L L':List Pr)(w':World):Prop :=
 A.left ≠ -1/\∃A' F',Dd9 w0 w' p A' F'/\Grown (Ms F p) (Ms F' p) w w'/\∀picks,Bk N b L (onD A' picks)\/Bk N b L' (onD A' picks)
def Got9(w0 w:World)(p:Sp)(A:Dev)(F:Mut)(N b:Nat)(L':List Pr)(w':World):Prop :=
 ∃A' F',Lv w0 w' p A' F' N b L'/\Grown (Ms F p) (Ms F' p) w w'/\(A.left = -1->A'.left = -1)
theorem Xj(O:Lv w0 w p A F N b L)(a:Option Addr)(nn c:Nat)(W:List Wr)(X:Wrs w (Ms F p) a nn c W)(hb:b<=5000:=by omega)(hnn:nn<=1000000000:=by decide):
  Ret prog 13 #[ptr p.bs,.slice a nn c] w fun v w'=>(v=.int .i64 (IU N L W)/\Got9 w0 w p A F N (b+2) (if IU N L W=0 then GM L W else L) w')\/(v=.int .i64 8/\IU N L W=0/\W≠[]/\Cut9 w0 w p A F N (b+2) L (GM L W) w'):=by
 obtain⟨R,x,M,S,Ws,O,a1,hT⟩:=O;have hlen:=a1.sg.len;have hr:DO x.kv x.n (DY A.B.length) W=IU N L W:=by rw[hlen,a1.n];exact a1.kl.right _ _
 have hz:=a1.d.z;refine(M6 (C:=fun A1 R1 x1=>(∃M' S' Ws',Alv N A1 R1 x1 M' S' Ws' L (b+1))/\(A.left = -1->A1.left = -1)/\x1.kv=x.kv/\x1.n=x.n/\x1.T=x.T/\B7 R1.L+blk (opB W).length<=R1.size) (Z:=CkZ N A L (b+1)) O a nn c W X hnn (by omega) (fun⟨⟨M',S',Ws',h1⟩,h2,h3,h4,h5,h6⟩=>⟨h3,h4,h5,h1.sg.len.trans hlen.symm,h6⟩) (fun _ _ h=>⟨⟨M,S,Ws,a1.mono (qc8 b)⟩,id,rfl,rfl,rfl,h⟩) (fun w1 hx h0 _ _=>(Sc (O.call hx) a1).mono fun v w' h=>h.weak (fun⟨⟨M',S',h1⟩,h2,h3,h4,h5⟩=>⟨⟨M',S',[],h1⟩,h2,h3,h4,h5,?_⟩) id)).mono fun v w' h=>?_
 .rw[hr]at h0;obtain⟨r1,r2,-⟩:=MB h0;have h6:=N6 (L:=W) fun y hy=>(r2 y hy).1;have h7:=DX (opB W).length;have h8:=h1.d.ws;rw[h8,h1.d.z];show 0+blk _<=360;unfold blk at h7 |-;omega
 .unfold Aku at h;rw[hr]at h
  rcases h with⟨hv,h,O',hx⟩|⟨h0,hne,hv,A1,R1,x1,A',F',V',⟨⟨M',S',Ws',h1⟩,h2,h3,h4,h5,-⟩,O',hln,hle,hV,G⟩|⟨h0,hne,hv,A',F',O',G,h⟩
  .refine .inl ⟨hv,A,F,?_,Grown.call hx,id⟩
   have hL:(if IU N L W=0 then GM L W else L)=L:=by
    rcases h with h|rfl
    .rw[if_neg h]
    .split <;> rfl
   rw[hL];exact⟨R,x,M,S,Ws,O',a1.mono (by omega),by omega⟩
  .obtain⟨r1,r2,r3⟩:=MB h0
   have g:SG N A' (R1.more (opB W)) V':=by
    have:=O'.good;rw[hln,hlen]at this;exact this
   have h9:=h1.more (T:=x1.T+W.length) ⟨r1,r2⟩ r3 g fun q q1 q2=>hV q q1 (by omega);refine .inl ⟨by rw[hv,h0],A',F',?_,G,fun h=>hle (h2 h)⟩;rw[if_pos h0];exact⟨_,_,M',S',_,O',h9,by show x1.T+W.length<=_;omega⟩
  .obtain⟨r1,r2,r3⟩:=MB h0
   rcases h with h|⟨A1,R1,x1,⟨⟨M',S',Ws',h1⟩,h2,h3,h4,h5,-⟩,h6,h7⟩
   .exact .inr ⟨hv,h0,hne,h.1,A',F',O',G,fun picks => .inl ((h.2 picks).mono (by omega))⟩
   .refine .inr ⟨hv,h0,hne,fun h=>h6 (h2 h),A',F',O',G,fun picks=>?_⟩;obtain⟨q1,V',q2,q3⟩:=h7 picks;rw[hlen]at q2 q3;exact h1.torn ⟨r1,r2⟩ r3 q1 q2 q3
theorem Sd(O:Lv w0 w p A F N b L)(hb:b<=5000:=by omega):
  Ret prog 16 #[ptr p.bs] w fun v w'=>(v=.int .i64 0/\Got9 w0 w p A F N (b+2) L w')\/(v=.int .i64 8/\Cut9 w0 w p A F N (b+2) L L w'):=by
 obtain⟨R,x,M,S,Ws,O,a1,hT⟩:=O;refine(Sc O a1).mono fun v w' ⟨e,A',F',hv,G,h⟩=>?_
 rcases h with⟨rfl,R',x',O',⟨M',S',h1⟩,h2,h3,h4,h5⟩|⟨rfl,O',h1,h2⟩
 .exact .inl ⟨hv,A',F',⟨R',x',M',S',[],O',h1.mono (by omega),by omega⟩,G,h2⟩
 .exact .inr ⟨hv,h1,A',F',O',G,fun picks => .inl ((h2 picks).mono (by omega))⟩
theorem YR(O:Lv w0 w p A F N b L):Ret prog 25 #[ptr p.bs] w fun v w'=>v=.int .i64 (Bz L:Int)/\w=w':=by
 obtain⟨R,x,M,S,Ws,O,a1,hT⟩:=O;have h:=Ug O;rw[a1.n]at h;exact h
theorem Lv.nums(O:Lv w0 w p A F N b L):442<=N/\N<=841/\L.length<=10000/\Bz L<=50000/\(Bz L:Int)<=DY N/\Rising L/\OkP L:=by
 obtain⟨R,x,M,S,Ws,O,a1,hT⟩:=O;exact⟨a1.d.n.1,a1.d.n.2,a1.d.num.1,a1.d.num.2,a1.d.room,a1.d.riseL,a1.d.okL⟩
theorem Uq(O:Lv w0 w p A F N b L)(fa ta:Option Addr)(fc tc:Nat)(kf kt:Byt)(Rf:Rd w fa 1 B8 kf)(Rt:Rd w ta 1 B8 kt) :
  Ret prog 20 #[ptr p.bs,.slice fa kf.length fc,.slice ta kt.length tc] w fun v w'=>∃a c,v=.tuple #[.slice a (LV kf kt L).length c,.int .i64 0]/\Prs w' (Old w) a (LV kf kt L).length c (LV kf kt L)/\Ext [] w w':=by
 have hn:=O.nums;obtain⟨R,x,M,S,Ws,O,a1,hT⟩:=O;refine(WV O a1.kl.nd (by rw[a1.kl.len];omega) fa ta fc tc kf kt Rf Rt).mono fun v w' ⟨a',c',hv,hP,_,hx⟩=>?_;rw[a1.kl.scan]at hv hP;exact⟨a',c',hv,hP,hx⟩
theorem Lv.off(O:Lv w0 w p A F N b L)(picks:List Int):Bk N b L (onD (LC A) picks):=by
 obtain⟨R,x,M,S,Ws,O,a1,hT⟩:=O;exact a1.off picks
theorem Lv.bs(O:Lv w0 w p A F N b L):Own w0 w p.bd A F/\Bs N b L A:=by
 obtain⟨R,x,M,S,Ws,O,a1,hT⟩:=O;exact⟨O.jone.own,R,x.V,x.gen,x.root,M,S,Ws,a1.sg,a1.d,a1.gen,a1.seq.1,a1.seq.2⟩
end
def OG(st k:Nat):Byt:=[UInt8.ofNat (k / 256),UInt8.ofNat k,UInt8.ofNat (k*st)]
def wrF(st n k:Nat):Wr:=⟨OG st k,List.replicate (n - 7) 0,false⟩
theorem Ajq{st a b:Nat}(ha:a<800)(hb:b<800)(h:a≠b):OG st a≠OG st b:=fun e=>by
 unfold OG at e;simp only[qeo]at e;have h1:=qac UInt8.toNat e.1;have h2:=qac UInt8.toNat e.2.1;rw[UInt8.toNat_ofNat',UInt8.toNat_ofNat']at h1 h2;omega
theorem Ac4{L:List Pr}(h:Rising L){k v:Byt}(hk:∀q∈L,q.1≠k):(Hp L k v).Perm ((k,v)::L):=by
 have n1:=EK (Iu (Gb h k v));have n2:((k,v)::L).Nodup:=qci.2 ⟨fun h5=>hk _ h5 rfl,EK (Iu h)⟩;refine(qdw n1 n2).2 fun⟨k',u⟩=>?_;rw[Aaa,qab,qd5];exact or_congr Iff.rfl ⟨fun h5=>h5.1,fun h5=>⟨h5,hk _ h5⟩⟩
structure FuL(st n:Nat)(f:Nat->Nat)(i count:Nat)(L:List Pr):Prop where
 bytes:Bz L=count*n
 len:L.length=count
 keys:∀q∈L,∃j,j<i/\q.1=OG st (f j)
section
variable {st n i count:Nat}{f:Nat->Nat}{L:List Pr}
theorem FuL.fresh(h:FuL st n f i count L)(hf:∀j,j<800->f j<800)(hi:∀j k,j<k->k<800->f j≠f k)(h8:i<800):∀q∈L,q.1≠OG st (f i):=fun q hq=>by
 obtain⟨j,hj,he⟩:=h.keys q hq;rw[he];exact Ajq (hf j (by omega)) (hf i h8) (hi j i hj h8)
theorem FuL.perm(_:FuL st n f i count L)(hr:Rising L)(hk:∀q∈L,q.1≠OG st (f i)):(GM L [wrF st n (f i)]).Perm ((OG st (f i),List.replicate (n - 7) 0)::L):=Ac4 hr hk
theorem FuL.bytes1(h:FuL st n f i count L)(hr:Rising L)(hk:∀q∈L,q.1≠OG st (f i))(hn:8<=n):Bz (GM L [wrF st n (f i)])=(count+1)*n:=by
 rw[Gi (h.perm hr hk),Gh,h.bytes,qa8,qcv];show 4+3+(n - 7)+count*n=_;omega
theorem FuL.more(h:FuL st n f i count L)(hr:Rising L)(hk:∀q∈L,q.1≠OG st (f i))(hn:8<=n):FuL st n f (i+1) (count+1) (GM L [wrF st n (f i)]):=by
 refine⟨h.bytes1 hr hk hn,by rw[(h.perm hr hk).length_eq,qaw,h.len],fun q hq=>?_⟩
 rcases qab.1 ((h.perm hr hk).mem_iff.1 hq)with rfl|hq
 .exact⟨i,by omega,rfl⟩
 .obtain⟨j,hj,he⟩:=h.keys q hq;exact⟨j,by omega,he⟩
theorem FuL.skip(h:FuL st n f i count L):FuL st n f (i+1) count L :=
 ⟨h.bytes,h.len,fun q hq=>let ⟨j,hj,he⟩:=h.keys q hq;⟨j,by omega,he⟩⟩
theorem Aah:DY ((442:Nat):Int)=7781:=by decide
theorem FuL.right(h:FuL st n f i count L)(hr:Rising L)(hk:∀q∈L,q.1≠OG st (f i))(hn:8<=n/\n<=135):IU 442 L [wrF st n (f i)]=if 7781<(count+1)*n then 7 else 0:=by
 have hm:LH [] [wrF st n (f i)]=true:=by
  simp[LH,LG,wrF,OG];omega
 unfold IU;rw[if_neg (by show ¬1000<1;decide),if_pos hm,h.bytes1 hr hk hn.1,Aah]
 by_cases h5:7781<(count+1)*n
 .rw[if_pos h5,if_pos (by omega)]
 .rw[if_neg h5,if_neg (by omega)]
end
section
variable {w0 w w':World}{p:Sp}{N b bd m:Nat}{A A':Dev}{M L:List Pr}{F F':Mut}{R:Rj}{V:Nat->Byt}{gen:Nat}{root:Int}{S:List Nat}{Ws:List (List Wr)}
theorem Xl(hn:442<=N/\N<=841)(hl:A.B.length=N)(ho:A.on=true):JS A=0:=by
 unfold JS;rw[if_neg (by rw[ho];decide),hl,if_neg (by rw[PE hn,L6 hn];omega)]
theorem Dsk.load(d:Dsk N V R gen root M S Ws L)(g:SG N A R V):El A=0/\EV A=gen/\DD A=tpB root R.first R.seq:=by
 have lo:=d.lo;have r0:=d.r0;have r1:=d.r1;have rl:=d.rl
 rcases Nat.mod_two_eq_zero_or_one gen with hp|hp
 .have hp1:(gen+1) % 2=1:=by omega
  rw[hp]at r1 rl;rw[hp1]at r0;obtain⟨e1,e2,e3⟩:=g.load (g0:=gen) (g1:=Cn 1 (V 1)) (l0:=tpB root R.first R.seq) (l1:=Dr 1 (V 1)) r1 rfl (fun _=>rl) (fun _ _=>rfl);have r0':Cn 1 (V 1)<gen:=r0;rw[if_neg (by omega)]at e1;rw[if_pos r0']at e2 e3;exact⟨e1,e2,e3⟩
 .have hp1:(gen+1) % 2=0:=by omega
  rw[hp]at r1 rl;rw[hp1]at r0;obtain⟨e1,e2,e3⟩:=g.load (g0:=Cn 0 (V 0)) (g1:=gen) (l0:=Dr 0 (V 0)) (l1:=tpB root R.first R.seq) rfl r1 (fun _=>rfl) (fun _ _=>rl);have r0':Cn 0 (V 0)<gen:=r0;rw[if_neg (by omega)]at e1;rw[if_neg (by omega)]at e2;rw[if_neg (by omega),if_neg (by omega)]at e3;exact⟨e1,e2,e3⟩
theorem Xn(S:List Nat)(y:Nat):((y:Int)∈(Ik (S.map fun x:Nat=>(x:Int))).map (fun k=>((k.toNat:Nat):Int)))↔y∈S:=by
 have hp:(Ik (S.map fun x:Nat=>(x:Int))).Perm (S.map fun x:Nat=>(x:Int)):=qcc _ _;rw[(hp.map _).mem_iff,qbf];simp only[qah,qcm,qbm];refine⟨fun⟨a,h1,h2⟩=>?_,fun h=>⟨y,h,rfl⟩⟩;obtain rfl:a=y:=by omega
 exact h1
theorem Ajr(m:Nat)(S:List Nat)(y:Nat):(pgU m S)[y]?=if y∈S then(if y<m then some 1 else none)else if y<m then some 0 else none:=by
 unfold pgU;rw[RX,qed]
 by_cases h:y∈S
 .rw[if_pos ((Xn S y).2 h),if_pos h]
  split <;> rfl
 .rw[if_neg (fun h5=>h ((Xn S y).1 h5)),if_neg h]
theorem Ac5(O:Own w0 w bd A F)(h:Bs N b L A)(hb:b<=5000:=by omega):
  Ret prog 19 #[ptr bd] w fun v w'=>∃p,v=.tuple #[ptr p.bs,.int .i64 0]/\p.bd=bd/\Lv w0 w' p A F N b L/\Ext [] w w':=by
 obtain⟨R,V,gen,root,M,S,Ws,g,d,h1,h2,h3⟩:=h;have hn:=d.n;obtain⟨m,rfl⟩:∃m,N=m+362:=⟨N - 362,by omega⟩;obtain⟨e1,e2,e3⟩:=d.load g;have hlow:∀x∈S,x<m:=fun x hx=>by have:=d.low x hx;omega
 have hlen:=g.len;have hmx:=d.mx
 have td:=told (fr:=362) (A:=A) (P:=List.replicate m 0) (root:=root) (L:=M) (S:=S) (d.tr.frame fun y hy=>by
  unfold RD RV;rw[HM g.pend (by have:=d.low y hy;omega)]
  rfl) g.on (by rw[hlen,qa8];omega) (by rw[qa8];omega) d.nd (fun x hx=>by rw[qa8];exact hlow x hx) d.rise
 have hr1:=td.rlo;have hr2:=td.rhi;rw[qa8]at hr2;obtain⟨n1,n2⟩:=d.num2 g.ok;refine(Xe (m:=m) (gen:=gen) (root:=root) (L0:=M) (S:=S) (Ws:=Ws) O g (Xl hn hlen g.on) (by omega) e1 e3 e2 ⟨hr1,by omega⟩ ⟨d.z,h2,by omega⟩ td hlow d.nd d.rise d.ok (by omega) d.ws (fun W hW=>⟨(d.few W hW).1,fun x hx=>((d.few W hW).2 x hx).1⟩) (by omega)).mono fun v w' ⟨p,hv,hp,O',hx⟩=>?_;have k0:=Ul M d.rise;have k1:=k0.sets (W:=Ws.flatten);rw[<-d.l]at k1;have hget:=Ajr m S;refine⟨p,hv,hp,⟨R,_,M,S,Ws,O',⟨g,d,k1,?_,rfl,?_,fun s hs=>?_,fun y=>?_,h1,h2,h3⟩,?_⟩,hx⟩
 .show DQ (kv1 M) (DQ [] 0 (M.map toW)) Ws.flatten=Bz L;rw[Iv k0.nd,Iv (kv:=[]) qb9,Gi k1.perm];show(0:Int) - ((Bz []:Nat):Int)+(Bz (kv1 M):Int) - (Bz (kv1 M):Int)+(Bz L:Int)=_
  have:Bz []=0:=rfl
  omega
 .show(pgU m S).length=_;rw[Jq,qa8];omega
 .obtain⟨y,hy⟩:=qce.1 hs;rw[hget]at hy
  split at hy <;> split at hy <;> simp at hy <;> omega
 .show y∈S↔(pgU m S)[y]?=some 1\/(pgU m S)[y]?=some 2;rw[hget]
  by_cases h:y∈S
  .rw[if_pos h,if_pos (hlow y h)];simp[h]
  .rw[if_neg h];constructor
   .exact fun h5=>absurd h5 h
   .intro h5
    split at h5 <;> simp at h5
 .show((M.length:Nat):Int)+((Ws.flatten.length:Nat):Int)<=_;omega
theorem Ahq(O:Own w0 w bd A F)(hn:442<=m+362/\m+362<=841){pq qq:Nat}(g:SG (m+362) A ⟨[],360,pq,qq⟩ V)(hl:A.left = -1)(hqq:1<=qq/\qq<=b)(hgn:EV A+1<=b)(h0:Cn (((EV A+1+1) % 2:Nat):Int) (V ((EV A+1+1) % 2))<EV A+1)(hT:(El A=4/\DD A=[]/\pq=0/\qq=1)\/(El A=0/\∃r0 R0,DD A=tpB r0 R0.first R0.seq/\(-1<=r0/\r0<=4294967294)/\SG (m+362) A R0 V/\R0.size=360/\(1<=R0.seq/\R0.seq<=4611686018427387904)/\pq=R0.at'/\qq=R0.seq+R0.L.length+1))(hpq:pq<360:=by decide)(hb:b<=5000:=by decide):
  Ret prog 10 #[ptr bd] w fun v w'=>∃p A' F',v=.tuple #[ptr p.bs,.int .i64 0]/\p.bd=bd/\Lv w0 w' p A' F' (m+362) b []/\A'.left = -1/\Grown F (Ms F' p) w w':=by
 refine(ZV (pq:=pq) (qq:=qq) O g hl ⟨rfl,rfl,rfl,rfl⟩ hpq ⟨hqq.1,by omega⟩ (by omega) (by omega) (Xl hn g.len g.on) hT).mono fun v w' ⟨p,F',hv,hp,O',G⟩=>?_;obtain⟨-,s2,s3⟩:=g.save0 hl (EV A+1) (tpB (-1) pq qq) (by omega) (by omega) (by rw[DN];decide);generalize EV A=gl at *;have p2:=par2 gl;refine⟨p,_,F',hv,hp,⟨_,_,[],[],[],O',⟨s3,⟨hn,rfl,?_,?_,?_,.inl ⟨rfl,rfl,rfl⟩,qb9,(fun x hx=>by cases hx),qak _,List.Pairwise.nil,(fun x hx=>by cases hx),qak _,rfl,(fun x hx=>by cases hx),rfl,?_⟩,KL.nil,rfl,rfl,?_,fun s hs => .inl (List.eq_of_mem_replicate hs),fun y=>?_,hgn,hqq.1,hqq.2⟩,?_⟩,s2,G⟩
 .show Cn (((gl+1) % 2:Nat):Int) (if(gl+1) % 2=(gl+1) % 2 then _ else _)=gl+1;rw[if_pos rfl];exact Mq (gen:=gl+1) (by rw[DN];decide)
 .show Dr (((gl+1) % 2:Nat):Int) (if(gl+1) % 2=(gl+1) % 2 then _ else _)=tpB (-1) pq qq;rw[if_pos rfl];exact Mr (gen:=gl+1) (by rw[DN];decide)
 .show Cn (((gl+1+1) % 2:Nat):Int) (if(gl+1+1) % 2=(gl+1) % 2 then _ else V ((gl+1+1) % 2))<gl+1;rw[if_neg (by omega)];exact h0
 .show((0:Nat):Int)<=_;rw[PE hn,L6 hn];omega
 .show(List.replicate m 0).length=_;rw[qa8];omega
 .show y∈[]↔(List.replicate m 0)[y]?=some 1\/(List.replicate m 0)[y]?=some 2;rw[qed]
  split <;> simp
 .show(0:Int)<=_;omega
theorem Xo(hn:442<=N/\N<=841)(O:Own w0 w bd (EB N) F) :
  Ret prog 10 #[ptr bd] w fun v w'=>∃p A' F',v=.tuple #[ptr p.bs,.int .i64 0]/\p.bd=bd/\Lv w0 w' p A' F' N 1 []/\A'.left = -1/\Grown F (Ms F' p) w w':=by
 obtain⟨m,rfl⟩:∃m,N=m+362:=⟨N - 362,by omega⟩;have g0:SG (m+362) (EB (m+362)) ⟨[],360,0,1⟩ (fun _=>zeros):=SG.new ⟨by decide,by decide,by decide,by decide,by decide⟩ rfl (by show 2+360<=_;omega) (by omega);obtain⟨e1,e2,e3⟩:=g0.load (g0:=0) (g1:=0) (l0:=[]) (l1:=[]) (Gg _) (Gg _) (fun h=>absurd h (by decide)) (fun _ h=>absurd h (by decide));rw[if_pos ⟨rfl,rfl⟩]at e1;rw[if_neg (by decide)]at e2 e3;rw[if_pos rfl]at e3;exact Ahq O hn g0 U ⟨qaf _,qaf _⟩ (by rw[e2];decide) (by rw[Gg];omega) (.inl ⟨e1,e3,rfl,rfl⟩)
end
section
variable {w0 w w':World}{p:Sp}{N b:Nat}{A:Dev}{R:Rj}{x:Sx}{M:Mut}{L:List Pr}{F F':Mut}
def Sp.zone(p:Sp)(w w':World):Sp:={ p with z1:=w.heap.size,z2:=w'.heap.size }
theorem Sok.zone(O:Sok w0 w p A R x F)(hx:Ext [] w w'):Sok w0 w' (p.zone w w') A R x F:=by
 obtain⟨l,o1,o2,hF,K,hk,hM⟩:=O.ex;refine⟨O.jone.call hx,O.good,⟨l,o1,o2,(hF.call (Grown.call hx)).1,⟨K.m,fun q hq=>⟨⟨(K.ok q hq).1.1.ext0 hx,?_⟩,(K.ok q hq).2⟩,K.few⟩,hk,hM⟩,O.ge,O.nn,O.tt,O.tT,qaf _⟩
 rcases Rd.lt8 (K.ok q hq).1.1 with h|h
 .exact .inl h
 .exact(K.ok q hq).1.2.imp id fun h2 h3=>h3.elim (fun h4=>h2 (.inl h4)) fun h4=>by have:=h4.1;dsimp only[Sp.zone]at this;omega
theorem Sok.turned{S:List Nat}(O:Sok w0 w p A R x F)(hx:Ext S w w')(hS:∀y∈S,(p.z1<=y/\y<p.z2)/\¬Ms F p y/\w0.heap.size<=y):Sok w0 w' p A R x F:=by
 obtain⟨l,o1,o2,hF,K,hk,hM⟩:=O.ex;refine⟨O.jone.over hx (fun y hy h=>(hS y hy).2.1 (.inl h)) fun y hy=>(hS y hy).2.2,O.good,⟨l,o1,o2,LA hF hx rfl fun y hy => .inr ⟨hy,fun h=>(hS _ h).2.1 (.inr ?_)⟩,⟨K.m,fun q hq=>⟨⟨Rdx.read (K.ok q hq).1 hx fun y hy => .inr (hS y hy).1,(K.ok q hq).1.2⟩,(K.ok q hq).2⟩,K.few⟩,hk,hM⟩,O.ge,O.nn,O.tt,O.tT,qas O.zl hx.size⟩;have h5:y.1∈(p.blk x o1 o2).map (·.1):=qah.2 ⟨y,hy,rfl⟩;exact h5
theorem Lv.zone(O:Lv w0 w p A F N b L)(hx:Ext [] w w'):Lv w0 w' (p.zone w w') A F N b L :=
 let ⟨R,x,M,S,Ws,h1,h2,h3⟩:=O;⟨R,x,M,S,Ws,h1.zone hx,h2,h3⟩
theorem Lv.turned{S:List Nat}(O:Lv w0 w p A F N b L)(hx:Ext S w w')(hS:∀y∈S,(p.z1<=y/\y<p.z2)/\¬Ms F p y/\w0.heap.size<=y):Lv w0 w' p A F N b L :=
 let ⟨R,x,M,S,Ws,h1,h2,h3⟩:=O;⟨R,x,M,S,Ws,h1.turned hx hS,h2,h3⟩
theorem Lv.lt(O:Lv w0 w p A F N b L):∀q,Ms F p q->q<w.heap.size:=by
 obtain⟨R,x,M,S,Ws,O,-⟩:=O;exact O.lt
theorem Lv.ge(O:Lv w0 w p A F N b L):∀q,Ms F p q->w0.heap.size<=q:=by
 obtain⟨R,x,M,S,Ws,O,-⟩:=O;rintro q ((h|rfl)|h)
 .exact(O.jone.own.own q h).1
 .exact O.jone.ge
 .exact O.ge q h
theorem Prs.more{a:Option Addr}{n c:Nat}{K:List Pr}(h:Prs w M a n c K)(hx:Ext [] w w'):Prs w' (fun y=>M y\/w.heap.size<=y) a n c K:=by
 obtain⟨ps,R,hs,hl,hm⟩:=h.ex
 have hlt:∀{a:Option Addr} {l:Byt},Rdx w M a l->Rdx w' (fun y=>M y\/w.heap.size<=y) a l:=fun{a l} ⟨q1,q2⟩=>⟨q1.ext0 hx,by
  rcases Rd.lt8 q1 with h|h
  .exact .inl h
  .exact q2.imp id fun h2 h3=>h3.elim h2 fun h4=>by omega⟩
 refine⟨⟨ps,R.ext0 hx,?_,hl,fun m hm'=>⟨hlt (hm m hm').k,hlt (hm m hm').v,(hm m hm').kc,(hm m hm').vc⟩⟩,h.num,h.le⟩
 rcases ps with _|⟨m,ps⟩
 .exact .inl U
 .have h9:=World.block_lt_of_cell? w ⟨(adr a).block,_,none⟩ (R.cell 0 m rfl 0 _ rfl (by decide));exact hs.imp id fun h2 h3=>h3.elim h2 fun h4=>by dsimp only at h9;omega
end
theorem PF{l:Byt}{i:Nat}{p:UInt8}(h:l[i]?=some p):l.drop i=p::l.drop (i+1):=by
 obtain⟨h1,h2⟩:=qaq.1 h;rw[qdv h1,h2]
theorem Xp:∀(a:Byt) {x y:Byt},DE (a++x) (a++y)=DE x y
 | [],x,y=>rfl
 |p::a,x,y=>by
  rw[qb8,qb8,FZ,if_neg (UInt8.lt_irrefl p),if_neg (UInt8.lt_irrefl p),Xp a]
theorem LB{x y:Byt}{i:Nat}(h:x.take i=y.take i):DE x y=DE (x.drop i) (y.drop i):=by
 have h1:=Xp (x.take i) (x:=x.drop i) (y:=y.drop i);rw[qbl,h,qbl]at h1;exact h1
theorem Ac6(a a2:Option Addr)(c c2:Nat)(x y:Byt)(w:World)(Rx:Rd w a 1 B8 x)(Ry:Rd w a2 1 B8 y)(hx:x.length<=1000000000)(_:y.length<=1000000000) :
  Ret prog 69 #[.slice a x.length c,.slice a2 y.length c2] w fun v w'=>v=.int .i64 (DE x y)/\Ext [] w w':=by
 obtain⟨w0,rfl⟩:=qD w;refine A6 (fn:=f69) func69 U [.slice a x.length c,.slice a2 y.length c2] U ?_;refine Ad (Ac U (qA (Ar (Ad (Ac U (qA (AD (BF 68719476720 (α:=Nat) (fun i=>[(5,.int .i64 (i:Int))]) (fun i w'=>i<=x.length/\i<=y.length/\x.take i=y.take i/\Ext [] w0 w') (fun i=>x.length - i) 0 U ?_ ?_ ?_))))))))
 .exact⟨rfl,trivial⟩
 .exact⟨qak _,qak _,rfl,Ext.refl _ _⟩
 .rintro i j w1 ⟨hi,hi2,ht,hE⟩;have H:=Ctx.start w1 [];refine Ar (Ad (BB (α:=Unit) 65472 (fun _=>[(15,.bool ((decide (i<x.length) && decide (i<y.length))))]) (fun _ w'=>w1=w') U ?_ ?_))
  .refine Ae U (Ai U (AO AW U (Bt U U (AC U (AX 10 U ?_ ?_)))))
   .intro h1;replace h1:=AU h1;refine Ae U (Ai U (AO AW U (Bt U U (AQ U (.bool _) U (Ab ?_)))));exact⟨rfl,(),rfl,⟨qac Value.bool (by simp_all;try omega),trivial⟩,rfl⟩
   .intro h2;replace h2:=AV h2;refine Ak U (Ak U (Ak U (Ak U (AN U (.bool _) U (Ab ?_)))));exact⟨rfl,(),rfl,⟨qac Value.bool (by simp_all;try omega),trivial⟩,rfl⟩
  rintro - j15 w rfl;refine Au _ U ?_ ?_
  .intro h1;simp only[qao,qap]at h1;obtain⟨p,hp⟩:=AR (l:=x) (i:=i) (h:=h1.1);obtain⟨q,hq⟩:=AR (l:=y) (i:=i) (h:=h1.2);have hcm:=LB ht;rw[PF hp,PF hq,FZ]at hcm;have hEd:=hE.trans (Ext.drew [] w1);have hEdd:=hEd.trans (Ext.drew [] w1.drew);refine Aq (Aa (Ar (AD (Ar (Kd (fun x=>x=_) mixed U ?_)))));refine ML U U (IC U (Lc Rx U AW CO U U (by rfl) ?_));refine Ma Sk U (by rintro _ rfl;exact(((Rx.ext0 hEd).one (f:=bv) hp))) ?_;refine ML U U (IC U (Lc Ry U AW CO U U (by rfl) ?_));refine Ma Sk U (by rintro _ rfl;exact(((Ry.ext0 hEd).one (f:=bv) hq))) ?_;refine q_lss U U U (LJ ?_);rintro _ rfl;replace H:=H.drew;refine Au _ U ?_ ?_
   .intro h2;replace h2:=AU h2;refine Ad (Ac U (qA (Ax (Ao (AL (Ao (Ao (AL (Ao (AH (v:=(.int _ _)) U U U ?_))))))))));exact⟨by rw[hcm,if_pos (UInt8.lt_iff_toNat_lt.2 (by omega))],hEd⟩
   .intro h2;replace h2:=AV h2;refine Aq (Aa (Kd (fun x=>x=_) mixed U ?_));refine ML U U (IC U (Lc Rx U AW CO U U (by rfl) ?_));refine Ma Sk U (by rintro _ rfl;exact(((Rx.ext0 hEd).one (f:=bv) hp))) ?_;refine ML U U (IC U (Lc Ry U AW CO U U (by rfl) ?_));refine Ma Sk U (by rintro _ rfl;exact(((Ry.ext0 hEd).one (f:=bv) hq))) ?_;refine q_gtr U U U (LJ ?_);rintro _ rfl;replace H:=H.drew;refine Au _ U ?_ ?_
    .intro h3;replace h3:=AU h3;refine Ad (Ac U (qA (Ax (AL (Ao (Ao (AL (Ao (AH (v:=(.int _ _)) U U U ?_)))))))));exact⟨by rw[hcm,if_neg (fun h=>by have:=UInt8.lt_iff_toNat_lt.1 h;omega),if_pos (UInt8.lt_iff_toNat_lt.2 (by omega))],hEdd⟩
    .intro h3;replace h3:=AV h3;refine Aq (AF (Aa (Av (Ae U (AA U U ?_)))));refine Ac U (qA ?_);have he:p=q:=UInt8.toNat_inj.1 (by omega);exact⟨i+1,rfl,⟨rfl,trivial⟩,⟨by omega,by omega,by rw[Bx hp,Bx hq,ht,he],hEdd⟩,by omega⟩
  .intro h1;simp only[Bool.and_eq_false_iff,qc5]at h1;refine B9 (A8 (A8 (Bd (Aa (Ar (Ad (Ai U (AO AW U (Ai U (AO AW U (Bt U U (qA (Au _ U ?_ ?_)))))))))))))
   .intro h2;replace h2:=AU h2;refine Ad (Ac U (qA (Ax (Ao (AH (v:=(.int _ _)) U U U ?_)))));obtain⟨q,hq⟩:=AR (l:=y) (i:=i);exact⟨by rw[LB ht,qdx (by omega),PF hq];rfl,hE⟩
   .intro h2;replace h2:=AV h2;refine Aq (Aa (Ar (Ad (Ai U (AO AW U (Ai U (AO AW U (Ci U U (qA (Au _ U ?_ ?_))))))))))
    .intro h3;replace h3:=AU h3;refine Ad (Ac U (qA (Ax (Ao (AH (v:=(.int _ _)) U U U ?_)))));obtain⟨q,hq⟩:=AR (l:=x) (i:=i);exact⟨by rw[LB ht,qdx (show y.length<=i by omega),PF hq];rfl,hE⟩
    .intro h3;replace h3:=AV h3;refine Aq (Aa (Ad (Ac U (qA (Ax (AH (v:=(.int _ _)) U U U ?_))))));exact⟨by rw[LB ht,qdx (by omega),qdx (by omega)];rfl,hE⟩
theorem Xq(a a2:Option Addr)(c c2:Nat)(x y:Byt)(w:World)(Rx:Rd w a 1 B8 x)(Ry:Rd w a2 1 B8 y)(hx:x.length<=1000000000:=by omega)(hy:y.length<=1000000000:=by omega):
  Ret prog 68 #[.slice a x.length c,.slice a2 y.length c2] w fun v w'=>v=.bool (decide (x=y))/\Ext [] w w':=by
 obtain⟨w0,rfl⟩:=qD w;refine A6 (fn:=f68) func68 U [.slice a x.length c,.slice a2 y.length c2] U (Ad (Am U (qA (Ad (Ai U (Ai U (Ah qB (Ac6 a a2 c c2 x y _ Rx Ry hx hy) U ?_)))))));rintro v w ⟨rfl,hx7⟩;refine B1 U U (Am U (qA (Ax (AH (v:=(.bool _)) U U U ?_))));exact⟨qac Value.bool (decide_eq_decide.2 ⟨Ng,fun h=>by rw[h];exact Lj _⟩),hx7⟩
theorem Xr{w:World}{M M2:Mut}{a b:Option Addr}{n c m d:Nat}{L K:List Pr}(PL:Prs w M a n c L)(PK:Prs w M2 b m d K)(hn:n<=100000000)(_:m<=100000000)(hL:∀p∈L,p.1.length<=1000/\p.2.length<=1000)(hK:∀p∈K,p.1.length<=1000/\p.2.length<=1000) :
  Ret prog 21 #[.slice a n c,.slice b m d] w fun v w'=>v=.bool (decide (L=K))/\Ext [] w w':=by
 obtain⟨w0,rfl⟩:=qD w;obtain⟨ps,Rp,-,hl,hp⟩:=PL.ex;obtain⟨qs,Rq,-,hk,hq⟩:=PK.ex;have hnL:=PL.num;have hmK:=PK.num;have hpn:ps.length=n:=by rw[hnL,<-hl,qal]
 have hqm:qs.length=m:=by rw[hmK,<-hk,qal]
 refine A6 (fn:=f21) func21 U [.slice a n c,.slice b m d] U (Ad (Am U (qA (Ar (Ad (Ai U (AO EU U (Ai U (AO EU U (AZ U U ?_))))))))));refine qA (Au _ U ?_ ?_)
 .intro hA;replace hA:=Bu hA;refine Ad (Am U (qA (Ax (Ao (AH (v:=(.bool _)) U U U ?_)))));exact⟨qac Value.bool (qai fun h=>hA (by rw[h]at hnL;omega)).symm,.refl _ _⟩
 .intro hA;replace hA:=Bv hA;have hnm:n=m:=by omega
  refine Aq (Aa (Ar (Ad (Ac U (qA (AD (BF 8796093020208 (α:=Nat) (fun i=>[(5,.int .i64 (i:Int))]) (fun i w'=>i<=n/\Ext [] w0 w'/\L.take i=K.take i) (fun i=>n - i) 0 U ?_ ?_ ?_)))))))
  .exact⟨rfl,trivial⟩
  .exact⟨qak _,.refl _ _,rfl⟩
  .rintro i j w ⟨hi,hE,he⟩;have H:=(Ctx.start w []);refine Ar (Ad (Ae U (Ai U (AO EU U (Bt U U (qA (Au _ U ?_ ?_)))))))
   .intro hB;replace hB:=AU hB;obtain⟨x,hx1⟩:=AR (l:=ps) (i:=i);obtain⟨y,hy1⟩:=AR (l:=qs) (i:=i);have hxo:=hp x (qad hx1);have hyo:=hq y (qad hy1);have hxL:L[i]?=some (prI x.it):=by rw[<-hl,qav,hx1];rfl
    have hyK:K[i]?=some (prI y.it):=by rw[<-hk,qav,hy1];rfl
    have hxf:x.it.key.length<=1000/\x.it.val.length<=1000:=hL _ (qad hxL);have hyf:y.it.key.length<=1000/\y.it.val.length<=1000:=hK _ (qad hyK);have hne:prI x.it≠prI y.it->¬L=K:=fun h e=>h (by rw[e]at hxL;exact qby (hxL.symm.trans hyK));refine Aq (Aa (Ar (AD (BR [([0,1,2,3,4,5,6,7,8,9],10),([11,12,13,14,15,16,17,18,19,20,21,22],23),([24],25)] (fun z=>Ext [] w0 z) [] mixed (hE.trans (Ext.drew [] w)) ?_))));refine AB U U (Cg U (BM U (DS Rp EU FV U U ?_)));refine AE H3 U (BJ BL U (fun _ hx=>(Rp.ext0 hx).fld hx1 rfl (j:=0) rfl) ?_);refine Cg U (BM U (DS Rq EU FV U U ?_));refine AE H3 U (BJ BL U (fun _ hx=>(Rq.ext0 hx).fld hy1 rfl (j:=0) rfl) ?_);refine Bm ?_;replace H:=H.drew
    refine Ah qB (Xq _ _ _ _ x.it.key y.it.key _ (hxo.k.1.ext0 (hE.trans H.ext)) (hyo.k.1.ext0 (hE.trans H.ext))) U ?_;rintro v w ⟨rfl,hx27⟩;replace H:=H.call hx27;refine Ab (Bb (hE.trans H.ext) (AB U U ?_));refine Ajy U U (U5 U U (Qg 29 U ?_ ?_))
    .intro hC;replace hC:=CJ hC;have hC':¬x.it.key=y.it.key:=by simpa using hC
     refine DJ U (DJ U (DJ U (DJ U (DJ U (DJ U (DJ U (DJ U (DJ U (DJ U ?_)))))))));refine Bm (Ak U (Ab (Bb (hE.trans H.ext) (AB U U ?_))));refine DJ U (Bm (AQ U (.bool _) U (Ab (Bb (hE.trans H.ext) (B3 (Fi U (Ad (Am U (qA (Ax (AL (Ao (Ao (AL (Ao (AH (v:=(.bool _)) U U U ?_))))))))))))))));exact⟨qac Value.bool (qai (hne fun e=>hC' (qac Prod.fst e))).symm,hE.trans H.ext⟩
    .intro hC;replace hC:=CK hC;have hC':x.it.key=y.it.key:=by simpa using hC
     refine Cg U (BM U (DS Rp EU FV U U ?_));refine AE Lf U (BJ BL U (fun _ hx=>(Rp.ext0 hx).fld hx1 rfl (j:=1) rfl) ?_);refine Cg U (BM U (DS Rq EU FV U U ?_));refine AE Lf U (BJ BL U (fun _ hx=>(Rq.ext0 hx).fld hy1 rfl (j:=1) rfl) ?_);refine Bm (Ah qB (Xq _ _ _ _ x.it.val y.it.val _ (hxo.v.1.ext0 (hE.trans H.ext)) (hyo.v.1.ext0 (hE.trans H.ext))) U ?_);rintro v w ⟨rfl,hx40⟩;replace H:=H.call hx40;refine Ab (Bb (hE.trans H.ext) (AB U U ?_));refine Ajy U U (Bm (AN U (.bool _) U (Ab (Bb (hE.trans H.ext) (B3 (Au _ U ?_ ?_))))))
     .intro hD;replace hD:=CJ hD;have hD':¬x.it.val=y.it.val:=by simpa using hD
      refine Ad (Am U (qA (Ax (AL (Ao (Ao (AL (Ao (AH (v:=(.bool _)) U U U ?_)))))))));exact⟨qac Value.bool (qai (hne fun e=>hD' (qac Prod.snd e))).symm,hE.trans H.ext⟩
     .intro hD;replace hD:=CK hD;have hD':x.it.val=y.it.val:=by simpa using hD
      refine Aq (AF (Aa (Av (Ae U (AA U U ?_)))));refine Ac U (qA ?_);exact⟨i+1,rfl,⟨rfl,trivial⟩,⟨by omega,hE.trans H.ext,by rw[Bx hxL,Bx hyK,he,show prI x.it=prI y.it by unfold prI;rw[hC',hD']]⟩,by omega⟩
   .intro hB;replace hB:=AV hB;refine B9 (A8 (A8 (Bd (Aa (Ad (Am U (qA (Ax (AH (v:=(.bool _)) U U U ?_)))))))));rw[qa5 (by omega),qa5 (by omega)]at he;exact⟨qac Value.bool (qam he).symm,hE⟩
section
variable {w0 w w':World}{p:Sp}{A:Dev}{R:Rj}{x:Sx}{F:Mut}
theorem Se(O:Sok w0 w p A R x F)(hl:A.left = -1)(a:Option Addr)(nn c:Nat)(L:List Wr)(X:Wrs w (Ms F p) a nn c L)(hT:x.T<=3000000)(hr:DO x.kv x.n (DY A.B.length) L=0)(hfit:B7 R.L+blk (opB L).length<=R.size)(hnn:nn<=1000000000:=by decide)(hne:L≠[]:=by decide):
  Ret prog 13 #[ptr p.bs,.slice a nn c] w fun v w'=>v=.int .i64 0/\∃A' F' x',Sok w0 w' p A' (R.more (opB L)) x' F'/\x'.gen=x.gen/\x'.root=x.root/\x'.n=DQ x.kv x.n L/\x'.kv=Fy x.kv L/\x'.t=Ec x.t L/\x'.P=x.P/\x'.T=x.T+L.length/\A'.B.length=A.B.length/\A'.left = -1/\(∀q,(q<2\/2+R.size<=q)->q<A.B.length->x'.V q=x.V q)/\Grown (Ms F p) (Ms F' p) w w':=by
 refine(M6 (C:=fun A1 R1 x1=>A1=A/\R1=R/\x1=x) (Z:=fun _=>False) O a nn c L X hnn hT (fun⟨h1,h2,h3⟩=>by subst h1 h2 h3;exact⟨rfl,rfl,rfl,rfl,hfit⟩) (fun _ _ _=>⟨rfl,rfl,rfl⟩) (fun _ _ _ _ h=>absurd hfit h)).mono fun v w' h=>?_
 rcases h with⟨-,h,-⟩|⟨-,-,hv,A1,R1,x1,A',F',V',⟨h1,h2,h3⟩,O',hln,hle,hV,G⟩|⟨-,-,-,A',F',-,-,h|⟨A1,R1,x1,⟨h1,-⟩,h2,-⟩⟩
 .rcases h with h|h
  .exact absurd hr h
  .exact absurd h hne
 .subst h1 h2 h3;exact⟨hv,A',F',_,O',rfl,rfl,rfl,rfl,rfl,rfl,rfl,hln,hle hl,hV,G⟩
 .cases h
 .rw[h1]at h2;exact absurd hl h2
theorem YS(O:Sok w0 w p A R x F)(a:Option Addr)(nn c:Nat)(L:List Wr)(X:Wrs w (Ms F p) a nn c L)(hT:x.T<=3000000)(hr:DO x.kv x.n (DY A.B.length) L≠0)(hnn:nn<=1000000000:=by decide):
  Ret prog 13 #[ptr p.bs,.slice a nn c] w fun v w'=>v=.int .i64 (DO x.kv x.n (DY A.B.length) L)/\Sok w0 w' p A R x F/\Ext [] w w':=by
 refine(M6 (C:=fun _ _ _=>False) (Z:=fun _=>False) O a nn c L X hnn hT (fun h=>h.elim) (fun h=>absurd h hr) (fun _ _ h=>absurd h hr)).mono fun v w' h=>?_
 rcases h with⟨hv,-,O',hx⟩|⟨h,-⟩|⟨h,-⟩
 .exact⟨hv,O',hx⟩
 .exact absurd h hr
 .exact absurd h hr
theorem Vk{M:Mut}{b t:Nat}{m1 m2:Wm}(h:w.heap[b]?=some (Bl t (Dx m1++Dx m2)))(hb:¬M b)(h1:m1.Ok w M)(h2:m2.Ok w M):Wrs w M (some ⟨b,0,none⟩) 2 2 [m1.x,m2.x] :=
 ⟨⟨[m1,m2],Rd.of_bl (r:=[]) h (by simp) (fun _ _=>rfl),.inr hb,rfl,fun m hm=>by
  simp only[qab,qaj,or_false]at hm
  rcases hm with rfl|rfl
  .exact h1
  .exact h2⟩,rfl,qaf _⟩
theorem IL{wb:World}{M:Mut}{a:Option Addr}{l:Byt}(R:Rd w a 1 B8 l)(hn:l=[]\/wb.heap.size<=(adr a).block)(hM:∀y,M y->y<wb.heap.size):Rdx w M a l:=⟨R,hn.imp id fun h h5=>by have:=hM _ h5;omega⟩
end
def wrA:Wr:=⟨[97],[49],false⟩
def wrBb:Wr:=⟨[98],[50],false⟩
def wrG:Wr:=⟨[97],[],true⟩
def wrA3:Wr:=⟨[97],[51],false⟩
def wrC3:Wr:=⟨[99],[51],false⟩
def R09:Rj:=⟨[],360,0,1⟩
def W91:List (List Wr):=[[wrA,wrBb],[wrG,wrC3]]
theorem few91:∀W∈W91,W.length<=1000/\∀y∈W,y.Few:=by
 unfold W91 Wr.Few;simp only[qab,qaj,or_false,forall_eq_or_imp,forall_eq];decide
theorem kl91:KL (Fy (kv1 []) W91.flatten) [([98],[50]),([99],[51])]:=KL.nil.sets (W:=W91.flatten)
theorem Xs{w w':World}{M:Mut}{a:Option Addr}{n c:Nat}{L:List Pr}(h:Prs w M a n c L)(hx:Ext [] w w'):Prs w' M a n c L:=by
 obtain⟨ps,R,hs,hl,hm⟩:=h.ex;exact⟨⟨ps,R.ext0 hx,hs,hl,fun m hm'=>⟨(hm m hm').k.call hx,(hm m hm').v.call hx,(hm m hm').kc,(hm m hm').vc⟩⟩,h.num,h.le⟩
theorem Ajs{w:World}{b t:Nat}{m:Im}(h:w.heap[b]?=some (Bl t (LD m)))(hk:Rd w m.ka 1 B8 m.it.key)(hv:Rd w m.va 1 B8 m.it.val)(h1:m.it.key.length<=m.kc)(h2:m.it.val.length<=m.vc):Prs w (fun _=>False) (some ⟨b,0,none⟩) 1 1 [prI m.it] :=
 ⟨⟨[m],Rd.of_bl (r:=[]) h (by simp) (fun _ _=>rfl),.inr id,rfl,fun y hy=>by rw[qaa.1 hy];exact⟨⟨hk,.inr id⟩,⟨hv,.inr id⟩,h1,h2⟩⟩,rfl,qaf _⟩
theorem Amq:R09.Ok:=⟨by decide,by decide,by decide,by decide,by decide⟩
set_option maxRecDepth 100000 in
theorem Ac7(w:World):Ret prog 8 #[] w fun v w'=>v=.bool true/\Ext [] w w':=by
 obtain⟨w0,rfl⟩:=qD w;have g0:SG (80+362) (EB 442) R09 (fun _=>zeros):=SG.new Amq rfl (by decide) (by decide);have l0:(EB 442).left = -1:=rfl;obtain⟨e1,e2,e3⟩:=g0.load (g0:=0) (g1:=0) (l0:=[]) (l1:=[]) (Gg _) (Gg _) (fun h=>absurd h (by decide)) (fun _ h=>absurd h (by decide));rw[if_pos ⟨rfl,rfl⟩]at e1;rw[if_neg (by decide)]at e2 e3;rw[if_pos rfl]at e3;have em:JS (EB 442)=0:=by decide
 refine A6 (fn:=Tryz.f8) func8 U [] U (Ad (Am U (qA (Ad (Ah qB (Zy _) U ?_)))));rintro v w ⟨bd,F,rfl,O⟩;replace O:Own w0 w bd (EB 442) F:=O;refine AM U (Ag U U (Ag U U (B5 U (Ac U (qA (Ar (Ad (Ae U (AZ U U ?_)))))))));refine AC U (An U (BN LO U ?_));refine AN U (.bool _) U (qA (Bw U (Aq (Aa (Ad (An U (Ah qB (YJ O.dev em (by rw[e1];decide) g0.good.few) U ?_)))))));rw[e1];rintro v w ⟨rfl,hx28⟩;replace O:=O.call hx28;refine AM U (Ag U U (Ag U U (B5 U (Ac U (qA (Ad (An U (Ah qB (ZV (pq:=0) (qq:=1) O g0 l0 ⟨rfl,rfl,rfl,rfl⟩ (by decide) (by decide) (by rw[e2];decide) (by decide) em (.inl ⟨e1,e3,rfl,rfl⟩)) U ?_))))))));rw[e2];have hs1:=g0.save0 l0 (0+1) (tpB (-1) 0 1) (by decide) (by decide) (by rw[DN];decide)
 generalize Eh (EB 442) (0+1) (tpB (-1) 0 1)=A1 at hs1 |-;clear O;rintro v w ⟨p,F1,rfl,hpb,O,-⟩;have hl1:=hs1.2.1;have hn1:=hs1.2.2.len;subst hpb;refine AM U (Ag U U (Ag U U (B5 U (Ac U (qA (Ar (Ad (Ae U (AZ U U ?_)))))))));refine AC U (Ae U (AZ U U (AN U (.bool _) U (AC U (An U (BN VI U ?_))))));refine AN U (.bool _) U (AC U (An U ?_));have lt48:=O.lt;refine Ah qB (ZW [97] [49] _) U ?_;rintro v w48 ⟨hx48,m48,rfl,hm48,Rk48,Rv48,kc48,vc48,nk48,nv48⟩;replace O:=O.call hx48;refine Ah qB (ZW [98] [50] _) U ?_;rintro v w49 ⟨hx49,m49,rfl,hm49,Rk49,Rv49,kc49,vc49,nk49,nv49⟩;have lt49:=O.lt;replace O:=O.call hx49;have lt50:=O.lt;have H:=Ctx.start w49 [];refine BQ (Dx m48++Dx m49) GX Fx Ha H ?_;rintro b50 w hb50 H;have hx50:=H.ext
 have X51:=Vk (M:=Ms F1 p) (H.get at0) (fun h=>by have:=lt50 _ h;omega) ⟨IL (by rw[hm48];exact(Rk48.ext0 hx49).ext0 hx50) (by rw[hm48];exact nk48) lt48,IL (by rw[hm48];exact(Rv48.ext0 hx49).ext0 hx50) (by rw[hm48];exact nv48) lt48,by rw[hm48];exact kc48,by rw[hm48];exact vc48⟩ ⟨IL (by rw[hm49];exact Rk49.ext0 hx50) (by rw[hm49];exact nk49) lt49,IL (by rw[hm49];exact Rv49.ext0 hx50) (by rw[hm49];exact nv49) lt49,by rw[hm49];exact kc49,by rw[hm49];exact vc49⟩;rw[hm48,hm49]at X51;refine Ah qB (Se (O.call hx50) hl1 (some ⟨b50,0,none⟩) 2 2 [wrA,wrBb] X51 (by decide) (by rw[hn1];decide +kernel) (by decide +kernel)) U ?_;rintro v w51 ⟨rfl,A2,F2,x2,O,hgen2,hroot2,hbn2,hkv2,-,hP2,hT2,hn2,hl2,hV2,-⟩;replace hkv2:x2.kv=[([97],[49]),([98],[50])]:=hkv2;replace hbn2:x2.n=12:=hbn2
 refine AZ U U (AN U (.bool _) U (AC U (An U (Ah qB (Ug O) U ?_))));rintro v w ⟨rfl,rfl⟩;rw[hbn2];refine AZ U U (AN U (.bool _) U (qA (Bw U (Aq (Aa (Ad (An U ?_)))))));have lt60:=O.lt;have H:=Ctx.start w51 [];refine BQ [bv 97] AW CO HY H ?_;rintro b60 w hb60 H;refine EY (l:=[97]) AW FB U H at0 ?_;rintro w61 H Rk61;have hx61:=H.ext;replace O:=O.call hx61;clear H;refine B0 (Dx ⟨some ⟨b60,0,none⟩,1,none,0,wrG⟩) Tf Ha ?_;have lt63:=O.lt;refine Ah qB (ZW [97] [51] _) U ?_;rintro v w63 ⟨hx63,m63,rfl,hm63,Rk63,Rv63,kc63,vc63,nk63,nv63⟩;replace O:=O.call hx63;have lt64:=O.lt;have H:=Ctx.start w63 [];refine BQ (Dx ⟨some ⟨b60,0,none⟩,1,none,0,wrG⟩++Dx m63) GX Fx Ha H ?_;rintro b64 w hb64 H;have hx64:=H.ext
 have X65:=Vk (M:=Ms F2 p) (H.get at0) (fun h=>by have:=lt64 _ h;omega) ⟨⟨(Rk61.ext0 hx63).ext0 hx64,.inr fun h=>by have:=lt60 _ h;dsimp only[adr]at this;omega⟩,⟨Rd.nil,.inl rfl⟩,qaf _,qaf _⟩ ⟨IL (by rw[hm63];exact Rk63.ext0 hx64) (by rw[hm63];exact nk63) lt63,IL (by rw[hm63];exact Rv63.ext0 hx64) (by rw[hm63];exact nv63) lt63,by rw[hm63];exact kc63,by rw[hm63];exact vc63⟩;rw[hm63]at X65;have hr65:DO x2.kv x2.n (DY A2.B.length) [wrG,wrA3]=1:=(by rw[hkv2,hbn2,hn2,hn1];decide +kernel);refine Ah qB (YS (O.call hx64) (some ⟨b64,0,none⟩) 2 2 [wrG,wrA3] X65 (by rw[hT2];decide) (by rw[hr65];decide)) U ?_;rw[hr65];rintro v w65 ⟨rfl,O,-⟩;refine Ac U (qA (Ad (An U ?_)));have lt67:=O.lt;have H:=Ctx.start w65 [];refine BQ [bv 97] AW CO HY H ?_;rintro b67 w hb67 H
 refine EY (l:=[97]) AW FB U H at0 ?_;rintro w68 H Rk68;have hx68:=H.ext;replace O:=O.call hx68;clear H;refine B0 (Dx ⟨some ⟨b67,0,none⟩,1,none,0,wrG⟩) Tf Ha ?_;have lt70:=O.lt;refine Ah qB (ZW [99] [51] _) U ?_;rintro v w70 ⟨hx70,m70,rfl,hm70,Rk70,Rv70,kc70,vc70,nk70,nv70⟩;replace O:=O.call hx70;have lt71:=O.lt;have H:=Ctx.start w70 [];refine BQ (Dx ⟨some ⟨b67,0,none⟩,1,none,0,wrG⟩++Dx m70) GX Fx Ha H ?_;rintro b71 w hb71 H;have hx71:=H.ext
 have X72:=Vk (M:=Ms F2 p) (H.get at0) (fun h=>by have:=lt71 _ h;omega) ⟨⟨(Rk68.ext0 hx70).ext0 hx71,.inr fun h=>by have:=lt67 _ h;dsimp only[adr]at this;omega⟩,⟨Rd.nil,.inl rfl⟩,qaf _,qaf _⟩ ⟨IL (by rw[hm70];exact Rk70.ext0 hx71) (by rw[hm70];exact nk70) lt70,IL (by rw[hm70];exact Rv70.ext0 hx71) (by rw[hm70];exact nv70) lt70,by rw[hm70];exact kc70,by rw[hm70];exact vc70⟩;rw[hm70]at X72;refine Ah qB (Se (O.call hx71) hl2 (some ⟨b71,0,none⟩) 2 2 [wrG,wrC3] X72 (by rw[hT2];decide) (by rw[hkv2,hbn2,hn2,hn1];decide +kernel) (by decide +kernel)) U ?_;rintro v w72 ⟨rfl,A3,F3,x3,O,hgen3,hroot3,hbn3,hkv3,-,hP3,hT3,hn3,hl3,hV3,-⟩;replace hkv3:x3.kv=[([98],[50]),([99],[51])]:=(by rw[hkv3,hkv2];rfl);refine Ac U (qA (Ad (An U ?_)));have H:=Ctx.start w72 []
 refine BQ [bv 97] AW CO HY H ?_;rintro b75 w - H;refine EY (l:=[97]) AW FB U H at0 ?_;rintro w76 H Rk76;replace O:=O.call H.ext;clear H;refine Ah qB (ZZ O (some ⟨b75,0,none⟩) 1 [97] Rk76) U ?_;rw[hkv3,show BA ([([98],[50]),([99],[51])]:Kvl) [97]=none from rfl];rintro v w77 ⟨a77,c77,rfl,-,O,-⟩;refine AM U (Ag U U (Ag U U (Ag U U (Aj U (Am U (Ac U (qA (Ad (An U ?_)))))))));have H:=Ctx.start w77 [];refine BQ [bv 99] AW CO HY H ?_;rintro b83 w - H;refine EY (l:=[99]) AW FB U H at0 ?_;rintro w84 H Rk84;replace O:=O.call H.ext;clear H;refine Ah qB (ZZ O (some ⟨b83,0,none⟩) 1 [99] Rk84) U ?_;rw[hkv3,show BA ([([98],[50]),([99],[51])]:Kvl) [99]=some [51]from rfl];rintro v w85 ⟨a85,c85,rfl,R85,O,-⟩
 refine AM U (Ag U U (Ag U U (Ag U U (Aj U (Am U (Ac U (qA (Ar (Ad ?_)))))))));refine Ae U (AZ U U (AC U (Ae U (AZ U U (AN U (.bool _) U (AC U (AC U (AN U (.bool _) U (AC U ?_)))))))));refine AC U (Cl U (AN U (.bool _) U (AC U (Ai U (Jz (l:=[51]) AW FB Fq U R85 ?_)))));refine Adm (l:=[51]) (m:=[51]) U U U (AN U (.bool _) U (AC U (An U ?_)));have hd9:=YL O;refine Ah qB (Aio hd9.1) U ?_;rw[hd9.2.on];rintro v w109 ⟨rfl,D109,-⟩;refine AZ U U (AN U (.bool _) U (AC U (An U (Ah qB (Al6 D109 none 0 0 [] Rd.nil U (.inl U) (fun _ h=>by cases h) hd9.2.good.few) U ?_))));rintro v w114 ⟨rfl,D114,-⟩;refine AZ U U (AN U (.bool _) U (qA (Bw U (Aq (Aa ?_)))))
 have g4:SG (80+362) (onD (LC A3) []) ((R09.more (opB [wrA,wrBb])).more (opB [wrG,wrC3])) x3.V:=(by have h:=hd9.2.off [];rw[hn3,hn2,hn1]at h;exact h);have v0:x3.V 0=zeros:=by rw[hV3 0 (by decide) (by rw[hn2,hn1];decide),hV2 0 (by decide) (by rw[hn1];decide)];rfl
 have v1:x3.V 1=Ds 1 (tpB (-1) 0 1):=by rw[hV3 1 (by decide) (by rw[hn2,hn1];decide),hV2 1 (by decide) (by rw[hn1];decide)];rfl
 obtain⟨f1,f2,f3⟩:=g4.load (g0:=0) (g1:=1) (l0:=[]) (l1:=tpB (-1) 0 1) (by rw[v0];exact Gg _) (by rw[v1];exact Mq (gen:=1) (by rw[DN];decide) (h1:=by decide) (hg:=by decide)) (fun h=>absurd h (by decide)) (fun _ _=>by rw[v1];exact Mr (gen:=1) (by rw[DN];decide) (h1:=by decide) (hg:=by decide));rw[if_neg (by decide)]at f1 f2 f3;rw[if_neg (by decide)]at f3;have l4:=g4.len;have em4:JS (onD (LC A3) [])=0:=by unfold JS;rw[g4.on,l4];decide
 have td4:=told (fr:=362) (A:=onD (LC A3) []) (P:=List.replicate 80 0) (root := -1) (L:=[]) (S:=[]) (.inl ⟨rfl,rfl,rfl⟩) g4.on (by rw[l4];decide) (by decide) qb9 (fun _ h=>by cases h) List.Pairwise.nil;refine Ad (An U (Ah qB (Xe (m:=80) (gen:=1) (root := -1) (L0:=[]) (S:=[]) (Ws:=W91) D114 g4 em4 (by decide) f1 f3 f2 (by decide) ⟨rfl,by decide,by decide⟩ td4 (fun _ h=>by cases h) qb9 List.Pairwise.nil (fun _ h=>by cases h) (by decide) U few91 (by decide)) U ?_));clear O;rintro v w119 ⟨p4,rfl,hb4,O,hx119⟩;refine AM U (Ag U U (Ag U U (B5 U (Ac U (qA (Ar (Ad (Ae U (AZ U U ?_)))))))));refine AC U (An U (BN VI U ?_));refine AN U (.bool _) U (qA (Bw U (Aq (Aa (Ad (An U ?_))))));have H:=Ctx.start w119 [];refine BQ [bv 98] AW CO HY H ?_;rintro b130 w - H;refine EY (l:=[98]) AW FB U H at0 ?_
 rintro w131 H Rk131;replace O:=O.call H.ext;clear H;have H:=Ctx.start w131 [];refine BQ [bv 99] AW CO HY H ?_;rintro b132 w - H;refine EY (l:=[99]) AW FB U H at0 ?_;rintro w133 H Rk133;replace O:=O.call H.ext;replace Rk131:=Rk131.ext0 H.ext;clear H;refine Ah qB (WV O kl91.nd (by rw[kl91.len];decide) (some ⟨b130,0,none⟩) (some ⟨b132,0,none⟩) 1 1 [98] [99] Rk131 Rk133) U ?_;rw[show KU (Fy (kv1 []) W91.flatten) [98] [99]=[([98],[50])]from(kl91.scan [98] [99]).trans rfl];rintro v w134 ⟨a134,c134,rfl,P134,O,-⟩;refine AM U (Ag U U (Ag U U (Aj U (Ac U (qA (Ad (Ae U (B1 U U (AC U ?_)))))))));refine Ai U ?_;have H:=Ctx.start w134 [];refine BQ [bv 98] AW CO HY H ?_;rintro b141 w - H;refine EY (l:=[98]) AW FB U H at0 ?_;rintro w142 H Rk142;replace O:=O.call H.ext;have hx142:=H.ext
 clear H;have H:=Ctx.start w142 [];refine BQ [bv 50] AW CO HY H ?_;rintro b143 w - H;refine EY (l:=[50]) AW FB U H at0 ?_;rintro w144 H Rk144;replace O:=O.call H.ext;have hx144:=H.ext;replace Rk142:=Rk142.ext0 hx144;clear H;have H:=Ctx.start w144 [];refine B0 (LD ⟨some ⟨b141,0,none⟩,1,some ⟨b143,0,none⟩,1,⟨[98],[50],0⟩⟩) Aey Ku ?_;refine BP (LD ⟨some ⟨b141,0,none⟩,1,some ⟨b143,0,none⟩,1,⟨[98],[50],0⟩⟩) (.agg _) EU FV Ku U U U U H ?_;rintro b146 w - H;refine Ah qB (Xr (Xs P134 ((hx142.trans hx144).trans H.ext)) (Ajs (H.get at0) (Rk142.ext0 H.ext) (Rk144.ext0 H.ext) (qaf _) (qaf _)) (by decide) (by decide) (by decide) (fun q hq=>by rw[qaa.1 hq];exact(show([98]:Byt).length<=1000/\([50]:Byt).length<=1000 from by decide))) U ?_;rintro v w147 ⟨rfl,hx147⟩
 refine AQ U (.bool _) U (AC U (Ah qB (Jj 441 (by decide) _) U ?_));rintro v w ⟨rfl,rfl⟩;refine B1 U U (AQ U (.bool _) U (AC U (Ah qB (Jj 442 (by decide) _) U ?_)));rintro v w ⟨rfl,rfl⟩;refine B1 U U (AQ U (.bool _) U (AC U (Ah qB (Jj 3000 (by decide) _) U ?_)));rintro v w ⟨rfl,rfl⟩;refine B1 U U (AQ U (.bool _) U (Am U (qA (Ax (AH (v:=(.bool _)) U U U ?_)))));exact⟨rfl,(O.call (H.ext.trans hx147)).jone.own.ext⟩
theorem Ajt{w:World}{M:Mut}{b t:Nat}{m:Wm}(h:w.heap[b]?=some (Bl t (Dx m)))(hb:¬M b)(h1:m.Ok w M):Wrs w M (some ⟨b,0,none⟩) 1 1 [m.x] :=
 ⟨⟨[m],Rd.of_bl (r:=[]) h (by simp) (fun _ _=>rfl),.inr hb,rfl,fun y hy=>by rw[qaa.1 hy];exact h1⟩,rfl,qaf _⟩
theorem encF{ka va:Option Addr}{st n k:Nat}:Dx ⟨ka,3,va,n - 7,wrF st n k⟩=[.slice ka 3 3,.slice va (n - 7) (n - 7),.bool false]:=by simp[Dx,wrF,OG]
theorem YT(a:Nat):Value.int .u8 ((a % 256:Nat):Int)=bv (UInt8.ofNat a):=by unfold bv;rw[UInt8.toNat_ofNat']
theorem Amr(n:Nat):List.replicate n (Value.int .u8 0)=(List.replicate n (0:UInt8)).flatMap B8:=by
 induction n with
 |zero=>rfl
 |succ n ih=>rw[List.replicate_succ,List.replicate_succ,qb6,ih];rfl
set_option maxRecDepth 100000 in
theorem Vl(st sz:Nat)(hst:st<=255)(hsz:sz<=255)(bk:Bool)(w:World) :
  Ret prog 4 #[.int .u8 (st:Int),.int .u8 (sz:Int),.bool bk] w fun v w'=>v=.bool true/\Ext [] w w':=by
 obtain⟨w0,rfl⟩:=qD w;obtain⟨n,hn⟩:=qD (sz % 128+8:Nat);have hn1:8<=n/\n<=135:=by omega
 have hnI:(sz:Int) % 128+8=(n:Int):=by omega
 obtain⟨f,hf⟩:=qD (fun j=>if bk=true then 799 - j else j:Nat->Nat);have hf1:∀j,j<800->f j<800:=fun j hj=>by rw[hf];dsimp only;split <;> omega
 have hf2:∀j k,j<k->k<800->f j≠f k:=fun j k h1 h2=>by rw[hf];dsimp only;split <;> omega
 have hroom:=Jj 442 (by decide);refine A6 (fn:=Tryz.f4) func4 U [.int .u8 (st:Int),.int .u8 (sz:Int),.bool bk] U (Ad (Am U (qA (Ad (Ah qB (Zy _) U ?_)))));rintro v w ⟨bd,F,rfl,D⟩;replace D:Own w0 w bd (EB 442) F:=D;refine AM U (Ag U U (Ag U U (B5 U (Ac U (qA (Ad (An U (Ah qB (Xo ⟨by decide,by decide⟩ D) U ?_))))))));rintro v w ⟨p,A,F1,rfl,hpb,O,hl,-⟩;subst hpb;refine AM U (Ag U U (Ag U U (B5 U (Ac U (qA (Ar (Ad (Ae U (AZ U U ?_)))))))));refine AC U (Ae U (AZ U U (AN U (.bool _) U (AC U (An U (BN VI U ?_))))));refine AN U (.bool _) U (qA (Bw U (Aq (Aa (Ad (Ah qB (hroom _) U ?_))))));rintro v w40 ⟨rfl,h40⟩;rw[h40]at O;rw[show DY 442=7781 from Aah];refine Ac U (qA (Ad (Ae U (DP U FB EW ?_))))
 refine Uy U U U (AA U U ?_);rw[hnI];refine Ac U (qA (Ad (Ac U (qA (Ar (Ad (Ac U (qA (AD ?_)))))))));refine BF 20282409603651670388762879451200 (α:=Nat × Nat) (fun x=>[(13,.int .i64 (x.2:Int)),(14,.int .i64 (x.1:Int))]) (fun x w'=>x.1<=800/\x.2<=x.1/\∃A F L,Lv w0 w' p A F 442 (1+4*x.1) L/\A.left = -1/\FuL st n f x.1 x.2 L) (fun x=>800 - x.1) (0,0) U ?_ ?_ ?_
 .exact⟨rfl,rfl,trivial⟩
 .exact⟨qak _,qak _,A,F1,[],O,hl,(qd1 n).symm,rfl,fun q h=>by cases h⟩
 .rintro⟨i,cnt⟩ j w ⟨hi,hc,A1,F2,L,O1,hl1,hFu⟩;dsimp only at hi hc O1 hFu;clear O;refine Ar (Ad (Ae U (Bt U U (qA (Au _ U ?_ ?_)))))
  .intro hB;replace hB:=AU hB;have hi8:i<800:=by omega
   have hfi:=hf1 i hi8;have hnum:=O1.nums;have hkf:=hFu.fresh hf1 hf2 hi8;have hright:=hFu.right hnum.2.2.2.2.2.1 hkf hn1;have hmore:=hFu.more hnum.2.2.2.2.2.1 hkf hn1.1;obtain⟨w1,rfl⟩:=qD w;refine Aq (Aa (Ar (AD (Ad (Ae U (Ac U (qA (Ar (Ad (AC U ?_))))))))));refine qA (FF 6755399441088512 (α:=Unit) (fun _=>[(15,.int .i64 (f i:Int))]) (fun _ w'=>w'=w1) U ?_ ?_)
   .skip
    refine Au _ U ?_ ?_
    .intro hC;refine Av (Ae U (B4 U U ?_));refine Ac U (qA ?_);exact⟨(),rfl,⟨qac (Value.int .i64) (by rw[hf];dsimp only;rw[if_pos hC];omega),trivial⟩,rfl⟩
    .intro hC;refine Aq (Aa ?_);exact⟨(),rfl,⟨qac (Value.int .i64) (by rw[hf];dsimp only;rw[if_neg (by rw[hC];decide)]),trivial⟩,rfl⟩
   .rintro - j50 w hw;rw[hw];clear hw;obtain⟨fi,hfe⟩:=qD (f i);rw[<-hfe]at hfi hkf hright hmore |-;have hms:fi*st<=799*255:=Nat.mul_le_mul (by omega) hst;have hmi:(fi:Int)*(st:Int)=((fi*st:Nat):Int):=by push_cast;rfl
    have hms0:((fi*st:Nat):Int)<=300000/\(0:Int)<=((fi*st:Nat):Int):=⟨by have:=Int.ofNat_le.2 hms;exact Int.le_trans this (by decide),Int.natCast_nonneg _⟩;have hmc:(cnt+1)*n<=801*135:=Nat.mul_le_mul (by omega) hn1.2;have hmci:((cnt:Int)+1)*(n:Int)=(((cnt+1)*n:Nat):Int):=by push_cast;rfl
    obtain⟨m,hm⟩:=qD ((cnt+1)*n);rw[<-hm]at hmc hmci hright;clear hm;have H:=Ctx.start w1 [];have lt1:=O1.lt;refine Ad (Ae U (XO (a:=fi) (n:=8) U U (by rfl) ?_));refine GU (a:=fi / 2 ^ 8) U (by rfl) EW FB ?_;rw[show fi / 2 ^ 8 % 256=(fi / 256) % 256 from rfl,YT];refine Ae U (GU (a:=fi) U (by rfl) EW FB ?_);rw[YT];refine Ae U (Ae U (DP U FB EW ?_));refine EX U U (h1:=by rw[hmi];exact Int.le_trans (by decide) hms0.2) (h2:=by rw[hmi];exact Int.le_trans hms0.1 (by decide)) ?_;rw[hmi];refine GU (a:=fi*st) U (by rfl) EW FB ?_;rw[YT];refine BQ [bv (UInt8.ofNat (fi / 256)),bv (UInt8.ofNat fi),bv (UInt8.ofNat (fi*st))] AW CO HY H ?_;rintro b63 w hb63 H;refine Aj U (qA (Ad (An U (Ai U (Ae U (B4 U U ?_))))));rw[show(n:Int) - 7=((n - 7:Nat):Int)by omega]
    refine MJ U AW CO Pu HY U U H ?_;rintro b68 w hb68 H;have hsz68:=H.size;refine B0 [.slice (some ⟨b63,0,none⟩) 3 3,.slice (some ⟨b68,0,none⟩) (n - 7) (n - 7),.bool false] Tf Ha ?_;refine BP [.slice (some ⟨b63,0,none⟩) 3 3,.slice (some ⟨b68,0,none⟩) (n - 7) (n - 7),.bool false] (.agg _) GX Fx Ha U U U U H ?_;rintro b70 w70 hb70 H;have g0:=(H.own _ (qad (i:=0) rfl)).resolve_left (by simp);have g1:=(H.own _ (qad (i:=1) rfl)).resolve_left (by simp);have g2:=(H.own _ (qad (i:=2) rfl)).resolve_left (by simp);dsimp only at g0 g1 g2;have hnew:∀y,w1.heap.size<=y->¬Ms F2 p y:=(fun y hy h=>by have h5:=lt1 y h;omega)
    have X71:=Ajt (M:=Ms F2 p) (m:=⟨some ⟨b63,0,none⟩,3,some ⟨b68,0,none⟩,n - 7,wrF st n fi⟩) (by rw[encF];exact H.get at0) (hnew b70 g0) ⟨⟨Rd.of_bl (l:=[bv (UInt8.ofNat (fi / 256)),bv (UInt8.ofNat fi),bv (UInt8.ofNat (fi*st))]) (r:=[]) (H.get at2) rfl (fun _ _=>rfl),.inr (hnew b63 g2)⟩,⟨Rd.of_bl (r:=[]) (H.get at1) (by rw[qa2];exact Amr _) (fun _ _=>rfl),.inr (hnew b68 g1)⟩,qaf _,by show(List.replicate (n - 7) (0:UInt8)).length<=_;rw[qa8];exact qaf _⟩;refine Ah qB (Xj (O1.call H.ext) (some ⟨b70,0,none⟩) 1 1 _ X71) U ?_;rintro v w71 h71;obtain⟨rfl,A2,F3,O2,-,hl2⟩:=h71.resolve_right (fun h=>h.2.2.2.1 hl1);clear h71;rw[show(⟨some ⟨b63,0,none⟩,3,some ⟨b68,0,none⟩,n - 7,wrF st n fi⟩:Wm).x=wrF st n fi from rfl]at O2 |-;obtain⟨e,he⟩:=qD (IU 442 L [wrF st n fi]);rw[<-he]at hright O2 |-;have hl2:=hl2 hl1
    have he2:(e=0/\m<=7781)\/(e=7/\¬m<=7781):=(by rw[hright];by_cases h5:7781<m;exact .inr ⟨if_pos h5,by omega⟩;exact .inl ⟨if_neg h5,by omega⟩);refine Ac U (qA (Ar (Ad (BB (α:=Unit) 618965297276207267804348416 (fun _=>[(88,.bool (false))]) (fun _ w'=>w'=w71) U ?_ ?_))))
    .refine Ae U (B1 U U (Ae U (AA U U ?_)));refine Ae U (EX U U (h1:=by rw[hmci];omega) (h2:=by rw[hmci];omega) ?_);rw[hmci];refine Ae U (PX U U U (Ah2 un_4 U U U ?_));refine AC U (AX 81 U ?_ ?_)
     .intro h1;refine Ak U (Ak U (Ak U (Ak U (Ak U (Ak U (AQ U (.bool _) U (Ab ?_)))))));exact⟨rfl,(),rfl,⟨qac Value.bool (by rcases he2 with⟨h1,h2⟩|⟨h1,h2⟩ <;> simp_all <;> omega),trivial⟩,rfl⟩
     .intro h2;refine Ae U (AZ U U (AC U (AX 84 U ?_ ?_)))
      .intro h3;replace h3:=Bu h3;refine Ae U (AZ U U (AQ U (.bool _) U (AN U (.bool _) U (Ab ?_))));exact⟨rfl,(),rfl,⟨qac Value.bool (by rcases he2 with⟨h1,h2⟩|⟨h1,h2⟩ <;> simp_all <;> omega),trivial⟩,rfl⟩
      .intro h4;replace h4:=Bv h4;refine Ak U (Ak U (AN U (.bool _) U (AN U (.bool _) U (Ab ?_))));exact⟨rfl,(),rfl,⟨qac Value.bool (by rcases he2 with⟨h1,h2⟩|⟨h1,h2⟩ <;> simp_all <;> omega),trivial⟩,rfl⟩
    rintro - j88 w hw88;rw[hw88];clear hw88
    obtain⟨c2,L2,hc2,hL2,hFu2,hcl⟩:∃c2 L2,c2=(if e=0 then cnt+1 else cnt)/\L2=(if e=0 then GM L [wrF st n fi]else L)/\FuL st n f (i+1) c2 L2/\c2<=i+1:=by
     by_cases h5:e=0
     .exact⟨cnt+1,_,(if_pos h5).symm,(if_pos h5).symm,hfe ▸ hmore,by omega⟩
     .exact⟨cnt,L,(if_neg h5).symm,(if_neg h5).symm,hFu.skip,by omega⟩
    rw[<-hL2]at O2;refine Bw U (Aq (Aa (Ar (Ad (Ae U (B1 U U (qA ?_)))))));obtain⟨w2,rfl⟩:=qD w71;refine FF 7427640235712281649394753536 (α:=Unit) (fun _=>[(13,.int .i64 (c2:Int))]) (fun _ w'=>w'=w2) U ?_ ?_
    .skip
     refine Au _ U ?_ ?_
     .intro hE;replace hE:=AU hE;refine Av (Ae U (AA U U ?_));refine Ac U (qA ?_);exact⟨(),rfl,⟨qac (Value.int .i64) (by rw[hc2,if_pos hE];omega),trivial⟩,rfl⟩
     .intro hE;replace hE:=AV hE;refine Aq (Aa ?_);exact⟨(),rfl,⟨qac (Value.int .i64) (by rw[hc2,if_neg hE]),trivial⟩,rfl⟩
    .rintro - j90 w hw;rw[hw];clear hw;refine Ad (BB (α:=Unit) 20272506083337387381748058292224 (fun _=>[(103,.bool (false))]) (fun _ w'=>∃A F,Lv w0 w' p A F 442 (1+4*(i+1)) L2/\A.left = -1) U ?_ ?_)
     .refine Ae U (Ae U (DP U FB EW ?_));refine AA U U (Uy U U U ?_);refine B1 U U (AC U (AX 99 U ?_ ?_))
      .intro h5;replace h5:=AU h5;refine An U (Ah qB (Sd O2) U ?_);rintro v w101 h101;obtain⟨rfl,A3,F4,O3,-,hl3⟩:=h101.resolve_right (fun h=>h.2.1 hl2);refine AZ U U (AQ U (.bool _) U (Ab ?_));exact⟨rfl,(),rfl,⟨qac Value.bool (by simp),trivial⟩,by exact⟨_,_,O3.mono (by omega),hl3 hl2⟩⟩
      .intro h6;replace h6:=AV h6;refine Ak U (Ak U (Ak U (AN U (.bool _) U (Ab ?_))));exact⟨rfl,(),rfl,⟨qac Value.bool (by simp),trivial⟩,by exact⟨_,_,O2.mono (by omega),hl2⟩⟩
     rintro - j103 w ⟨A4,F5,O4,hl4⟩;refine Bw U (Aq (AF (Aa (Av (Ae U (AA U U ?_))))));refine Ac U (qA ?_);exact⟨(i+1,c2),rfl,⟨rfl,rfl,trivial⟩,⟨by omega,hcl,A4,F5,L2,O4,hl4,hFu2⟩,by dsimp only;omega⟩
  .intro hB;replace hB:=AV hB;have hi8:i=800:=by omega
   subst hi8;have hmc:cnt*n<=800*135:=Nat.mul_le_mul (by omega) hn1.2;have hmci:(cnt:Int)*(n:Int)=((cnt*n:Nat):Int):=by push_cast;rfl
   have hby:=hFu.bytes;obtain⟨m,hm⟩:=qD (cnt*n);rw[<-hm]at hmc hmci hby;have hnum:=O1.nums;have hok:=hnum.2.2.2.2.2.2;have hkl:∀q∈L,q.1.length<=1000/\q.2.length<=1000:=fun q hq=>by have:=hok q hq;omega
   have hlc:=hFu.len;refine B9 (A8 (A8 (Bd (Aa (Ar (Ad (An U (Ah qB (YR O1) U ?_))))))));rintro v w105 ⟨rfl,h105⟩;rw[hby];rw[h105]at O1;refine Ae U (Ae U (EX U U (h1:=by rw[hmci];omega) (h2:=by rw[hmci];omega) ?_));rw[hmci];refine AZ U U ?_;rw[qam (rfl:(m:Int)=(m:Int))];refine AC U (An U (Ah qB (Sd O1) U ?_));rintro v w112 h112;obtain⟨rfl,A3,F4,O3,-,hl3⟩:=h112.resolve_right (fun h=>h.2.1 hl1);refine AZ U U (AN U (.bool _) U (qA (Bw U (Aq (Aa (Ad (An U (Ah qB (Ac5 O3.bs.1 O3.bs.2) U ?_))))))));rintro v w117 ⟨p2,rfl,hp2,O4,hx117⟩;replace O3:=O3.call hx117;refine AM U (Ag U U (Ag U U (B5 U (Ac U (qA (Ar (Ad (Ae U (AZ U U ?_)))))))));refine AC U (An U (BN VI U ?_));refine AN U (.bool _) U (qA (Bw U (Aq (Aa (Ad (An U (Ah qB (Uq O3 none none 0 0 [] [] Rd.nil Rd.nil) U ?_)))))));rw[Lu]
   rintro v w128 ⟨a128,c128,rfl,P128,hx128⟩;replace O4:=O4.call hx128;refine AM U (Ag U U (Ag U U (Aj U (Ac U (qA (Ad (An U (Ah qB (Uq O4 none none 0 0 [] [] Rd.nil Rd.nil) U ?_))))))));rw[Lu];rintro v w133 ⟨a133,c133,rfl,P133,hx133⟩;replace O4:=O4.call hx133;replace P128:=Xs P128 hx133;refine AM U (Ag U U (Ag U U (Aj U (Ac U (qA (Ad (Ae U (B1 U U (AC U ?_)))))))));refine Ae U (B1 U U (AQ U (.bool _) U (AC U (Ai U (AO EU U (Ae U (B1 U U ?_)))))));rw[qam (show((L.length:Int)=(((800,cnt):Nat × Nat).2:Int))from by rw[hlc])];refine AQ U (.bool _) U (AC U (Ai U (Ai U (Ah qB (Xr P128 P133 (by omega) (by omega) hkl hkl) U ?_))));rw[qam (rfl:L=L)];rintro v w151 ⟨rfl,hx151⟩;replace O4:=O4.call hx151;refine AQ U (.bool _) U (AC U (Ah qB (Ac7 _) U ?_));rintro v w154 ⟨rfl,hx154⟩
   replace O4:=O4.call hx154;refine AQ U (.bool _) U (Am U (qA (Ax (AH (v:=(.bool _)) U U U ?_))));exact⟨rfl,O4.bs.1.ext⟩
open Go.GV Go.Proofs.Tryz Go.ChangeShapes Go.WideShapes Go.ChangeAt Go.RowKit
theorem own:ownKnob Tryz.prog.godebug=none:=by kernel_rfl
theorem Aju:laidOutB prog=true:=by kernel_rfl
def Ams:List Nat:=[128,191,160,191,128,159,144,191,128,143]++List.replicate 22 0
def layO(l:List Nat):Obj->Obj
 | .cells _ t frozen => .cells (l.map fun(n:Nat)=>Value.int .u8 (n:Int)).toArray t frozen
 |o=>o
noncomputable def laidWorld(os:Os):World :=
 { World.holding prog os ⟨#[],#[],[]⟩with heap:=((World.holding prog os ⟨#[],#[],[]⟩).heap.modify 1 (layO Go.Pinned.utf8FirstZ)).modify 2 (layO Ams) }
theorem Ahr{k:Int}{m:Nat}(h1:0<=k)(h2:k<=m):∃n:Nat,k=n/\n<=m:=⟨k.toNat,by omega,by omega⟩
structure Wm.In(w:World)(m:Wm):Prop where
 k:Rd w m.ka 1 B8 m.x.k
 v:Rd w m.va 1 B8 m.x.v
 kc:m.x.k.length<=m.kc
 vc:m.x.v.length<=m.vc
end Go.Proofs.YtcpgbcabmcbclaaGreatDoor
namespace Go.Proofs.YtcpgbcabmcbclaaGreatDoor.storeFull
open Go.GV Go.Proofs.Tryz Go.ChangeShapes Go.WideShapes Go.ChangeAt Go.RowKit
theorem Ahs(os:Os):laidMet prog Rows.storeFullRow.laid ((laidWorld os).forCall (fun _ _=>0) ⟨#[],#[.int .u8 0,.int .u8 0,.bool false],[]⟩).memory :=
 laidMet_of_run' 8 (by kernel_rfl) (by kernel_rfl)
theorem reads(os:Os){H:Type}(enc:TypeId × Value->H):∃ds places,DataW.whole enc prog ((laidWorld os).forCall (fun _ _=>0) ⟨#[],#[.int .u8 0,.int .u8 0,.bool false],[]⟩).memory Tryz.f4.params.toList Rows.storeFullSpec.vars false (#[.int .u8 0,.int .u8 0,.bool false]:Array Value).toList 8=some (ds,[],places) :=
 ⟨[.lit (.int .u8 0),.lit (.int .u8 0),.lit (.bool false)],[],by kernel_rfl⟩
set_option maxRecDepth 100000 in
theorem Amt(os:Os)(started:os.Started)(H:Type)(enc:TypeId × Value->H)(F:Stop.Interp) :
  ReturnsInHanded {} checked os 4 .any ((OpenSpec.ofChange Rows.storeFullSpec).preRow enc prog Tryz.f4 Rows.storeFullRow.domain false Rows.storeFullRow.laid) (((OpenSpec.ofChange Rows.storeFullSpec).at F).post enc prog Tryz.f4 false true false false):=by
 obtain⟨ds,places,hx⟩:=reads os enc
 refine returnsInHanded_of_row (C:=checked) (s:=OpenSpec.ofChange Rows.storeFullSpec) own started (by kernel_rfl) func4
  (witness_row_at (enc:=enc) (C:=checked) false (laidWorld os) #[.int .u8 0,.int .u8 0,.bool false] rfl (by kernel_rfl) (by kernel_rfl) (by kernel_rfl)
   (OpenSpec.preRow_of_cond 8 hx (by kernel_rfl) (fun k hk=>by cases hk) (by kernel_rfl) (Ahs os))) ?_
 intro W base args ds gs before hval0 hW _ _ hLt _ _ _;have hval:∀(j:Nat) t v,Tryz.f4.params[j]?=some t->args[j]?=some v->Value.okWide prog W .any base t v:=hval0;have hW':=hW;obtain⟨p,q,hA0,hV,rfl,hfz,hnd⟩:=hW;have hA:DataW.TrodAll enc prog W 0 (fun _=>true) true Tryz.f4.params.toList args.toList ds p:=hA0;rw[params4]at hA hval;obtain⟨v0,vs0,d0,ds0,p0,q0,hargs,rfl,rfl,h0,r0⟩:=trodAll_cons hA;obtain⟨v1,vs1,d1,ds1,p1,q1,rfl,rfl,rfl,h1,r1⟩:=trodAll_cons r0;obtain⟨v2,vs2,d2,ds2,p2,q2,rfl,rfl,rfl,h2,r2⟩:=trodAll_cons r1;obtain⟨rfl,rfl,rfl⟩:=trodAll_nil r2;obtain rfl:args=#[v0,v1,v2]:=by cases args;simp_all
 obtain⟨k0,rfl,rfl,rfl,hg0⟩:=open_int underlying5 (hval 0 _ v0 rfl rfl) h0;obtain⟨n0,rfl,hb0⟩:=Ahr (m:=255) (Le hg0).1 (Le hg0).2;obtain⟨k1,rfl,rfl,rfl,hg1⟩:=open_int underlying5 (hval 1 _ v1 rfl rfl) h1;obtain⟨n1,rfl,hb1⟩:=Ahr (m:=255) (Le hg1).1 (Le hg1).2;obtain⟨k2,rfl,rfl,rfl⟩:=open_bool underlying4 (hval 2 _ v2 rfl rfl) h2;refine(Vl n0 n1 hb0 hb1 k2 W).calls.mono ?_;rintro e W' ⟨v,rfl,rfl,hx⟩;exact⟨_,rfl,Adx Aju U U underlying4 (fun ds h=>match ds,h with | [_,_,_],_=>rfl) hW' hx⟩
theorem said:Rows.StoreFullSaid :=
 OpenClaim.holds_of_cond 4 Tryz.f4 rfl rfl rfl rfl rfl rfl rfl ⟨rfl,rfl,rfl,rfl,rfl⟩ rfl rfl rfl rfl rfl (by kernel_rfl) func4 (by kernel_rfl)
  (qde (by kernel_rfl)) (by unfold Func.isWrapper;(rw[if_neg (by decide +kernel)];exact⟨rfl,rfl⟩))
  (fun os started H enc _ F=>by rw[OpenClaim.pre_eq_preRow];exact Amt os started H enc F)
theorem plain(f:FuncId)(fn:Func)(hf:Tryz.pinned.checked.prog.funcNamed "gablet/gabletlaw09.StoreFull" = some f)(hfn:Tryz.pinned.checked.prog.funcs[f]?=some fn) :
  false=Tryz.pinned.checked.prog.looks []/\∀(j:Nat) t,fn.params[j]?=some t->Tryz.pinned.checked.prog.wantsStandIn t=false:=by
 obtain rfl:f=4:=qby ((show Tryz.prog.funcNamed "gablet/gabletlaw09.StoreFull" = some 4 by kernel_rfl).symm.trans hf) |>.symm
 obtain rfl:fn=Tryz.f4:=(qby (Tryz.func4.symm.trans hfn)).symm;refine⟨by kernel_rfl,fun j t ht=>?_⟩;rw[params4]at ht;have hm:=Array.mem_of_getElem? ht
 exact qbz.1 (show(Tryz.f4.params.toList.all fun t => !Tryz.prog.wantsStandIn t)=true by kernel_rfl) t (by rw[params4];simpa using hm) |> fun h=>(qd0 _).mp h
theorem card:Rows.StoreFullCardSaid :=
 Claim7.holds_tied_plain_at .later [] _ _ _ _ said (fun _ h=>by cases h) (by kernel_rfl) (fun _ h=>by cases h) storeFull_row_tie rfl ⟨rfl,rfl⟩ (by kernel_rfl) rfl plain (by kernel_rfl)
end Go.Proofs.YtcpgbcabmcbclaaGreatDoor.storeFull
namespace Go.Proofs.YtcpgbcabmcbclaaGreatDoor
theorem storeFull_holds:Rows.StoreFullCardSaid:=storeFull.card
#print axioms storeFull_holds
end Go.Proofs.YtcpgbcabmcbclaaGreatDoor
