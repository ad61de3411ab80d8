/- Part 7 of the proof. -/
import Derived.Test.YtcpgbcabmcbclaaGreatDoorPart6
import Derived.Sort.OwnSortedInts
set_option maxRecDepth 20000
set_option maxHeartbeats 8000000
namespace Go.Proofs.YtcpgbcabmcbclaaGreatDoor
open Go.GV Go.Proofs.Tryz
attribute [local irreducible] A7 W Wq Wt
theorem Tx.none{w:World}{bt bd bp ba fr:Nat}{A:Dev}{P:List Nat}{F:Mut}{L:List (Nat × Obj)}(T:Tx w bt bd bp ba fr A P F L):Tx w bt bd bp ba fr A P F [] :=
 ⟨T.tr,T.pg,T.dev,(fun x h=>by cases h),List.Pairwise.nil,(fun x h=>by cases h),T.nbt,T.nbp,T.nba,T.lt⟩
theorem TM.none{F:Mut}{ba bt bp:Nat}{L:List (Nat × Obj)}:∀x,TM F ba bt bp [] x->TM F ba bt bp L x:=fun x h=>by
 rcases h with h|h|h|h|h
 .exact .inl h
 .exact .inr (.inl h)
 .exact .inr (.inr (.inl h))
 .exact .inr (.inr (.inr (.inl h)))
 .cases h
theorem Fr.born{w0 w:World}{bt bd bp ba fr bc:Nat}{c:Ch}{F Z:Mut}{L Y:List (Nat × Obj)}(T:Tx w0 bt bd bp ba fr c.A c.P F [])(hZ:∀x,Z x->x<w0.heap.size)(H:Ctx w0 [] w (L++Y))(hex:∃ta tc tf ga gc gf,L=CL bt bc ta c.tk.length tc tf ga c.gn.length gc gf/\OS ta c.tk.length tc 1 tf (c.tk.map pv)/\OS ga c.gn.length gc 1 gf (c.gn.map pv)):Fr w0 Z (TM F ba bt bp []) w bt bd bp ba fr bc c F L Y:=by
 have hnd:=qcb.1 H.nd;have hlt0:∀x,TM F ba bt bp [] x->x<w0.heap.size:=T.mlt;have hyo:∀y∈L++Y,w0.heap.size<=y.1:=fun y hy=>(H.own y hy).elim (fun h=>by cases h) id;obtain⟨T1,g1⟩:=T.own (H.sub (L':=L) (fun x h=>qa4 _ h) hnd.1);refine⟨⟨T1,hex⟩,⟨fun y hy=>H.blk y (qax _ hy),hnd.2.1,fun y hy h=>?_⟩,g1,⟨.of0 H.ext,fun x h=>?_⟩,fun y hy=>?_,H.ext.size,hZ⟩
 .have h5:=hyo y (qax _ hy)
  rcases h with h|h
  .by_cases h6:y.1∈L.map (·.1)
   .obtain⟨x,hx,he⟩:=qah.1 h6;exact hnd.2.2 x hx y hy he
   .have:TM F ba bt bp [] y.1:=by
     rcases h with h|h|h|h|h
     .exact .inl h
     .exact .inr (.inl h)
     .exact .inr (.inr (.inl h))
     .exact .inr (.inr (.inr (.inl h)))
     .exact absurd h h6
    have:=hlt0 _ this;omega
  .have:=hZ _ h;omega
 .rcases h with(h|h)|h
  .by_cases h6:x∈L.map (·.1)
   .obtain⟨y,hy,rfl⟩:=qah.1 h6;exact .inr (hyo y (qa4 _ hy))
   .left;left
    rcases h with h|h|h|h|h
    .exact .inl h
    .exact .inr (.inl h)
    .exact .inr (.inr (.inl h))
    .exact .inr (.inr (.inr (.inl h)))
    .exact absurd h h6
  .exact .inl (.inr h)
  .obtain⟨y,hy,rfl⟩:=qah.1 h;exact .inr (hyo y (qax _ hy))
 .obtain⟨z,hz,rfl⟩:=qah.1 hy;exact hyo z (qax _ hz)
theorem QW{w:World}{bt bd bp ba fr bc:Nat}{c:Ch}{F:Mut}{L:List (Nat × Obj)}(X:Cx w bt bd bp ba fr bc c F L){b10 b9 t1 t2:Nat}{e:Int}{l1 l2:List Value}(h10:w.heap[b10]?=some (Bl t1 (ptr bc::l1)))(h9:w.heap[b9]?=some (Bl t2 (.int .i64 e::l2)))(hgn:c.gn.length<=1000000)(htk:c.tk.length<=1000000:=by omega):
  Adu prog 175 #[ptr b10,ptr b9] w fun w'=>Cx w' bt bd bp ba fr bc (Dq c e) F L/\Grown (TM F ba bt bp L) (TM F ba bt bp L) w w':=by
 obtain⟨w0,rfl,H⟩:=qE w;refine SW (fn:=f175) func175 U [.pointer (some ⟨b10,0,none⟩),.pointer (some ⟨b9,0,none⟩)] U ?_;refine Av (Bf Qr U ((by rw[Ap h10];rfl)) ?_);refine Bf Ev U ((by rw[Ap h9];rfl)) ?_;refine Ah qB (We X e htk hgn) U ?_;rintro v w2 ⟨rfl,X2,g2⟩;refine Ab (Hw U U ?_);exact⟨X2,g2⟩
theorem Agf{fr:Nat}{A:Dev}{P:List Nat}{root:Int}{key:Byt}{G:List It->List It}{ed:Int × Ch × Bool × List It}(hed:ed=if root = -1 then(0,⟨A,P,[],[]⟩,false,G [])else C2 fr G key 18 ⟨A,P,[],[]⟩ root.toNat 0) :
  Dp fr A P root key G=if ed.1≠0 then(ed.1,root,Dq ed.2.1 ed.1)else if(DM fr ed.2.1 ed.2.2.1 ed.2.2.2).1≠0 then((DM fr ed.2.1 ed.2.2.1 ed.2.2.2).1,root,Dq (DM fr ed.2.1 ed.2.2.1 ed.2.2.2).2.1 (DM fr ed.2.1 ed.2.2.1 ed.2.2.2).1)
   else(0,(DM fr ed.2.1 ed.2.2.1 ed.2.2.2).2.2,Dq (DM fr ed.2.1 ed.2.2.1 ed.2.2.2).2.1 0):=by
 unfold Dp;rw[hed]
theorem Agg{fr:Nat}{c:Ch}{i:Bool}{M:List It}:(DM fr c i M).2.1.tk.length<=c.tk.length+3/\(DM fr c i M).2.1.gn=c.gn:=by
 obtain⟨q1,q2,-,-⟩:=KB (fr:=fr) (c:=c) (i:=i) (M:=M) (m:=0);unfold DM
 split
 .exact⟨qck _ _,rfl⟩
 .split
  .exact⟨by dsimp only;omega,q2⟩
  .split
   .exact⟨by dsimp only;omega,q2⟩
   .split
    .have h1:=QQ (fr:=fr) (c:=(Ex fr c i M).2.1) (inner:=true) (M:=(Ex fr c i M).2.2);exact⟨by dsimp only;omega,wrC_gn.trans q2⟩
    .exact⟨by dsimp only;omega,q2⟩
structure US where
 i:Bool
 a:Option Addr
 n:Nat
 c:Nat
 M:List It
 ch:Ch
 F:Mut
 L:List (Nat × Obj)
theorem Wi{f:Nat}{cl:List Value}{G:List It->List It}{key:Byt}{fr:Nat}(hf:Aw prog f=true)(hfr:fr<=5000)(hkl:key.length<=100000){w:World}{bt bd bp ba:Nat}{A:Dev}{P:List Nat}{F:Mut}(T:Tx w bt bd bp ba fr A P F [])(root:Int)(hr1 : -1<=root)(hr2:root<=4294967296)(Z:Mut)(hZ:∀x,Z x->x<w.heap.size)(D:DoOk f cl G w (MZ (TM F ba bt bp []) Z))(ka:Option Addr)(kc:Nat)(Rk:Rdx w (MZ (TM F ba bt bp []) Z) ka key){mx:Nat}(hfew:Few A mx)(hmx:mx<=800000000)(hok:(Dp fr A P root key G).1≠99) :
  Ret prog 144 #[ptr bt,.int .i64 root,.slice ka key.length kc,.func (.func f) #[] cl.toArray] w fun v w'=>∃F',v=.tuple #[.int .i64 (Dp fr A P root key G).2.1,.int .i64 (Dp fr A P root key G).1]/\Tx w' bt bd bp ba fr (Dp fr A P root key G).2.2.A (Dp fr A P root key G).2.2.P F' []/\Grown (TM F ba bt bp []) (TM F' ba bt bp []) w w':=by
 obtain⟨w0,rfl⟩:=qD w;obtain⟨ed,hed⟩:=qD (if root = -1 then(0,⟨A,P,[],[]⟩,false,G [])else C2 fr G key 18 ⟨A,P,[],[]⟩ root.toNat 0:Int × Ch × Bool × List It);have htc:=Agf hed;obtain⟨tc,htc2⟩:=qD (Dp fr A P root key G);rw[<-htc2]at htc hok |-;have H:=Ctx.start w0 [];refine SX (fn:=f144) func144 U [.pointer (some ⟨bt,0,none⟩),.int .i64 root,.slice ka key.length kc,.func (.func f) #[] cl.toArray] U ?_;refine Ad (Ac U (Be VJ H ?_));rintro b9 w - H;refine qA (Ad (An U (B0 [ptr bt,.slice none 0 0,.slice none 0 0] Aex Ae4 ?_)));refine Co [ptr bt,.slice none 0 0,.slice none 0 0] (.agg _) U U H ?_;rintro bc w - H;refine Be Ae3 H ?_;rintro b10 w - H;refine Bc (.pointer _) Ae0 U U U H at0 (by decide) ?_;rintro w H;refine qA (Ad (Cz [.pointer _,.pointer _] U (V5 U U ?_)))
 refine qA (Ad (B0 [.bool false,.slice none 0 0] Gp Cb ?_));refine Be Cb H ?_;rintro b11 w - H;refine Bi Ba U U U (by simp[Bg]) H at0 U ?_;rintro w H;refine qA (Ar (Ad (Ae U (B1 U U (qA ?_)))));have E1:Fr w0 Z (TM F ba bt bp []) w bt bd bp ba fr bc ⟨A,P,[],[]⟩ F [(bc,Bl TC [ptr bt,.slice none 0 0,.slice none 0 0])] [(b11,NBl false none 0 0),(b10,Bl 186 [ptr bc]),(b9,Bl 28 [.int .i64 0])]:=Fr.born T hZ (H.perm (List.perm_middle (l₁:=[_,_]) (l₂:=[_]))) ⟨none,0,[],none,0,[],rfl,OS.nil,OS.nil⟩;replace H:=E1.O.ctx
 have hb:ed.2.1.tk.length<=36/\ed.2.1.gn.length<=36/\Few ed.2.1.A (mx+36):=by
  rw[hed]
  split
  .exact⟨qak _,qak _,hfew.mono (by omega)⟩
  .obtain⟨x1,x2,x3⟩:=Lq (fr:=fr) (G:=G) (key:=key) (m:=mx) (n:=18) (c:=⟨A,P,[],[]⟩) (p:=root.toNat) (d:=0);exact⟨by simpa using x1,by simpa using x2,x3 hfew⟩
 refine FF 17179345152 (α:=US) (fun _=>[]) (fun s w'=>Fr w0 Z (TM F ba bt bp []) w' bt bd bp ba fr bc s.ch s.F s.L [(b11,NBl s.i s.a s.n s.c),(b10,Bl 186 [ptr bc]),(b9,Bl 28 [.int .i64 0])]/\Its w' (MY (MZ (TM s.F ba bt bp s.L) Z) [(b11,NBl s.i s.a s.n s.c),(b10,Bl 186 [ptr bc]),(b9,Bl 28 [.int .i64 0])]) s.a s.n s.c s.M/\ed=(0,s.ch,s.i,s.M)) U ?_ ?_
 .skip
  refine Au _ U ?_ ?_
  .intro hA;replace hA:=AU hA;rw[if_pos hA]at hed;refine Av (DI U (.func _ _ _) U ?_);refine Kg U U hf (D _ _ E1.GA E1.mylt none 0 0 [] Its.nil (by omega)) U ?_;rintro v w4 ⟨a4,c4,rfl,I4,hx4⟩;obtain⟨E4,-⟩:=E1.call0 hx4;replace H:=E4.O.ctx;refine Af Bq U (Bc (.slice _ _ _) C4 U U U H at0 (by decide) ?_);rintro w H;refine qA ?_;obtain⟨E5,g5⟩:=E4.own H;exact⟨⟨false,a4,(G []).length,c4,G [],⟨A,P,[],[]⟩,F,_⟩,rfl,trivial,E5,I4.turn g5,hed⟩
  .intro hA;replace hA:=AV hA;obtain⟨p,rfl⟩:∃p:Nat,root=(p:Int):=⟨root.toNat,by omega⟩;rw[if_neg hA,qbm]at hed;have hed':ed=C2 fr G key (17+1) ⟨A,P,[],[]⟩ p 0:=hed;have hok5:ed.1≠99:=fun h=>hok (by rw[htc,if_pos (by rw[h];decide)];exact h);refine Ad (AG Qr U H at1 U (Ae U (Ai U (DI U (.func _ _ _) U ?_))));refine Ah qB (Wh hf hfr hkl 17 E1.X (by simp) (by simp) p 0 (by omega) (by omega) (MY Z _) E1.zlt (D.keep (E1.GA.weak MYZ)) ka kc ((Rk.turn E1.GA).weak MYZ) mx hfew (by omega) (by rw[<-hed'];exact hok5)) U ?_;rintro v w5 ⟨kin,k5,n5,c5,F5,L5,rfl,X5,g5,hk5⟩;rw[<-hed']at X5 hk5;rw[<-hed'];obtain⟨E5,gg5⟩:=E1.call X5 g5;replace H:=E5.O.ctx;refine AM U (Ag U U (Ag U U (Bi Ba U U U (by simp[Bg]) H at0 U ?_)));rintro w H;refine Bc (.int _ _) Fw U U U H at2 (by decide) ?_;rintro w H
   refine qA (Ad (AG Ev U H at2 U (AZ U U (qA (Au _ U ?_ ?_)))))
   .intro hB;replace hB:=Bu hB;rw[if_pos hB]at htc;refine Adf 3 mixed U U (IC U (YZ U Ev U (by rintro _ rfl;exact H.drew) at2 U ?_));refine FT U (LJ ?_);replace H:=H.drew;refine Bc (.int _ _) Fw U U U H at2 (by(simp;done)) ?_;rintro w H;refine qA (Ax (Ao ?_));obtain⟨E6,-⟩:=E5.own H;refine Qo U qB _ (QW E6.X (H.get at1) (H.get at2) (by omega)) (fun w7 hK tmps ht=>?_);exact⟨_,OR U ht U U Ev ((E6.O.call (hK.2.or Z)).1.blk (b9,_) (qad (i:=2) U)),F5,by rw[htc];rfl,by rw[htc];exact hK.1.T.none,(E6.GT.trans hK.2).weak TM.none⟩
   .intro hB;replace hB:=Bv hB;have hB':ed.1=0:=by simpa using hB
    rw[hB']at H;obtain⟨rfl,K5⟩:=hk5 hB';refine Aq (Aa ?_);obtain⟨E6,g6⟩:=E5.own H;exact⟨⟨ed.2.2.1,k5,n5,c5,ed.2.2.2,ed.2.1,F5,L5⟩,rfl,trivial,E6,(K5.weak Abi).turn g6,Prod.ext hB' rfl⟩
 .rintro⟨si,sa,sn,scc,sM,sch,sF,sL⟩ j18 w ⟨E8,I8,hed8⟩;dsimp only at E8 I8 hed8;rw[hed8]at htc hb;dsimp only at htc hb;rw[if_neg (by simp)]at htc;obtain⟨q,hq⟩:=qD (DM fr sch si sM);rw[<-hq]at htc;have hokq:q.1≠99:=fun h=>hok (by rw[htc,if_pos (by rw[h];decide)];exact h);obtain⟨tb1,tb2⟩:=Agg (fr:=fr) (c:=sch) (i:=si) (M:=sM);rw[<-hq]at tb1 tb2;have H:=E8.O.ctx;refine Ad (AG Qr U H at1 U (BG BH Ba U H at0 U (Ah qB (Aiw E8.X hfr si (MY Z _) E8.zlt (I8.weak MYZ) hb.2.2 (by rw[<-hq];exact hokq)) U ?_)));rintro v w9 ⟨tp,F9,L9,rfl,X9,g9,hp9⟩;rw[<-hq]at X9 hp9;rw[<-hq];obtain⟨E9,gg9⟩:=E8.call X9 g9;replace H:=E9.O.ctx;refine AM U (Ag U U (Ag U U (Ac U (Bc (.int _ _) Fw U U U H at2 (by decide) ?_))));rintro w H;refine qA (Ar (Ad (AG Ev U H at2 U (AZ U U (qA (Au _ U ?_ ?_))))))
  .intro hC;replace hC:=Bu hC;rw[if_pos hC]at htc;refine Adf 3 mixed U U (IC U (YZ U Ev U (by rintro _ rfl;exact H.drew) at2 U ?_));refine FT U (LJ ?_);replace H:=H.drew;refine Bc (.int _ _) Fw U U U H at2 (by(simp;done)) ?_;rintro w H;refine qA (Ax (Ao ?_));obtain⟨E10,-⟩:=E9.own H;refine Qo U qB _ (QW E10.X (H.get at1) (H.get at2) (by rw[tb2];omega)) (fun w7 hK tmps ht=>?_);exact⟨_,OR U ht U U Ev ((E10.O.call (hK.2.or Z)).1.blk (b9,_) (qad (i:=2) U)),F9,by rw[htc];rfl,by rw[htc];exact hK.1.T.none,(E10.GT.trans hK.2).weak TM.none⟩
  .intro hC;replace hC:=Bv hC;rw[if_neg (by simpa using hC)]at htc;have hC':q.1=0:=by simpa using hC
   have hp9':=hp9 hC';refine Aq (Aa (Ad (Ae U (Ac U (Bc (.int _ _) Fw U U U H at2 (by(simp;done)) ?_)))));rintro w H;refine qA (Ax ?_);obtain⟨E10,-⟩:=E9.own H;refine Qo U qB _ (QW E10.X (H.get at1) (H.get at2) (by rw[tb2];omega)) (fun w7 hK tmps ht=>?_);exact⟨_,OR U ht U U Ev ((E10.O.call (hK.2.or Z)).1.blk (b9,_) (qad (i:=2) U)),F9,by rw[htc];show Value.tuple #[.int .i64 tp,.int .i64 0]=.tuple #[.int .i64 q.2.2,.int .i64 0];rw[hp9'],by rw[htc];exact hK.1.T.none,(E10.GT.trans hK.2).weak TM.none⟩
theorem TE{w:World}{M:Mut}{a:Option Addr}{n c k m b:Nat}{l q:List It}(I:Its w M a n c l)(Q:Its w M (some ⟨b,0,none⟩) 1 1 q)(h1:(l.take k).length=k)(h2:(l.drop m).length=n - m)(hk:k<=n:=by omega)(hm:m<=n:=by omega):
  ∀x∈([(a,l.take k,c),(some ⟨b,0,none⟩,q,1),(Em a c m 3,l.drop m,c - m)]:List SI),Its w M x.1 x.2.1.length x.2.2 x.2.1:=by
 intro x hx;simp only[qab,qaj,or_false]at hx
 rcases hx with rfl|rfl|rfl
 .show Its w M a (l.take k).length c (l.take k);rw[h1];exact I.take hk
 .show Its w M _ q.length _ q;rw[<-Q.num];exact Q
 .show Its w M _ (l.drop m).length _ (l.drop m);rw[h2];exact I.drop hm
theorem Abm{w:World}{M:Mut}{a:Option Addr}{n c k m:Nat}{l:List It}(I:Its w M a n c l)(h1:(l.take k).length=k)(h2:(l.drop m).length=n - m)(hk:k<=n:=by omega)(hm:m<=n:=by omega):
  ∀x∈([(a,l.take k,c),(Em a c m 3,l.drop m,c - m)]:List SI),Its w M x.1 x.2.1.length x.2.2 x.2.1:=by
 intro x hx;simp only[qab,qaj,or_false]at hx
 rcases hx with rfl|rfl
 .show Its w M a (l.take k).length c (l.take k);rw[h1];exact I.take hk
 .show Its w M _ (l.drop m).length _ (l.drop m);rw[h2];exact I.drop hm
theorem Z7{w0 w:World}{M:Mut}(hM:∀x,M x->x<w0.heap.size){b t:Nat}{ka va:Option Addr}{kc vc:Nat}{key val:Byt}(hb:w.heap[b]?=some (Bl t [.slice ka key.length kc,.slice va val.length vc,.int .i64 0]))(hn:w0.heap.size<=b)(Rk:Rdx w M ka key)(Rv:Rdx w M va val)(hkc:key.length<=kc)(hvc:val.length<=vc):Its w M (some ⟨b,0,none⟩) 1 1 [⟨key,val,0⟩]:=by
 refine⟨⟨[⟨ka,kc,va,vc,⟨key,val,0⟩⟩],Rd.of_bl (r:=[]) hb U (fun _ _=>rfl),.inr fun h=>?_,rfl,fun m hm=>?_⟩,rfl,qaf _⟩
 .have:=hM _ h;dsimp only[adr]at this;omega
 .rw[qaa.1 hm];exact⟨Rk,Rv,hkc,hvc⟩
theorem Agh{w:World}{M:Mut}(hM:∀x,M x->x<w.heap.size){b6 b7 t6 t7:Nat}{ka va:Option Addr}{kc vc:Nat}{key val:Byt}{l6 l7:List Value}(h6:w.heap[b6]?=some (Bl t6 (.slice ka key.length kc::l6)))(h7:w.heap[b7]?=some (Bl t7 (.slice va val.length vc::l7)))(Rk:Rdx w M ka key)(Rv:Rdx w M va val)(hkc:key.length<=kc)(hvc:val.length<=vc){a:Option Addr}{n c:Nat}{l:List It}(I:Its w M a n c l)(hn:n<=100000) :
  Ret prog 145 #[.slice a n c,ptr b6,ptr b7] w fun v w'=>∃a' c',v=.slice a' (KA key val l).length c'/\Its w' M a' (KA key val l).length c' (KA key val l)/\Ext [] w w':=by
 obtain⟨w0,rfl⟩:=qD w;have hnum:=I.num;have hcap:=I.le;have hpl:=Oi l key;obtain⟨k,hk⟩:=qD (C0 l key);obtain⟨kb,hkb⟩:=qD (EO l key);have k6:∀{z:World},Ext [] w0 z->z.heap[b6]?=some (Bl t6 (.slice ka key.length kc::l6)):=fun{z} h=>by rw[h.block b6 (Al h6) (by simp)];exact h6
 have k7:∀{z:World},Ext [] w0 z->z.heap[b7]?=some (Bl t7 (.slice va val.length vc::l7)):=fun{z} h=>by rw[h.block b7 (Al h7) (by simp)];exact h7
 have hins:KA key val l=if kb=true then l.take k++([⟨key,val,0⟩]++l.drop (k+1))else l.take k++([⟨key,val,0⟩]++l.drop k):=by unfold KA;rw[hkb,hk]
 obtain⟨il,hil⟩:=qD (KA key val l);rw[<-hil]at hins |-;have H:=Ctx.start w0 [];refine A6 (fn:=f145) func145 U [.slice a n c,.pointer (some ⟨b6,0,none⟩),.pointer (some ⟨b7,0,none⟩)] U ?_;refine Ad (Aj U (qA (Ad (Ai U (Bf BL U ((by rw[Ap h6];rfl)) ?_)))));refine Ah qB (QJ I ka kc _ key Rk.1 U) U ?_;rintro v w1 ⟨rfl,hx1⟩;rw[<-hk,<-hkb];have H:=Ctx.start w1 [];refine AM U (Ag U U (Ag U U (Ac U (Am U (qA (Ar (Ad (AC U (qA ?_)))))))));refine Au _ U ?_ ?_
 .intro hA
  have hlt:k<n:=by
   rw[hkb]at hA;obtain⟨x,hx,-⟩:=Ml hA;have:=(qaq.1 hx).1;omega
  rw[if_pos hA]at hins;refine BR [([0,1,2,3,4,5,7,8,9,10],6),([],11),([],12),([],13)] (fun z=>Ext [] w1 z) [] mixed (Ext.drew [] w1) (AB U U ?_);refine Cg U (BM U (GC U Br Bh U U ?_));refine BJ BL U (fun _ hx=>(by rw[Ap (k6 (hx1.trans hx))];rfl)) ?_;refine BJ BL U (fun _ hx=>(by rw[Ap (k7 (hx1.trans hx))];rfl)) ?_;refine HS [.slice ka key.length kc,.slice va val.length vc,.int .i64 0] Me Cr (Cg U (BM U (EF U U ?_)));refine FG Br Bh U U (Bm ?_);replace H:=H.drew;refine BP [.slice ka key.length kc,.slice va val.length vc,.int .i64 0] (.agg _) Br Bh Cr U U U U H ?_;rintro b20 w2 hb20 H;refine Ab (Bb (H.ext) (AB U U ?_))
  refine Bm (BQ [.slice a k c,.slice (some ⟨b20,0,none⟩) 1 1,.slice (Em a c (k+1) 3) (n - (k+1)) (c - (k+1))] HV C4 Mf H ?_);rintro b25 w3 - H;refine Ab (Bb (H.ext) (AB U U ?_));refine Bm ?_;have hx3:=hx1.trans H.ext;have I3:=I.call hx3;have hlt9:(l.take k).length=k:=(by rw[qa1];omega);have hld9:(l.drop (k+1)).length=n - (k+1):=(by rw[qbe];omega);have Q3:=Z7 hM (H.get at1) ((H.own _ (qag _ (qae ..))).elim (fun h=>by cases h) fun h=>qas hx1.size h) (Rk.call hx3) (Rv.call hx3) hkc hvc;have RR:Rd w3 (some ⟨b25,0,none⟩) 1 Nu [(a,l.take k,c),(some ⟨b20,0,none⟩,[⟨key,val,0⟩],1),(Em a c (k+1) 3,l.drop (k+1),c - (k+1))]:=Rd.of_bl (r:=[]) (H.get at0) (by simp[Nu,hlt9,hld9]) (fun _ _=>rfl)
  have CC:=FK (M:=M) (n:=3) (c:=3) (fun x h=>qat (hM x h) hx3.size) _ RR (TE I3 Q3 hlt9 hld9) rfl (by simp only[qay,qbr,qcz,qc9,qbu];omega);rw[show([(a,l.take k,c),(some ⟨b20,0,none⟩,[⟨key,val,0⟩],1),(Em a c (k+1) 3,l.drop (k+1),c - (k+1))]:List SI).flatMap (fun x=>x.2.1)=il by rw[hins];simp]at CC;refine Ah qB CC U ?_;rintro v w4 ⟨a4,c4,rfl,J4,hx4⟩;have hx14:=H.ext.trans hx4;refine Ab (Bb (hx14) (AB U U ?_));refine Bm (Aj U (Ab (Bb (hx14) (B3 (Ax (Ao (AH (v:=(.slice _ _ _)) U U U ?_)))))));exact⟨a4,c4,rfl,J4,hx1.trans hx14⟩
 .intro hA;rw[if_neg (by rw[hA];simp)]at hins;refine Aq (Aa (BR [([0,1,2,3,4,5,7,8,9],6),([],10),([],11),([],12)] (fun z=>Ext [] w1 z) [] mixed (Ext.drew [] w1) ?_));refine AB U U (Cg U (BM U (GC U Br Bh U U ?_)));refine BJ BL U (fun _ hx=>(by rw[Ap (k6 (hx1.trans hx))];rfl)) ?_;refine BJ BL U (fun _ hx=>(by rw[Ap (k7 (hx1.trans hx))];rfl)) ?_;refine HS [.slice ka key.length kc,.slice va val.length vc,.int .i64 0] Me Cr (Cg U (BM U (FG Br Bh U U ?_)));refine Bm ?_;replace H:=H.drew;refine BP [.slice ka key.length kc,.slice va val.length vc,.int .i64 0] (.agg _) Br Bh Cr U U U U H ?_;rintro b20 w2 hb20 H;refine Ab (Bb (H.ext) (AB U U ?_))
  refine Bm (BQ [.slice a k c,.slice (some ⟨b20,0,none⟩) 1 1,.slice (Em a c k 3) (n - k) (c - k)] HV C4 Mf H ?_);rintro b25 w3 - H;refine Ab (Bb (H.ext) (AB U U ?_));refine Bm ?_;have hx3:=hx1.trans H.ext;have I3:=I.call hx3;have hlt9:(l.take k).length=k:=(by rw[qa1];omega);have hld9:(l.drop k).length=n - k:=(by rw[qbe];omega);have Q3:=Z7 hM (H.get at1) ((H.own _ (qag _ (qae ..))).elim (fun h=>by cases h) fun h=>qas hx1.size h) (Rk.call hx3) (Rv.call hx3) hkc hvc;have RR:Rd w3 (some ⟨b25,0,none⟩) 1 Nu [(a,l.take k,c),(some ⟨b20,0,none⟩,[⟨key,val,0⟩],1),(Em a c k 3,l.drop k,c - k)]:=Rd.of_bl (r:=[]) (H.get at0) (by simp[Nu,hlt9,hld9]) (fun _ _=>rfl)
  have CC:=FK (M:=M) (n:=3) (c:=3) (fun x h=>qat (hM x h) hx3.size) _ RR (TE I3 Q3 hlt9 hld9) rfl (by simp only[qay,qbr,qcz,qc9,qbu];omega);rw[show([(a,l.take k,c),(some ⟨b20,0,none⟩,[⟨key,val,0⟩],1),(Em a c k 3,l.drop k,c - k)]:List SI).flatMap (fun x=>x.2.1)=il by rw[hins];simp]at CC;refine Ah qB CC U ?_;rintro v w4 ⟨a4,c4,rfl,J4,hx4⟩;have hx14:=H.ext.trans hx4;refine Ab (Bb (hx14) (AB U U ?_));refine Bm (Aj U (Ab (Bb (hx14) (B3 (Ax (AH (v:=(.slice _ _ _)) U U U ?_))))));exact⟨a4,c4,rfl,J4,hx1.trans hx14⟩
theorem Agi{w:World}{M:Mut}(hM:∀x,M x->x<w.heap.size){b5 t5:Nat}{ka:Option Addr}{kc:Nat}{key:Byt}{l5:List Value}(h5:w.heap[b5]?=some (Bl t5 (.slice ka key.length kc::l5)))(Rk:Rdx w M ka key){a:Option Addr}{n c:Nat}{l:List It}(I:Its w M a n c l)(hn:n<=100000) :
  Ret prog 149 #[.slice a n c,ptr b5] w fun v w'=>∃a' c',v=.slice a' (JW key l).length c'/\Its w' M a' (JW key l).length c' (JW key l)/\Ext [] w w':=by
 obtain⟨w0,rfl⟩:=qD w;have hnum:=I.num;have hcap:=I.le;have hpl:=Oi l key;obtain⟨k,hk⟩:=qD (C0 l key);obtain⟨kb,hkb⟩:=qD (EO l key);have hins:JW key l=if kb=true then l.take k++l.drop (k+1)else l:=by unfold JW;rw[hkb,hk]
 obtain⟨il,hil⟩:=qD (JW key l);rw[<-hil]at hins |-;have H:=Ctx.start w0 [];refine A6 (fn:=f149) func149 U [.slice a n c,.pointer (some ⟨b5,0,none⟩)] U ?_;refine Ad (Aj U (qA (Ad (Ai U (Bf BL U ((by rw[Ap h5];rfl)) ?_)))));refine Ah qB (QJ I ka kc _ key Rk.1 U) U ?_;rintro v w1 ⟨rfl,hx1⟩;rw[<-hk,<-hkb];have H:=Ctx.start w1 [];refine AM U (Ag U U (Ag U U (Ac U (Am U (qA (Ar (Ad (AC U (Cl U ?_)))))))));refine qA (Au _ U ?_ ?_)
 .intro hA;replace hA:=CJ hA;rw[if_neg (by rw[hA];simp)]at hins;refine Ad (Ai U (Aj U (qA (Ax (Ao (AH (v:=(.slice _ _ _)) U U U ?_))))));rw[hins,<-hnum];exact⟨a,c,rfl,I.call hx1,hx1⟩
 .intro hA;replace hA:=CK hA
  have hlt:k<n:=by
   rw[hkb]at hA;obtain⟨x,hx,-⟩:=Ml hA;have:=(qaq.1 hx).1;omega
  rw[if_pos hA]at hins;refine Aq (Aa (BR [([0,1,2,3,4,5,6],7),([],8),([],9)] (fun z=>Ext [] w1 z) [] mixed (Ext.drew [] w1) ?_));refine AB U U (Cg U (BM U (GC U Br Bh U U ?_)));refine Cg U (BM U (EF U U ?_));refine FG Br Bh U U (Bm ?_);replace H:=H.drew;refine BQ [.slice a k c,.slice (Em a c (k+1) 3) (n - (k+1)) (c - (k+1))] HV C4 Mf H ?_;rintro b25 w3 - H;refine Ab (Bb (H.ext) (AB U U ?_));refine Bm ?_;have hx3:=hx1.trans H.ext;have I3:=I.call hx3;have hlt9:(l.take k).length=k:=(by rw[qa1];omega);have hld9:(l.drop (k+1)).length=n - (k+1):=(by rw[qbe];omega)
  have RR:Rd w3 (some ⟨b25,0,none⟩) 1 Nu [(a,l.take k,c),(Em a c (k+1) 3,l.drop (k+1),c - (k+1))]:=Rd.of_bl (r:=[]) (H.get at0) (by simp[Nu,hlt9,hld9]) (fun _ _=>rfl);have CC:=FK (M:=M) (n:=2) (c:=2) (fun x h=>qat (hM x h) hx3.size) _ RR (Abm I3 hlt9 hld9) rfl (by simp only[qay,qbr,qcz,qc9];omega);rw[show([(a,l.take k,c),(Em a c (k+1) 3,l.drop (k+1),c - (k+1))]:List SI).flatMap (fun x=>x.2.1)=il by rw[hins];simp]at CC;refine Ah qB CC U ?_;rintro v w4 ⟨a4,c4,rfl,J4,hx4⟩;have hx14:=H.ext.trans hx4;refine Ab (Bb (hx14) (AB U U ?_));refine Bm (Aj U (Ab (Bb (hx14) (B3 (Ax (AH (v:=(.slice _ _ _)) U U U ?_))))));exact⟨a4,c4,rfl,J4,hx1.trans hx14⟩
theorem Grown.keep{M M':Mut}{w w':World}{b:Nat}{o:Obj}(t:Grown M M' w w')(h:w.heap[b]?=some o)(hn:¬M b):w'.heap[b]?=some o:=by
 obtain⟨⟨S,hS,hx⟩,-⟩:=t;rw[hx.block b (Al h) fun h=>hn (hS _ h)];exact h
abbrev Z0:Mut:=fun _=>False
theorem MZ0{M:Mut}:∀x,MZ M Z0 x->M x:=fun _ h=>h.elim id False.elim
theorem Z8{fr:Nat}(hfr:fr<=5000){w:World}{bt bd bp ba:Nat}{A:Dev}{P:List Nat}{F:Mut}(T:Tx w bt bd bp ba fr A P F [])(root:Int)(ka va:Option Addr)(kc vc kn vn:Nat)(key val:Byt)(Rk:Rdx w (TM F ba bt bp []) ka key)(Rv:Rdx w (TM F ba bt bp []) va val)(hkn:key.length=kn)(hvn:val.length=vn)(hkc:kn<=kc)(hvc:vn<=vc){mx:Nat}(hfew:Few A mx)(hmx:mx<=800000000)(hok:(Jh fr A P root key val).1≠99)(hr1: -9223372036854775808<=root:=by omega)(hr2:root<=9223372036854775807:=by omega)(hkl:kn<=100000:=by omega):
  Ret prog 120 #[ptr bt,.int .i64 root,.slice ka kn kc,.slice va vn vc] w fun v w'=>∃F',v=.tuple #[.int .i64 (Jh fr A P root key val).2.1,.int .i64 (Jh fr A P root key val).1]/\Tx w' bt bd bp ba fr (Jh fr A P root key val).2.2.1 (Jh fr A P root key val).2.2.2 F' []/\Grown (TM F ba bt bp []) (TM F' ba bt bp []) w w':=by
 subst hkn hvn;obtain⟨w0,rfl⟩:=qD w;obtain⟨pt,hpt⟩:=qD (Jh fr A P root key val);rw[<-hpt]at hok |-;unfold Jh at hpt;have H:=Ctx.start w0 [];refine A6 (fn:=f120) func120 U [.pointer (some ⟨bt,0,none⟩),.int .i64 root,.slice ka key.length kc,.slice va val.length vc] U ?_;refine Ad (Co _ (.slice _ _ _) U U H ?_);rintro b6 w - H;refine Co _ (.slice _ _ _) U U H ?_;rintro b7 w - H;refine Ac U (Ac U (qA (Ar (Ad (An U (Ae U (Ah qB (PB (T.call H.ext) root) U ?_)))))));rintro v w2 ⟨rfl,rfl⟩;refine Ac U (qA (Ad (Ae U (AZ U U (qA (Au _ U ?_ ?_))))))
 .intro hA;replace hA:=Bu hA;rw[if_pos hA]at hpt;have he:Hr P.length root=1:=by unfold Hr at hA |-;split <;> simp_all
  rw[he];refine Ad (Ae U (Ae U (Ac U (Ac U (qA (Ax (Ao (Ce (v1:=(.int _ _)) (v2:=(.int _ _)) U U U U ?_))))))));exact⟨F,by rw[hpt],by rw[hpt];exact T.call H.ext,.call0 H.ext⟩
 .intro hA;replace hA:=Bv hA;rw[if_neg (by simpa using hA)]at hpt;have hm0:Hr P.length root=0:=by simpa using hA
  have hroot : -1<=root/\root<=4294967296:=by
   have hpl:=T.pg.len;unfold Hr at hm0
   split at hm0
   .cases hm0
   .omega
  refine Aq (Aa (Ar (Ad (AG BL U H at1 U (AG BL U H at0 U (Ah qB (Oj ka va _ _ kc vc _) U ?_))))));rintro v w2 ⟨rfl,rfl⟩;refine Cl U (qA (Au _ U ?_ ?_))
  .intro hB;replace hB:=CJ hB;rw[if_neg (by rw[hB];simp)]at hpt;refine Ad (Ae U (Ac U (Ac U (qA (Ax (Ao (Ce (v1:=(.int _ _)) (v2:=(.int _ _)) U U U U ?_)))))));exact⟨F,by rw[hpt],by rw[hpt];exact T.call H.ext,.call0 H.ext⟩
  .intro hB;replace hB:=CK hB;rw[if_pos (by simpa using hB)]at hpt;have hx1:=H.ext;have h6:=H.get at1;have h7:=H.get at0;have ho6:=(H.own _ (qag _ (qae ..))).elim (fun h=>by cases h) id;have ho7:=(H.own _ (qae ..)).elim (fun h=>by cases h) id;have hM0:=T.mlt;have T1:=T.call hx1;have D:DoOk 145 [ptr b6,ptr b7] (KA key val) w (MZ (TM F ba bt bp []) Z0):=fun w' M' t hlt a n c l I hn=>Agh hlt (t.keep h6 fun h=>by have:=hM0 _ (MZ0 _ h);dsimp only at ho6;omega) (t.keep h7 fun h=>by have:=hM0 _ (MZ0 _ h);dsimp only at ho7;omega) (((Rk.call hx1).weak MZ0).turn t) (((Rv.call hx1).weak MZ0).turn t) hkc hvc I hn;have hokt:(Dp fr A P root key (KA key val)).1≠99:=fun h=>hok (by rw[hpt];exact h)
   refine Aq (Aa (Ad (An U (Ae U (AG BL U H at1 U (Cz [.pointer _,.pointer _] U (Ah qB (Wi qB hfr hkl T1 root hroot.1 hroot.2 Z0 (fun x h=>h.elim) D ka kc ((Rk.call hx1).weak MZ0) hfew hmx hokt) U ?_)))))));rintro v w3 ⟨F3,rfl,T3,g3⟩;refine Ag U U (Ag U U (Ac U (Ac U (qA (Ax (Ce (v1:=(.int _ _)) (v2:=(.int _ _)) U U U U ?_))))));exact⟨F3,by rw[hpt],by rw[hpt];exact T3,(Grown.call0 hx1).trans g3⟩
theorem Z9{fr:Nat}(hfr:fr<=5000){w:World}{bt bd bp ba:Nat}{A:Dev}{P:List Nat}{F:Mut}(T:Tx w bt bd bp ba fr A P F [])(root:Int)(ka:Option Addr)(kc kn:Nat)(key:Byt)(Rk:Rdx w (TM F ba bt bp []) ka key)(hkn:key.length=kn){mx:Nat}(hfew:Few A mx)(hmx:mx<=800000000)(hok:(Gt fr A P root key).1≠99)(hr1: -9223372036854775808<=root:=by omega)(hr2:root<=9223372036854775807:=by omega)(hkl:kn<=100000:=by omega):
  Ret prog 121 #[ptr bt,.int .i64 root,.slice ka kn kc] w fun v w'=>∃F',v=.tuple #[.int .i64 (Gt fr A P root key).2.1,.bool (Gt fr A P root key).2.2.1,.int .i64 (Gt fr A P root key).1]/\Tx w' bt bd bp ba fr (Gt fr A P root key).2.2.2.1 (Gt fr A P root key).2.2.2.2 F' []/\Grown (TM F ba bt bp []) (TM F' ba bt bp []) w w':=by
 subst hkn;obtain⟨w0,rfl⟩:=qD w;obtain⟨pt,hpt⟩:=qD (Gt fr A P root key);rw[<-hpt]at hok |-;unfold Gt at hpt;obtain⟨gt,hgt⟩:=qD (Nx A fr P.length root key);rw[<-hgt]at hpt;have H:=Ctx.start w0 [];refine A6 (fn:=f121) func121 U [.pointer (some ⟨bt,0,none⟩),.int .i64 root,.slice ka key.length kc] U ?_;refine Ad (Co _ (.slice _ _ _) U U H ?_);rintro b5 w - H;refine Ac U (Am U (Ac U (qA (Ad (An U (Ae U (AG BL U H at0 U ?_)))))));have hx0:=H.ext;refine Ah qB (Z1 (T.call hx0) hfr root ⟨hr1,hr2⟩ ka kc _ key (Rk.call hx0).1 U hfew) U ?_;rintro v w2 ⟨va,vc,u,rfl,hx17,-,-,-⟩;rw[<-hgt];replace H:=H.call hx17
 refine AM U (Ag U U (Ag U U (Ag U U (Aj U (Am U (Ac U (qA (Ar (Ad (BB (α:=Unit) 132120576 (fun _=>[(26,.bool (decide (gt.1≠0) || decide (gt.2.isSome=false)))]) (fun _ w'=>Ctx w0 [] w' [(b5,Bl 24 [.slice ka key.length kc])]) U ?_ ?_))))))))))
 .refine Ae U (AZ U U (AC U (AX 23 U ?_ ?_)))
  .intro h1;replace h1:=Bu h1;refine Ak U (Ak U (AQ U (.bool _) U (Ab ?_)));exact⟨rfl,(),rfl,⟨qac Value.bool (by(rw[qam (show gt.1≠0 from h1)]);cases gt.2 <;> rfl),trivial⟩,H⟩
  .intro h2;replace h2:=Bv h2;refine AC U (Cl U (AN U (.bool _) U (Ab ?_)));exact⟨rfl,(),rfl,⟨qac Value.bool (by(rw[qai (show ¬gt.1≠0 from fun h=>h h2)]);cases gt.2 <;> rfl),trivial⟩,H⟩
 rintro - j26 w H;refine Au _ U ?_ ?_
 .intro hA;refine Ad (Ae U (Ae U (Ac U (Am U (Ac U (qA (Ax (Ao (CG (v1:=(.int _ _)) (v2:=(.bool _)) (v3:=(.int _ _)) U U U U U ?_)))))))))
  by_cases h0:gt.1=0
  .rw[if_neg (by rw[h0];simp),if_pos (by rw[h0]at hA;simpa using hA)]at hpt;exact⟨F,by rw[hpt,h0],by rw[hpt];exact T.call H.ext,.call0 H.ext⟩
  .rw[if_pos h0]at hpt;exact⟨F,by rw[hpt],by rw[hpt];exact T.call H.ext,.call0 H.ext⟩
 .intro hA
  have hA2:gt.1=0/\¬gt.2.isSome=false:=by
   have h5:=hA;rw[qdu]at h5;exact⟨by simpa using h5.1,qdf h5.2⟩
  rw[if_neg (by rw[hA2.1];simp),if_neg hA2.2]at hpt
  have hroot : -1<=root/\root<=4294967296:=by
   have hpl:=T.pg.len;have h5:=hA2.1
   have hm:Hr P.length root=0:=by
    by_cases hq:Hr P.length root=0
    .exact hq
    .rw[hgt]at h5;unfold Nx at h5;rw[if_pos hq]at h5;cases h5
   unfold Hr at hm
   split at hm
   .cases hm
   .omega
  have hx1:=H.ext;have h5:=H.get at0;have ho5:=(H.own _ (qae ..)).elim (fun h=>by cases h) id;have hM0:=T.mlt;have T1:=T.call hx1;have D:DoOk 149 [ptr b5] (JW key) w (MZ (TM F ba bt bp []) Z0):=fun w' M' t hlt a n c l I hn=>Agi hlt (t.keep h5 fun h=>by have:=hM0 _ (MZ0 _ h);dsimp only at ho5;omega) (((Rk.call hx1).weak MZ0).turn t) I hn;have hokt:(Dp fr A P root key (JW key)).1≠99:=fun h=>hok (by rw[hpt];exact h);refine Aq (Aa (Ad (An U (Ae U (AG BL U H at0 U (Cz [.pointer _] U (Ah qB (Wi qB hfr hkl T1 root hroot.1 hroot.2 Z0 (fun x h=>h.elim) D ka kc ((Rk.call hx1).weak MZ0) hfew hmx hokt) U ?_)))))));rintro v w3 ⟨F3,rfl,T3,g3⟩;refine AM U (Ag U U (Ag U U (Ac U (Ac U (qA (Ad (Ae U (Ae U (B1 U U ?_)))))))));refine Ae U (Ac U (Am U (Ac U (qA (Ax (CG (v1:=(.int _ _)) (v2:=(.bool _)) (v3:=(.int _ _)) U U U U U ?_))))))
  exact⟨F3,by rw[hpt],by rw[hpt];exact T3,(Grown.call0 hx1).trans g3⟩
abbrev Nd:=Int × Bool × List It
def Ij(f:Int->Int × List Nd):List It->Int × List Nd
 | []=>(0,[])
 |x::l=>if(f (x.page:Int)).1≠0 then f (x.page:Int)else((Ij f l).1,(f (x.page:Int)).2++(Ij f l).2)
def EC(A:Dev)(fr sz:Nat):Nat->Int->Nat->Int × List Nd
 |0,_,_=>(9,[])
 |n+1,page,d=>match(Dc A fr sz page (d:Int)).2 with
  |none=>((Dc A fr sz page (d:Int)).1,[])
  |some (false,l)=>(0,[(page,false,l)])
  |some (true,l)=>((Ij (fun p=>EC A fr sz n p (d+1)) l).1,(page,true,l)::(Ij (fun p=>EC A fr sz n p (d+1)) l).2)
structure JOk(bt bd bp ba fr:Nat)(A:Dev)(P:List Nat)(F Z:Mut)(N l:Nat)(J:List Nd->Mut->World->Prop):Prop where
 lt:∀{v M w},J v M w->∀x,M x->x<w.heap.size
 ext:∀{v M w w'},J v M w->Ext [] w w'->J v M w'
 tx:∀{v M w},J v M w->Tx w bt bd bp ba fr A P F []
 round:∀{v:List Nd} {M:Mut} {w:World} (page:Int) (i:Bool) (a:Option Addr) (n c:Nat) (L:List It),J v M w->v.length<N->Its w (MZ M Z) a n c L->L.length<=65535->(∀x∈L,x.key.length<=505/\x.val.length<=505) -> -9223372036854775808<=page/\page<=9223372036854775807 ->
  Go.GV.YieldAt prog l [.int .i64 page,.agg #[.bool i,.slice a n c]] w fun u w'=>u=.bool true/\∃M',J (v++[(page,i,L)]) M' w'/\Grown M M' w w'
def Yu(bt fr:Nat)(A:Dev)(sz:Nat)(Z:Mut)(N l:Nat)(J:List Nd->Mut->World->Prop)(n:Nat):Prop :=
 ∀{w:World} {M:Mut} {v:List Nd},J v M w->(∀x,Z x->x<w.heap.size)->∀(page:Int) (d:Nat),d+n=17 -> -9223372036854775808<=page->page<=9223372036854775807->v.length+(EC A fr sz (n+1) page d).2.length<=N ->
  Ret prog 152 #[ptr bt,.int .i64 page,.int .i64 (d:Int),.func (.yield l) #[] #[]] w fun r w'=>r=.tuple #[.bool (decide ((EC A fr sz (n+1) page d).1=0)),.int .i64 (EC A fr sz (n+1) page d).1]/\∃M',J (v++(EC A fr sz (n+1) page d).2) M' w'/\Grown M M' w w'
theorem TF{bt bd bp ba fr:Nat}{A:Dev}{P:List Nat}{F Z:Mut}{N l:Nat}{J:List Nd->Mut->World->Prop}(JO:JOk bt bd bp ba fr A P F Z N l J)(hfr:fr<=5000){mx:Nat}(hfew:Few A mx)(hmx:mx<=1000000000)(n:Nat)(IH:∀n',n=n'+1->Yu bt fr A P.length Z N l J n'):Yu bt fr A P.length Z N l J n:=by
 intro w M v hJ hZ page d hd hp1 hp2 hN;obtain⟨w0,rfl⟩:=qD w;obtain⟨ea,hea⟩:=qD (EC A fr P.length (n+1) page d);rw[<-hea]at hN |-;rw[EC]at hea;obtain⟨rt,hrt⟩:=qD (Dc A fr P.length page (d:Int));rw[<-hrt]at hea;refine A6 (fn:=f152) func152 U [.pointer (some ⟨bt,0,none⟩),.int .i64 page,.int .i64 (d:Int),.func (.yield l) #[] #[]] U ?_;refine Ad (Am U (Ac U (qA (Ad (An U (Ae U (Ae U (Ah qB (QN (JO.tx hJ) hfr page (d:Int) ⟨hp1,hp2⟩ hfew hmx) U ?_))))))));rintro v2 w2 ⟨inner,aa,nn,cc,rfl,hx20,hits⟩;rw[<-hrt]at hits;rw[<-hrt];have hJ2:=JO.ext hJ hx20;have H:=Ctx.start w2 [];refine AM U (Ag U U (Ag U U (Be Cb H ?_)));rintro b10 w - H;refine Bi Ba U U U (by simp[Bg]) H at0 U ?_;rintro w H;refine Ac U (qA (Ar (Ad (Ae U (AZ U U (AC U (AX 25 U ?_ ?_)))))))
 .intro hA;replace hA:=Bu hA
  have hnone:rt.2=none:=by
   cases h5:rt.2 with
   |none=>rfl
   |some r=>obtain⟨i,l⟩:=r;rw[hrt]at h5;rw[hrt]at hA;exact absurd (Fe h5).1 hA
  rw[hnone]at hea;dsimp only at hea;refine Ak U (Ak U (Ak U (Ak U (Ak U (AQ U (.bool _) U (qA (Fi U (Ad (Ae U ?_)))))))));refine Am U (Ac U (qA (Ax (Ao (Ce (v1:=(.bool _)) (v2:=(.int _ _)) U U U U ?_)))));have hx3:=hx20.trans H.ext;refine⟨by rw[hea,qai hA],M,?_,.call0 hx3⟩;rw[hea]
  simpa using JO.ext hJ hx3
 .intro hA;replace hA:=Bv hA;have hA':rt.1=0:=by simpa using hA
  obtain⟨⟨i,li⟩,hsome⟩:∃r,rt.2=some r:=by
   cases h5:rt.2 with
   |none=>rw[hrt]at h5;rw[hrt]at hA';exact absurd hA' (Ic h5)
   |some r=>exact⟨r,rfl⟩
  obtain⟨-,hne,hd16,-,-,hll⟩:=Fe (A:=A) (fr:=fr) (sz:=P.length) (page:=page) (depth:=(d:Int)) (by rw[<-hrt];exact hsome);obtain⟨rfl,I2f,hb⟩:=hits i li hsome;have I2:=I2f.weak (M':=MZ M Z) fun x h=>h.elim (JO.lt hJ x) (hZ x);rw[hsome]at hea;have hnum:=I2.num;obtain⟨O3,g3⟩:=Fo.nil.own (JO.lt hJ2) H;have I3:=(I2.weak (M':=MZ (MY M []) Z) fun x h=>h.elim (fun h => .inl (MY.nil x h)) .inr).turn (g3.or Z);have hJ3:=JO.ext hJ2 H.ext;have hx3:=hx20.trans H.ext
  have hvl:v.length<N:=by
   have:1<=ea.2.length:=by
    rw[hea]
    cases inner with
    |true=>simp
    |false=>simp
   omega
  obtain⟨w3,rfl⟩:=qD w;replace H:=O3.ctx;refine DI U (.func _ _ _) U ?_;refine Ae U (BG BH Ba U H at0 U (Qm U U (JO.round page inner aa nn cc li hJ3 hvl (I3.weak fun x h=>h.elim (fun h => .inl (.inl h)) .inr) hll (fun x hx=>⟨(hb x hx).1,(hb x hx).2.1⟩) ⟨hp1,hp2⟩) U ?_));rintro _ w4 ⟨rfl,M4,hJ4,g4⟩;obtain⟨O4,gy4⟩:=O3.call g4;have I4:=I3.turn (gy4.or Z);have gg4:=(Grown.call0 hx3).trans g4;replace H:=O4.ctx;refine Cl U (AN U (.bool _) U (qA (Bw U (Aq (Aa (Ar (Ad (Af Bq U (AG BK U H at0 U (AO Br U ?_))))))))))
  refine Ae U (qA (AD (BF 144115119356437248 (α:=Nat × List Nd × Mut) (fun s=>[(36,.int .i64 (s.1:Int))]) (fun s w'=>s.1<=nn/\J (v++[(page,inner,li)]++s.2.1) s.2.2 w'/\Fo w' s.2.2 [(b10,NBl inner aa nn cc)]/\Its w' (MZ (MY s.2.2 [(b10,NBl inner aa nn cc)]) Z) aa nn cc li/\Grown M s.2.2 w0 w'/\(inner=false->s.2.1=[])/\(inner=true->Ij (fun p=>EC A fr P.length n p (d+1)) li=((Ij (fun p=>EC A fr P.length n p (d+1)) (li.drop s.1)).1,s.2.1++(Ij (fun p=>EC A fr P.length n p (d+1)) (li.drop s.1)).2))) (fun s=>nn - s.1) (0,[],M4) U ?_ ?_ ?_)))
  .exact⟨rfl,trivial⟩
  .exact⟨qak _,by rw[qa2];exact hJ4,O4,I4,gg4,fun _=>rfl,fun _=>rfl⟩
  .rintro⟨i,vs,M5⟩ j w ⟨hi,hJ5,O5,I5,g5,hvs,hkg⟩;dsimp only at hi hJ5 O5 I5 g5 hvs hkg;dsimp only;obtain⟨ms,R,-,hl,hok⟩:=I5.ex;have hml:ms.length=nn:=by rw[hnum,<-hl,qal]
   have hb10:=O5.blk (b10,_) (qaa.2 rfl);have H:=Ctx.start w [];refine Ad (Bt U U (qA (Ar (Au _ U ?_ ?_))))
   .intro hB;replace hB:=AU hB;obtain⟨x,hx1⟩:=AR (l:=ms) (i:=i);have hxL:=Im.at hl hx1;have hxb:=hb x.it (qad hxL);obtain⟨wl,rfl⟩:=qD w;refine Aq (Aa (Ar (AD (Ad (Bj R Br Bh U U ?_)))));refine EL _ Dd Bh U U (R.row hx1 U) (Be Cr H ?_);rintro b13 w - H;refine Bi Bh U U U (by exact Im.oneE _) H at0 U ?_;rintro w H;refine qA (Ar (Ad (Af Dl U (Bf Gx U ((by rw[Ap (show _=some (NBl inner aa nn cc)from by rw[H.ext.block b10 (Al hb10) (by simp)];exact hb10)];rfl)) ?_))));refine Cl U (qA (Au _ U ?_ ?_))
    .intro hC;replace hC:=CJ hC;have hea1:ea=(0,[(page,inner,li)]):=by rw[hea,hC]
     refine B9 (A8 (Aak U (A8 (A8 (Bd (Aa (Ad (Am U (Ac U (qA (Ax (Ce (v1:=(.bool _)) (v2:=(.int _ _)) U U U U ?_))))))))))));refine⟨by rw[hea1];rfl,M5,?_,g5.trans (.call0 H.ext)⟩;rw[hea1];have:=JO.ext hJ5 H.ext;rw[hvs hC,qa2]at this;exact this
    .intro hC;replace hC:=CK hC;replace hea:ea=((Ij (fun p=>EC A fr P.length n p (d+1)) li).1,(page,inner,li)::(Ij (fun p=>EC A fr P.length n p (d+1)) li).2):=by rw[hea,hC]
     have hkg:=hkg hC;rw[EI hxL,Ij]at hkg;obtain⟨n',rfl⟩:∃n',n=n'+1:=⟨n - 1,by omega⟩;obtain⟨f5,hf5⟩:=qD (EC A fr P.length (n'+1) (x.it.page:Int) (d+1));rw[<-hf5]at hkg
     have hN5:(v++[(page,inner,li)]++vs).length+f5.2.length<=N:=by
      rw[hea,hkg]at hN
      by_cases h0:f5.1≠0
      .rw[if_pos h0]at hN;simp only[qan,qaw,qbw]at hN |-;omega
      .rw[if_neg h0]at hN;simp only[qan,qaw,qbw]at hN |-;omega
     refine Aq (Aa (Ad (An U (Af F8 U (AG DU U H at0 U (Ae U (AA U U ?_)))))));rw[show((d:Int)+1)=((d+1:Nat):Int)by omega];refine DI U (.func _ _ _) U ?_;have hx6:=H.ext;refine Ah qB (IH n' U (JO.ext hJ5 hx6) (fun x h=>qat (hZ x h) (qas g5.1.size hx6.size)) (x.it.page:Int) (d+1) (by omega) (by omega) (by omega) (by rw[<-hf5];exact hN5)) U ?_;rintro v7 w7 ⟨rfl,M7,hJ7,g7⟩;rw[<-hf5]at hJ7;rw[<-hf5];obtain⟨O6,gy6⟩:=O5.call (.call0 hx6);obtain⟨O7,gy7⟩:=O6.call g7;have I7:=(I5.turn (gy6.or Z)).turn (gy7.or Z);have gg7:=(g5.trans (.call0 hx6)).trans g7;refine AM U (Ag U U (Ag U U (Am U (Ac U (qA (Ad (AC U (Cl U (qA ?_)))))))));refine Au _ U ?_ ?_
     .intro hD;replace hD:=CJ hD;have hD':f5.1≠0:=by simpa using hD
      rw[if_pos hD']at hkg;refine Ad (Ae U (Am U (Ac U (qA (Ax (AL (Ao (Ao (AL (Ao (Ce (v1:=(.bool _)) (v2:=(.int _ _)) U U U U ?_)))))))))));refine⟨by rw[hea,hkg];dsimp only;rw[qai hD'],M7,?_,gg7⟩;rw[hea,hkg]
      simpa using hJ7
     .intro hD;replace hD:=CK hD;have hD':f5.1=0:=by simpa using hD
      rw[if_neg (by rw[hD'];simp)]at hkg;refine Aq (AF (Aa (Av (AA U U ?_))));refine Ae U (qA ?_);exact⟨(i+1,vs++f5.2,M7),rfl,⟨rfl,trivial⟩,⟨by dsimp only;omega,by dsimp only;rw[<-qa0];exact hJ7,O7,I7,gg7,(fun h=>by rw[hC]at h;cases h),fun _=>by dsimp only;rw[hkg,qa0]⟩,by dsimp only;omega⟩
   .intro hB;replace hB:=AV hB;have hii:i=nn:=by omega
    refine B9 (A8 (A8 (Bd (Aa (Ad (Am U (Ac U (qA (Ax (Ce (v1:=(.bool _)) (v2:=(.int _ _)) U U U U ?_))))))))))
    cases inner with
    |false =>
     dsimp only at hea;refine⟨by rw[hea];rfl,M5,?_,g5⟩;rw[hea];rw[hvs rfl,qa2]at hJ5;exact hJ5
    |true =>
     dsimp only at hea;have hkg:=hkg rfl;rw[qbx (by omega),Ij,qa2]at hkg;refine⟨by rw[hea,hkg];rfl,M5,?_,g5⟩;rw[hea,hkg]
     simpa using hJ5
theorem Wj{bt bd bp ba fr:Nat}{A:Dev}{P:List Nat}{F Z:Mut}{N l:Nat}{J:List Nd->Mut->World->Prop}(JO:JOk bt bd bp ba fr A P F Z N l J)(hfr:fr<=5000){mx:Nat}(hfew:Few A mx)(hmx:mx<=1000000000):∀n,Yu bt fr A P.length Z N l J n
 |0=>TF JO hfr hfew hmx 0 fun n' h=>by omega
 |n+1=>TF JO hfr hfew hmx (n+1) fun n' h=>by
   obtain rfl:n=n':=by omega
   exact Wj JO hfr hfew hmx n
def Ea(A:Dev)(fr sz:Nat)(root:Int):Int × List Nd:=if root = -1 then(0,[])else EC A fr sz 18 root 0
theorem Wk(bt be:Nat)(root:Int)(w:World):Ret prog 124 #[ptr bt,.int .i64 root,ptr be] w fun v w'=>∃b3 b4 b5,v=.func (.func 151) #[] #[ptr b4,ptr b3,ptr b5]/\(∃t,w'.heap[b4]?=some (Bl t [.int .i64 root]))/\(∃t,w'.heap[b3]?=some (Bl t [ptr bt]))/\(∃t,w'.heap[b5]?=some (Bl t [ptr be]))/\w.heap.size<=b4/\w.heap.size<=b3/\w.heap.size<=b5/\Ext [] w w':=by
 obtain⟨w0,rfl,H⟩:=qE w;refine A6 (fn:=f124) func124 U [.pointer (some ⟨bt,0,none⟩),.int .i64 root,.pointer (some ⟨be,0,none⟩)] U ?_;refine Ad (Co _ (.pointer _) U U H ?_);rintro b3 w - H;refine Co _ (.int _ _) U U H ?_;rintro b4 w - H;refine Co _ (.pointer _) U U H ?_;rintro b5 w - H;refine DR U .nilFunc U (qA (Ad (Cz [.pointer _,.pointer _,.pointer _] U (DR U (.func _ _ _) U ?_))));refine qA (Ax (AH (v:=(.func _ _ _)) U U U ?_));have ho:∀x∈[(b5,Bl 179 [ptr be]),(b4,Bl 3 [.int .i64 root]),(b3,Bl 90 [ptr bt])],w0.heap.size<=x.1:=fun x hx=>(H.own x hx).elim (fun h=>by cases h) id
 exact⟨b3,b4,b5,rfl,⟨_,H.get at1⟩,⟨_,H.get at2⟩,⟨_,H.get at0⟩,ho (b4,_) (qag _ (qae ..)),ho (b3,_) (qag _ (qag _ (qae ..))),ho (b5,_) (qae ..),H.ext⟩
theorem TG{bt bd bp ba fr:Nat}{A:Dev}{P:List Nat}{F Z:Mut}{N l:Nat}{J:List Nd->Mut->World->Prop}(JO:JOk bt bd bp ba fr A P F Z N l J)(hfr:fr<=5000){mx:Nat}(hfew:Few A mx)(hmx:mx<=1000000000){w:World}{M:Mut}(hJ:J [] M w)(hZ:∀x,Z x->x<w.heap.size){b3 b4 b5 be t3 t4 t5 te:Nat}{root:Int}(h4:w.heap[b4]?=some (Bl t4 [.int .i64 root]))(h3:w.heap[b3]?=some (Bl t3 [ptr bt]))(h5:w.heap[b5]?=some (Bl t5 [ptr be]))(he:w.heap[be]?=some (Bl te [.int .i64 0]))(n4:¬M b4)(n3:¬M b3)(n5:¬M b5)(ne:¬M be)(hr1 : -9223372036854775808<=root)(hr2:root<=9223372036854775807)(hN:(Ea A fr P.length root).2.length<=N) :
  Ret prog 151 #[.func (.yield l) #[] #[],ptr b4,ptr b3,ptr b5] w fun _ w'=>∃wx M',J (Ea A fr P.length root).2 M' wx/\Grown M M' w wx/\Ext [be] wx w'/\w'.heap[be]?=some (Bl te [.int .i64 (Ea A fr P.length root).1]):=by
 obtain⟨w0,rfl⟩:=qD w;obtain⟨g,hg⟩:=qD (Ea A fr P.length root);rw[<-hg]at hN |-;unfold Ea at hg;refine A6 (fn:=f151) func151 U [.func (.yield l) #[] #[],.pointer (some ⟨b4,0,none⟩),.pointer (some ⟨b3,0,none⟩),.pointer (some ⟨b5,0,none⟩)] U ?_;have H:=Ctx.start w0 [];refine Ad (Bf DU U ((by rw[Ap h4];rfl)) ?_);refine AZ U U (qA (Au _ U ?_ ?_))
 .intro hA;replace hA:=Bu hA;rw[if_neg hA]at hg;have hg':g=EC A fr P.length (17+1) root 0:=hg;refine Ke [([0,1,2,3],4),([5,6,7,8],9)] (fun z=>z.heap[b5]?=some (Bl t5 [ptr be])/\z.heap[b3]?=some (Bl t3 [ptr bt])/\z.heap[b4]?=some (Bl t4 [.int .i64 root])) [9] mixed (⟨h5,h3,h4⟩) ?_;refine AB U U (BJ Akz U (fun _ hx=>(by rw[Ap hx.1];rfl)) ?_);refine BJ Jc U (fun _ hx=>(by rw[Ap hx.2.1];rfl)) ?_;refine BJ DU U (fun _ hx=>(by rw[Ap hx.2.2];rfl)) ?_;refine Mc U (.func _ _ _) U ?_;refine Bm ?_
  skip
  refine Ah qB (Wj JO hfr hfew hmx 17 (JO.ext hJ (Ext.drew [] w0)) hZ root 0 (by omega) hr1 hr2 (by rw[<-hg'];simpa using hN)) U ?_;rintro v w3 ⟨rfl,M3,hJ3,g3⟩;rw[<-hg',qba]at hJ3;rw[<-hg'];have gg:=(Grown.call0 (Ext.drew [] w0)).trans g3;have H:=Ctx.start1 (gg.keep he ne);refine Ab (Bb (⟨gg.keep h5 n5,gg.keep h3 n3,gg.keep h4 n4⟩) (AB U U ?_));refine H1 U (Cu U U (Cu U U (Bn U (Bm (Bc (.int _ _) Fw U U U H at0 (by decide) ?_)))));rintro w H;refine Ab (CR U (B3 (Hw U U ?_)));exact⟨w3,M3,hJ3,gg,H.ext,H.get at0⟩
 .intro hA;replace hA:=Bv hA;rw[if_pos (by simpa using hA)]at hg;refine Aq (Hw U U ?_);exact⟨w0,M,by rw[hg];exact hJ,.call0 (.refl _ _),.refl _ _,by rw[hg];exact he⟩
def iv(x:Int):Value := .int .i64 x
abbrev Ik(l:List Int):List Int:=l.mergeSort fun x y=>decide (x<=y)
theorem QX(full:List Value)(ts:List Int)(h:ts.length<=full.length):(Go.Sort.putCells (Value.int .i64) 0 ts.toArray full.toArray).toList=ts.map iv++full.drop ts.length:=by
 apply qcg;intro j
 by_cases hj:j<ts.length
 .rw[qdh (by simpa using hj),qdd];simp[Go.Sort.putCells,hj,show j<full.length by omega,iv]
 .rw[qc2 (by simp;omega),qdd,qct]
  by_cases h2:j<full.length
  .simp[Go.Sort.putCells,hj,h2,show ts.length+(j - ts.length)=j by omega]
  .rw[qb0 (by simp;omega)];simp[Go.Sort.putCells,h2]
theorem Agj{w:World}{b t c:Nat}{full:List Value}{l:List Int}(hb:w.heap[b]?=some (Bl t full))(hl:full.take l.length=l.map iv)(hsz:l.length<=1000000)(hf:l.length<=full.length:=by omega):
  Ret prog 125 #[.slice (some ⟨b,0,none⟩) l.length c] w fun v w'=>v=.tuple #[]/\w'.heap[b]?=some (Bl t ((Ik l).map iv++full.drop l.length))/\Ext [b] w w':=by
 have hH:=Go.holds_of_blockI (ss:=l) hb (by rw[List.toList_toArray];exact hl);have h:=Go.Proofs.AnyM.slices_Sort_int sortA b 0 c l w hH (Al hb) (by omega);refine CallsIn.mono (callsIn_wide.2 h) ?_;rintro e w' ⟨rfl,n,os,rfl⟩;have g:=Go.grownBy_sortedI (n:=n) (os:=os) (w:=w) (g:=b) (Ik l).toArray;refine⟨_,rfl,rfl,?_,?_⟩
 .rw[Go.heap_sortedI (Ik l).toArray hb];have h1:=QX full (Ik l) (by rw[qco];exact hf);rw[qco]at h1;show some (Obj.cells _ t (0,0))=some (Obj.cells _ t (0,0));rw[<-h1]
 .obtain⟨g1,g2,g3,g4,g5⟩:=g;exact⟨g1,g2,g3,g4,fun x hx hn=>g5 x hx (by simpa using fun e=>hn (by simp[e]))⟩
theorem Abn(c:Nat)(w:World):Ret prog 125 #[.slice none 0 c] w fun v w'=>v=.tuple #[]/\w=w':=by
 refine CallsIn.mono (callsIn_wide.2 (Go.Proofs.AnyM.slices_Sort_int_none sortA none c w)) ?_;rintro e w' ⟨rfl,rfl⟩;exact⟨_,rfl,rfl,rfl⟩
structure GJ(w0:World)(bt bd bp ba fr:Nat)(A:Dev)(P:List Nat)(F:Mut)(tL tE s b l:Nat)(lo:Loop)(vals:List Value)(M:Mut)(w:World)(a:Option Addr)(n c:Nat)(full:List Value):Prop where
 M:M=fun x=>x=l\/x∈((b,Bl tL [.slice a n c])::ent a tE full).map (·.1)
 tx:Tx w bt bd bp ba fr A P F []
 loop:w.heap[l]?=some (.loop lo)
 blk:∀y∈(b,Bl tL [.slice a n c])::ent a tE full,w.heap[y.1]?=some y.2/\w0.heap.size<=y.1/\y.1≠l
 nd:((b,Bl tL [.slice a n c])::ent a tE full).Pairwise fun x y=>x.1≠y.1
 os:OS a n c s full vals
section
variable {w0 w wR wE wF:World}{bt bd bp ba fr:Nat}{A:Dev}{P:List Nat}{F M:Mut}{tL tE s b l:Nat}{lo lo2:Loop}{vals vals':List Value}{a a':Option Addr}{n n' c c':Nat}{full full':List Value}
theorem GJ.lt(G:GJ w0 bt bd bp ba fr A P F tL tE s b l lo vals M w a n c full):∀x,M x->x<w.heap.size:=fun x h=>by
 rw[G.M]at h
 rcases h with rfl|h
 .exact Al G.loop
 .obtain⟨y,hy,rfl⟩:=qah.1 h;exact Al (G.blk y hy).1
theorem GJ.ext(G:GJ w0 bt bd bp ba fr A P F tL tE s b l lo vals M w a n c full){w':World}(hx:Ext [] w w'):GJ w0 bt bd bp ba fr A P F tL tE s b l lo vals M w' a n c full :=
 ⟨G.M,G.tx.call hx,by rw[hx.block l (Al G.loop) (by simp)];exact G.loop,fun y hy=>⟨by rw[hx.block y.1 (Al (G.blk y hy).1) (by simp)];exact(G.blk y hy).1,(G.blk y hy).2⟩,G.nd,G.os⟩
theorem GJ.body(G:GJ w0 bt bd bp ba fr A P F tL tE s b l lo vals M w a n c full)(hxR:Ext [l] w wR):Ctx wR (((b,Bl tL [.slice a n c])::ent a tE full).map (·.1)) wR ((b,Bl tL [.slice a n c])::ent a tE full) :=
 Ctx.startL (fun y hy=>by rw[hxR.block y.1 (Al (G.blk y hy).1) (by simpa using(G.blk y hy).2.2)];exact(G.blk y hy).1) G.nd
theorem GJ.next(G:GJ w0 bt bd bp ba fr A P F tL tE s b l lo vals M w a n c full)(h0:∀x,TM F ba bt bp [] x->x<w0.heap.size)(hl0:w0.heap.size<=l)(hxR:Ext [l] w wR)(H:Ctx wR (((b,Bl tL [.slice a n c])::ent a tE full).map (·.1)) wE ((b,Bl tL [.slice a' n' c'])::ent a' tE full'))(hO:OS a' n' c' s full' vals')(hxF:Ext [l] wE wF)(hlF:wF.heap[l]?=some (.loop lo)) :
  GJ w0 bt bd bp ba fr A P F tL tE s b l lo vals' (fun x=>x=l\/x∈((b,Bl tL [.slice a' n' c'])::ent a' tE full').map (·.1)) wF a' n' c' full'/\Grown M (fun x=>x=l\/x∈((b,Bl tL [.slice a' n' c'])::ent a' tE full').map (·.1)) w wF:=by
 have hll:=Al G.loop;have hsR:=hxR.size
 have hnew:∀y∈(b,Bl tL [.slice a' n' c'])::ent a' tE full',w0.heap.size<=y.1/\y.1≠l/\(y.1∈((b,Bl tL [.slice a n c])::ent a tE full).map (·.1)\/w.heap.size<=y.1):=fun y hy=>by
  have hsz:w0.heap.size<=w.heap.size:=by omega
  rcases H.own y hy with h|h
  .obtain⟨z,hz,he⟩:=qah.1 h;exact⟨by rw[<-he];exact(G.blk z hz).2.1,by rw[<-he];exact(G.blk z hz).2.2,.inl h⟩
  .exact⟨by omega,by omega,.inr (by omega)⟩
 have hx:Ext (l::((b,Bl tL [.slice a n c])::ent a tE full).map (·.1)) w wF :=
  ((hxR.mono (fun x h=>by rw[qaa.1 h];exact qae ..)).trans (H.ext.mono fun x h=>qag _ h)).trans (hxF.mono fun x h=>by rw[qaa.1 h];exact qae ..)
 refine⟨⟨rfl,G.tx.side hx fun x h hT=>?_,hlF,fun y hy=>⟨?_,(hnew y hy).1,(hnew y hy).2.1⟩,H.nd,hO⟩,⟨⟨_,fun x h=>?_,hx⟩,fun x h=>?_⟩⟩
 .have:=h0 x hT
  rcases qab.1 h with rfl|h
  .omega
  .obtain⟨y,hy,rfl⟩:=qah.1 h;have:=(G.blk y hy).2.1;omega
 .rw[hxF.block y.1 (Al (H.blk y hy)) (by simpa using(hnew y hy).2.1)];exact H.blk y hy
 .rw[G.M]
  rcases qab.1 h with rfl|h
  .exact .inl U
  .exact .inr h
 .rw[G.M]
  rcases h with rfl|h
  .exact .inl (.inl U)
  .obtain⟨y,hy,rfl⟩:=qah.1 h;exact(hnew y hy).2.2.imp .inr id
end
theorem GK{P:Program}{e:Env}{w:World}{fn:Func}{R:Value->World->Prop}{a1 a2:Tmp}{t1 t2:TypeId}{b1 b2:Nat}(hr:fn.results=#[.cell a1 t1,.cell a2 t2])(h1:e.g a1=.pointer (some ⟨b1,0,none⟩))(h2:e.g a2=.pointer (some ⟨b2,0,none⟩))(hg1:DH P t1=some false)(hg2:DH P t2=some false)(h:Marks e.ds w fun w'=>∃v1 v2 x1 x2 l1 l2,w'.heap[b1]?=some (Bl x1 (v1::l1))/\w'.heap[b2]?=some (Bl x2 (v2::l2))/\R (.tuple #[v1,v2]) w'):Zf P fn R .ret e w :=
 Marks.mono (fun w' ⟨v1,v2,x1,x2,l1,l2,hb1,hb2,hR⟩ tmps ht=>by
  have g1:=(ht a1).trans h1;have g2:=(ht a2).trans h2;rw[qbq]at g1 g2;have k1:(loadVar t1 ⟨b1,0,none⟩).run P w'=.ok v1 w':=GB hg1 (by rw[Ap hb1];rfl);have k2:(loadVar t2 ⟨b2,0,none⟩).run P w'=.ok v2 w':=GB hg2 (by rw[Ap hb2];rfl)
  exact⟨_,by simp[results,hr,g1,g2,asAddr,k1,k2],hR⟩) h
theorem KC{w6 w:World}{ids:List Nat}{L':List (Nat × Obj)}(H:Ctx w6 ids w L'){Db:Nat}(hD6:w6.heap[Db]?=some (.deferred (some [])))(hids:Db∉ids){K:World->Prop}{ds:List Deferred}(hds:ds=[{ target := .collected Db,args:=#[] }])(hK:∀wF,Ext [Db] w wF->(∀(b t:Nat) (l:List Value),w.heap[b]?=some (Bl t l)->wF.heap[b]?=some (Bl t l))->K wF):Marks ds w K:=by
 have hD:w.heap[Db]?=some (.deferred (some [])):=by rw[H.ext.block Db (Al hD6) hids];exact hD6
 subst hds;refine⟨Db,rfl,hD,hK _ (Ext.setB w Db _) fun b t l hb=>?_⟩
 rw[(Ext.setB w Db _).block b (Al hb) (by
  rw[qaa];rintro rfl;rw[hD]at hb
  cases hb)]
 exact hb
theorem Agk{w:World}{a:Option Addr}{n c t:Nat}{full:List Value}{l:List Int}(O:OS a n c 1 full (l.map iv))(hb:∀y∈ent a t full,w.heap[y.1]?=some y.2)(hsz:l.length<=1000000) :
  Ret prog 125 #[.slice a n c] w fun v w'=>v=.tuple #[]/\∃full',(∀y∈ent a t full',w'.heap[y.1]?=some y.2)/\OS a n c 1 full' ((Ik l).map iv)/\Ext ((ent a t full).map (·.1)) w w':=by
 have hn:n=l.length:=O.num
 cases ha:a with
 |none =>
  have h0:=O.none' ha;have h1:=O.le;have hl:l=[]:=qa9 (by omega);subst hl hn ha;refine Ret.mono (Abn c w) ?_;rintro v w' ⟨rfl,rfl⟩;exact⟨rfl,full,(fun y hy=>by cases hy),by simpa[Ik]using O,.refl _ _⟩
 |some p =>
  have hp:=O.zero p ha;subst ha;rw[hp]at hb O |-;have h2:=O.len;have h3:=O.le;have hpre:=O.pre;rw[qch]at hpre h2;subst hn;refine Ret.mono (Agj (c:=c) (hb (p.block,_) (qaa.2 U)) hpre hsz) ?_;rintro v w' ⟨rfl,h4,h5⟩;refine⟨rfl,_,fun y hy=>by rw[qaa.1 hy];exact h4,⟨O.zero,O.none',?_,O.le,?_⟩,h5⟩
  .rw[qan,qal,qco,qbe];omega
  .rw[qch,qd2 (by rw[qal,qco])]
theorem _root_.Go.GV.Ctx.sorted{w6 w7:World}{S:List Nat}{b5 b4 t:Nat}{o5 o4:Obj}{a:Option Addr}{full full':List Value}(H:Ctx w6 S w6 ((b5,o5)::(b4,o4)::ent a t full))(hf:∀y∈ent a t full',w7.heap[y.1]?=some y.2)(hx:Ext ((ent a t full).map (·.1)) w6 w7)(h4:∀y∈ent a t full,b4≠y.1)(h5:∀y∈ent a t full,b5≠y.1)(hS:S=((b5,o5)::(b4,o4)::ent a t full).map (·.1)):Ctx w6 S w7 ((b5,o5)::(b4,o4)::ent a t full'):=by
 subst hS
 have hid:∀y∈ent a t full',∃z∈ent a t full,z.1=y.1:=fun y hy=>by
  cases a with
  |none=>cases hy
  |some q=>rw[qaa.1 hy];exact⟨_,qaa.2 rfl,rfl⟩
 have hnd:=qbj.1 H.nd;refine⟨hx.mono fun x h=>qag _ (qag _ h),fun y hy=>?_,qbj.2 ⟨fun y hy=>?_,qbj.2 ⟨fun y hy=>?_,?_⟩⟩,fun y hy => .inl ?_⟩
 .rcases qab.1 hy with rfl|hy
  .rw[hx.block b5 (Al (H.get at0)) fun h=>by obtain⟨y,hy,he⟩:=qah.1 h;exact h5 y hy he.symm];exact H.get at0
  .rcases qab.1 hy with rfl|hy
   .rw[hx.block b4 (Al (H.get at1)) fun h=>by obtain⟨y,hy,he⟩:=qah.1 h;exact h4 y hy he.symm];exact H.get at1
   .exact hf y hy
 .rcases qab.1 hy with rfl|hy
  .exact hnd.1 _ (qae ..)
  .obtain⟨z,hz,he⟩:=hid y hy;rw[<-he];exact h5 z hz
 .obtain⟨z,hz,he⟩:=hid y hy;rw[<-he];exact h4 z hz
 .cases a with
  |none=>exact List.Pairwise.nil
  |some q=>exact qei ..
 .rcases qab.1 hy with rfl|hy
  .exact qae ..
  .rcases qab.1 hy with rfl|hy
   .exact qag _ (qae ..)
   .obtain⟨z,hz,he⟩:=hid y hy;rw[<-he];exact qag _ (qag _ (qah.2 ⟨z,hz,rfl⟩))
def KD(A:Dev)(fr sz:Nat)(root:Int):Int × List Int :=
 if Hr sz root≠0 then(1,[])else if(Ea A fr sz root).1≠0 then((Ea A fr sz root).1,[])else(0,Ik ((Ea A fr sz root).2.map (·.1)))
theorem Wl{fr:Nat}{w:World}{bt bd bp ba:Nat}{A:Dev}{P:List Nat}{F:Mut}(T:Tx w bt bd bp ba fr A P F [])(root:Int){mx:Nat}(hfew:Few A mx)(hmx:mx<=1000000000)(hfr:fr<=5000:=by decide)(hr1: -9223372036854775808<=root:=by omega)(hr2:root<=9223372036854775807:=by omega)(hN:(Ea A fr P.length root).2.length<=100000:=by omega):
  Ret prog 92 #[ptr bt,.int .i64 root] w fun v w'=>∃a c,v=.tuple #[.slice a (KD A fr P.length root).2.length c,.int .i64 (KD A fr P.length root).1]/\Rd w' a 1 (fun x:Int=>[.int .i64 x]) (KD A fr P.length root).2/\((KD A fr P.length root).2=[]\/w.heap.size<=(adr a).block)/\(KD A fr P.length root).2.length<=c/\Ext [] w w':=by
 obtain⟨w0,rfl⟩:=qD w;obtain⟨wt,hwt⟩:=qD (KD A fr P.length root);rw[<-hwt];unfold KD at hwt;have h0:=T.mlt;have H:=Ctx.start w0 [];refine Ja (fn:=f92) func92 U [.pointer (some ⟨bt,0,none⟩),.int .i64 root] U ?_;refine Ad (Be zc_40 H ?_);rintro b4 w - H;refine Be VJ H ?_;rintro b5 w - H;refine qA (Ar (Ad (An U (Ae U (Ah qB (PB (T.call H.ext) root) U ?_)))));rintro v w2 ⟨rfl,rfl⟩;refine Ac U (qA (Ad (Ae U (AZ U U (qA (Au _ U ?_ ?_))))))
 .intro hA;replace hA:=Bu hA;rw[if_pos hA]at hwt;have he:Hr P.length root=1:=by unfold Hr at hA |-;split <;> simp_all
  rw[he];refine Ad (Ae U (Bc (.slice _ _ _) Q5 U U U H at1 (by decide) ?_));rintro w H;refine Bc (.int _ _) Fw U U U H at0 (by decide) ?_;rintro w H;refine qA (Ax (Ao (GK U U U Jb Ev ?_)));exact⟨_,_,_,_,_,_,H.get at1,H.get at0,none,0,by rw[hwt];rfl,by rw[hwt];exact Rd.nil,by rw[hwt];exact .inl rfl,by rw[hwt];exact qaf _,H.ext⟩
 .intro hA;replace hA:=Bv hA;rw[if_neg (by simpa using hA)]at hwt;obtain⟨ng,hng⟩:=qD (Ea A fr P.length root);rw[<-hng]at hwt hN;refine Aq (Aa (Ar (Ad (An U (Ae U ?_)))));have hb4w:=H.lt (k:=1) rfl;have hb5w:=H.lt (k:=0) rfl;refine Ah qB (Wk bt b5 root _) U ?_;rintro v w3 ⟨x3,x4,x5,rfl,⟨t4,hx4⟩,⟨t3,hx3⟩,⟨t5,hx5⟩,n4,n3,n5,hxn⟩;replace H:=H.call hxn;refine qA (AD (GW U qB ?_));intro fn tmps hts htm Db l w2 hDb hl hx2 hD hrec;obtain⟨lo,hlo,hrec'⟩:∃lo,lo=_/\w2.heap[l]?=some (.loop lo):=⟨_,rfl,hrec⟩;have hw03:=H.ext;have hs03:=hw03.size;have hs32:=hx2.size;have up2:∀{b:Nat} {o:Obj},w3.heap[b]?=some o->w2.heap[b]?=some o:=fun{b o} g=>by rw[hx2.block b (Al g) (by simp)];exact g
  have hb4:=H.get at1;have hb5:=H.get at0;have hb45:=H.ne at1 at0 (by decide);have ho4:w0.heap.size<=b4:=(H.own _ (qag _ (qae ..))).elim (fun h=>by cases h) id;have ho5:w0.heap.size<=b5:=(H.own _ (qae ..)).elim (fun h=>by cases h) id;have hl4:=Al hb4;have hl5:=Al hb5;have hxl4:=Al hx4;have hxl3:=Al hx3;have hxl5:=Al hx5;have hN':(Ea A fr P.length root).2.length<=100000:=by rw[<-hng];exact hN
  have JO:JOk bt bd bp ba fr A P F Z0 100000 l (fun v M w=>∃a n c full,GJ w0 bt bd bp ba fr A P F 40 3 1 b4 l lo (v.map fun x=>iv x.1) M w a n c full):=by
   refine⟨fun{v M w} h=>?_,fun{v M w w'} h hx=>?_,fun{v M w} h=>?_,?_⟩
   .obtain⟨a,n,c,full,G⟩:=h;exact G.lt
   .obtain⟨a,n,c,full,G⟩:=h;exact⟨a,n,c,full,G.ext hx⟩
   .obtain⟨a,n,c,full,G⟩:=h;exact G.tx
   .rintro v M w page i a7 n7 c7 L7 ⟨a,n,c,full,G⟩ hv I hL hLb hpg;have hn:n=v.length:=by have:=G.os.num;exact this
    have hloop:=G.loop;subst hlo;refine Km hloop U (HR _ (Nn hts htm) ?_);refine Av (Ac U (Ab (Ky hloop U ?_)));intro wR lo2 hxR hlR hlo2;have H:=G.body hxR;have O:=G.os;refine AD (Av (AG Jb U H at0 U (Ae U (BP [.int .i64 page] (.int .i64 page) Fv GZ Yb U U U U H ?_))));rintro b21 w - H;refine Cf (L:=[_]) Fv Fv GZ by_3 Yb U U U H O U (by simp[Bg]) ?_;rintro a22 c22 f22 w H O22;refine Bc (.slice _ _ _) Q5 U U U H at0 (by(simp;done)) ?_;rintro w H;refine Ab (AF ?_);have H9:=H
    have hlE:w.heap[l]?=some (.loop lo2):=by
     rw[H9.ext.block l (Al hlR) fun h=>?_]
     .exact hlR
     .obtain⟨y,hy,he⟩:=qah.1 h;exact(G.blk y hy).2.2 he
    refine HJ hlE hlo2 U U ?_;intro wF hxF hlF;have O23:OS a22 (n+1) c22 1 f22 ((v++[(page,i,L7)]).map fun x=>iv x.1):=by rw[qaz];exact O22
    obtain⟨G9,g9⟩:=G.next h0 (by omega) hxR H9 O23 hxF hlF
    exact⟨rfl,_,⟨a22,n+1,c22,f22,G9⟩,g9⟩
  have hJ0:(fun(v:List Nd) (M:Mut) (w:World)=>∃a n c full,GJ w0 bt bd bp ba fr A P F 40 3 1 b4 l lo (v.map fun x=>iv x.1) M w a n c full) [] (fun x=>x=l\/x∈((b4,Bl 40 [.slice none 0 0])::ent none 3 []).map (·.1)) w2:=by
   refine⟨none,0,0,[],rfl,T.call (hw03.trans hx2),hrec',fun y hy=>?_,qei ..,OS.nil⟩;rw[qaa.1 hy];exact⟨up2 hb4,ho4,by dsimp only;omega⟩
  have hnM:∀x,x≠l->x≠b4->¬(x=l\/x∈((b4,Bl 40 [.slice none 0 0])::ent none 3 []).map (·.1)):=fun x h1 h2 h=>by
   rcases h with h|h
   .exact h1 h
   .exact h2 (by simpa[ent]using h)
  refine Ret.mono (TG JO hfr hfew hmx hJ0 (fun x h=>h.elim) (up2 hx4) (up2 hx3) (up2 hx5) (up2 hb5) (hnM _ (by omega) (by omega)) (hnM _ (by omega) (by omega)) (hnM _ (by omega) (by omega)) (hnM _ (by omega) (Ne.symm hb45)) hr1 hr2 hN') ?_;rintro v w4 ⟨wx,Mx,⟨a,n,c,full,G⟩,gx,hx5w,he5⟩;rw[<-hng]at G he5;have hloop:=G.loop;have hb5l:b5≠l:=by omega
  have hx1:w4.heap[l]?=some (.loop lo):=by rw[hx5w.block l (Al hloop) (by simpa using fun h=>hb5l h.symm)];exact hloop
  refine⟨_,hx1,by subst hlo;exact(fun h=>by cases h),Hj (by rw[hlo]) ?_⟩;have hx6:=Ext.setB w4 l (.loop { lo with state := .exhausted });generalize w4.putObj l (.loop { lo with state := .exhausted })=w6 at hx6 |-
  have hEnt:∀y∈(b4,Bl 40 [.slice a n c])::ent a 3 full,w6.heap[y.1]?=some y.2:=fun y hy=>by
   have h1:=G.blk y hy
   have h2:y.1≠b5:=fun e=>by
    rcases gx.2 y.1 (by rw[G.M];exact .inr (qah.2 ⟨y,hy,rfl⟩))with h|h
    .exact hnM y.1 h1.2.2 (fun e4=>hb45 (e4 ▸ e)) h
    .omega
   rw[hx6.block y.1 (qat (Al h1.1) hx5w.size) (by simpa using h1.2.2),hx5w.block y.1 (Al h1.1) (by simpa using h2)];exact h1.1
  have hb56:w6.heap[b5]?=some (Bl 28 [.int .i64 ng.1]):=by
   rw[hx6.block b5 (Al he5) (by simpa using hb5l)];exact he5
  obtain⟨⟨Sg,hSg,hxg⟩,hgg⟩:=gx;have hsx:=hxg.size;have hs45:=hx5w.size;have hs46:=hx6.size;have hM2:∀x,(x=l\/x∈((b4,Bl 40 [.slice none 0 0])::ent none 3 []).map (·.1))->x=l\/x=b4:=fun x h=>h.imp id fun h=>by simpa[ent]using h
  have E06:Ext [] w0 w6:=(((hw03.trans hx2).then hxg fun x h => .inr (by rcases hM2 x (hSg x h)with h|h <;> omega)).then hx5w fun x h => .inr (by rw[qaa.1 h];exact ho5)).then hx6 fun x h => .inr (by rw[qaa.1 h];omega)
  have hD6:w6.heap[Db]?=some (.deferred (some [])):=by
   rw[hx6.block Db (by have:=Al hD;omega) (by rw[qaa];omega),hx5w.block Db (by have:=Al hD;omega) (by rw[qaa];omega),hxg.block Db (Al hD) fun h=>by rcases hM2 _ (hSg _ h)with h|h <;> omega];exact hD
  have hEne:∀y∈(b4,Bl 40 [.slice a n c])::ent a 3 full,b5≠y.1:=fun y hy e=>by
   have h1:=G.blk y hy
   rcases hgg y.1 (by rw[G.M];exact .inr (qah.2 ⟨y,hy,rfl⟩))with h|h
   .rcases hM2 _ h with h|h
    .exact hb5l (e.trans h)
    .exact hb45 (h ▸ e ▸ U)
   .omega
  have hEge:∀x∈(((b5,Bl 28 [.int .i64 ng.1])::(b4,Bl 40 [.slice a n c])::ent a 3 full).map (·.1)),w0.heap.size<=x/\x≠Db:=fun x h=>by
   obtain⟨y,hy,rfl⟩:=qah.1 h
   rcases qab.1 hy with rfl|hy
   .exact⟨ho5,by dsimp only;omega⟩
   .refine⟨(G.blk y hy).2.1,fun e=>?_⟩;have h1:=hEnt y hy;rw[e,hD6]at h1
    rcases qab.1 hy with rfl|hy
    .cases h1
    .cases ha:a with
     |none=>rw[ha]at hy;cases hy
     |some q=>rw[ha]at hy;rw[qaa.1 hy]at h1;cases h1
  have H:=Ctx.startL (L:=(b5,Bl 28 [.int .i64 ng.1])::(b4,Bl 40 [.slice a n c])::ent a 3 full) (w:=w6) (fun y hy=>by
   rcases qab.1 hy with rfl|hy
   .exact hb56
   .exact hEnt y hy) (qbj.2 ⟨hEne,G.nd⟩)
  have hnn:n=ng.2.length:=by have:=G.os.num;exact this
  have hDn:Db∉(((b5,Bl 28 [.int .i64 ng.1])::(b4,Bl 40 [.slice a n c])::ent a 3 full).map (·.1)):=fun h=>(hEge Db h).2 rfl;refine AF (Aa (Ar (Ad (AG Ev U H at0 U (AZ U U (qA (Au _ U ?_ ?_)))))))
  .intro hB;replace hB:=Bu hB;rw[if_pos hB]at hwt;refine BR [([0],1),([],2)] (fun z=>z.heap[b5]?=some (Bl 28 [.int .i64 ng.1])) [2] mixed (H.drew.get at0) (AB U U ?_);refine BJ Ev U (fun _ hx=>(by rw[Ap hx];rfl)) ?_;refine Bm ?_;replace H:=H.drew;refine Bc (.slice _ _ _) Q5 U U U H at1 (by(simp;done)) ?_;rintro w H;refine Ab (Bb (H.get at0) (AB U U ?_));refine Bm (Bc (.int _ _) Fw U U U H at0 (by(simp;done)) ?_);rintro w H;refine Ab (CR U (B3 (Ax (Ao (GK U U U Jb Ev (KC H hD6 hDn U fun wF hxF hkF=>?_))))));exact⟨_,_,_,_,_,_,hkF _ _ _ (H.get at1),hkF _ _ _ (H.get at0),none,0,by rw[hwt];rfl,by rw[hwt];exact Rd.nil,by rw[hwt];exact .inl rfl,by rw[hwt];exact qaf _,(E06.then H.ext fun x h => .inr (hEge x h).1).then hxF fun x h => .inr (by rw[qaa.1 h];omega)⟩
  .intro hB;replace hB:=Bv hB;have hB':ng.1=0:=by simpa using hB
   rw[if_neg (by simpa using hB)]at hwt;have O9:OS a n c 1 full ((ng.2.map (·.1)).map iv):=by rw[qbf];exact G.os
   refine Aq (Aa (Ad (AG Jb U H at1 U (Ah qB (Agk (t:=3) O9 (fun y hy=>H.blk y (qag _ (qag _ hy))) (by rw[qal];omega)) U ?_))));rintro v w7 ⟨rfl,full',hf7,O7,hx7⟩;have H7:Ctx w6 _ w7 ((b5,Bl 28 [.int .i64 ng.1])::(b4,Bl 40 [.slice a n c])::ent a 3 full'):=H.sorted hf7 hx7 (fun y hy=>(qbj.1 G.nd).1 y hy) (fun y hy=>hEne y (qag _ hy)) rfl;replace H:=H7;refine qA (Ad (AG Jb U H at1 U (Bc (.slice _ _ _) Q5 U U U H at1 (by(simp;done)) ?_)));rintro w H;refine Bc (.int _ _) Fw U U U H at0 (by(simp;done)) ?_;rintro w H;refine qA (Ax ?_);have hs9:(Ik (ng.2.map (·.1))).length=n:=by rw[qco,qal,hnn]
   refine GK U U U Jb Ev (KC H hD6 hDn U fun wF hxF hkF=>?_);refine⟨_,_,_,_,_,_,hkF _ _ _ (H.get at1),hkF _ _ _ (H.get at0),a,c,by rw[hwt,hs9],?_,?_,?_,(E06.then H.ext fun x h => .inr (hEge x h).1).then hxF fun x h => .inr (by rw[qaa.1 h];omega)⟩
   .rw[hwt]
    exact OS.rd1 (t:=3) (f:=iv) O7 fun y hy=>by
     have h1:=H.blk y (qag _ (qag _ hy))
     cases ha:a with
     |none=>rw[ha]at hy;cases hy
     |some q =>
      rw[ha]at hy;rw[qaa.1 hy]at h1 |-;exact hkF _ _ _ h1
   .rw[hwt]
    cases ha:a with
    |none =>
     left;have h8:=O7.none' ha;have h9:=O7.le;exact qa9 (by rw[hs9];omega)
    |some q =>
     right;have h8:=(hEge q.block (by rw[ha];simp[ent])).1;obtain⟨qb,qo,qs⟩:=q;exact h8
   .rw[hwt,hs9];exact O7.le
def prI(x:It):Pr:=(x.key,x.val)
def LU(kf:Byt)(i:Bool)(l:List It):List Pr:=if i=true then[]else(l.filter fun x=>decide (0<=DE x.key kf)).map prI
def KE(kf:Byt)(v:List Nd):List Pr:=v.flatMap fun x=>LU kf x.2.1 x.2.2
def Wn(kt:Byt)(L:List Pr):List Pr:=if kt=[]then L else L.takeWhile fun p=>decide (DE p.1 kt<0)
def Nz(A:Dev)(fr sz:Nat)(root:Int)(kf kt:Byt):Int × List Pr :=
 if Hr sz root≠0 then(1,[])else if(Ea A fr sz root).1≠0 then((Ea A fr sz root).1,[])else(0,Wn kt (KE kf (Ea A fr sz root).2))
def LD(m:Im):List Value:=[.slice m.ka m.it.key.length m.kc,.slice m.va m.it.val.length m.vc]
theorem KF(m:Im):∀v∈LD m,Bg v=true:=fun v hv=>by
 simp only[LD,qab,qaj,or_false]at hv
 rcases hv with rfl|rfl <;> rfl
structure Prs(w:World)(M:Mut)(a:Option Addr)(n c:Nat)(L:List Pr):Prop where
 ex:∃ps:List Im,Rd w a 2 LD ps/\(ps=[]\/¬M (adr a).block)/\ps.map (fun m=>prI m.it)=L/\∀m∈ps,m.Ok w M
 num:n=L.length
 le:n<=c
theorem Rdx.read{w w':World}{M:Mut}{a:Option Addr}{l:Byt}{S:List Nat}(X:Rdx w M a l)(hx:Ext S w w')(hS:∀x∈S,M x):Rd w' a 1 B8 l:=by
 obtain⟨R,hn⟩:=X
 rcases hn with rfl|hn
 .exact Rd.nil
 .exact R.ext hx fun h=>hn (hS _ h)
theorem Yv{kf:Byt}{i:Bool}{l:List It}{k:Nat}{x:It}(h:l[k]?=some x):LU kf i (l.take (k+1))=LU kf i (l.take k)++if(decide (i=false) && decide (0<=DE x.key kf))=true then[prI x]else[]:=by
 unfold LU
 cases i with
 |true=>simp
 |false =>
  simp only[qdk,if_false,decide_true,Bool.true_and,qap];rw[Bx h,qbo,qaz]
  congr 1
  by_cases hc:0<=DE x.key kf
  .rw[if_pos hc,qbt,qam hc];rfl
  .rw[if_neg hc,qbt,qai hc];rfl
theorem UT{α:Type}{p:α->Bool}:∀{L:List α} {i:Nat},(∀(j:Nat) (x:α),j<i->L[j]?=some x->p x=true)->(∀x,L[i]?=some x->p x=false)->L.takeWhile p=L.take i
 | [],i,_,_=>by simp
 |x::L,0,_,h=>by rw[qcy,h x rfl];rfl
 |x::L,i+1,h1,h2=>by
  rw[qcy,h1 0 x (by omega) rfl,qeu];simp only[if_true];rw[UT (i:=i) (fun j y hj hy=>h1 (j+1) y (by omega) (by simpa using hy)) fun y hy=>h2 y (by simpa using hy)]
theorem Agl{wx z:World}{Mx:Mut}{w0 w2:World}{S':List Nat}{ps:List Im}(hok:∀m∈ps,m.Ok wx (MZ Mx (Old w2)))(hx:Ext S' wx z)(hS:∀x∈S',Mx x\/x<w2.heap.size)(hle:w0.heap.size<=w2.heap.size):∀m∈ps,m.Ok z (Old w0):=fun m hm =>
 (hok m hm).turn ⟨⟨S',fun x h=>hS x h,hx⟩,fun _ h => .inl (.inr (qat h hle))⟩
structure SJ(w0:World)(bt bd bp ba fr:Nat)(A:Dev)(P:List Nat)(F:Mut)(b l:Nat)(lo:Loop)(b6:Nat)(o6:Obj)(Z:Mut)(kf:Byt)(v:List Nd)(M:Mut)(w:World)(a:Option Addr)(n c:Nat)(full:List Value)(ps:List Im):Prop where
 G:GJ w0 bt bd bp ba fr A P F 36 68 2 b l lo (ps.flatMap LD) M w a n c full
 x0:Ext [] w0 w
 prs:ps.map (fun m=>prI m.it)=KE kf v
 ok:∀m∈ps,m.Ok w (MZ M Z)
 h6:w.heap[b6]?=some o6
 n6:¬M b6
theorem SJ.ext{w0 w w':World}{bt bd bp ba fr:Nat}{A:Dev}{P:List Nat}{F:Mut}{b l:Nat}{lo:Loop}{b6:Nat}{o6:Obj}{Z:Mut}{kf:Byt}{v:List Nd}{M:Mut}{a:Option Addr}{n c:Nat}{full:List Value}{ps:List Im}(S:SJ w0 bt bd bp ba fr A P F b l lo b6 o6 Z kf v M w a n c full ps)(hx:Ext [] w w'):SJ w0 bt bd bp ba fr A P F b l lo b6 o6 Z kf v M w' a n c full ps :=
 ⟨S.G.ext hx,S.x0.trans hx,S.prs,fun m hm=>(S.ok m hm).call hx,by rw[hx.block b6 (Al S.h6) (by simp)];exact S.h6,S.n6⟩
theorem Agm{fr:Nat}{w:World}{bt bd bp ba:Nat}{A:Dev}{P:List Nat}{F:Mut}(T:Tx w bt bd bp ba fr A P F [])(root:Int)(fa ta:Option Addr)(fc tc fn' tn:Nat)(kf kt:Byt)(Rf:Rd w fa 1 B8 kf)(hfn:kf.length=fn')(Rt:Rd w ta 1 B8 kt)(htn:kt.length=tn){mx:Nat}(hfew:Few A mx)(hmx:mx<=1000000000)(hN:(Ea A fr P.length root).2.length<=100000)(hfr:fr<=5000:=by decide)(hr1: -9223372036854775808<=root:=by omega)(hr2:root<=9223372036854775807:=by omega):
  Ret prog 100 #[ptr bt,.int .i64 root,.slice fa fn' fc,.slice ta tn tc] w fun v w'=>∃a c,v=.tuple #[.slice a (Nz A fr P.length root kf kt).2.length c,.int .i64 (Nz A fr P.length root kf kt).1]/\Prs w' (Old w) a (Nz A fr P.length root kf kt).2.length c (Nz A fr P.length root kf kt).2/\Ext [] w w':=by
 subst hfn htn;obtain⟨w0,rfl⟩:=qD w;obtain⟨wt,hwt⟩:=qD (Nz A fr P.length root kf kt);rw[<-hwt];unfold Nz at hwt;have h0:=T.mlt;have H:=Ctx.start w0 [];refine Ja (fn:=f100) func100 U [.pointer (some ⟨bt,0,none⟩),.int .i64 root,.slice fa kf.length fc,.slice ta kt.length tc] U ?_;refine Ad (Co _ (.slice _ _ _) U U H ?_);rintro b6 w - H;refine Be zc_36 H ?_;rintro b8 w - H;refine Be VJ H ?_;rintro b9 w - H;refine qA (Ar (Ad (An U (Ae U (Ah qB (PB (T.call H.ext) root) U ?_)))));rintro v w2 ⟨rfl,rfl⟩;refine Ac U (qA (Ad (Ae U (AZ U U (qA (Au _ U ?_ ?_))))))
 .intro hA;replace hA:=Bu hA;rw[if_pos hA]at hwt;have he:Hr P.length root=1:=by unfold Hr at hA |-;split <;> simp_all
  rw[he];refine Ad (Ae U (Bc (.slice _ _ _) VF U U U H at1 (by decide) ?_));rintro w H;refine Bc (.int _ _) Fw U U U H at0 (by decide) ?_;rintro w H;refine qA (Ax (Ao (GK U U U OV Ev ?_)));exact⟨_,_,_,_,_,_,H.get at1,H.get at0,none,0,by rw[hwt];rfl,by rw[hwt];exact⟨⟨[],Rd.nil,.inl rfl,rfl,fun m h=>by cases h⟩,rfl,qaf _⟩,H.ext⟩
 .intro hA;replace hA:=Bv hA;rw[if_neg (by simpa using hA)]at hwt;obtain⟨ng,hng⟩:=qD (Ea A fr P.length root);rw[<-hng]at hwt hN;refine Aq (Aa (Ar (Ad (An U (Ae U ?_)))));have hb8w:=H.lt (k:=1) rfl;have hb9w:=H.lt (k:=0) rfl;have hb6w:=H.lt (k:=2) rfl;refine Ah qB (Wk bt b9 root _) U ?_;rintro v w3 ⟨x3,x4,x5,rfl,⟨t4,hx4⟩,⟨t3,hx3⟩,⟨t5,hx5⟩,n4,n3,n5,hxn⟩;replace H:=H.call hxn;refine qA (AD (GW U qB ?_));intro fn tmps hts htm Db l w2 hDb hl hx2 hD hrec;obtain⟨lo,hlo,hrec'⟩:∃lo,lo=_/\w2.heap[l]?=some (.loop lo):=⟨_,rfl,hrec⟩;have hw03:=H.ext;have hs03:=hw03.size;have hs32:=hx2.size;have up2:∀{b:Nat} {o:Obj},w3.heap[b]?=some o->w2.heap[b]?=some o:=fun{b o} g=>by rw[hx2.block b (Al g) (by simp)];exact g
  have hb8:=H.get at1;have hb9:=H.get at0;have hb6:=H.get at2;have hb89:=H.ne at1 at0 (by decide);have hb68:=H.ne at2 at1 (by decide);have ho8:w0.heap.size<=b8:=(H.own _ (qag _ (qae ..))).elim (fun h=>by cases h) id;have ho9:w0.heap.size<=b9:=(H.own _ (qae ..)).elim (fun h=>by cases h) id;have hl8:=Al hb8;have hl9:=Al hb9;have hl6:=Al hb6;have hxl4:=Al hx4;have hxl3:=Al hx3;have hxl5:=Al hx5;have hN':(Ea A fr P.length root).2.length<=100000:=by rw[<-hng];exact hN
  have JO:JOk bt bd bp ba fr A P F (Old w2) 100000 l (fun v M w=>v.length<=100000/\∃a n c full ps,n<=65535*v.length/\SJ w0 bt bd bp ba fr A P F b8 l lo b6 (Bl 24 [.slice fa kf.length fc]) (Old w2) kf v M w a n c full ps):=by
   refine⟨fun{v M w} h=>?_,fun{v M w w'} h hx=>?_,fun{v M w} h=>?_,?_⟩
   .obtain⟨-,a,n,c,full,ps,-,S⟩:=h;exact S.G.lt
   .obtain⟨hv,a,n,c,full,ps,hn,S⟩:=h;exact⟨hv,a,n,c,full,ps,hn,S.ext hx⟩
   .obtain⟨-,a,n,c,full,ps,-,S⟩:=h;exact S.G.tx
   .rintro v M wJ page i a7 n7 c7 L7 ⟨hvl,a,n,c,full,ps,hnv,S⟩ hv I hL hLb hpg;have G:=S.G;have hloop:=G.loop;obtain⟨ms,R7,hR7,hl7,hok7⟩:=I.ex;have hn7:=I.num;have hml7:ms.length=n7:=by rw[hn7,<-hl7,qal]
    subst hlo;refine Km hloop U (HR _ (Nn hts htm) ?_);have H:=Ctx.start wJ [];refine Av (Be Cb H ?_);rintro b12 w - H;refine Bi Ba U U U (by simp[Bg]) H at0 U ?_;rintro w H;refine Ab ?_;have hxa:=H.ext;have SA:=S.ext hxa;have GA:=SA.G;refine Ky GA.loop U ?_;intro wR lo2 hxR hlR hlo2;have hb12:=H.get at0;have ho12:wJ.heap.size<=b12:=(H.own _ (qae ..)).elim (fun h=>by cases h) id
    have hb12R:wR.heap[b12]?=some (NBl i a7 n7 c7):=by
     rw[hxR.block b12 (Al hb12) (by rw[qaa];have:=Al hloop;omega)];exact hb12
    have n12:b12∉((b8,Bl 36 [.slice a n c])::ent a 68 full).map (·.1):=fun h=>by
     obtain⟨y,hy,he⟩:=qah.1 h;have:=Al (G.blk y hy).1;omega
    have hb6R:wR.heap[b6]?=some (Bl 24 [.slice fa kf.length fc]):=by
     rw[hxR.block b6 (Al SA.h6) (by rw[qaa];omega)];exact SA.h6
    have n6:b6∉((b8,Bl 36 [.slice a n c])::ent a 68 full).map (·.1):=fun h=>S.n6 (by rw[G.M];exact .inr h);have H:=GA.body hxR
    have hMl:∀x∈l::((b8,Bl 36 [.slice a n c])::ent a 68 full).map (·.1),M x/\w0.heap.size<=x:=fun x h=>by
     rw[G.M]
     rcases qab.1 h with rfl|h
     .exact⟨.inl rfl,by omega⟩
     .obtain⟨y,hy,he⟩:=qah.1 h;exact⟨.inr h,by rw[<-he];exact(G.blk y hy).2.1⟩
    have hxw:∀{z:World},Ext (((b8,Bl 36 [.slice a n c])::ent a 68 full).map (·.1)) wR z->Ext (l::((b8,Bl 36 [.slice a n c])::ent a 68 full).map (·.1)) wJ z:=fun{z} hz=>((hxa.mono (by simp)).trans (hxR.mono (fun x h=>by rw[qaa.1 h];exact qae ..))).trans (hz.mono fun x h=>qag _ h);have k12:∀{z:World},Ext (((b8,Bl 36 [.slice a n c])::ent a 68 full).map (·.1)) wR z->z.heap[b12]?=some (NBl i a7 n7 c7):=fun{z} hz=>by rw[hz.block b12 (Al hb12R) n12];exact hb12R
    have k6:∀{z:World},Ext (((b8,Bl 36 [.slice a n c])::ent a 68 full).map (·.1)) wR z->z.heap[b6]?=some (Bl 24 [.slice fa kf.length fc]):=fun{z} hz=>by rw[hz.block b6 (Al hb6R) n6];exact hb6R
    have kR:∀{z:World},Ext (((b8,Bl 36 [.slice a n c])::ent a 68 full).map (·.1)) wR z->Rd z a7 3 Im.enc ms:=fun{z} hz=>by
     rcases hR7 with h|h
     .rw[h];exact Rd.nil
     .exact R7.ext (hxw hz) fun h5=>h (.inl (hMl _ h5).1)
    have kF:∀{z:World},Ext (((b8,Bl 36 [.slice a n c])::ent a 68 full).map (·.1)) wR z->Rd z fa 1 B8 kf:=fun{z} hz=>Rf.ext0 (S.x0.then (hxw hz) fun x h => .inr (hMl x h).2);refine AD (Ad (Af Bq U (Bf BK U ((by rw[Ap (k12 H.ext)];rfl)) ?_)));refine AO Br U (Ae U (qA (AD (BF 18014396362014720 (α:=Nat × Option Addr × Nat × Nat × List Value × List Im) (fun s=>[(31,.int .i64 (s.1:Int))]) (fun s w'=>s.1<=n7/\s.2.2.1<=n+s.1/\Ctx wR (((b8,Bl 36 [.slice a n c])::ent a 68 full).map (·.1)) w' ((b8,Bl 36 [.slice s.2.1 s.2.2.1 s.2.2.2.1])::ent s.2.1 68 s.2.2.2.2.1)/\OS s.2.1 s.2.2.1 s.2.2.2.1 2 s.2.2.2.2.1 (s.2.2.2.2.2.flatMap LD)/\s.2.2.2.2.2.map (fun m=>prI m.it)=KE kf v++LU kf i (L7.take s.1)/\∀m∈s.2.2.2.2.2,m.Ok wJ (MZ M (Old w2))) (fun s=>n7 - s.1) (0,a,n,c,full,ps) U ?_ ?_ ?_))))
    .exact⟨rfl,trivial⟩
    .exact⟨qak _,qaf _,H,G.os,by dsimp only;rw[S.prs];unfold LU;simp,S.ok⟩
    .rintro⟨k,a2,n2,c2,full2,ps2⟩ j w' ⟨hk,hn2,H2,O2,hps2,hok2⟩;dsimp only at hk hn2 H2 O2 hps2 hok2;dsimp only;have H:=H2;have Rk:=kR H.ext;refine Ad (Bt U U (qA (Ar (Au _ U ?_ ?_))))
     .intro hB;replace hB:=AU hB;obtain⟨x,hx1⟩:=AR (l:=ms) (i:=k);have hxL:=Im.at hl7 hx1;have hxo:=hok7 x (qad hx1);have hxb:=hLb x.it (qad hxL);have hsn:=Yv (kf:=kf) (i:=i) hxL;refine Aq (Aa (Ar (AD (Ad (Bj Rk Br Bh U U ?_)))));refine EL _ Dd Bh U U (Rk.row hx1 U) (Be Cr H ?_);rintro b14 w - H;refine Bi Bh U U U (by exact Im.oneE _) H at0 U ?_;rintro w H;refine qA ?_;obtain⟨wq,rfl⟩:=qD w;have Rx:=hxo.k.read (hxw H.ext) fun z hz => .inl (hMl z hz).1;refine Ad (BB (α:=Unit) 35150012350464 (fun _=>[(44,.bool (decide (i=false) && decide (0<=DE x.it.key kf)))]) (fun _ w'=>wq=w') U ?_ ?_)
      .refine Af Dl U (Bf Gx U ((by rw[Ap (k12 H.ext)];rfl)) ?_);refine Cl U (AC U (AX 38 U ?_ ?_))
       .intro h1;replace h1:=CJ h1;refine Af EZ U (AG BL U H at0 U (Bf BL U ((by rw[Ap (k6 H.ext)];rfl)) ?_));refine Ah qB (Ib x.ka fa x.kc fc _ _ x.it.key kf Rx (kF H.ext) U U) U ?_;rintro v5 w5 ⟨rfl,rfl⟩;refine HN U U (AQ U (.bool _) U (Ab ?_));exact⟨rfl,(),rfl,⟨qac Value.bool (by(rw[h1];rfl)),trivial⟩,rfl⟩
       .intro h2;replace h2:=CK h2;refine Ak U (Ak U (Ak U (Ak U (Ak U (AN U (.bool _) U (Ab ?_))))));exact⟨rfl,(),rfl,⟨qac Value.bool (by(rw[h2];rfl)),trivial⟩,rfl⟩
      rintro - j44 w rfl;refine Au _ U ?_ ?_
      .intro hC;rw[if_pos hC]at hsn;refine Av (AG OV U H at1 U (Af EZ U (AG BL U H at0 U (Af Ks U (AG BL U H at0 U (B0 [.slice x.ka x.it.key.length x.kc,.slice x.va x.it.val.length x.vc] Aey Ku ?_))))));refine BP [.slice x.ka x.it.key.length x.kc,.slice x.va x.it.val.length x.vc] (.agg _) EU FV Ku U U U U H ?_;rintro b51 w - H;refine Cf (L:=[_,_]) EU EU FV Aj0 Ku U U U H O2 U (KF x) ?_;rintro a52 c52 f52 w H O52;refine Bc (.slice _ _ _) VF U U U H at1 (by(simp;done)) ?_;rintro w H;refine Ab (AF (Aa (Av (AA U U ?_))));refine Ae U (qA ?_)
       refine⟨(k+1,a52,n2+1,c52,f52,ps2++[x]),rfl,⟨rfl,trivial⟩,⟨by dsimp only;omega,by dsimp only;omega,H.tail,by dsimp only;rw[qbp,qc7];exact O52,by dsimp only;rw[qaz,hsn,hps2,qa0];rfl,fun m hm=>?_⟩,by dsimp only;omega⟩;dsimp only at hm
       rcases qau.1 hm with hm|hm
       .exact hok2 m hm
       .rw[qaa.1 hm];exact hxo
      .intro hC;rw[if_neg (by rw[hC];simp),qa2]at hsn;refine Aq (AF (Aa (Av (AA U U ?_))));refine Ae U (qA ?_);exact⟨(k+1,a2,n2,c2,full2,ps2),rfl,⟨rfl,trivial⟩,⟨by dsimp only;omega,by dsimp only;omega,H.tail,O2,by dsimp only;rw[hsn];exact hps2,hok2⟩,by dsimp only;omega⟩
     .intro hB;replace hB:=AV hB;have hii:k=n7:=by omega
      rw[qa5 (by omega)]at hps2;refine B9 (A8 (A8 (Bd (AF ?_))))
      have hlE:w'.heap[l]?=some (.loop lo2):=by
       rw[H.ext.block l (Al hlR) fun h=>?_]
       .exact hlR
       .obtain⟨y,hy,he⟩:=qah.1 h;exact(G.blk y hy).2.2 he
      refine HJ hlE hlo2 U U ?_;intro wF hxF hlF
      obtain⟨G9,g9⟩:=GA.next h0 (by omega) hxR H O2 hxF hlF
      have gg9:=(Grown.call0 hxa).trans g9;obtain⟨⟨S9,hS9,hx9⟩,-⟩:=id g9;refine⟨rfl,_,⟨by simp;omega,a2,n2,c2,full2,ps2,by rw[qan,qbu];omega,G9,SA.x0.then hx9 fun x h => .inr ?_,?_,fun m hm=>(hok2 m hm).turn (gg9.or _),gg9.keep S.h6 S.n6,fun h=>(gg9.2 b6 h).elim S.n6 fun h5=>by have:=Al S.h6;omega⟩,gg9⟩
      .have h5:=hS9 x h;rw[G.M]at h5
       rcases h5 with h5|h5
       .omega
       .obtain⟨y,hy,he⟩:=qah.1 h5;have:=(G.blk y hy).2.1;omega
      .rw[hps2];unfold KE;simp
  have hJ0:(fun(v:List Nd) (M:Mut) (w:World)=>v.length<=100000/\∃a n c full ps,n<=65535*v.length/\SJ w0 bt bd bp ba fr A P F b8 l lo b6 (Bl 24 [.slice fa kf.length fc]) (Old w2) kf v M w a n c full ps) [] (fun x=>x=l\/x∈((b8,Bl 36 [.slice none 0 0])::ent none 68 []).map (·.1)) w2:=by
   refine⟨by simp,none,0,0,[],[],qak _,⟨rfl,T.call (hw03.trans hx2),hrec',fun y hy=>?_,qei ..,OS.nil⟩,hw03.trans hx2,rfl,(fun m hm=>by cases hm),up2 hb6,fun h=>?_⟩
   .rw[qaa.1 hy];exact⟨up2 hb8,ho8,by dsimp only;omega⟩
   .rcases h with h|h
    .omega
    .exact hb68 (by simpa[ent]using h)
  have hnM:∀x,x≠l->x≠b8->¬(x=l\/x∈((b8,Bl 36 [.slice none 0 0])::ent none 68 []).map (·.1)):=fun x h1 h2 h=>by
   rcases h with h|h
   .exact h1 h
   .exact h2 (by simpa[ent]using h)
  refine Ret.mono (TG JO hfr hfew hmx hJ0 (fun x h=>h) (up2 hx4) (up2 hx3) (up2 hx5) (up2 hb9) (hnM _ (by omega) (by omega)) (hnM _ (by omega) (by omega)) (hnM _ (by omega) (by omega)) (hnM _ (by omega) (Ne.symm hb89)) hr1 hr2 hN') ?_;rintro v w4 ⟨wx,Mx,⟨-,a,n,c,full,ps,hnv,S⟩,gx,hx9w,he9⟩;rw[<-hng]at S he9 hnv;have G:=S.G;have hloop:=G.loop;have hb9l:b9≠l:=by omega
  have hl1:w4.heap[l]?=some (.loop lo):=by rw[hx9w.block l (Al hloop) (by simpa using fun h=>hb9l h.symm)];exact hloop
  refine⟨_,hl1,by subst hlo;exact(fun h=>by cases h),Hj (by rw[hlo]) ?_⟩;have hx6:=Ext.setB w4 l (.loop { lo with state := .exhausted });generalize w4.putObj l (.loop { lo with state := .exhausted })=w6 at hx6 |-
  have hEnt:∀y∈(b8,Bl 36 [.slice a n c])::ent a 68 full,w6.heap[y.1]?=some y.2:=fun y hy=>by
   have h1:=G.blk y hy
   have h2:y.1≠b9:=fun e=>by
    rcases gx.2 y.1 (by rw[G.M];exact .inr (qah.2 ⟨y,hy,rfl⟩))with h|h
    .exact hnM y.1 h1.2.2 (fun e4=>hb89 (e4 ▸ e)) h
    .omega
   rw[hx6.block y.1 (qat (Al h1.1) hx9w.size) (by simpa using h1.2.2),hx9w.block y.1 (Al h1.1) (by simpa using h2)];exact h1.1
  have hb96:w6.heap[b9]?=some (Bl 28 [.int .i64 ng.1]):=by
   rw[hx6.block b9 (Al he9) (by simpa using hb9l)];exact he9
  obtain⟨⟨Sg,hSg,hxg⟩,hgg⟩:=gx;have hsx:=hxg.size;have hs45:=hx9w.size;have hs46:=hx6.size;have hM2:∀x,(x=l\/x∈((b8,Bl 36 [.slice none 0 0])::ent none 68 []).map (·.1))->x=l\/x=b8:=fun x h=>h.imp id fun h=>by simpa[ent]using h
  have E46:Ext [b9,l] wx w6:=(hx9w.mono (by simp)).trans (hx6.mono (by simp));have E06:Ext [] w0 w6:=S.x0.then E46 fun x h => .inr (by simp only[qab,qaj,or_false]at h;rcases h with rfl|rfl <;> omega)
  have hD6:w6.heap[Db]?=some (.deferred (some [])):=by
   rw[hx6.block Db (by have:=Al hD;omega) (by rw[qaa];omega),hx9w.block Db (by have:=Al hD;omega) (by rw[qaa];omega),hxg.block Db (Al hD) fun h=>by rcases hM2 _ (hSg _ h)with h|h <;> omega];exact hD
  have n9:¬Mx b9:=fun h=>(hgg b9 h).elim (hnM _ hb9l (Ne.symm hb89)) fun h=>by omega
  have hEne:∀y∈(b8,Bl 36 [.slice a n c])::ent a 68 full,b9≠y.1:=fun y hy e=>n9 (by rw[G.M];exact .inr (qah.2 ⟨y,hy,e.symm⟩))
  have hEge:∀x∈(((b9,Bl 28 [.int .i64 ng.1])::(b8,Bl 36 [.slice a n c])::ent a 68 full).map (·.1)),w0.heap.size<=x/\x≠Db:=fun x h=>by
   obtain⟨y,hy,rfl⟩:=qah.1 h
   rcases qab.1 hy with rfl|hy
   .exact⟨ho9,by dsimp only;omega⟩
   .refine⟨(G.blk y hy).2.1,fun e=>?_⟩;have h1:=hEnt y hy;rw[e,hD6]at h1
    rcases qab.1 hy with rfl|hy
    .cases h1
    .cases ha:a with
     |none=>rw[ha]at hy;cases hy
     |some q=>rw[ha]at hy;rw[qaa.1 hy]at h1;cases h1
  have H:=Ctx.startL (L:=(b9,Bl 28 [.int .i64 ng.1])::(b8,Bl 36 [.slice a n c])::ent a 68 full) (w:=w6) (fun y hy=>by
   rcases qab.1 hy with rfl|hy
   .exact hb96
   .exact hEnt y hy) (qbj.2 ⟨hEne,G.nd⟩)
  have hDn:Db∉(((b9,Bl 28 [.int .i64 ng.1])::(b8,Bl 36 [.slice a n c])::ent a 68 full).map (·.1)):=fun h=>(hEge Db h).2 rfl;have hnp:n=ps.length:=G.os.numN (fun _ _=>rfl) (by decide)
  -- what was read lives on
  have hlive:∀{z:World},Ext (((b9,Bl 28 [.int .i64 ng.1])::(b8,Bl 36 [.slice a n c])::ent a 68 full).map (·.1)) w6 z->∃S',Ext S' wx z/\∀x∈S',Mx x\/x<w2.heap.size:=fun{z} hz=>by
   refine⟨_,(E46.mono (S':=b9::l::((b9,Bl 28 [.int .i64 ng.1])::(b8,Bl 36 [.slice a n c])::ent a 68 full).map (·.1)) (by simp)).trans (hz.mono fun x h=>qag _ (qag _ h)),fun x h=>?_⟩
   rcases qab.1 h with rfl|h
   .exact .inr (Al (up2 hb9))
   .rcases qab.1 h with rfl|h
    .exact .inl (by rw[G.M];exact .inl rfl)
    .rcases qab.1 h with rfl|h
     .exact .inr (Al (up2 hb9))
     .exact .inl (by rw[G.M];exact .inr h)
  have hDlt:Db<w2.heap.size:=by have:=Al hrec';omega
  have hs02:w0.heap.size<=w2.heap.size:=by omega
  refine AF (Aa (Ar (Ad (AG Ev U H at0 U (AZ U U (qA (Au _ U ?_ ?_)))))))
  .intro hB;replace hB:=Bu hB;rw[if_pos hB]at hwt;refine BR [([0],1),([],2)] (fun z=>z.heap[b9]?=some (Bl 28 [.int .i64 ng.1])) [2] mixed (H.drew.get at0) (AB U U ?_);refine BJ Ev U (fun _ hx=>(by rw[Ap hx];rfl)) ?_;refine Bm ?_;replace H:=H.drew;refine Bc (.slice _ _ _) VF U U U H at1 (by(simp;done)) ?_;rintro w H;refine Ab (Bb (H.get at0) (AB U U ?_));refine Bm (Bc (.int _ _) Fw U U U H at0 (by(simp;done)) ?_);rintro w H;refine Ab (CR U (B3 (Ax (Ao (GK U U U OV Ev (KC H hD6 hDn U fun wF hxF hkF=>?_))))));exact⟨_,_,_,_,_,_,hkF _ _ _ (H.get at1),hkF _ _ _ (H.get at0),none,0,by rw[hwt];rfl,by rw[hwt];exact⟨⟨[],Rd.nil,.inl rfl,rfl,fun m h=>by cases h⟩,rfl,qaf _⟩,(E06.then H.ext fun x h => .inr (hEge x h).1).then hxF fun x h => .inr (by rw[qaa.1 h];omega)⟩
  .intro hB;replace hB:=Bv hB;have hB':ng.1=0:=by simpa using hB
   rw[if_neg (by simpa using hB),<-S.prs]at hwt;obtain⟨PL,hPL⟩:=qD (ps.map fun m=>prI m.it);rw[<-hPL]at hwt;have hnc:=G.os.le;have hPn:PL.length=n:=by rw[hPL,qal,hnp]
   have hres:∀{z wF:World} {i:Nat},Ext (((b9,Bl 28 [.int .i64 ng.1])::(b8,Bl 36 [.slice a n c])::ent a 68 full).map (·.1)) w6 z->(∀y∈ent a 68 full,z.heap[y.1]?=some y.2)->Ext [Db] z wF->(∀(b t:Nat) (l:List Value),z.heap[b]?=some (Bl t l)->wF.heap[b]?=some (Bl t l))->i<=n->Prs wF (Old w0) a i c (PL.take i):=fun{z wF i} hz he hxF hkF hi=>by
    obtain⟨S',hS1,hS2⟩:=hlive hz;have hokF:=Agl S.ok ((hS1.mono (S':=S'++[Db]) fun x h=>qa4 _ h).trans (hxF.mono fun x h=>qax _ h)) (fun x h=>(qau.1 h).elim (hS2 x) fun h => .inr (by rw[qaa.1 h];exact hDlt)) hs02
    have Rz:=OS.rd (t:=68) (w:=wF) G.os (fun y hy=>by
     have h1:=he y hy
     cases ha:a with
     |none=>rw[ha]at hy;cases hy
     |some q =>
      rw[ha]at hy;rw[qaa.1 hy]at h1 |-
      exact hkF _ _ _ h1) (fun _ _=>rfl) (by decide)
    refine⟨⟨ps.take i,Rz.take i,?_,by rw[List.map_take,hPL],fun m hm=>hokF m (qbs hm)⟩,by rw[qa1];omega,qas hi G.os.le⟩
    cases ha:a with
    |none =>
     left;have h8:=G.os.none' ha;have h9:=G.os.le;exact qa9 (by rw[qa1];omega)
    |some q =>
     right;have h8:=(hEge q.block (by rw[ha];simp[ent])).1;obtain⟨qb,qo,qs⟩:=q;exact Nat.not_lt.2 h8
   refine Aq (Aa (Ar (Ad (AG OV U H at1 U (AO EU U (Ae U (qA (AD (BF 302230878442904990351360 (α:=Nat) (fun i=>[(59,.int .i64 (i:Int))]) (fun i w'=>i<=n/\Ctx w6 (((b9,Bl 28 [.int .i64 ng.1])::(b8,Bl 36 [.slice a n c])::ent a 68 full).map (·.1)) w' ((b9,Bl 28 [.int .i64 ng.1])::(b8,Bl 36 [.slice a n c])::ent a 68 full)/\(kt=[]\/∀(j:Nat) (p:Pr),j<i->PL[j]?=some p->DE p.1 kt<0)) (fun i=>n - i) 0 U ?_ ?_ ?_)))))))))
   .exact⟨rfl,trivial⟩
   .exact⟨qak _,H,.inr fun j p h=>absurd h (qcp _)⟩
   .rintro i j w ⟨hi,H5,hlow⟩;have H:=H5;have Rp:=OS.rd (t:=68) (w:=w) G.os (fun y hy=>H.blk y (qag _ (qag _ hy))) (fun _ _=>rfl) (by decide);refine Ad (Bt U U (qA (Ar (Au _ U ?_ ?_))))
    .intro hC;replace hC:=AU hC;obtain⟨x,hx1⟩:=AR (l:=ps) (i:=i);have hxP:PL[i]?=some (prI x.it):=by rw[hPL,qav,hx1];rfl
     refine Aq (Aa (Ar (AD (Ad (Ae U (Bj Rp EU FV U U ?_))))));refine EL _ Ady FV U U (Rp.row hx1 U) (Be Ku H ?_);rintro b16 w - H;refine Ac U (Bi FV U U U (by exact KF _) H at0 U ?_);rintro w H;refine qA ?_;obtain⟨wq,rfl⟩:=qD w;obtain⟨Sx,hSx1,hSx2⟩:=hlive H.ext;have hxo:=Agl S.ok hSx1 hSx2 hs02 x (qad hx1);have Rtw:=Rt.ext0 (E06.then H.ext fun x h => .inr (hEge x h).1);refine Ad (BB (α:=Unit) 18871019187404871303168 (fun _=>[(73,.bool (decide (0<kt.length) && decide (0<=DE x.it.key kt)))]) (fun _ w'=>wq=w') U ?_ ?_)
     .refine Ai U (AO AW U (Ci U U (AC U (AX 67 U ?_ ?_))))
      .intro h3;replace h3:=AU h3;refine Af H3 U (AG BL U H at0 U (Ai U (Ah qB (Ib x.ka ta x.kc tc _ _ x.it.key kt hxo.k.1 Rtw U U) U ?_)));rintro v5 w5 ⟨rfl,rfl⟩;refine HN U U (AQ U (.bool _) U (Ab ?_));exact⟨rfl,(),rfl,⟨qac Value.bool (by(rw[qam (show 0<kt.length by omega)]);rfl),trivial⟩,rfl⟩
      .intro h4;replace h4:=AV h4;refine Ak U (Ak U (Ak U (Ak U (Ak U (AN U (.bool _) U (Ab ?_))))));exact⟨rfl,(),rfl,⟨qac Value.bool (by(rw[qai (show ¬0<kt.length by omega)]);rfl),trivial⟩,rfl⟩
     rintro - j73 w rfl;refine Au _ U ?_ ?_
     .intro hE;rw[qao,qap,qap]at hE;have hkt:kt≠[]:=qbv.1 hE.1
      have hup:Wn kt PL=PL.take i:=by
       unfold Wn;rw[if_neg hkt,UT (i:=i) (fun j p hj hp=>qam ((hlow.resolve_left hkt) j p hj hp)) fun p hp=>?_];rw[hxP]at hp;cases hp;exact qai (by show ¬DE x.it.key kt<0;omega)
      rw[hup]at hwt;refine Ad (AG OV U H at2 U (Ae U (Ee EU FV U U ?_)));refine Bc (.slice _ _ _) VF U U U H at2 (by(simp;done)) ?_;rintro w H;refine Bc (.int _ _) Fw U U U H at1 (by(simp;done)) ?_;rintro w H;refine qA (Ax (AL (Ao (Ao (AL (Ao (GK U U U OV Ev (KC H hD6 hDn U fun wF hxF hkF=>?_))))))));have hti:(PL.take i).length=i:=by rw[qa1];omega
      refine⟨_,_,_,_,_,_,hkF _ _ _ (H.get at2),hkF _ _ _ (H.get at1),a,c,by rw[hwt,hti];rfl,?_,(E06.then H.ext fun x h => .inr (hEge x h).1).then hxF fun x h => .inr (by rw[qaa.1 h];omega)⟩;rw[hwt,hti];exact hres H.ext (fun y hy=>H.blk y (qag _ (qag _ (qag _ hy)))) hxF hkF hi
     .intro hE;refine Aq (AF (Aa (Av (AA U U ?_))));refine Ae U (qA ?_);refine⟨i+1,rfl,⟨rfl,trivial⟩,⟨by omega,H.tail,?_⟩,by omega⟩
      by_cases hkt:kt=[]
      .exact .inl hkt
      .right;rw[Bool.and_eq_false_iff]at hE;have hpos:=qbv.2 hkt;have hE2:¬0<=DE x.it.key kt:=hE.elim (fun h=>absurd hpos (qdf h)) qdf;intro j p hj hp
       rcases qbk j i with h3|h3
       .exact(hlow.resolve_left hkt) j p h3 hp
       .obtain rfl:j=i:=by omega
        rw[hxP]at hp;cases hp;show DE x.it.key kt<0;omega
    .intro hC;replace hC:=AV hC;have hii:i=n:=by omega
     have hup:Wn kt PL=PL.take n:=by
      rw[qa5 (by omega)];unfold Wn
      by_cases hkt:kt=[]
      .rw[if_pos hkt]
      .rw[if_neg hkt,UT (i:=n) (fun j p hj hp=>qam ((hlow.resolve_left hkt) j p (by omega) hp)) fun p hp=>?_,qa5 (by omega)];have:=(qaq.1 hp).1;omega
     rw[hup]at hwt;refine B9 (A8 (A8 (Bd (Aa (Ad (AG OV U H at1 U (Bc (.slice _ _ _) VF U U U H at1 (by(simp;done)) ?_)))))));rintro w H;refine Bc (.int _ _) Fw U U U H at0 (by(simp;done)) ?_;rintro w H;refine qA (Ax (GK U U U OV Ev (KC H hD6 hDn U fun wF hxF hkF=>?_)));have hti:(PL.take n).length=n:=by rw[qa1];omega
     refine⟨_,_,_,_,_,_,hkF _ _ _ (H.get at1),hkF _ _ _ (H.get at0),a,c,by rw[hwt,hti],?_,(E06.then H.ext fun x h => .inr (hEge x h).1).then hxF fun x h => .inr (by rw[qaa.1 h];omega)⟩;rw[hwt,hti];exact hres H.ext (fun y hy=>H.blk y (qag _ (qag _ hy))) hxF hkF (qaf _)
theorem Prs.turn{w w':World}{M M':Mut}{a:Option Addr}{n c:Nat}{L:List Pr}(h:Prs w M a n c L)(t:Grown M M' w w'):Prs w' M' a n c L:=by
 obtain⟨ps,R,hs,hl,hm⟩:=h.ex;obtain⟨R',hs'⟩:=Rd.turnM R hs (by decide) (fun _ _=>rfl) t;exact⟨⟨ps,R',hs',hl,fun m hx=>(hm m hx).turn t⟩,h.num,h.le⟩
theorem Prs.weak{w:World}{M M':Mut}{a:Option Addr}{n c:Nat}{L:List Pr}(h:Prs w M a n c L)(hM:∀x,M' x->M x):Prs w M' a n c L:=by
 obtain⟨ps,R,hs,hl,hm⟩:=h.ex;exact⟨⟨ps,R,hs.imp id fun h h2=>h (hM _ h2),hl,fun m hx=>(hm m hx).weak hM⟩,h.num,h.le⟩
theorem Prs.nil{w:World}{M:Mut}:Prs w M none 0 0 []:=⟨⟨[],Rd.nil,.inl rfl,rfl,fun m h=>by cases h⟩,rfl,qaf _⟩
theorem Agn{α:Type}{p:α->Bool}:∀(T:List α),(∀j x,j<(T.takeWhile p).length->T[j]?=some x->p x=true)/\(∀x,T[(T.takeWhile p).length]?=some x->p x=false)
 | []=>⟨fun j x h=>absurd h (qcp _),fun x h=>by cases h⟩
 |y::T=>by
  obtain⟨h1,h2⟩:=Agn (p:=p) T
  by_cases hy:p y=true
  .rw[qcy,hy];simp only[if_true,qaw];refine⟨fun j x hj hx=>?_,fun x hx=>h2 x (by simpa using hx)⟩
   cases j with
   |zero=>simp only[qc1,qbc]at hx;rw[<-hx];exact hy
   |succ j=>exact h1 j x (by omega) (by simpa using hx)
  .have hy:p y=false:=by simpa using hy
   rw[qcy,hy];refine⟨fun j x h=>absurd h (qcp _),fun x hx=>?_⟩
   have:y=x:=by simpa using hx
   rw[<-this];exact hy
theorem Ago{L:List Pr}(hr:Rising L){k:Byt}(hk:L[0]?.map (·.1)=some k):∀p∈L,¬ltB p.1 k:=by
 cases L with
 |nil=>cases hk
 |cons q L =>
  have hq:q.1=k:=by simpa using hk
  intro p hp
  rcases qab.1 hp with rfl|hp
  .rw[hq];exact GF _
  .rw[<-hq];exact Fs ((qbj.1 hr).1 p hp)
theorem Kids.first{Q:Nat->List Pr->List Nat->Prop}{x:It}{l:List It}{L:List Pr}{S:List Nat}(h:Kids Q (x::l) L S):L[0]?.map (·.1)=some x.key:=by
 obtain⟨L1,L2,S1,S2,rfl,rfl,h1,h2,h3,h4⟩:=h
 cases L1 with
 |nil=>cases h2
 |cons y L1=>exact h2
theorem Pc{Q:Nat->List Pr->List Nat->Prop}{l:List It}{L:List Pr}{S:List Nat}(hk:Kids Q l L S)(hr:Rising L)(hl:l≠[])(key:Byt) :
  ∃a x b La Lx Lb Sa Sx Sb,l=a++x::b/\a.length=BX l key/\L=La++(Lx++Lb)/\S=Sa++(Sx++Sb)/\Kids Q a La Sa/\Q x.page Lx Sx/\Lx[0]?.map (·.1)=some x.key/\x.val=[]/\Kids Q b Lb Sb/\(∀p∈La,ltB p.1 key)/\(∀p∈Lb,ltB key p.1):=by
 have hi:=Oh hl key;obtain⟨t1,t2⟩:=Agn (p:=fun x:It=>decide (DE x.key key<=0)) l.tail;obtain⟨x,hx⟩:=AR (l:=l) (i:=BX l key) (h:=hi)
 have hsp:l=l.take (BX l key)++x::l.drop (BX l key+1):=by
  rw[<-EI hx,qbl]
 have hk':=hk;rw[hsp]at hk';obtain⟨La,Lr,Sa,Sr,rfl,rfl,ka,kr⟩:=Ff.1 hk';obtain⟨Lx,Lb,Sx,Sb,rfl,rfl,q1,q2,q3,kb⟩:=kr;obtain⟨r1,r2,r3⟩:=Rising.append.1 hr;obtain⟨r4,r5,r6⟩:=Rising.append.1 r2;refine⟨_,x,_,La,Lx,Lb,Sa,Sx,Sb,hsp,by rw[qa1];omega,rfl,rfl,ka,q1,q2,q3,kb,fun p hp=>?_,fun p hp=>?_⟩
 .rcases Nat.eq_zero_or_pos (BX l key)with h0|h0
  .rw[h0,qds]at ka;rw[ka.1]at hp;cases hp
  .have h5:=t1 (BX l key - 1) x (by show _<BX l key;omega) (by rw[List.getElem?_tail,Nat.sub_add_cancel h0];exact hx);have h6:=UK.1 (qde h5)
   cases Lx with
   |nil=>cases q2
   |cons y Lx =>
    have hy:y.1=x.key:=by simpa using q2
    exact Afl (hy ▸ r3 p hp y (by simp)) h6
 .cases hb:l.drop (BX l key+1)with
  |nil =>
   rw[hb]at kb;rw[kb.1]at hp;cases hp
  |cons y b =>
   rw[hb]at kb
   have h5:=t2 y (by
    show l.tail[BX l key]?=some y;rw[List.getElem?_tail]
    have:(l.drop (BX l key+1))[0]?=some y:=by rw[hb];rfl
    rw[qct]at this;exact this)
   have h6:ltB key y.key:=by
    have:=qdf h5
    rcases Nh key y.key with h7|h7|h7
    .exact h7
    .exact absurd (UK.2 (by rw[h7];exact GF _)) this
    .exact absurd (UK.2 (Fs h7)) this
   exact Afl h6 (Ago r5 kb.first p hp)
structure Acts(key:Byt)(G:List It->List It)(g:List Pr->List Pr):Prop where
 leaf:∀L,Rising L->OkP L->G (L.map BC)=(g L).map BC
 mid:∀A L B,(∀p∈A,ltB p.1 key)->(∀p∈B,ltB key p.1)->g (A++(L++B))=A++(g L++B)
 ok:∀L,OkP L->OkP (g L)
 size:∀L,Rising L->OkP L->AY false ((g L).map BC)<=AY false (L.map BC)+164
structure Eds(fr h:Nat)(L:List Pr)(S t g':List Nat)(r:Int × Ch × Bool × List It):Prop where
 ok:r.1=0
 on:On fr r.2.1
 part:∃S',Part (RD r.2.1.A fr) h r.2.2.1 r.2.2.2 L S'/\(S'++g').Perm (S++t)/\Held r.2.1.P S'
 ne:0<h->r.2.2.2≠[]
 sz:AY r.2.2.1 r.2.2.2<=667
theorem OkP.sub{L L':List Pr}(h:OkP L)(hs:∀p∈L',p∈L):OkP L':=fun p hp=>h p (hs p hp)
theorem OkP.app{L L':List Pr}(h:OkP L)(h':OkP L'):OkP (L++L'):=fun p hp=>(qau.1 hp).elim (h p) (h' p)
theorem Yw{fr:Nat}{c:Ch}{p d:Nat}(h:(Dc c.A fr c.P.length (p:Int) (d:Int)).1=0):rdC fr c p d={ c with gn:=c.gn++[p] }:=by
 unfold rdC;rw[if_pos h]
theorem Mm{a b:List It}{x:It}{i:Nat}(h:a.length=i):Cd (a++x::b) i=x.page:=by
 subst h;unfold Cd;simp
theorem Lies.read{fr h p d:Nat}{c:Ch}{L:List Pr}{S:List Nat}(hL:Lies (RD c.A fr) h p L S)(hh:Held c.P S)(hn:On fr c)(hd:d<=16) :
  ∃i M S',Dc c.A fr c.P.length (p:Int) (d:Int)=(0,some (i,M))/\Part (RD c.A fr) h i M L S'/\S=p::S'/\Many i M/\AY i M<=503:=by
 have hp:=hh.lt hL.page;obtain⟨i,M,S',h1,h2,h3,h4,h5⟩:=hL;exact⟨i,M,S',K3 hn.on hp hn.has hd h2,h1,h3,h4,h5⟩
theorem Part.inner0{R:Nat->Option (Bool × List It)}{i:Bool}{M:List It}{L:List Pr}{S:List Nat}(h:Part R 0 i M L S):i=false:=h.1
theorem Kids.total{R:Nat->Option (Bool × List It)}{h:Nat}{l:List It}{L:List Pr}{S:List Nat}(hk:Kids (Lies R h) l L S)(ho:OkP L):AY true l<=38*l.length :=
 EJ fun x hx=>by have:=(hk.items ho x hx).2.1;show 6+x.key.length<=38;omega
structure Sides(fr h:Nat)(c:Ch)(l:List It)(La Lx' Lb:List Pr)(Sa Sx' Sb g':List Nat)(i:Bool)(s:Int × Ch × List It × Nat × Nat):Prop where
 ok:s.1=0
 ci:CI fr c s.2.1 [] g'
 on:On fr s.2.1
 many:(s.2.2.1=[]/\h=0)\/Many i s.2.2.1
 sz:AY i s.2.2.1<=667
 part:∃(a b:List It) (L1 L2 L3:List Pr) (S1 S2 S3:List Nat),l.take s.2.2.2.1=a/\l.drop s.2.2.2.2=b/\AY true a+AY true b<=503/\1<=a.length+b.length+(if s.2.2.1=[]then 0 else 1)/\Kids (Lies (RD c.A fr) h) a L1 S1/\Part (RD c.A fr) h i s.2.2.1 L2 S2/\Kids (Lies (RD c.A fr) h) b L3 S3 /\
  L1++(L2++L3)=La++(Lx'++Lb)/\(S1++(S2++(S3++g'))).Perm (Sa++(Sx'++Sb))
theorem Abo{fr h d:Nat}{c:Ch}{l a b:List It}{x:It}{i:Bool}{M:List It}{La Lx Lb:List Pr}{Sa Sx Sb:List Nat}(hl:l=a++x::b)(h2:2<=l.length)(hT:AY true l<=503)(ka:Kids (Lies (RD c.A fr) h) a La Sa)(kb:Kids (Lies (RD c.A fr) h) b Lb Sb)(hp:Part (RD c.A fr) h i M Lx Sx)(hoa:OkP La)(hox:OkP Lx)(hob:OkP Lb)(hha:Held c.P Sa)(_:Held c.P Sx)(hhb:Held c.P Sb)(hn:On fr c)(hne:0<h->M≠[])(hz:AY i M<=667)(hd:d+1<=16:=by omega):
  ∃g',Sides fr h c l La Lx Lb Sa Sx Sb g' i (Eg fr c l a.length d i M):=by
 have hta:=B2 true a (x::b);have htb:=CP true x b
 by_cases hf:Ih i M=true
 .have hi:i=true:=by unfold Ih at hf;simp at hf;exact hf.1
  have hM:M.length=1:=by unfold Ih at hf;simp at hf;exact hf.2
  cases h with
  |zero=>rw[hp.inner0]at hi;cases hi
  |succ h =>
   obtain⟨_,kx⟩:=hp;have hxt:=Kids.total kx hox;rw[hM]at hxt;subst hi
   have key:∀(pre post:List It) (y:It) (Ly:List Pr) (Sy:List Nat),Lies (RD c.A fr) (h+1) y.page Ly Sy->OkP Ly->Held c.P Sy->Cd l (Ii a.length)=y.page ->
     Ii a.length<l.length->∃o So,Kids (Lies (RD c.A fr) h) o Ly So/\Sy=y.page::So/\2<=o.length/\AY true o<=503/\CI fr c (rdC fr c y.page (d+1)) [] [y.page]/\On fr (rdC fr c y.page (d+1)) /\
     Eg fr c l a.length d true M=(0,rdC fr c y.page (d+1),if a.length=0 then M++o else o++M,a.length - 1,if a.length=0 then 2 else a.length+1):=by
    intro pre post y Ly Sy hy hoy hhy hpy hlt;obtain⟨i2,o,So,r1,r2,r3,r4,r5⟩:=hy.read hhy hn (d:=d+1) hd;obtain⟨rfl,ko⟩:=r2;have r1':(Dc c.A fr c.P.length ((y.page:Nat):Int) ((d+1:Nat):Int)).1=0:=by rw[r1]
    have hrd:=Yw r1';refine⟨o,So,ko,r3,r4,r5,by rw[hrd];exact CI.gone _ _ _,by rw[hrd];exact⟨hn.on,hn.has,hn.few⟩,?_⟩;unfold Eg;rw[if_pos hf,if_neg (by omega),hpy,r1]
   by_cases ha0:a=[]
   .subst ha0
    cases b with
    |nil=>rw[hl]at h2;simp at h2
    |cons y b =>
     obtain⟨Ly,L2,Sy,S2,rfl,rfl,y1,y2,y3,y4⟩:=kb;have hty:=CP true y b;obtain⟨o,So,ko,rfl,o2,o3,ci,on',hs⟩:=key [] b y Ly Sy y1 (hob.sub fun p hp=>qa4 _ hp) (hhb.sub fun p hp=>qa4 _ hp) (by rw[hl];rfl) (by rw[hl];simp[Ii]);obtain⟨rfl,rfl⟩:=ka;rw[hs];refine⟨[y.page],rfl,ci,on',.inr ?_,?_,[],b,[],Lx++Ly,L2,[],Sx++So,S2,rfl,by rw[hl];rfl,?_,?_,⟨rfl,rfl⟩,?_,y4,by simp,?_⟩
     .show 2<=(M++o).length;rw[qan];omega
     .show AY true (M++o)<=667;rw[B2];omega
     .have e0:AY true ([]:List It)=0:=rfl;rw[hl]at hT;omega
     .have:(if(List.length ([]:List It)=0)then M++o else o++M)≠[]:=by
       intro e;have h9:(M++o).length=0:=qac List.length e;rw[qan]at h9;omega
      show 1<=_+(if _=[]then 0 else 1);rw[if_neg this];omega
     .exact⟨rfl,Ff.2 ⟨Lx,Ly,Sx,So,rfl,rfl,kx,ko⟩⟩
     .rw[qej];intro z;simp only[qek,qef,List.count_nil];omega
   .obtain⟨a',y,rfl⟩:∃a' y,a=a'++[y]:=⟨a.dropLast,a.getLast ha0,(qfa ha0).symm⟩;obtain⟨La',Lr,Sa',Sr,rfl,rfl,ka',kr⟩:=Ff.1 ka;obtain⟨Ly,L0,Sy,S0,rfl,rfl,y1,y2,y3,y4⟩:=kr;obtain⟨rfl,rfl⟩:=y4;have hal:(a'++[y]).length=a'.length+1:=by simp
    have hll:l=a'++y::x::b:=by rw[hl];simp
    have hty:=B2 true a' [y];have htb2:AY true [y]=C1 true y:=by simp[AY]
    obtain⟨o,So,ko,rfl,o2,o3,ci,on',hs⟩:=key a' b y Ly Sy y1 (hoa.sub fun p hp=>by simp[hp]) (hha.sub fun p hp=>by simp[hp]) (by rw[hll,hal];exact Mm (by simp[Ii])) (by rw[hll,hal];simp[Ii]);rw[hs];refine⟨[y.page],rfl,ci,on',.inr ?_,?_,a',b,La',Ly++Lx,Lb,Sa',So++Sx,Sb,?_,?_,?_,?_,ka',?_,kb,by simp,?_⟩
    .show 2<=(if(a'++[y]).length=0 then M++o else o++M).length;rw[if_neg (by omega),qan];omega
    .show AY true (if(a'++[y]).length=0 then M++o else o++M)<=667;rw[if_neg (by omega),B2];omega
    .show l.take ((a'++[y]).length - 1)=a';rw[hll,hal];simp
    .show l.drop (if(a'++[y]).length=0 then 2 else(a'++[y]).length+1)=b;rw[if_neg (by omega),hl];rw[List.drop_append,qbx (by omega)];simp
    .rw[hl,hta,htb,hty]at hT;omega
    .show 1<=_+(if(if(a'++[y]).length=0 then M++o else o++M)=[]then 0 else 1);rw[if_neg (c:=(a'++[y]).length=0) (by omega),if_neg]
     .omega
     .intro e;have h9:(o++M).length=0:=qac List.length e;rw[qan]at h9;omega
    .show Part _ _ _ (if(a'++[y]).length=0 then M++o else o++M) _ _;rw[if_neg (by omega)];exact⟨rfl,Ff.2 ⟨Ly,Lx,So,Sx,rfl,rfl,ko,kx⟩⟩
    .rw[qej];intro z;simp only[qek,qef,List.count_nil];omega
 .have hs:Eg fr c l a.length d i M=(0,c,M,a.length,a.length+1):=by unfold Eg;rw[if_neg hf]
  rw[hs];refine⟨[],rfl,CI.refl _ _,hn,?_,hz,a,b,La,Lx,Lb,Sa,Sx,Sb,by rw[hl];simp,?_,?_,?_,ka,hp,kb,rfl,by simp⟩
  .show(M=[]/\h=0)\/Many i M
   cases h with
   |zero =>
    by_cases hM:M=[]
    .exact .inl ⟨hM,rfl⟩
    .right;rw[hp.inner0];exact hM
   |succ h =>
    right;have hM:=hne (by omega);obtain⟨rfl,_⟩:=hp;show 2<=M.length
    have:¬M.length=1:=fun h=>hf (by unfold Ih;rw[qam h];rfl)
    have:=qbv.2 hM;omega
  .show l.drop (a.length+1)=b;rw[hl,List.drop_append,qbx (by omega)];simp
  .rw[hl,hta,htb]at hT;omega
  .have:l.length=a.length+b.length+1:=by rw[hl];simp;omega
   omega
theorem TH{fr:Nat}{key:Byt}{G:List It->List It}{g:List Pr->List Pr}(act:Acts key G g):∀(h n:Nat) (c:Ch) (p d:Nat) (L:List Pr) (S:List Nat),Lies (RD c.A fr) h p L S->Rising L->OkP L->Held c.P S->On fr c->d+h<=16->h<n ->
  ∃t g',CI fr c (C2 fr G key n c p d).2.1 t g'/\t.length<=2*h/\(Eds fr h (g L) S t g' (C2 fr G key n c p d)\/Bad c (C2 fr G key n c p d).1 (2*h))
 |0,n+1,c,p,d,L,S,hL,hr,ho,hh,hn,hd,hf=>by
  obtain⟨i,M,S',r1,r2,r3,r4,r5⟩:=hL.read hh hn (d:=d) (by omega);obtain⟨rfl,rfl,rfl⟩:=r2;subst r3;have hrd:=Yw (fr:=fr) (c:=c) (p:=p) (d:=d) (by rw[r1])
  have he:C2 fr G key (n+1) c p d=(0,{ c with gn:=c.gn++[p] },false,G (L.map BC)):=by
   rw[C2,r1];dsimp only;rw[hrd]
  rw[he,act.leaf L hr ho];refine⟨[],[p],CI.gone _ _ _,by simp,.inl ⟨rfl,⟨hn.on,hn.has,hn.few⟩,⟨[],⟨rfl,rfl,rfl⟩,by simp,fun x hx=>by cases hx⟩,fun h=>absurd h (Nat.lt_irrefl 0),?_⟩⟩;have:=act.size L hr ho;show AY false (List.map BC (g L))<=667;omega
 |h+1,n+1,c,p,d,L,S,hL,hr,ho,hh,hn,hd,hf=>by
  obtain⟨i,l,S0,r1,r2,r3,r4,r5⟩:=hL.read hh hn (d:=d) (by omega);obtain⟨rfl,hk'⟩:=r2;have hk:Kids (Lies (RD c.A fr) h) l L S0:=hk';subst r3;have hrd:=Yw (fr:=fr) (c:=c) (p:=p) (d:=d) (by rw[r1]);have hci:=CI.gone fr c p;rw[<-hrd]at hci;have hn1:On fr (rdC fr c p d):=by rw[hrd];exact⟨hn.on,hn.has,hn.few⟩
  obtain⟨a,x,b,La,Lx,Lb,Sa,Sx,Sb,rfl,hal,rfl,rfl,ka,q1,q2,q3,kb,hlo,hhi⟩:=Pc hk hr r4.ne key;have hh0:Held c.P (Sa++(Sx++Sb)):=hh.sub fun x hx=>qag _ hx;have hha:Held c.P Sa:=hh0.sub fun x hx=>by simp[hx]
  have hhx:Held c.P Sx:=hh0.sub fun x hx=>by simp[hx]
  have hhb:Held c.P Sb:=hh0.sub fun x hx=>by simp[hx]
  have hoa:OkP La:=ho.sub fun x hx=>by simp[hx]
  have hox:OkP Lx:=ho.sub fun x hx=>by simp[hx]
  have hob:OkP Lb:=ho.sub fun x hx=>by simp[hx]
  have hrx:Rising Lx:=(Rising.append.1 (Rising.append.1 hr).2.1).1;obtain⟨t1,g1,e1,e2,e3⟩:=TH act h n (rdC fr c p d) x.page (d+1) Lx Sx (q1.frame (hci.rd hhx)) hrx hox (hhx.keep hci) hn1 (by omega) (by omega);have hpg:Cd (a++x::b) (BX (a++x::b) key)=x.page:=Mm hal;obtain⟨r,hrr⟩:=qD (C2 fr G key n (rdC fr c p d) x.page (d+1));rw[<-hrr]at e1 e3
  have he:C2 fr G key (n+1) c p d=if r.1≠0 then(r.1,r.2.1,true,[])else
    if(Eg fr r.2.1 (a++x::b) a.length d r.2.2.1 r.2.2.2).1≠0 then((Eg fr r.2.1 (a++x::b) a.length d r.2.2.1 r.2.2.2).1,(Eg fr r.2.1 (a++x::b) a.length d r.2.2.1 r.2.2.2).2.1,true,[])else
    ((Ex fr (Eg fr r.2.1 (a++x::b) a.length d r.2.2.1 r.2.2.2).2.1 r.2.2.1 (Eg fr r.2.1 (a++x::b) a.length d r.2.2.1 r.2.2.2).2.2.1).1,
     (Ex fr (Eg fr r.2.1 (a++x::b) a.length d r.2.2.1 r.2.2.2).2.1 r.2.2.1 (Eg fr r.2.1 (a++x::b) a.length d r.2.2.1 r.2.2.2).2.2.1).2.1,true,
     (a++x::b).take (Eg fr r.2.1 (a++x::b) a.length d r.2.2.1 r.2.2.2).2.2.2.1++((Ex fr (Eg fr r.2.1 (a++x::b) a.length d r.2.2.1 r.2.2.2).2.1 r.2.2.1 (Eg fr r.2.1 (a++x::b) a.length d r.2.2.1 r.2.2.2).2.2.1).2.2++(a++x::b).drop (Eg fr r.2.1 (a++x::b) a.length d r.2.2.1 r.2.2.2).2.2.2.2)):=by
   rw[C2,r1];dsimp only;rw[hpg,<-hrr,<-hal]
  rw[he];have hci1:=hci.trans e1;rw[qba]at hci1
  rcases e3 with e3|e3
  .obtain⟨S1,p1,p2,p3⟩:=e3.part;rw[if_neg (by rw[e3.ok];simp)];have hn2:=e3.on;have h4:2<=(a++x::b).length:=r4;obtain⟨g2,sd⟩:=Abo (fr:=fr) (c:=r.2.1) (d:=d) rfl h4 r5 (ka.frame (hci1.rd hha)) (kb.frame (hci1.rd hhb)) p1 hoa (act.ok _ hox) hob (hha.keep hci1) p3 (hhb.keep hci1) hn2 e3.ne e3.sz;obtain⟨s,hss⟩:=qD (Eg fr r.2.1 (a++x::b) a.length d r.2.2.1 r.2.2.2);rw[<-hss]at sd |-;rw[if_neg (by rw[sd.ok];simp)];obtain⟨a',b',L1,L2,L3,S1',S2',S3',s1,s2,s3,s4,s5,s6,s7,s8,s9⟩:=sd.part;have hci2:=hci1.trans sd.ci;rw[qa2]at hci2
   have hall:Held r.2.1.P (S1'++(S2'++(S3'++g2))):=by
    intro z hz;have:=s9.mem_iff.1 hz
    rcases qau.1 this with h5|h5
    .exact(hha.keep hci1) z h5
    .rcases qau.1 h5 with h5|h5
     .exact p3 z h5
     .exact(hhb.keep hci1) z h5
   have hO:OkP (L1++(L2++L3)):=by rw[s8];exact hoa.app ((act.ok _ hox).app hob)
   have hO2:OkP L2:=hO.sub fun p hp=>by simp[hp]
   have hH2:Held r.2.1.P S2':=hall.sub fun p hp=>by simp[hp]
   have hH1:Held r.2.1.P S1':=hall.sub fun p hp=>by simp[hp]
   have hH3:Held r.2.1.P S3':=hall.sub fun p hp=>by simp[hp]
   obtain⟨t2,u1,u2,u3⟩:=Wd (s6.frame (sd.ci.rd hH2)) hO2 (hH2.keep sd.ci) sd.on sd.many sd.sz;have hci3:=hci2.trans u1;rw[qa2]at hci3;refine⟨_,_,hci3,by rw[qan];omega,?_⟩
   rcases u3 with u3|u3
   .obtain⟨S4,k1,k2,k3⟩:=u3.kids;left;have hfin:=sd.ci.trans u1;have hk1:=s5.frame (hfin.rd hH1);have hk3:=s7.frame (hfin.rd hH3);have ht1:=Kids.total k1 hO2;have hnum:=u3.num;refine⟨u3.ok,u3.on,⟨S1'++(S4++S3'),⟨rfl,?_⟩,?_,?_⟩,fun _=>?_,?_⟩
    .rw[act.mid La Lx Lb hlo hhi,<-s8,s1,s2];exact Ff.2 ⟨_,_,_,_,rfl,rfl,hk1,Ff.2 ⟨_,_,_,_,rfl,rfl,k1,hk3⟩⟩
    .rw[qej]at *;intro z;have e1:=p2 z;have e2:=s9 z;have e3:=k2 z;simp only[qek,qef,List.count_nil]at *;omega
    .exact(hH1.keep hfin).app (k3.app (hH3.keep hfin))
    .show(a++x::b).take s.2.2.2.1++(_++(a++x::b).drop s.2.2.2.2)≠[];rw[s1,s2];intro e;have e':=qac List.length e;simp only[qan,qbw]at e'
     by_cases h9:s.2.2.1=[]
     .rw[if_pos h9]at s4;omega
     .have:=qbv.2 (u3.ne h9);omega
    .show AY true ((a++x::b).take s.2.2.2.1++(_++(a++x::b).drop s.2.2.2.2))<=667;rw[s1,s2,B2,B2]
     have:38*(Ex fr s.2.1 r.2.2.1 s.2.2.1).2.2.length<=38*2:=qb7 _ hnum
     omega
   .right;exact u3.back hci2 (by omega)
  .rw[if_pos e3.ne];refine⟨t1,_,hci1,by omega,.inr ?_⟩;exact(e3.back hci (m':=2*h) (by simp)).mono (by omega)
end Go.Proofs.YtcpgbcabmcbclaaGreatDoor
