/- Part 13 of the proof. -/
import Derived.Test.YtfnfnmgilmejmaaGreatPart12
set_option maxRecDepth 20000
set_option maxHeartbeats 4000000
namespace Go.Proofs.YtfnfnmgilmejmaaGreat
open Go.GV Go.Proofs.Tryz
attribute [local irreducible] A4 W Wq Wt
variable{α:Type}{af:Array Edge}{e:Env}{k:Int}{s:Ld}{acs:List Ac}{ds:List Du}{S:List Nat}{ops rest:List Oper}{qs:List RSl}{rn:List Rnd}{arch full full' l:List Value}{xs:List α}{m:Lm}{b1 b2 ba br c i j n:Nat}{T T':Nat->Prop}{o' o1 o2:Obj}{g:Option (Nat × Bool)}{a:Option Addr}{dst:Option Tmp}{P:Program}{q qx:RSl}{r:Rnd}{pos:String}{el t t2 ty:TypeId}{v:Value}{w w' w1:World}{C:World->Prop}
theorem Vt(b:Bool)(w:World):Ret prog 109 #[.bool b] w fun v w'=>v=.int .i64 (GX b)/\w=w':=by
 obtain⟨w0,rfl⟩:=qD w;refine iG func109 U ?_;refine qGc 9 ?_ ?_
 .intro h1;refine qG 7 ?_;exact⟨by rw[show b=true by simpa using h1];rfl,rfl⟩
 .intro h1;refine qG 8 ?_;exact⟨by rw[show b=false by simpa using h1];rfl,rfl⟩
theorem Ad2{k:Ak}(hk:k.kd=14)(_:AkIn k)(w:World)(I:LdIn w m s T)(H0:Ctx w (CR m s) w<|LL m s) :
  Ret prog 54 #[ptr m.bl,.agg (BN k).toArray] w (FG w m s T k):=by
 obtain⟨w0,rfl⟩:=qD w;obtain⟨bl,ba,bd,br,b,a,c,full,o,arch⟩:=m;obtain⟨S0,hS0⟩:=qD<|CR ⟨bl,ba,bd,br,b,a,c,full,o,arch⟩ s;have H:Ctx w0 S0 w0 ((bl,Bl 93 [ptr ba,ptr bd,ptr br,.int .i64 s.day])::(br,Bl 159 arch)::(ba,Bl 153 [.slice a s.acs.length c])::(bd,Bl 156 (DU b s.nx))::(b,o)::ent a 162 full):=by rw[hS0];exact H0
 have hn16:=(BM.1 I.ok.ac).1;have hbdb:bd≠b:=H.ne (i:=3) (j:=4) rfl rfl (by decide);have hR0:Cn s.ds k.id=none->Dq s k=⟨11,[]⟩:=fun h=>by unfold Dq;(iterate 11 rw[if_neg<|by omega]);rw[if_pos hk,h]
 have hR1:∀d,Cn s.ds k.id=some d->Dq s k=⟨0,[d.fr,d.to,d.am,d.we,d.un,GX d.held]⟩:=fun d h=>by unfold Dq;(iterate 11 rw[if_neg<|by omega]);rw[if_pos hk,h]
 have hS:Dn s k=s:=by unfold Dn;iterate 9 rw[if_neg<|by omega]
 have hstep:∀p,Dq s k=p->C9 s k s p:=fun p h2=>by
  unfold C9;rw[if_neg<|by omega];exact⟨hS.symm,h2.symm⟩
 have hD:GS s.ds k.id=(Cn s.ds k.id).getD d00:=rfl;refine iG func54 U ?_;refine Af<|Be (BN k) (.agg _) U U H ?_;rintro b3 w - H;refine AP U<|Ag U<|qA<|Dk 262080 (α:=Nat) (fun z=>[(6,ptr z),(7,.bool (Cn s.ds k.id).isSome)]) (fun z w'=>Ctx w0 S0 w' ((z,Bl 111 (BK<|GS s.ds k.id))::(b3,Bl 46 (BN k))::(bl,Bl 93 [ptr ba,ptr bd,ptr br,.int .i64 s.day])::(br,Bl 159 arch)::(ba,Bl 153 [.slice a s.acs.length c])::(bd,Bl 156 (DU b s.nx))::(b,o)::ent a 162 full)) U ?_ ?_
 .skip
  refine Km (.two [0,1,2,3,4,5] 6 (.one [7,8,9] 10 (.one [] 11 (.one [] 12 .stop))) 10 (.one [] 6 (.one [7,8,9] 11 (.one [] 12 .stop)))) (fun z=>z.heap[b3]?=some (Bl 46 (BN k))/\z.heap[bl]?=some (Bl 93 [ptr ba,ptr bd,ptr br,.int .i64 s.day])) AW (⟨H.drew.get at0,H.drew.get at1⟩) ?_;refine F6 U U U<|Bm U<|A7 U<|Ah qf U<|AU qf U (fun _ hx=>(by rw[Ai hx.2];rfl)) ?_;refine Ah qf U<|AU qf U (fun _ hx=>(by rw[Ai hx.1];rfl)) ?_;refine A6 ?_;replace H:=H.drew;refine⟨?_,?_⟩
  .skip
   refine Aj qB (Qe _ (H.get at4) (H.get at5) I.M) U ?_;rintro v w ⟨rfl,hx15⟩;replace H:=H.call hx15;refine Ab<|B3 (by exact⟨H.get at0,H.get at1⟩) ?_;refine B1 U U<|CK U<|AZ U U<|AZ U U<|A6<|AN qf H ?_;rintro b6 w - H;refine Ab<|B3 (by exact⟨H.get at1,H.get at2⟩) ?_;refine B1 U U<|A6<|AM qf U U U (by exact Cx _) H at0 U ?_;rintro w H;refine Ab<|B3 (by exact⟨H.get at1,H.get at2⟩) ?_;refine B1 U U<|A6<|A5 U<|Ab<|B3 (by exact⟨H.get at1,H.get at2⟩) ?_;refine Db<|Aa ?_;exact⟨b6,rfl,⟨rfl,rfl,trivial⟩,H⟩
  .skip
   refine AN qf H ?_;rintro b6 w - H;refine Ab<|B3 (by exact⟨H.get at1,H.get at2⟩) ?_;refine B1 U U<|A6<|Aj qB (Qe _ (H.get at5) (H.get at6) I.M) U ?_;rintro v w ⟨rfl,hx15⟩;replace H:=H.call hx15;refine Ab<|B3 (by exact⟨H.get at1,H.get at2⟩) ?_;refine B1 U U<|CK U<|AZ U U<|AZ U U<|A6<|AM qf U U U (by exact Cx _) H at0 U ?_;rintro w H;refine Ab<|B3 (by exact⟨H.get at1,H.get at2⟩) ?_;refine B1 U U<|A6<|A5 U<|Ab<|B3 (by exact⟨H.get at1,H.get at2⟩) ?_;refine Db<|Aa ?_;exact⟨b6,rfl,⟨rfl,rfl,trivial⟩,H⟩
 .rintro b6 j7 w H;refine AB<|Af<|Bj U<|Df U<|qA<|iB U ?_ ?_
  .intro h1
   have hf:Cn s.ds k.id=none:=by cases hh:Cn s.ds k.id with|none=>rfl|some d=>rw[hh]at h1;cases h1
   refine Af<|AP U<|Ag U<|qA<|Bf<|AD<|Cz (v1:=(.slice _ _ _)) (v2:=(.int _ _)) U U U U ?_;subst hS0;exact Dz (P:=[_,_]) (m':=⟨bl,ba,bd,br,b,a,c,full,o,arch⟩) (s':=s) (l:=[]) (code:=11) I H (GY _) (hstep _ (by rw[hR0 hf];rfl)) I.O I.M I.ok U U U U
  .intro h1
   obtain⟨d,hf⟩:∃d,Cn s.ds k.id=some d:=by cases hh:Cn s.ds k.id with|some d=>exact⟨d,rfl⟩|none=>rw[hh]at h1;cases h1
   rw[hD,hf]at H
   change Ctx w0 S0 w ((b6,Bl 111 (BK d))::(b3,Bl 46 (BN k))::(bl,Bl 93 [ptr ba,ptr bd,ptr br,.int .i64 s.day])::(br,Bl 159 arch)::(ba,Bl 153 [.slice a s.acs.length c])::(bd,Bl 156 (DU b s.nx))::(b,o)::ent a 162 full)at H
   refine A1<|Aa<|BG [([0,1,2,3,4,5,6,7,8,9,10,11],12),([],13),([14],15)] (fun z=>z.heap[b6]?=some (Bl 111 (BK d))) [] AW (H.drew.get at0) ?_;refine A0 U U<|Ah qf U<|AU qf U (fun _ hx=>(by rw[Ai hx];rfl)) ?_;refine Ah qf U<|AU qf U (fun _ hx=>(by rw[Ai hx];rfl)) ?_;refine Ah qf U<|AU qf U (fun _ hx=>(by rw[Ai hx];rfl)) ?_;refine Ah qf U<|AU qf U (fun _ hx=>(by rw[Ai hx];rfl)) ?_;refine Ah qf U<|AU qf U (fun _ hx=>(by rw[Ai hx];rfl)) ?_;refine Ah qf U<|AU qf U (fun _ hx=>(by rw[Ai hx];rfl)) ?_;refine A6 ?_;replace H:=H.drew;refine Aj qB (Vt d.held _) U ?_;rintro v w ⟨rfl,rfl⟩;refine Ab<|Bv (H.get at0)<|A0 U U ?_;refine A6<|Cs ([d.fr,d.to,d.am,d.we,d.un,GX d.held].map Cu) qf qf qf (Ctx.start _ []) ?_;rintro b33 w2 - H17;refine Ab<|Bv (H17.ext.to (H.get at0)<|by simp) ?_
   refine A0 U U<|DA U<|A6<|Ag U<|Ab<|Bv (H17.ext.to (H.get at0)<|by simp) ?_;refine Bu<|Bf<|Cz (v1:=(.slice _ _ _)) (v2:=(.int _ _)) U U U U ?_;subst hS0;exact Dz (P:=[_,_]) (m':=⟨bl,ba,bd,br,b,a,c,full,o,arch⟩) (s':=s) (l:=[d.fr,d.to,d.am,d.we,d.un,GX d.held]) (code:=0) I H (FR (n:=6) H17 U) (hstep _ (by rw[hR1 d hf];rfl)) I.O I.M I.ok U U U U
theorem KW{enc:α->List Value}{s:Nat}(F:Fresh w w' t s v<|xs.flatMap enc)(hs:∀x∈xs,(enc x).length=s)(h0:0<s:=by decide):∃a c,v=.slice a xs.length c/\Rd w' a s enc xs/\(xs≠[]->w.heap.size<=(adr a).block)/\xs.length<=c/\Ext [] w w':=by
 obtain⟨a,n,c,f,rfl,O,hb⟩:=F.ex;obtain rfl:=O.numN hs h0;refine⟨a,c,rfl,OS.rd O (fun x hx=>(hb x hx).1) hs h0,fun hne=>?_,O.le,F.ext⟩;obtain⟨q,rfl⟩:=O.form<|qbu.2 hne;exact(hb (q,Bl t f)<|qab.2 U).2
theorem Aaz(l:List Int):∀v∈l.map F2,AF v=true:=fun v hv=>by
 obtain⟨x,_,rfl⟩:=qak.1 hv;rfl
theorem WT(a:Option Addr)(n c:Nat)(xs:List Int)(w:World)(R:Rd w a 1 U1 xs)(hn:xs.length=n)(hm:n<=1000000000:=by omega):
  Ret prog 166 #[.slice a n c] w fun v w'=>Fresh w w' 24 1 v (xs.map F2):=by
 subst hn;obtain⟨w0,rfl,H⟩:=qE w;refine iG func166 U ?_;refine qGc 10 ?_ ?_
 .intro h1;have ha:a=none:=by simpa using h1
  subst ha
  have hxs:xs=[]:=by
   cases xs with
   |nil=>rfl
   |cons x xs=>obtain⟨b,o,h⟩:=R.some' (by simp);cases h
  subst hxs;refine qG 7 ?_;exact Fresh.nil H _ _
 .intro h1;refine qG 4 ?_;rintro b5 w H O;refine AH U<|Ee qf qf qf qf qf U (xs.map F2) U U H O (by simp) (Aaz xs) (Rd.app1 (f:=F2)<|R.ext0 H.ext) ?_;rintro a7 c7 full7 w H O;refine qG 5 ?_;exact H.fresh O
theorem WU(es:List Ed):(es.flatMap Co).length=es.length*4:=by
 induction es with
 |nil=>rfl
 |cons e es ih =>
  rw[qbw,qat,ih];show 4+es.length*4=(es.length+1)*4;omega
theorem WV(es:List Ed):∀v∈es.flatMap Co,AF v=true:=fun v hv=>by
 obtain⟨e,_,he⟩:=qei.1 hv;simp only[Co,qaf,qan,or_false]at he
 rcases he with rfl|rfl|rfl|rfl <;> rfl
theorem WW(a:Option Addr)(n c:Nat)(es:List Ed)(w:World)(R:Rd w a 4 Co es)(hn:es.length=n)(hm:n<=1000000000:=by omega):
  Ret prog 167 #[.slice a n c] w fun v w'=>Fresh w w' 195 4 v (es.flatMap Co):=by
 subst hn;obtain⟨w0,rfl,H⟩:=qE w;refine iG func167 U ?_;refine qGc 10 ?_ ?_
 .intro h1;have ha:a=none:=by simpa using h1
  subst ha
  have hxs:es=[]:=by
   cases es with
   |nil=>rfl
   |cons x xs=>obtain⟨b,o,h⟩:=R.some' (by simp);cases h
  subst hxs;refine qG 7 ?_;exact Fresh.nil H _ _
 .intro h1;refine qG 4 ?_;rintro b5 w H O;refine AH U<|Ee qf qf qf qf qf U (es.flatMap Co) U U H O (WU es) (WV es) ((R.ext0 H.ext).app (fun _ _=>rfl)<|by omega) ?_;rintro a7 c7 full7 w H O;refine qG 5 ?_;exact H.fresh O
theorem Vu(r:Rnd)(q:RSl)(w:World)(RA:RAt w r q)(hr:RBnd r):Ret prog 84 #[.agg (AE r q).toArray] w fun v w'=>v=.bool (Gg r)/\Ext [] w w':=by
 obtain⟨w0,rfl,H⟩:=qE w;obtain⟨ck,hck⟩:=qD<|Ev r.N r.es r.fl r.pot;have hmr:Gg r=(ck && (decide (r.ids.length<=64) && decide (0<=r.day))):=by unfold Gg;rw[<-hck]
 refine iG func84 U<|Af<|Be (AE r q) (.agg _) U U H ?_;rintro b1 w - H;refine qG 5 ?_;refine BC _ qf qf U U ((BQ (b:=b1) (t:=57) (l:=AE r q) (H.get at0) 4 [.int .i64 r.N,.slice q.aE r.es.length q.cE] U))<|Ae qf U<|BC _ qf qf U U ((BQ (b:=b1) (t:=57) (l:=AE r q) (H.get at0) 6 [.slice q.aF r.fl.length q.cF,.slice q.aP r.pot.length q.cP] U))<|Aj qB (Ri r.N q.aE q.aF q.aP _ q.cE _ q.cF _ q.cP r.es r.fl r.pot _ (RA.E.ext0 H.ext) U hr.N (RA.F.ext0 H.ext) U (by have:=hr.fl;omega) (RA.P.ext0 H.ext) U (by have:=hr.pot;omega)) U ?_;rintro v w ⟨rfl,hx14⟩;rw[<-hck];replace H:=H.call hx14;refine Bj U<|Az 8 U ?_ ?_
 .intro h1;refine qG 6 ?_;refine iC 14 U ?_ ?_
  .intro h2;refine qG 9 ?_;exact⟨qaa Value.bool (by rw[hmr,qac];simp_all;try omega),H.ext⟩
  .intro h3;refine qG 9 ?_;exact⟨qaa Value.bool (by rw[hmr,qac];simp_all;try omega),H.ext⟩
 .intro h4;refine qG 15 ?_;exact⟨qaa Value.bool (by rw[hmr,qac];simp_all;try omega),H.ext⟩
theorem Qu(r:Rnd)(q:RSl)(w:World)(RA:RAt w r q)(hr:RBnd r):Ret prog 113 #[.agg (AE r q).toArray] w fun v w'=>Ext [] w w'/\∃q',v=.agg (AE r q').toArray/\RAt w' r q'/\ROff q' r (fun x=>x<w.heap.size):=by
 obtain⟨w0,rfl,H⟩:=qE w;have b1':=hr.ids;have b2':=hr.es;have b3':=hr.fl;have b4':=hr.pot;refine iG func113 U<|Af<|Be (AE r q) (.agg _) U U H ?_;rintro b1 w - H;refine AN qf H ?_;rintro b2 w - H;refine qA<|BG [([0,1,3,4,5],2),([7],6),([],8),([9,10],11)] (fun z=>z.heap[b1]?=some (Bl 57 (AE r q))) [8,11] AW (H.drew.get at1) ?_;refine A0 U U<|Ah qf U<|AU qf U (fun _ hx=>(by rw[Ai hx];rfl)) ?_;refine Ah qf U<|Ah qf U<|AU qf U (fun _ hx=>(by rw[Ai hx];rfl)) ?_;refine A6 ?_;replace H:=H.drew;refine Aj qB (WT _ _ _ r.ids _ (RA.I.ext0 H.ext) U) U ?_;rintro v w F;obtain⟨a5,n5,c5,f5,rfl,O5,hb5⟩:=F.ex;obtain rfl:=O5.num;replace H:Ctx w0 [] w ((b2,Bl 57 rnd0)::(b1,Bl 57 (AE r q))::ent a5 24 f5):=H.callEnt F.ext hb5 DX
 refine Ab<|Bv (H.get at1)<|A0 U U ?_;refine Ah qf U<|A6<|Aj qB (WW _ _ _ r.es _ (RA.E.ext0 H.ext) U) U ?_;rintro v w F;obtain⟨a9,n9,c9,f9,rfl,O9,hb9⟩:=F.ex;obtain rfl:=O9.numN (fun _ _=>rfl) (by decide);replace H:Ctx w0 [] w ((b2,Bl 57 rnd0)::(b1,Bl 57 (AE r q))::(ent a5 24 f5++ent a9 195 f9)):=H.callEnt F.ext hb9 DX;refine Ab<|Bv (H.get at1)<|A0 U U ?_;refine A6<|Ch (.slice _ _ _) qf U U U H at1 (by(simp;done)) ?_;rintro w H;refine Ab<|Bw U<|A0 U U ?_;refine Ah qf U<|Ah qf U<|A6<|Ch (.slice _ _ _) qf U U U H at1 (by(simp;done)) ?_;rintro w H;refine Ab<|Bw U<|Bu ?_
 change Ctx w0 [] w ((b2,Bl 57 rnd0)::(b1,Bl 57 (AE r ⟨a5,c5,a9,c9,q.aF,q.cF,q.aP,q.cP⟩))::(ent a5 24 f5++ent a9 195 f9))at H
 refine BG [([0,1,2,4,5,6],3),([],7),([8,9],10)] (fun z=>z.heap[b1]?=some (Bl 57 (AE r ⟨a5,c5,a9,c9,q.aF,q.cF,q.aP,q.cP⟩))) [10] AW (H.drew.get at1) ?_;refine A0 U U<|Ah qf U<|Ah qf U<|AU qf U (fun _ hx=>(by rw[Ai hx];rfl)) ?_;refine Ah qf U<|Ah qf U<|AU qf U (fun _ hx=>(by rw[Ai hx];rfl)) ?_;refine A6 ?_;replace H:=H.drew;refine Aj qB (Lz _ _ _ r.fl _ (RA.F.ext0 H.ext) U) U ?_;rintro v w F;obtain⟨a6,n6,c6,f6,rfl,O6,hb6⟩:=F.ex;obtain rfl:=O6.num;replace H:Ctx w0 [] w ((b2,Bl 57 rnd0)::(b1,Bl 57 (AE r ⟨a5,c5,a9,c9,q.aF,q.cF,q.aP,q.cP⟩))::(ent a5 24 f5++ent a9 195 f9++ent a6 2 f6)):=H.callEnt F.ext hb6 DX;refine Ab<|Bv (H.get at1)<|A0 U U ?_;refine A6<|Aj qB (Lz _ _ _ r.pot _ (RA.P.ext0 H.ext) U) U ?_;rintro v w F;obtain⟨a7,n7,c7,f7,rfl,O7,hb7⟩:=F.ex;obtain rfl:=O7.num
 replace H:Ctx w0 [] w ((b2,Bl 57 rnd0)::(b1,Bl 57 (AE r ⟨a5,c5,a9,c9,q.aF,q.cF,q.aP,q.cP⟩))::(ent a5 24 f5++ent a9 195 f9++ent a6 2 f6++ent a7 2 f7)):=H.callEnt F.ext hb7 DX;refine Ab<|Bv (H.get at1)<|A0 U U ?_;refine Ef [.slice a6 r.fl.length c6,.slice a7 r.pot.length c7] qf qf<|Ah qf U<|A6<|FU U qf U U U (by simp[AF]) H at1 (show 0+6+2<=8 by decide) ?_;rintro w H;refine Ab<|Bw U<|Bu ?_
 change Ctx w0 [] w ((b2,Bl 57 rnd0)::(b1,Bl 57 (AE r ⟨a5,c5,a9,c9,a6,c6,a7,c7⟩))::(ent a5 24 f5++ent a9 195 f9++ent a6 2 f6++ent a7 2 f7))at H
 refine Af<|Dh qf qf U H at1 U<|AM qf U U U (by simp[AF]) H at0 U ?_;rintro w H;refine qA<|Bf<|C1 U U U qf qf H at0 U ?_;have hm:∀x,x∈ent a5 24 f5++ent a9 195 f9++ent a6 2 f6++ent a7 2 f7->w.heap[x.1]?=some x.2/\w0.heap.size<=x.1:=fun x hx=>⟨H.blk x<|qap [_,_] hx,(H.own x<|qap [_,_] hx).elim (fun h=>by cases h) id⟩
 have hoff:∀{t:TypeId} {a:Option Addr} {n c s:Nat} {f l:List Value},OS a n c s f l->(∀x∈ent a t f,w0.heap.size<=x.1)->0<n->¬(adr a).block<w0.heap.size:=fun{t a n c s f l} O h hn=>by
  obtain⟨q,rfl⟩:=O.form hn;have:=h (q,Bl t f)<|qab.2 rfl;exact Nat.not_lt.2 this
 have m5:∀x∈ent a5 24 f5,_:=fun x hx=>hm x<|qax _<|qax _<|qax _ hx;have m9:∀x∈ent a9 195 f9,_:=fun x hx=>hm x<|qax _<|qax _<|qap _ hx;have m6:∀x∈ent a6 2 f6,_:=fun x hx=>hm x<|qax _<|qap _ hx;have m7:∀x∈ent a7 2 f7,_:=fun x hx=>hm x<|qap _ hx
 exact⟨H.ext,⟨a5,c5,a9,c9,a6,c6,a7,c7⟩,rfl,⟨O5.rd1 fun x hx=>(m5 x hx).1,OS.rd O9 (fun x hx=>(m9 x hx).1) (fun _ _=>rfl)<|by decide,O6.rd1 fun x hx=>(m6 x hx).1,O7.rd1 fun x hx=>(m7 x hx).1,O6.le⟩,
  ⟨fun h=>hoff O5 (fun x hx=>(m5 x hx).2)<|qbu.2 h,fun h=>hoff O9 (fun x hx=>(m9 x hx).2)<|qbu.2 h,fun h=>hoff O6 (fun x hx=>(m6 x hx).2)<|qbu.2 h,fun h=>hoff O7 (fun x hx=>(m7 x hx).2)<|qbu.2 h⟩⟩
theorem Qv:∀{vs l:List Value} {i j:Nat},i+vs.length<=j->(over l i vs)[j]?=l[j]?
 | [],_,_,_,_=>rfl
 |v::vs,l,i,j,h=>by
  have h1:i+1+vs.length<=j:=by rw[qbd]at h;omega
  show(over (l.set i v) (i+1) vs)[j]?=_;rw[Qv h1,qbx<|by omega]
theorem Qw:∀{vs l:List Value} {i j:Nat},j<i->(over l i vs)[j]?=l[j]?
 | [],_,_,_,_=>rfl
 |v::vs,l,i,j,h=>by
  show(over (l.set i v) (i+1) vs)[j]?=_;rw[Qw<|by omega,qbx<|by omega]
theorem Vv:∀{vs l:List Value} {i j:Nat},i+vs.length<=l.length->j<vs.length->(over l i vs)[i+j]?=vs[j]?
 | [],_,_,_,_,h=>by cases h
 |v::vs,l,i,0,h,_=>by
  show(over (l.set i v) (i+1) vs)[i+0]?=_;rw[Qw<|by omega,Nat.add_zero,qc2 (by rw[qbd]at h;omega)];rfl
 |v::vs,l,i,j+1,h,hj=>by
  show(over (l.set i v) (i+1) vs)[i+(j+1)]?=vs[j]?;rw[show i+(j+1)=i+1+j by omega];exact Vv (by rw[qb8];rw[qbd]at h;omega) (by rw[qbd]at hj;omega)
def Hy(arch:List Value)(n:Nat)(r:Rnd)(q:RSl):List Value:=((over arch ((r.no % 4).toNat*8) (AE r q)).set 32 (.int .u64 ((min (n+1) 4:Nat):Int))).set 33 (.int .u64 r.no)
theorem Ad3(h1:w.heap[b1]?=some o1)(h2:w.heap[b2]?=some o2)(hne:b1≠b2:=by omega):Ctx w [b1,b2] w [(b1,o1),(b2,o2)] :=
 ⟨Ext.refl _ _,fun y hy=>by
  simp only[qaf,qan,or_false]at hy
  rcases hy with rfl|rfl
  .exact h1
  .exact h2,by simp only[qbf,qab,forall_eq,qan,false_implies,implies_true,List.Pairwise.nil,and_true];exact hne,fun y hy=>by
  simp only[qaf,qan,or_false]at hy
  rcases hy with rfl|rfl
  .exact .inl (qah ..)
  .exact .inl (qae _<|qah ..)⟩
theorem Vw(r:Rnd)(q:RSl)(w:World)(RA:RAt w r q)(hr:RBnd r)(h0:w.heap[br]?=some (Bl 159 arch))(hl:arch.length=34)(hn:arch[32]?=some (.int .u64 n))(hn4:n<=4)(hno:0<=r.no/\r.no<=4611686018427387904) :
  Ret prog 85 #[ptr br,.agg (AE r q).toArray] w fun _ w'=>∃q',Ctx w [br] w' [(br,Bl 159 (Hy arch n r q'))]/\RAt w' r q'/\ROff q' r (fun x=>x<w.heap.size):=by
 obtain⟨w0,rfl,H⟩:=qE w;refine iG func85 U ?_;refine Af<|Be (AE r q) (.agg _) U U H ?_;rintro b3 w - H;refine qA ?_;have h3:0<=r.no % 4/\r.no % 4<4:=⟨qdf _<|by decide,qdg _<|by decide⟩;refine BG [([0,1,2,3,4,6,7],5),([8],9)] (fun z=>z.heap[b3]?=some (Bl 57 (AE r q))) [9] AW (H.drew.get at0)<|A0 U U ?_;refine Bm U<|Ah qf U<|AU qf U (fun _ hx=>(by rw[Ai hx];rfl)) ?_;refine Aet U U U ?_;refine EZ _ qf qf U U (fun _ hx=>(BQ (b:=b3) (t:=57) (l:=AE r q) hx 0 (AE r q) rfl))<|A7 U<|Ah qf U<|A6 ?_;replace H:=H.drew;have hx3:=H.ext;have hlb3:=AX<|H.get at0;have hb3:w0.heap.size<=b3:=(H.own _<|qah ..).elim (fun h=>by cases h) id;have hlbr:=AX h0
 refine Aj qB (Qu r q _ (RA.ext0 H.ext) hr) U ?_;rintro v w ⟨hx9,q',rfl,RA',hoff⟩;obtain⟨w9,rfl⟩:=qD w;have hE9:=hx3.trans hx9;replace H:Ctx w9 [br,b3] w9 [(br,Bl 159 arch),(b3,Bl 57 (AE r q))]:=Ad3 (hE9.to h0<|by simp) (hx9.to (H.get at0)<|by simp);refine Ab<|Bv (H.get at1)<|A0 U U ?_;refine MN U qf qf U U<|A6<|FU U qf U U U (by simp[AF]) H at0 (by omega) ?_;rintro w H;refine qG 3 ?_;rw[show 0+0+(r.no % 4).toNat*8=(r.no % 4).toNat*8 by omega]at H;obtain⟨A,hA⟩:=qD<|over arch ((r.no % 4).toNat*8)<|AE r q';rw[<-hA]at H;have hAl:A.length=34:=by rw[hA,D6];exact hl
 have hAn:A[32]?=some (.int .u64 n):=by rw[hA,Qv (by show(r.no % 4).toNat*8+8<=32;omega)];exact hn
 refine Eb [([0,1,2,3,4,8,9],5),([6,7,10,11],12),([13,14],15)] (fun z=>z.heap[b3]?=some (Bl 57 (AE r q))) [] AW (H.drew.get at1)<|A0 U U ?_;refine Bm U<|Bm U<|Bm U<|A7 U<|Ah qf U<|Ah qf U<|AU qf U (fun _ hx=>(by rw[Ai hx];rfl)) ?_;refine A6 ?_;replace H:=H.drew;refine A9 qf U ((by rw[Ai<|H.get at0];exact hAn)) ?_;refine Ab<|Bv (H.get at1)<|A0 U U ?_;refine Lk U U U<|X7 U U U ?_;refine A7 U<|Ah qf U<|A6<|Ch (.int _ _) qf U U U H at0 (by(simp;omega)) ?_;rintro w H;refine Ab<|Bv (H.get at1)<|A0 U U ?_;refine A7 U<|Ah qf U<|A6<|Ch (.int _ _) qf U U U H at0 (by(simp;omega)) ?_;rintro w H;refine Ab<|Bv (H.get at1)<|Bu<|Ii U U ?_;have hs3:=hx3.size;refine⟨q',?_,RA'.ext H.ext<|hoff.mono fun x hx=>?_,hoff.mono fun x hx=>qbb hx hs3⟩
 .have h9:Hy arch n r q'=(A.set (0+32)<|.int .u64<|min ((n:Int)+1) 4).set (0+33) (.int .u64 r.no):=by
   unfold Hy;rw[<-hA,show((min (n+1) 4:Nat):Int)=min ((n:Int)+1) 4 by omega]
  rw[h9]
  exact⟨(hE9.mono (S':=[br])<|by simp).then H.ext (fun x hx=>by
   simp only[qaf,qan,or_false]at hx
   rcases hx with rfl|rfl
   .exact .inl (qab.2 U)
   .exact .inr hb3),fun y hy=>by rw[qab.1 hy];exact H.get at0,by simp,fun y hy=>by rw[qab.1 hy];exact .inl<|qab.2 rfl⟩
 .simp only[qaf,qan,or_false]at hx
  rcases hx with rfl|rfl
  .exact qbb hlbr hs3
  .exact hlb3
theorem RAt.no(h:RAt w r q)(k d:Int):RAt w { r with no:=k,day:=d } q:=⟨h.I,h.E,h.F,h.P,h.fc⟩
theorem RBnd.no(h:RBnd r)(k d:Int):RBnd { r with no:=k,day:=d }:=⟨h.N,h.es,h.ids,h.fl,h.pot⟩
theorem Ad4{no:Int}(r:Rnd)(q:RSl)(w:World)(RA:RAt w r q)(hr:RBnd r)(h0:w.heap[br]?=some (Bl 159 arch))(hl:arch.length=34)(hn:arch[32]?=some (.int .u64 n))(hno:arch[33]?=some (.int .u64 no))(hn4:n<=4)(hb:0<=no/\no<4611686018427387904)(hm:Gg r=true) :
  Ret prog 106 #[ptr br,.agg (AE r q).toArray] w fun v w'=>v=.tuple #[.int .u64<|no+1,.int .i64 0]/\∃q',Ctx w [br] w' [(br,Bl 159 (Hy arch n { r with no:=no+1 } q'))]/\RAt w' { r with no:=no+1 } q'/\ROff q' { r with no:=no+1 } (fun x=>x<w.heap.size):=by
 obtain⟨w0,rfl,H⟩:=qE w;have hlbr:=AX h0;refine iG func106 U ?_;refine Af<|Be (AE r q) (.agg _) U U H ?_;rintro b3 w - H;refine qGc 12 ?_ ?_
 .intro h1;cases h1
 .intro h1;refine qG 2 ?_;refine Aj qB (Vu r q _ (RA.ext0 H.ext) hr) U ?_;rintro v w ⟨rfl,hx11⟩;replace H:=H.call hx11;rw[hm];refine qGp 4 ?_ ?_
  .intro h2;cases h2
  .intro h2;refine qG 4 ?_;refine A9 qf U ((by rw[Ai<|H.ext.to h0<|by simp];exact hno)) ?_;refine qGp 4 ?_ ?_
   .intro h3;omega
   .intro h3;refine A1<|Av<|Aa<|Af<|AV U<|AR U<|Ae qf U<|A9 qf U ((by rw[Ai<|H.ext.to h0<|by simp];exact hno)) ?_;refine Et U U<|Ae qf U<|Ch (.int _ _) qf U U U H at0 (by(simp;done)) ?_;rintro w H;refine qG 5 ?_;have hb3:w0.heap.size<=b3:=(H.own _<|qah ..).elim (fun h=>by cases h) id;refine Aj qB (Vw (n:=n) (arch:=arch) { r with no:=no+1 } q _ ((RA.ext0 H.ext).no (no+1) r.day) (hr.no (no+1) r.day) (H.ext.to h0<|by simp) hl hn hn4 (by dsimp only;omega)) U ?_;rintro v w ⟨q',H2,RA',hoff⟩;have hx27:=H.ext;have hl27:=AX<|H.get at0;have h27:=H2.ext.to (H.get at0) (by rw[qab];omega);have H:=Ctx.start1 h27;refine qG 11 ?_;have hsz:=hx27.size
    exact⟨rfl,q',⟨(hx27.mono<|by simp).trans H2.ext,H2.blk,H2.nd,fun y hy=>by rw[qab.1 hy];exact .inl<|qab.2 rfl⟩,RA',hoff.mono fun x hx=>qbb hx hsz⟩
theorem Aa0{no:Int}(w:World)(h0:w.heap[br]?=some (Bl 159 arch))(hno:arch[33]?=some (.int .u64 no)) :
  Ret prog 60 #[ptr br] w fun v w'=>v=.int .u64 no/\Ext [] w w':=by
 obtain⟨w0,rfl,H⟩:=qE w;refine iG func60 U ?_;refine qGc 10 ?_ ?_
 .intro h1;cases h1
 .intro h1;refine qG 6 ?_;refine A9 qf U ((by rw[Ai<|H.ext.to h0<|by simp];exact hno)) ?_;refine qG 5 ?_;exact⟨rfl,H.ext⟩
theorem N2{K:Env->Prop}{x:Operand}(hg:AJ ⟨dst,.binOp .eql t x (.const<|.pointer none) t2,ty,pos,af,g⟩ ops e=true)(hu:P.underlying t=some (.pointer el))(hx:ev e x=.pointer a)(h:Wq P ops C K rest<|put e dst<|.bool a.isNone):Wq P ops C K (⟨dst,.binOp .eql t x (.const<|.pointer none) t2,ty,pos,af,g⟩::rest) e :=
 DI hg (fun w _=>by
  have hq:eqGuard .eql t x (.const<|.pointer none) (.pointer a) (.pointer none)=pure ():=rfl;have he:ev e (.const<|.pointer none)=.pointer none:=rfl
  simp only[execOp,hx,he,hq,Sem.run_bind,Sem.run_pure,Result.andThen_ok,QM hu]) h
theorem S6{no:Int}(w:World)(h0:w.heap[br]?=some (Bl 159 arch))(hn:arch[32]?=some (.int .u64 n))(hno:arch[33]?=some (.int .u64 no))(hb:0<=no/\no<=4611686018427387904)(hk0:0<=k/\k<=18446744073709551615)(hk:k<=no->(n:Int)<=no - k) :
  Ret prog 110 #[ptr br,.int .u64 k] w fun v w'=>v=.tuple #[.agg (rnd0).toArray,.bool false]/\Ext [] w w':=by
 obtain⟨w0,rfl,H⟩:=qE w;refine iG func110 U ?_;refine Af<|AN qf H ?_;rintro b4 w - H;refine qG 4 ?_
 by_cases hkn:no<k
 .skip
  refine CG (fun x=>x=_) AW U<|BE U<|N2 U qf U ?_;refine qG 5 ?_;refine BD qf U (by rintro _ rfl;exact((by rw[Ai<|H.drew.ext.to h0<|by simp];exact hno)))<|QD U U U ?_;rw[qam hkn];refine qG 15 ?_;rintro _ rfl;replace H:=H.drew;refine EG U<|Af<|Bd [.int .u64 0,.int .i64 0,.bool false,.slice none 0 0,.int .i64 0,.slice none 0 0,.slice none 0 0,.slice none 0 0] qf qf ?_;refine qG 1 ?_;rintro w H;refine qG 5 ?_;refine DV U U U qf qf H at0 U (show _=(.bool _)from rfl) ?_;exact⟨rfl,H.ext⟩
 .skip
  refine CG (fun x=>x=_) AW U<|BE U<|N2 U qf U ?_;refine qG 5 ?_;refine BD qf U (by rintro _ rfl;exact((by rw[Ai<|H.drew.ext.to h0<|by simp];exact hno)))<|QD U U U ?_;rw[qa1 hkn];refine qG 5 ?_;refine BD qf U (by rintro _ rfl;exact((by rw[Ai<|H.drew.ext.to h0<|by simp];exact hno)))<|AS U<|NY U U U<|BE U<|Bc U<|Aq qf U<|BD qf U (by rintro _ rfl;exact((by rw[Ai<|H.drew.ext.to h0<|by simp];exact hn)))<|Aeo U U U ?_;rw[qam<|show(n:Int)<=no - k from hk<|by omega];refine qG 2 ?_;rintro _ rfl;replace H:=H.drew;refine EG U<|Af<|Bd [.int .u64 0,.int .i64 0,.bool false,.slice none 0 0,.int .i64 0,.slice none 0 0,.slice none 0 0,.slice none 0 0] qf qf ?_;refine qG 1 ?_;rintro w H;refine qG 5 ?_;refine DV U U U qf qf H at0 U (show _=(.bool _)from rfl) ?_;exact⟨rfl,H.ext⟩
theorem Pn{no:Int}(w:World)(h0:w.heap[br]?=some (Bl 159 arch))(_:arch.length=34)(hn:arch[32]?=some (.int .u64 n))(hno:arch[33]?=some (.int .u64 no))(hb:0<=no/\no<=4611686018427387904)(hk0:0<=k/\k<=18446744073709551615)(hk:k<=no/\no - k<n)(hc:∀j v,(AE r q)[j]?=some v->arch[(k % 4).toNat*8+j]?=some v)(RA:RAt w r q)(hr:RBnd r) :
  Ret prog 110 #[ptr br,.int .u64 k] w fun v w'=>Ext [] w w'/\∃q',v=.tuple #[.agg (AE r q').toArray,.bool true]/\RAt w' r q'/\ROff q' r (fun x=>x<w.heap.size):=by
 obtain⟨w0,rfl,H⟩:=qE w;have h3:0<=k % 4/\k % 4<4:=⟨qdf _<|by decide,qdg _<|by decide⟩;refine iG func110 U ?_;refine Af<|AN qf H ?_;rintro b4 w - H;refine qG 4 ?_;refine CG (fun x=>x=_) AW U<|BE U<|N2 U qf U ?_;refine qG 5 ?_;refine BD qf U (by rintro _ rfl;exact((by rw[Ai<|H.drew.ext.to h0<|by simp];exact hno)))<|QD U U U ?_;rw[qa1<|show ¬no<k by omega];refine qG 5 ?_;refine BD qf U (by rintro _ rfl;exact((by rw[Ai<|H.drew.ext.to h0<|by simp];exact hno)))<|AS U<|NY U U U<|BE U<|Bc U<|Aq qf U<|BD qf U (by rintro _ rfl;exact((by rw[Ai<|H.drew.ext.to h0<|by simp];exact hn)))<|Aeo U U U ?_;rw[qa1<|show ¬(n:Int)<=no - k by omega]
 refine qG 2 ?_;rintro _ rfl;replace H:=H.drew;refine qG 6 ?_;refine SU U U U<|AR U<|Ae qf U<|LH U qf qf U U<|BC _ qf qf U U ((fun j v hv=>by rw[Ai<|H.ext.to h0<|by simp,show 0+0+(k % 4).toNat*8+j=(k % 4).toNat*8+j by omega];exact hc j v hv)) ?_;have hx3:=H.ext;have hl4:=AX<|H.get at0;refine Aj qB (Qu r q _ (RA.ext0 H.ext) hr) U ?_;rintro v w ⟨hx9,q',rfl,RA',hoff⟩;obtain⟨w9,rfl⟩:=qD w;have h4:=hx9.to (H.get at0) (by simp);have hb4:w0.heap.size<=b4:=(H.own _<|qah ..).elim (fun h=>by cases h) id;replace H:=Ctx.start1 h4;refine qG 1 ?_;rintro w H;refine qG 4 ?_;refine DV U U U qf qf H at0 U (show _=(.bool _)from rfl) ?_;have hs3:=hx3.size
 refine⟨(hx3.trans hx9).then H.ext fun x hx => .inr (by rw[qab.1 hx];exact hb4),q',rfl,RA'.ext H.ext (hoff.mono fun x hx=>by rw[qab.1 hx];exact hl4),hoff.mono fun x hx=>qbb hx hs3⟩
theorem Aa1(h:s.Ok){x:Rnd}(hx:x∈DY s.rn r):x=r\/(x∈s.rn/\s.no - 2<=x.no/\x.no<=s.no):=by
 obtain⟨i,hi⟩:=qbi.1 hx;unfold DY at hi;rw[qc0]at hi
 rcases qao (s.rn.length - 3+i) s.rn.length with h5|h5
 .rw[qcw h5]at hi;have h1:=h.nos _ x hi;exact .inr ⟨qad hi,by omega,by omega⟩
 .rw[qcp h5]at hi;left
  have h6:s.rn.length - 3+i - s.rn.length=0:=by
   have:=BH hi;rw[qb6]at this;omega
  rw[h6]at hi;cases hi;rfl
theorem Vx(arch:List Value)(n:Nat)(r:Rnd)(q:RSl):(Hy arch n r q).length=arch.length:=by
 unfold Hy;rw[qb8,qb8,D6]
theorem Afg(h:arch.length=34)(n:Nat)(r:Rnd)(q:RSl):(Hy arch n r q)[32]?=some (.int .u64 ((min (n+1) 4:Nat):Int)):=by
 unfold Hy;rw[qbx<|by decide,qc2 (by rw[D6];omega)]
theorem Aji(h:arch.length=34)(n:Nat)(r:Rnd)(q:RSl):(Hy arch n r q)[33]?=some (.int .u64 r.no):=by
 unfold Hy;rw[qc2 (by rw[qb8,D6];omega)]
theorem Aa2(h:arch.length=34)(n:Nat)(hj:(AE r q)[j]?=some v):(Hy arch n r q)[(r.no % 4).toNat*8+j]?=some v:=by
 have hlt:j<8:=BH hj;have h3:0<=r.no % 4/\r.no % 4<4:=⟨qdf _<|by decide,qdg _<|by decide⟩;unfold Hy;rw[qbx<|by omega,qbx<|by omega,Vv (by rw[h];show _+8<=34;omega) hlt];exact hj
theorem Vy(n:Nat){x:Rnd}(hne:x.no % 4≠r.no % 4)(hj:(AE x qx)[j]?=some v)(hc:arch[(x.no % 4).toNat*8+j]?=some v):(Hy arch n r q)[(x.no % 4).toNat*8+j]?=some v:=by
 have hlt:j<8:=BH hj;have h3:0<=r.no % 4/\r.no % 4<4:=⟨qdf _<|by decide,qdg _<|by decide⟩;have h4:0<=x.no % 4/\x.no % 4<4:=⟨qdf _<|by decide,qdg _<|by decide⟩;unfold Hy;rw[qbx<|by omega,qbx<|by omega]
 rcases Int.lt_or_gt_of_ne hne with h|h
 .rw[Qw<|by omega];exact hc
 .rw[Qv (by show(r.no % 4).toNat*8+8<=_;omega)];exact hc
theorem Mw(h:Gg r=true):RBnd r:=by
 unfold Gg at h;simp only[qag,qav]at h;obtain⟨hc,hi,-⟩:=h;obtain⟨h1,h2,-⟩:=G4.1 hc;obtain⟨g1,g2,g3,-⟩:=Cr (Cj (E4 h1).1).2.1;have g4:=(Cj (E4 h1).1).1;have g5:=(Je h2).1;exact⟨⟨by omega,by omega⟩,by omega,by omega,by omega,by omega⟩
theorem LA(h:s.Ok)(hg:JA s k=some r):(k<=s.no/\s.no - k<s.rn.length)/\r∈s.rn/\r.no=k:=by
 unfold JA at hg
 by_cases h1:k<=s.no/\s.no - k<s.rn.length
 .rw[if_pos h1]at hg;have h2:=h.nos _ r hg;exact⟨h1,qad hg,by omega⟩
 .rw[if_neg h1]at hg;cases hg
theorem Po(h:s.Ok)(hg:JA s k=none)(hk:k<=s.no):(s.rn.length:Int)<=s.no - k:=by
 by_cases h1:s.no - k<s.rn.length
 .unfold JA at hg;rw[if_pos ⟨hk,h1⟩,List.getElem?_eq_none_iff]at hg;have:=h.kept;omega
 .omega
theorem Ad5{m':Lm}{s':Ld}(h1:m'.bl=m.bl)(h2:m'.br=m.br)(h3:m'.ba=m.ba)(h4:m'.bd=m.bd)(h5:m'.b=m.b)(h6:m'.a=m.a):CR m' s'=CR m s:=by
 obtain⟨bl,ba,bd,br,b,a,c,full,o,arch⟩:=m;obtain⟨bl',ba',bd',br',b',a',c',full',o',arch'⟩:=m';dsimp only at h1 h2 h3 h4 h5 h6;subst h1 h2 h3 h4 h5 h6;show bl'::br'::ba'::bd'::b'::(ent a' 162 full').map (fun x=>x.1)=bl'::br'::ba'::bd'::b'::(ent a' 162 full).map (fun x=>x.1);rw[Vr (f:=full') (g:=full)]
theorem LdIn.rnd(I:LdIn w m s T)(he:Ext S w w')(hs:∀x∈S,T x)(hok:(L4 s r).Ok)(O:OS m.a (DE s.acs s.ds r).length m.c 2 full' ((DE s.acs s.ds r).flatMap Cg))(M:CQ .u64 (dm<|DM s.acs s.ds r) o')(RA:RAt w' { r with no:=s.no+1,day:=s.day } q)(hoff:ROff q { r with no:=s.no+1,day:=s.day } fun x=>x<w1.heap.size)(hle:w.heap.size<=w1.heap.size) :
  LdIn w' ⟨m.bl,m.ba,m.bd,m.br,m.b,m.a,m.c,full',o',Hy m.arch s.rn.length { r with no:=s.no+1,day:=s.day } q⟩ (L4 s r) (fun x=>T x\/x∈CR ⟨m.bl,m.ba,m.bd,m.br,m.b,m.a,m.c,full',o',Hy m.arch s.rn.length { r with no:=s.no+1,day:=s.day } q⟩ (L4 s r)):=by
 have hid:∀x,T x\/x∈CR ⟨m.bl,m.ba,m.bd,m.br,m.b,m.a,m.c,full',o',Hy m.arch s.rn.length { r with no:=s.no+1,day:=s.day } q⟩ (L4 s r)->T x:=fun x hx=>by
  exact hx.elim id fun h=>I.own x<|Eq.mp (qaa (fun l=>x∈l)<|Ad5 (m:=m) (s:=s) (m':=⟨m.bl,m.ba,m.bd,m.br,m.b,m.a,m.c,full',o',Hy m.arch s.rn.length { r with no:=s.no+1,day:=s.day } q⟩) (s':=L4 s r) rfl rfl rfl rfl rfl rfl) h
 refine⟨O,M,hok,by rw[Vx];exact I.len,?_,Aji I.len _ _ _,fun x hx=>?_,fun x hx => .inr hx,fun x hx=>qbb (I.low x<|hid x hx) he.size⟩
 .rw[Afg I.len];show _=some (Value.int .u64 (((DY s.rn { r with no:=s.no+1,day:=s.day }).length:Nat):Int));rw[Nv I.ok.kept.1]
 .rcases Aa1 I.ok hx with rfl|⟨h1,h2,h3⟩
  .exact⟨q,fun j v h=>Aa2 I.len _ h,RA,hoff.mono fun x hx=>qbb (I.low x<|hid x hx) hle⟩
  .obtain⟨qx,g1,g2,g3⟩:=I.kept x h1;exact⟨qx,fun j v h=>Vy _ (by show x.no % 4≠(s.no+1) % 4;omega) h<|g1 j v h,g2.ext he<|g3.mono hs,g3.mono fun y hy=>hid y hy⟩
def Grows(T T':Nat->Prop)(w:World):Prop:=(∀x,T x->T' x)/\(∀x,T' x->T x\/w.heap.size<=x)
theorem Grows.refl(T:Nat->Prop)(w:World):Grows T T w:=⟨fun _ h=>h,fun _ h => .inl h⟩
theorem LdIn.grow(I:LdIn w m s T)(he:Ext S w w')(hs:∀x∈S,T x\/w.heap.size<=x)(g:Grows T T' w)(hl:∀x,T' x->x<w'.heap.size):LdIn w' m s T' where
 O:=I.O
 M:=I.M
 ok:=I.ok
 len:=I.len
 n:=I.n
 no:=I.no
 kept:=fun r h=>by
  obtain⟨q,h1,h2,h3⟩:=I.kept r h;have h4:=h3.or h2.lt;exact⟨q,h1,h2.ext he<|h4.mono hs,h4.mono g.2⟩
 own:=fun x hx=>g.1 x<|I.own x hx
 low:=hl
def s00:Ld:=⟨0,[],[],1,[],0⟩
theorem Ajj:s00.Ok:=⟨by decide,by decide,fun d h=>(by cases h),by decide,by decide,fun i r h=>(by cases h),fun r h=>(by cases h)⟩
abbrev LZ:List Value:=rnd0++(rnd0++(rnd0++(rnd0++[.int .u64 0,.int .u64 0])))
theorem Aa3(w:World):Ret prog 31 #[] w fun v w'=>∃b,v=ptr b/\Ctx w [] w' [(b,Bl 153 [.slice none 0 0])]:=by
 obtain⟨w0,rfl,H⟩:=qE w;refine iG func31 U<|Af<|Bx U<|qA<|Af<|Bd [.slice none 0 0] qf qf ?_;refine Be [.slice none 0 0] (.agg _) U U H ?_;rintro b2 w - H;refine qG 5 ?_;exact⟨b2,rfl,H⟩
theorem Aa4(w:World):Ret prog 33 #[] w fun v w'=>∃b,v=ptr b/\Ctx w [] w' [(b,Bl 159 LZ)]:=by
 obtain⟨w0,rfl,H⟩:=qE w;refine Ao (fn:=Tryz.f33) func33 U [] U<|Af<|Bx U<|qA<|Af<|Bd LZ qf qf ?_;refine Be LZ (.agg _) U U H ?_;rintro b2 w - H;refine qG 5 ?_;exact⟨b2,rfl,H⟩
theorem Vz(w:World):Ret prog 7 #[] w fun v w'=>∃m,v=ptr m.bl/\Ctx w [] w' (LL m s00)/\LdIn w' m s00 (fun x=>x∈CR m s00):=by
 obtain⟨w0,rfl,H⟩:=qE w;refine Ao (fn:=Tryz.f7) func7 U [] U<|Af<|Bx U<|qA<|Af<|Aj qB (Aa3 _) U ?_;rintro v w ⟨ba,rfl,H1⟩;replace H:Ctx w0 [] w [(ba,Bl 153 [.slice none 0 0])]:=H1;refine Aj qB (Adi _) U ?_;rintro v w ⟨bd,b,o,rfl,hM,H1⟩;replace H:=Ctx.back (L1:=[]) (L2:=[_]) H H1;refine Aj qB (Aa4 _) U ?_;rintro v w ⟨br,rfl,H1⟩;replace H:=Ctx.back (L1:=[]) (L2:=[_,_,_]) H H1;refine Bd [ptr ba,ptr bd,ptr br,.int .i64 0] qf qf<|Be [ptr ba,ptr bd,ptr br,.int .i64 0] (.agg _) U U H ?_;rintro bl w - H;refine qG 5 ?_;have H1:Ctx w0 [] w<|LL ⟨bl,ba,bd,br,b,none,0,[],o,LZ⟩ s00:=H.perm<|List.Perm.cons _<|List.Perm.cons _<|qb5 (l₁:=[_,_]) (l₂:=[_])
 refine⟨⟨bl,ba,bd,br,b,none,0,[],o,LZ⟩,rfl,H1,OS.nil,hM,Ajj,rfl,rfl,rfl,fun r h=>(by cases h),fun x h=>h,fun x h=>?_⟩;obtain⟨y,hy,rfl⟩:=qak.1 h;exact AX<|H1.blk y hy
abbrev Er(x:Rnd × RSl):List Value:=AE x.1 x.2
theorem S7{α β:Type}(y:β):∀{xs:List α} {ys:List β} {x:α},xs[ys.length]?=some x->xs.zip (ys++[y])=xs.zip ys++[(x,y)]
 | [],_,_,h=>by cases h
 |a::xs,[],x,h=>by
  cases h;show(a,y)::xs.zip []=_;rw[List.zip_nil_right];rfl
 |a::xs,b::ys,x,h=>by
  show(a,b)::xs.zip (ys++[y])=(a,b)::(xs.zip ys++[(x,y)]);rw[S7 y<|show xs[ys.length]?=some x from h]
structure ARS where
 i:Nat
 a:Option Addr
 c:Nat
 full:List Value
 qs:List RSl
theorem WY(w:World)(I:LdIn w m s T)(h0:w.heap[br]?=some (Bl 159 m.arch)) :
  Ret prog 59 #[ptr br] w fun v w'=>Ext [] w w'/\∃a c qs,v=.slice a s.rn.length c/\qs.length=s.rn.length/\Rd w' a 8 Er (s.rn.zip qs)/\(s.rn≠[]->¬(adr a).block<w.heap.size)/\∀x∈s.rn.zip qs,RAt w' x.1 x.2/\ROff x.2 x.1 (fun y=>y<w.heap.size):=by
 obtain⟨w0,rfl,H⟩:=qE w;obtain⟨hk4,hkn,hkm⟩:=I.ok.kept;refine iG func59 U ?_;refine Af<|AP U<|qA<|AB<|Af<|AV U<|EB qf U ?_;refine qA<|A3 _ U ?_ ?_
 .intro h1;cases h1
 .intro h1;refine A1<|Aa<|AB<|Af<|AV U<|AR U<|Ae qf U<|A9 qf U ((by rw[Ai h0];exact I.n)) ?_;refine Ad U<|qA<|AK<|AY 68719475724 (α:=ARS) (fun t=>[(2,.slice t.a t.i t.c),(10,.int .u64 (t.i:Int))]) (fun t w'=>t.qs.length=t.i/\t.i<=s.rn.length/\OS t.a t.i t.c 8 t.full ((s.rn.zip t.qs).flatMap Er)/\(∀x∈s.rn.zip t.qs,RAt w' x.1 x.2/\ROff x.2 x.1 (fun y=>y<w0.heap.size\/y∈(ent t.a 57 t.full).map (fun x:Nat × Obj=>x.1)))/\Ctx w0 [] w' (ent t.a 57 t.full)) (fun t=>s.rn.length - t.i) ⟨0,none,0,[],[]⟩ U ?_ ?_ ?_
  .exact⟨rfl,rfl,trivial⟩
  .refine⟨rfl,qai _,?_,fun x hx=>?_,H⟩
   .rw[List.zip_nil_right];exact OS.nil
   .rw[List.zip_nil_right]at hx;cases hx
  .clear H;rintro⟨i,a,c,full,qs⟩ j w ⟨hqi,hi,O,K,HR⟩;dsimp only at hqi hi O K HR;dsimp only;obtain⟨w1,rfl,H⟩:=qE w;refine Af<|CH U U<|qA<|AB<|iB U ?_ ?_
   .intro h2;obtain⟨r,hr⟩:=Au (l:=s.rn) (i:=i);obtain⟨q,hq1,hq2,-⟩:=I.kept r<|qad hr;have hB:=Mw<|I.ok.may r<|qad hr;have hrn:=I.ok.nos i r hr;have h01:=HR.ext.to h0 (by simp);have h3:0<=r.no % 4/\r.no % 4<4:=⟨qdf _<|by decide,qdg _<|by decide⟩;rw[hrn]at hq1 h3;refine A1 (Aa<|AB<|AK<|Af<|Ad U<|Ag U<|qA ?_)
    have hnbr:br∉(ent a 57 full).map (fun x:Nat × Obj=>x.1):=fun hm=>by
     obtain⟨z,hz,hzb⟩:=qak.1 hm;have h4:=AX h0;have h5:=(HR.own z hz).elim (fun h=>by cases h) id;rw[hzb]at h5;omega
    refine Eb [([0,1,2,3,4,5,6,7,8,9,10,11,12,13,14,15,16,17,18],19),([],20),([],21),([],22)] (fun z=>z.heap[br]?=some (Bl 159 m.arch)) [] AW (H.drew.ext.to h01<|by simp)<|A0 U U ?_;refine Bq U<|Bm U<|Bm U<|A7 U<|Ah qf U<|AU qf U (fun _ hx=>(by rw[Ai hx];exact I.no)) ?_;refine Bm U<|A7 U<|Ah qf U<|AU qf U (fun _ hx=>(by rw[Ai hx];exact I.n)) ?_;refine VE U U U<|Lk U U U ?_;refine AG U<|Lk U U U ?_;refine Aet U U U<|A7 U<|Ah qf U<|MN U qf qf U U ?_;refine EZ _ qf qf U U (fun _ hx=>(fun j v hv=>by rw[Ai hx,show 0+0+(((s.no - s.rn.length)+1+i) % 4).toNat*8+j=((s.no - s.rn.length+1+i) % 4).toNat*8+j by omega];exact hq1 j v hv)) ?_;refine A6 ?_;replace H:=H.drew;have hs1:=H.ext.size
    refine Aj qB (Qu r q _ (hq2.ext0<|HR.ext.trans H.ext) hB) U ?_;rintro v w ⟨hx32,q',rfl,RA',hoff⟩;have E1:=H.ext.trans hx32;have HC:=HR.call E1;have h03:=HC.ext.to h0 (by simp);obtain⟨w3,rfl⟩:=qD w;clear H;have H:=Ctx.lend (L1:=ent a 57 full) HC.app_nil;refine Ab<|Bv (h03)<|A0 U U ?_;refine A6<|C5 _ (.agg _) qf qf qf U U U U H ?_;rintro b33 w - H;refine Ab<|Bv (H.ext.to h03 hnbr)<|A0 U U ?_;refine A6<|BL (L:=[]) qf qf qf qf qf U U U H O U (by simp[AF]) ?_;rintro a' c' full' w H O';refine Ab<|Bv (H.ext.to h03 hnbr)<|A0 U U ?_;refine A6<|AP U<|Ab<|Bv (H.ext.to h03 hnbr)<|Bu<|Av<|Aa<|Aw<|Et U U ?_;refine Ad U<|qA ?_;have hs3:=E1.size
    have hin:∀y∈(ent a' 57 full').map (fun x:Nat × Obj=>x.1),y∈(ent a 57 full).map (fun x:Nat × Obj=>x.1)\/w3.heap.size<=y:=fun y hy=>by
     obtain⟨z,hz,rfl⟩:=qak.1 hy;exact H.own z hz
    have hlt:∀y∈(ent a 57 full).map (fun x:Nat × Obj=>x.1),y<w1.heap.size:=fun y hy=>by
     obtain⟨z,hz,rfl⟩:=qak.1 hy;exact AX<|HR.blk z hz
    have hz:=S7 q' (ys:=qs)<|hqi ▸ hr;refine⟨⟨i+1,a',c',full',qs++[q']⟩,rfl,⟨rfl,rfl,trivial⟩,⟨by dsimp only;rw[qat,qb6,hqi],by dsimp only;omega,?_,fun x hx=>?_,(Ctx.back (L1:=ent a 57 full) (L2:=[]) HC.app_nil H).nil_app⟩,by dsimp only;omega⟩
    .dsimp only;rw[hz,qbn,qem];exact O'
    .dsimp only at hx |-;rw[hz]at hx
     rcases qa2.1 hx with h|h
     .obtain⟨k1,k2⟩:=K x h;exact⟨(k1.ext0 E1).ext H.ext<|k2.mono fun y hy => .inr hy,(k2.or k1.lt).mono fun y hy=>hy.elim (fun h => .inl (.inl h)) fun h=>(hin y h).elim (fun h => .inl (.inr h)) fun h => .inr (qa3 hs3 h)⟩
     .rw[qab.1 h];exact⟨RA'.ext H.ext<|hoff.mono fun y hy=>qbb (hlt y hy) hs1,(hoff.or RA'.lt).mono fun y hy=>hy.elim (fun h => .inl (qbb (qbb h HR.size) hs1)) fun h=>(hin y h).elim (fun h => .inl (qbb (hlt y h) hs1)) .inr⟩
   .intro h2;obtain rfl:i=s.rn.length:=by omega
    refine Bi<|Am<|Am<|A8<|Aa<|Af<|AH U<|AP U<|qA<|Bf<|B6 (v:=(.slice _ _ _)) U U U ?_;have O2:OS a (s.rn.zip qs).length c 8 full ((s.rn.zip qs).flatMap Er):=by rw[qb3,hqi,qdq];exact O
    refine⟨HR.ext,a,c,qs,rfl,hqi,OS.rd O (t:=57) (fun x hx=>HR.blk x hx) (fun _ _=>rfl)<|by decide,fun hne=>?_,fun x hx=>⟨(K x hx).1,(K x hx).2.mono fun y hy => .inl hy⟩⟩;obtain⟨p,rfl⟩:=O.form<|qbu.2 hne;exact Nat.not_lt.2<|(HR.own (p,Bl 57 full)<|qab.2 U).elim (fun h=>by cases h) id
abbrev A21(a:Option Addr)(n c:Nat)(no:Int):Obj:=Bl 101 [.slice a n c,.int .u64 no]
def Ma{α:Type}(l:List α)(x:α):List α:=(l++[x]).drop (l.length - 3)
theorem S8(h:qs.length=rn.length)(r:Rnd)(q:RSl):(DY rn r).zip (Ma qs q)=((rn.zip qs)++[(r,q)]).drop (rn.length - 3):=by
 unfold DY Ma;rw[h,List.zip_eq_zipWith,<-List.drop_zipWith,<-List.zip_eq_zipWith,List.zip_append h.symm];rfl
theorem ES(r:Rnd)(q:RSl):∀v∈AE r q,AF v=true:=fun v hv=>by
 simp only[AE,qaf,qan,or_false]at hv
 rcases hv with rfl|rfl|rfl|rfl|rfl|rfl|rfl|rfl <;> rfl
theorem Pp(r:Rnd)(q:RSl)(w:World)(RA:RAt w r q)(hr:RBnd r):Ret prog 92 #[.agg (AE r q).toArray] w fun v w'=>v=.bool (Gg r)/\Ext [] w w':=by
 obtain⟨w0,rfl,H⟩:=qE w;obtain⟨ck,hck⟩:=qD<|Ev r.N r.es r.fl r.pot;have hmr:Gg r=(ck && (decide (r.ids.length<=64) && decide (0<=r.day))):=by unfold Gg;rw[<-hck]
 refine iG func92 U<|Af<|Be (AE r q) (.agg _) U U H ?_;rintro b1 w - H;refine qG 5 ?_;refine BC _ qf qf U U ((BQ (b:=b1) (t:=57) (l:=AE r q) (H.get at0) 4 [.int .i64 r.N,.slice q.aE r.es.length q.cE] U))<|Ae qf U<|BC _ qf qf U U ((BQ (b:=b1) (t:=57) (l:=AE r q) (H.get at0) 6 [.slice q.aF r.fl.length q.cF,.slice q.aP r.pot.length q.cP] U))<|Aj qB (LV r.N q.aE q.aF q.aP _ q.cE _ q.cF _ q.cP r.es r.fl r.pot _ (RA.E.ext0 H.ext) U hr.es (RA.F.ext0 H.ext) U hr.fl (RA.P.ext0 H.ext) U hr.pot) U ?_;rintro v w ⟨rfl,hx14⟩;rw[<-hck];replace H:=H.call hx14;refine Bj U<|Az 8 U ?_ ?_
 .intro h1;refine qG 6 ?_;refine iC 14 U ?_ ?_
  .intro h2;refine qG 9 ?_;exact⟨qaa Value.bool (by rw[hmr,qac];simp_all;try omega),H.ext⟩
  .intro h3;refine qG 9 ?_;exact⟨qaa Value.bool (by rw[hmr,qac];simp_all;try omega),H.ext⟩
 .intro h4;refine qG 15 ?_;exact⟨qaa Value.bool (by rw[hmr,qac];simp_all;try omega),H.ext⟩
section
variable {br c o:Nat}{a:Option Addr}{full:List Value}{rn:List Rnd}{qs:List RSl}{no:Int}{S:List Nat}{w0 w:World}{R:List (Nat × Obj)}
theorem WZ(H0:Ctx w0 S w ((br,A21 a rn.length c no)::(ent a 57 full++R)))(O:OSo a o rn.length c 8 full ((rn.zip qs).flatMap Er))(hq:qs.length=rn.length)(h4:rn.length<=4)(hno:0<=no/\no<4611686018427387904)(RA:RAt w r q)(hoff:ROff q r (·∈((br,A21 a rn.length c no)::ent a 57 full).map (·.1)))(hr:RBnd r)(hm:Gg r=true) :
  Ret prog 117 #[ptr br,.agg (AE r q).toArray] w fun v w'=>v=.tuple #[.int .u64<|no+1,.int .i64 0] /\
   ∃a' o' c' full',OSo a' o' (DY rn { r with no:=no+1 }).length c' 8 full' (((DY rn { r with no:=no+1 }).zip<|Ma qs q).flatMap Er)/\Ctx w0 S w' ((br,A21 a' (DY rn { r with no:=no+1 }).length c'<|no+1)::(ent a' 57 full'++R)):=by
 obtain⟨w1,rfl⟩:=qD w;have H:=Ctx.lend (L1:=(br,A21 a rn.length c no)::ent a 57 full) (L2:=R) H0;have hkl:=Nv h4 { r with no:=no+1 };rw[S8 hq];refine iG func117 U ?_;refine Af<|Be (AE r q) (.agg _) U U H ?_;rintro b3 w - H;refine qG 7 ?_;refine Aj qB (Pp r q _ (RA.ext H.ext hoff) hr) U ?_;rintro v w ⟨rfl,hx⟩;replace H:=H.call hx;refine qGp 3 ?_ ?_
 .intro h1;rw[hm]at h1;cases h1
 .intro h1;refine qGp 11 ?_ ?_
  .intro h2;omega
  .intro h2;refine qG 11 ?_;rintro w H;refine qG 9 ?_;rintro w H;refine qA ?_;replace H:Ctx w1 (((br,A21 a rn.length c no)::ent a 57 full).map (·.1)) w<|[(b3,Bl 57 (AE { r with no:=no+1 } q)),(br,A21 a rn.length c<|no+1)]++ent a 57 full:=H;refine BG [([0,1,2,3,4,5],6),([],7),([],8),([9],10)] (fun z=>z.heap[b3]?=some (Bl 57 (AE { r with no:=no+1 } q))/\z.heap[br]?=some (A21 a rn.length c<|no+1)) [10] AW (⟨H.drew.get at0,H.drew.get at1⟩) ?_;refine A0 U U<|Bm U<|Bm U<|A7 U<|Ah qf U<|AU qf U (fun _ hx=>(by rw[Ai hx.2];rfl)) ?_;refine EZ _ qf qf U U (fun _ hx=>(BQ hx.1 0 (AE { r with no:=no+1 } q) rfl))<|A6 ?_;replace H:=H.drew;refine qG 1 ?_;rintro b32 w - H;refine Ab (Bv (⟨H.get at1,H.get at2⟩)<|A0 U U ?_)
   refine A6<|Tj (L:=[(b32,Bl 57 (AE { r with no:=no+1 } q)),(b3,Bl 57 (AE { r with no:=no+1 } q)),(br,A21 a rn.length c<|no+1)]) (new:=AE { r with no:=no+1 } q) U qf qf qf qf qf U U U H O U (ES _ _) (fun j v hv=>⟨⟨b32,0,none⟩,rfl,by rw[Go.GV.add_none,Ai<|H.get at0,qa0];exact hv⟩) ?_;rintro a' o' c' full' w H O1;refine Ab<|Bv (⟨H.get at1,H.get at2⟩)<|A0 U U ?_;refine A6<|AR U<|Ab<|Bv (⟨H.get at1,H.get at2⟩)<|A0 U U ?_;refine Ah qf U<|A6<|Ch (.slice _ _ _) qf U U U H at2 (by(simp;done)) ?_;rintro w H;refine Ab<|Bw U<|Bu<|AB<|Af<|AV U<|AR U<|Ae qf U<|Bh qf U H at2 U<|Cp qf U<|Es U U ?_;refine qA<|iB U ?_ ?_
   .intro h3;have h4':rn.length=4:=by omega
    have hcl:=O1.le
    obtain⟨b',rfl⟩:∃b',a'=some ⟨b',o'*8,none⟩:=by
     cases a' with
     |none=>have:=(O1.none' rfl).1;omega
     |some p=>exact⟨p.block,qaa some<|O1.pos p rfl⟩
    refine qG 6 ?_;refine IX U qf qf U U<|AR U<|Ae qf U<|Ch (.slice _ _ _) qf U U U H at2 (by(simp;done)) ?_;rintro w H;refine qG 13 ?_;have O2:=OSo.cut (n:=rn.length) O1<|by omega
    have hcut:Md (some ⟨b',o'*8,none⟩) c' 1 8=some ⟨b',o'*8+1*8,none⟩:=by
     unfold Md;rw[if_neg<|by omega];simp[Go.GV.add_none]
    rw[hcut]at O2;rw[show Int.toNat 1=1 from rfl,hcut]at H;have hk:(DY rn { r with no:=no+1 }).length=rn.length:=by rw[hkl];omega
    have hdr:((rn.zip qs)++[({ r with no:=no+1 },q)]).drop (rn.length - 3)=((rn.zip qs)++[({ r with no:=no+1 },q)]).drop 1:=by rw[h4']
    have hfl:((rn.zip qs).flatMap Er++AE { r with no:=no+1 } q).drop 8=(((rn.zip qs)++[({ r with no:=no+1 },q)]).drop 1).flatMap Er:=by
     match rn,qs,hq,h4' with
     |r0::rn',q0::qs',_,_ =>
      show(rn'.zip qs').flatMap Er++AE { r with no:=no+1 } q=((rn'.zip qs')++[({ r with no:=no+1 },q)]).flatMap Er;rw[qbn,qem]
    rw[hfl]at O2;rw[hk,hdr];exact⟨rfl,_,_,_,full',O2,Ctx.back (L1:=(br,A21 a rn.length c no)::ent a 57 full) (L2:=R) H0 H.tail.tail⟩
   .intro h3;refine qG 13 ?_;have hk:(DY rn { r with no:=no+1 }).length=rn.length+1:=by rw[hkl];omega
    have hdr:((rn.zip qs)++[({ r with no:=no+1 },q)]).drop (rn.length - 3)=(rn.zip qs)++[({ r with no:=no+1 },q)]:=by rw[show rn.length - 3=0 by omega];rfl
    rw[hk,hdr,qbn,qem];exact⟨rfl,a',o',c',full',O1,Ctx.back (L1:=(br,A21 a rn.length c no)::ent a 57 full) (L2:=R) H0 H.tail.tail⟩
end
theorem OS.o0{s:Nat}(O:OS a n c s full l):OSo a 0 n c s full l :=
 ⟨fun p hp=>by rw[qb9];exact O.zero p hp,fun h=>⟨O.none' h,rfl⟩,by rw[qa0];exact O.len,O.le,by rw[qb9,List.drop_zero];exact O.pre⟩
theorem Ajk{l:List (Rnd × RSl)}(h:l.length=n):(l.flatMap Er).length=n*8:=by
 subst h
 induction l with
 |nil=>rfl
 |cons x l ih=>rw[qbw,qat,ih];show 8+l.length*8=(l.length+1)*8;omega
theorem Ad6{l:List (Rnd × RSl)}:∀v∈l.flatMap Er,AF v=true:=fun v hv=>by
 obtain⟨x,-,hx⟩:=qei.1 hv;exact ES _ _ v hx
def Qx(r:Rnd):Bool:=decide (300<(r.es.length:Int)) || (decide (300<(r.fl.length:Int)) || (decide (100<(r.pot.length:Int)) || (decide (100<(r.ids.length:Int)) || decide (100<r.N))))
def Pq(rn:List Rnd):Bool:=decide (rn.length<=12) && rn.all fun r => !Qx r
theorem Aa5(a:Option Addr)(n c:Nat)(rn:List Rnd)(qs:List RSl)(w:World)(R:Rd w a 8 Er (rn.zip qs))(hq:qs.length=rn.length)(hn:rn.length=n) :
  Ret prog 29 #[.slice a n c] w fun v w'=>v=.bool (Pq rn)/\w=w':=by
 subst hn;obtain⟨w0,rfl⟩:=qD w;have hzl:(rn.zip qs).length=rn.length:=by rw[qb3];omega
 refine iG func29 U ?_;refine qGp 11 ?_ ?_
 .intro h1;refine qG 7 ?_;exact⟨by unfold Pq;rw[qa1<|by omega];rfl,rfl⟩
 .intro h1;refine qG 8 ?_;refine AY 576460752303423372 (α:=Nat) (fun i=>[(3,.int .i64 (i:Int))]) (fun i w'=>i<=rn.length/\w0=w'/\∀(k:Nat) (r:Rnd),k<i->rn[k]?=some r->Qx r=false) (fun i=>rn.length - i) 0 U ?_ ?_ ?_
  .exact⟨rfl,trivial⟩
  .exact⟨qai _,rfl,fun k r h=>absurd h<|qay _⟩
  .rintro i j w ⟨hi,rfl,hall⟩;refine qGp 8 ?_ ?_
   .intro h2;obtain⟨r,hr⟩:=Au (l:=rn) (i:=i);obtain⟨q,hq2⟩:=Au (l:=qs) (i:=i);have hz:(rn.zip qs)[i]?=some (r,q):=by rw[qcc];exact⟨hr,hq2⟩
    refine qG 5 ?_;refine Bo (α:=Unit) 576460752303415296 (fun _=>[(58,.bool<|Qx r)]) (fun _ w'=>w'=w0) U ?_ ?_
    .refine AH U (Ad U<|A2 R qf qf U U (by omega)<|Ae qf U<|Ae qf U<|A9 qf U ((R.fld hz U (j:=5) U)) ?_);refine qG 3 ?_;refine iC 21 U ?_ ?_
     .intro h1;refine qG 38 ?_;exact⟨rfl,(),rfl,⟨qaa Value.bool (by clear R hall;unfold Qx;rw[qac];simp_all;try omega),trivial⟩,rfl⟩
     .intro h2;refine AH U<|Ad U<|A2 R qf qf U U (by omega)<|Ae qf U<|Ae qf U<|A9 qf U ((R.fld hz U (j:=6) U)) ?_;refine qG 4 ?_;refine iC 31 U ?_ ?_
      .intro h3;refine qG 28 ?_;exact⟨rfl,(),rfl,⟨qaa Value.bool (by clear R hall;unfold Qx;rw[qac];simp_all;try omega),trivial⟩,rfl⟩
      .intro h4;refine AH U<|Ad U<|A2 R qf qf U U (by omega)<|Ae qf U<|Ae qf U<|A9 qf U ((R.fld hz U (j:=7) U)) ?_;refine qG 4 ?_;refine iC 41 U ?_ ?_
       .intro h5;refine qG 18 ?_;exact⟨rfl,(),rfl,⟨qaa Value.bool (by clear R hall;unfold Qx;rw[qac];simp_all;try omega),trivial⟩,rfl⟩
       .intro h6;refine AH U<|Ad U<|A2 R qf qf U U (by omega)<|Ae qf U<|A9 qf U ((R.fld hz U (j:=3) U)) ?_;refine qG 4 ?_;refine iC 50 U ?_ ?_
        .intro h7;refine qG 9 ?_;exact⟨rfl,(),rfl,⟨qaa Value.bool (by clear R hall;unfold Qx;rw[qac];simp_all;try omega),trivial⟩,rfl⟩
        .intro h8;refine AH U<|Ad U<|A2 R qf qf U U (by omega)<|Ae qf U<|Ae qf U<|A9 qf U ((R.fld hz U (j:=4) U)) ?_;refine qG 3 ?_;exact⟨rfl,(),rfl,⟨qaa Value.bool (by clear R hall;unfold Qx;rw[qac];simp_all;try omega),trivial⟩,rfl⟩
    rintro - j58 w hw;subst w;refine A3 _ U ?_ ?_
    .intro h3;refine qG 11 ?_;exact⟨by unfold Pq;rw[C2 hr (by rw[h3];rfl),qcv],rfl⟩
    .intro h3;refine A1<|Av<|Aa<|Aw<|Ad U<|Ap U U ?_;refine Ag U<|qA ?_;refine⟨i+1,rfl,⟨rfl,trivial⟩,⟨by omega,rfl,fun k y hk hy=>?_⟩,by omega⟩
     rcases qao k i with h7|h7
     .exact hall k y h7 hy
     .obtain rfl:k=i:=by omega
      rw[hr]at hy;cases hy;exact h3
   .intro h2;obtain rfl:i=rn.length:=by omega
    refine Bi<|Am<|Am<|A8<|Aa<|Af<|A5 U<|qA<|Bf<|B6 (v:=(.bool _)) U U U ?_;exact⟨by unfold Pq;rw[qam<|by omega,CN fun k x hk hx=>by rw[hall k x hk hx];rfl];rfl,rfl⟩
structure ArOk(rn:List Rnd)(no:Int):Prop where
 kept:rn.length<=4/\(rn.length:Int)<=no/\no<=4611686018427387904
 nos:∀(i:Nat) (r:Rnd),rn[i]?=some r->r.no=no - rn.length+1+i
 may:∀r∈rn,Gg r=true
def arE(rn:List Rnd):Int:=if 4<rn.length then 6 else 1
structure ArIn(w w':World)(br:Nat)(arch:List Value)(rn:List Rnd)(no:Int):Prop where
 blk:w'.heap[br]?=some (Bl 159 arch)
 new:w.heap.size<=br
 len:arch.length=34
 n:arch[32]?=some (.int .u64 rn.length)
 no:arch[33]?=some (.int .u64 no)
 kept:∀r∈rn,KIn w' arch r (fun x=>x<w.heap.size\/x=br)
structure ArZ where
 i:Nat
 arch:List Value
theorem Ad7(a:Option Addr)(n c:Nat)(rn:List Rnd)(qs:List RSl)(no:Int)(w:World)(R:Rd w a 8 Er (rn.zip qs))(hq:qs.length=rn.length)(hn:rn.length=n)(hK:∀x∈rn.zip qs,RAt w x.1 x.2)(hB:∀r∈rn,RBnd r)(hno:0<=no/\no<=18446744073709551615)(hm:n<=1000000000:=by omega):
  Ret prog 37 #[.slice a n c,.int .u64 no] w fun v w'=>Ext [] w w'/\((ArOk rn no/\∃br arch,v=.tuple #[ptr br,.int .i64 0]/\ArIn w w' br arch rn no)\/(¬ArOk rn no/\v=.tuple #[.pointer none,.int .i64<|arE rn])):=by
 subst hn;obtain⟨w0,rfl,H⟩:=qE w;have hzl:(rn.zip qs).length=rn.length:=by rw[qb3];omega
 refine iG func37 U ?_;refine qGp 20 ?_ ?_
 .intro h1;refine qG 9 ?_;exact⟨H.ext,.inr ⟨fun h=>by have:=h.kept;omega,by unfold arE;rw[if_pos<|by omega]⟩⟩
 .intro h1;have hE:arE rn=1:=if_neg (by omega);rw[hE];refine qG 7 ?_;refine iE 16 U ?_ ?_
  .intro h2;refine qG 12 ?_;exact⟨H.ext,.inr ⟨fun h=>by have:=h.kept;omega,rfl⟩⟩
  .intro h2;refine qG 7 ?_;refine iE 16 U ?_ ?_
   .intro h3;refine qG 9 ?_;exact⟨H.ext,.inr ⟨fun h=>by have:=h.kept;omega,rfl⟩⟩
   .intro h3;refine A1<|Av<|Aa<|Af<|Bd LZ qf qf ?_;refine Be LZ (.agg _) U U H ?_;rintro b23 w - H;refine qG 11 ?_;have hnew:w0.heap.size<=b23:=(H.own _<|qah ..).elim (fun h=>by cases h) id;refine AY 1125899839734576 (α:=ArZ) (fun z=>[(26,.int .i64 (z.i:Int))]) (fun z w'=>z.i<=rn.length/\Ctx w0 [] w' [(b23,Bl 159 z.arch)]/\z.arch.length=34/\z.arch[32]?=some (.int .u64 z.i)/\∀(k:Nat) (x:Rnd),k<z.i->rn[k]?=some x->(Gg x=true/\x.no=no - rn.length+1+k)/\KIn w' z.arch x (fun y=>y<w0.heap.size\/y=b23)) (fun z=>rn.length - z.i) ⟨0,LZ⟩ U ?_ ?_ ?_
    .exact⟨rfl,trivial⟩
    .exact⟨qai _,H,rfl,rfl,fun k x h=>absurd h<|qay _⟩
    .clear H;rintro⟨i,arch⟩ j w ⟨hi,H1,hl,hn,hall⟩;dsimp only at hi H1 hl hn hall;dsimp only;obtain⟨w2,rfl⟩:=qD w;have hbr:=H1.get at0;have hs2:=H1.ext.size;have hlt:=AX hbr;have R1:=R.ext0 H1.ext;have H:=Ctx.start w2 [];refine qGp 5 ?_ ?_
     .intro h4;obtain⟨r,hr⟩:=Au (l:=rn) (i:=i);obtain⟨q,hq2⟩:=Au (l:=qs) (i:=i);have hz:(rn.zip qs)[i]?=some (r,q):=by rw[qcc];exact⟨hr,hq2⟩
      have hmem:=qad hr;have RA:=(hK _<|qad hz).ext0 H1.ext;dsimp only at RA;have hBr:=hB r hmem;refine qG 6 ?_;refine A2 R1 qf qf U U (by omega)<|BC _ qf qf U U ((R1.row hz U))<|AN qf H ?_;rintro b9 w - H;refine Ag U<|AM qf U U U (by exact ES _ _) H at0 U ?_;rintro w H;refine qG 4 ?_;refine Bo (α:=Unit) 70366596694016 (fun _=>[(45,.bool<|(!Gg r || !decide (r.no=no - rn.length+1+i)))]) (fun _ w'=>Ctx w2 [] w' [(b9,Bl 57 (AE r q))]) U ?_ ?_
      .refine Dh qf qf U H at0 U (Aj qB (Vu r q _ (RA.ext0 H.ext) hBr) U ?_);rintro v w ⟨rfl,hx32⟩;replace H:=H.call hx32;refine qG 2 ?_;refine iC 34 U ?_ ?_
       .intro h1;refine qG 12 ?_;exact⟨rfl,(),rfl,⟨qaa Value.bool (by clear R R1 RA hall hB hK H H1 hbr;rw[qac];simp_all;try omega),trivial⟩,H⟩
       .intro h2;refine qG 4 ?_;refine JQ U U U ?_;refine qG 7 ?_;exact⟨rfl,(),rfl,⟨qaa Value.bool (by clear R R1 RA hall hB hK H H1 hbr;rw[qac];simp_all;try omega),trivial⟩,H⟩
      rintro - j45 w H;refine A3 _ U ?_ ?_
      .intro h5;refine qG 13 ?_;refine⟨H1.ext.trans H.ext,.inr ⟨fun h=>?_,rfl⟩⟩;have h6:=h.may r hmem;have h7:=h.nos i r hr;rw[h6,qam h7]at h5;cases h5
      .intro h5;obtain⟨hmr,hrn⟩:Gg r=true/\r.no=no - rn.length+1+i:=by simpa using h5
       refine qG 5 ?_;refine Aj qB (Vw (n:=i) (arch:=arch) r q _ (RA.ext0 H.ext) hBr (H.ext.to hbr<|by simp) hl hn (by omega)<|by omega) U ?_;rintro v w ⟨q',H2,RA',hoff⟩;have hx:=H.ext;refine Ab<|Av<|Aa<|Aw<|Ap U U ?_;refine Ad U<|qA ?_;have he:Ext [b23] w2 w:=(hx.mono<|by simp).trans H2.ext;have H9:Ctx w0 [] w [(b23,Bl 159 (Hy arch i r q'))]:=Ctx.back (L1:=[(b23,_)]) (L2:=[]) H1 ⟨he,H2.blk,H2.nd,fun y hy=>by rw[qab.1 hy];exact .inl<|qab.2 rfl⟩;refine⟨⟨i+1,Hy arch i r q'⟩,rfl,⟨rfl,trivial⟩,⟨by dsimp only;omega,H9,by rw[Vx];exact hl,?_,fun k x hk hx2=>?_⟩,by dsimp only;omega⟩
       .rw[Afg hl,show min (i+1) 4=i+1 by omega]
       .rcases qao k i with h7|h7
        .obtain⟨⟨g1,g2⟩,qx,g3,g4,g5⟩:=hall k x h7 hx2;exact⟨⟨g1,g2⟩,qx,fun j v h=>Vy _ (by omega) h<|g3 j v h,g4.ext he<|g5.mono fun y hy => .inr (qab.1 hy),g5⟩
        .have h8:k<i+1:=hk;obtain rfl:k=i:=by omega
         rw[hr]at hx2;cases hx2;exact⟨⟨hmr,hrn⟩,q',fun j v h=>Aa2 hl _ h,RA',hoff.mono fun y hy=>hy.elim (fun h=>by have:=hx.size;omega) fun h=>by have:=hx.size;omega⟩
     .intro h4;obtain rfl:i=rn.length:=by omega
      replace H:=Ctx.start1 hbr;refine Bi<|Am<|Am<|A8<|Aa<|Af<|AV U<|Ad U<|AR U<|Ae qf U<|Ch (.int _ _) qf U U U H at0 (by(simp;omega)) ?_;rintro w H;refine qG 10 ?_;have hC:=Ctx.back (L1:=[(b23,_)]) (L2:=[]) H1 H;refine⟨hC.ext,.inl ⟨⟨by omega,fun i r hr=>((hall i r (BH hr) hr).1).2,fun r hr=>?_⟩,b23,_,rfl,H.get at0,hnew,by rw[qb8];exact hl,?_,?_,fun r hr=>?_⟩⟩
      .obtain⟨k,hk⟩:=qbi.1 hr;exact(hall k r (BH hk) hk).1.1
      .rw[qbx<|by decide];exact hn
      .rw[qc2<|by omega]
      .obtain⟨k,hk⟩:=qbi.1 hr;obtain⟨-,qx,g3,g4,g5⟩:=hall k r (BH hk) hk;refine⟨qx,fun j v h=>?_,g4.ext H.ext<|g5.mono fun y hy => .inr (qab.1 hy),g5⟩;have hj:j<8:=BH h;have h3:0<=r.no % 4/\r.no % 4<4:=⟨qdf _<|by decide,qdg _<|by decide⟩;rw[qbx<|by omega];exact g3 j v h
theorem Aa6(a:Option Addr)(n c:Nat)(rn:List Rnd)(qs:List RSl)(no:Int)(w:World)(R:Rd w a 8 Er (rn.zip qs))(hq:qs.length=rn.length)(hn:rn.length=n)(hK:∀x∈rn.zip qs,RAt w x.1 x.2)(hB:∀r∈rn,RBnd r)(hno:0<=no/\no<=18446744073709551615)(hm:n<=1000000000:=by omega):
  Ret prog 41 #[.slice a n c,.int .u64 no] w fun v w'=>Ext [] w w'/\((ArOk rn no/\∃br a' c' full,v=.tuple #[ptr br,.int .i64 0]/\Ctx w [] w' ((br,A21 a' rn.length c' no)::ent a' 57 full)/\OSo a' 0 rn.length c' 8 full ((rn.zip qs).flatMap Er))\/(¬ArOk rn no/\v=.tuple #[.pointer none,.int .i64<|arE rn])):=by
 subst hn;obtain⟨w0,rfl,H⟩:=qE w;have hzl:(rn.zip qs).length=rn.length:=by rw[qb3];omega
 refine iG func41 U ?_;refine qGp 12 ?_ ?_
 .intro h1;refine qG 8 ?_;exact⟨H.ext,.inr ⟨fun h=>by have:=h.kept;omega,by unfold arE;rw[if_pos<|by omega]⟩⟩
 .intro h1;have hE:arE rn=1:=if_neg (by omega);rw[hE];refine qG 8 ?_;refine AY 18014398509480048 (α:=Nat) (fun i=>[(6,.int .i64 (i:Int))]) (fun i w'=>i<=rn.length/\Ctx w0 [] w' []/\∀(k:Nat) (x:Rnd),k<i->rn[k]?=some x->Gg x=true/\x.no=no - rn.length+1+k/\(rn.length:Int)<=no) (fun i=>rn.length - i) 0 U ?_ ?_ ?_
  .exact⟨rfl,trivial⟩
  .exact⟨qai _,H,fun k x h=>absurd h<|qay _⟩
  .clear H;rintro i j w ⟨hi,H,hall⟩;refine qGp 8 ?_ ?_
   .intro h4;obtain⟨r,hr⟩:=Au (l:=rn) (i:=i);obtain⟨q,hq2⟩:=Au (l:=qs) (i:=i);have hz:(rn.zip qs)[i]?=some (r,q):=by rw[qcc];exact⟨hr,hq2⟩
    have hmem:=qad hr;have RA:=hK _<|qad hz;dsimp only at RA;have hBr:=hB r hmem;refine qG 5 ?_;refine Bo (α:=Unit) 18014398509350912 (fun _=>[(53,.bool<|(!Gg r || (decide (r.no<1) || (!decide (r.no=IntKind.u64.wrap (no - (rn.length - 1 - i))) || decide (no<rn.length)))))]) (fun _ w'=>Ctx w0 [] w' []) U ?_ ?_
    .refine AH U (Ad U<|A2 (R.ext0 H.ext) qf qf U U (by omega) ?_);refine BC _ qf qf U U (((R.ext0 H.ext).row hz U))<|Aj qB (Pp r q _ (RA.ext0 H.ext) hBr) U ?_;rintro v w ⟨rfl,hx21⟩;replace H:=H.call hx21;refine qG 2 ?_;refine iC 23 U ?_ ?_
     .intro h1;refine qG 31 ?_;exact⟨rfl,(),rfl,⟨qaa Value.bool (by clear R RA hall hB hK H;rw[qac];simp_all;try omega),trivial⟩,H⟩
     .intro h2;refine AH U<|Ad U<|A2 (R.ext0 H.ext) qf qf U U (by omega)<|Ae qf U<|A9 qf U (((R.ext0 H.ext).fld hz U (j:=0) U)) ?_;refine qG 3 ?_;refine iC 31 U ?_ ?_
      .intro h3;refine qG 23 ?_;exact⟨rfl,(),rfl,⟨qaa Value.bool (by clear R RA hall hB hK H;rw[qac];simp_all;try omega),trivial⟩,H⟩
      .intro h4;refine AH U<|Ad U<|A2 (R.ext0 H.ext) qf qf U U (by omega)<|Ae qf U<|A9 qf U (((R.ext0 H.ext).fld hz U (j:=0) U)) ?_;refine qG 7 ?_;refine B8 U U (BW (k := .u64) (k2 := .u64) U U (by simp[binOp,Op.intArith];rfl)) ?_;refine qG 3 ?_;refine iC 47 U ?_ ?_
       .intro h5;refine qG 7 ?_;exact⟨rfl,(),rfl,⟨qaa Value.bool (by clear R RA hall hB hK H;rw[qac];simp_all;try omega),trivial⟩,H⟩
       .intro h6;refine qG 7 ?_;exact⟨rfl,(),rfl,⟨qaa Value.bool (by clear R RA hall hB hK H;rw[qac];simp_all;try omega),trivial⟩,H⟩
    rintro - j53 w H;refine A3 _ U ?_ ?_
    .intro h5;refine qG 12 ?_;refine⟨H.ext,.inr ⟨fun h=>?_,rfl⟩⟩;have h6:=h.may r hmem;have h7:=h.nos i r hr;have h8:=h.kept;rw[h6,CC (k := .u64) (n:=no - (rn.length - 1 - i)) (show(0:Int)<=_ by omega)<|show _<=(18446744073709551615:Int)by omega]at h5;simp at h5;omega
    .intro h5;refine A1<|Av<|Aa<|Aw<|Ad U<|Ap U U ?_;refine Ag U<|qA ?_;refine⟨i+1,rfl,⟨rfl,trivial⟩,⟨by omega,H,fun k x hk hx=>?_⟩,by omega⟩
     rcases qao k i with h7|h7
     .exact hall k x h7 hx
     .obtain rfl:k=i:=by omega
      rw[hr]at hx;cases hx;obtain⟨g1,g2,g3,g4⟩:Gg r=true/\1<=r.no/\r.no=IntKind.u64.wrap (no - (rn.length - 1 - k))/\(rn.length:Int)<=no:=by simpa using h5
      rw[CC (k := .u64) (n:=no - (rn.length - 1 - k)) (show(0:Int)<=_ by omega)<|show _<=(18446744073709551615:Int)by omega]at g3;exact⟨g1,by omega,g4⟩
   .intro h4;obtain rfl:i=rn.length:=by omega
    refine Bi<|Am<|Am<|A8<|Aa<|AB<|Af<|Ad U<|Es U U<|qA<|iB U ?_ ?_
    .intro h5;refine qG 8 ?_;exact⟨H.ext,.inr ⟨fun h=>by have:=h.kept;omega,rfl⟩⟩
    .intro h5;refine qG 4 ?_;refine Bd [.slice none 0 0,.int .u64 no] qf qf<|Be [.slice none 0 0,.int .u64 no] (.agg _) U U H ?_;rintro b58 w - H;refine qG 10 ?_;refine Ee (L:=[_]) (a:=none) (n:=0) (c:=0) (full:=[]) (l:=[]) qf qf qf qf qf U ((rn.zip qs).flatMap Er) U U H OS.nil (Ajk hzl) Ad6 (by have:=(R.ext0 H.ext).app (fun _ _=>rfl) (by omega);exact this) ?_;rintro a7 c7 full7 w H O;rw[show 0+rn.length=rn.length from qa0 _];rw[qcm,qa0]at O;replace O:=OS.o0 O;refine qG 3 ?_;rintro w H;refine qG 10 ?_
     have hno2:(rn.length:Int)<=no:=by
      rcases qdk rn.length with h|h
      .omega
      .obtain⟨x,hx⟩:=Au (l:=rn) (i:=0) (h:=h);exact(hall 0 x h hx).2.2
     exact⟨H.ext,.inl ⟨⟨by omega,fun i r hr=>(hall i r (BH hr) hr).2.1,fun r hr=>by obtain⟨k,hk⟩:=qbi.1 hr;exact(hall k r (BH hk) hk).1⟩,b58,_,_,_,rfl,H,O⟩⟩
abbrev A17(a:Option Addr)(n c:Nat):Obj:=Bl 96 [.slice a n c]
theorem Gi{d:Ac}(h:acs[i]?=some d):inA acs (i:Int)=true/\Da acs (i:Int)=d:=by
 have h1:inA acs (i:Int)=true:=Dx.2 ⟨by omega,by have:=BH h;omega⟩;refine⟨h1,?_⟩;have h2:=Ey h1;rw[show((i:Int)).toNat=i from rfl,h]at h2
 injection h2 with h2
 exact h2.symm
theorem Hl(h:inA acs k=true):∃(i:Nat) (d:Ac),k=(i:Int)/\acs[i]?=some d:=by
 have h1:=Dx.1 h;obtain⟨d,hd⟩:=Au (l:=acs) (i:=k.toNat);exact⟨k.toNat,d,by omega,hd⟩
theorem Kd(k:Int)(w:World)(hd:w.heap[ba]?=some (A17 a acs.length c)) :
  Ret prog 171 #[ptr ba,.int .i64 k] w fun v w'=>v=.bool (inA acs k)/\w=w':=by
 obtain⟨w0,rfl⟩:=qD w;refine iG func171 U ?_;refine qG 8 ?_;refine iC 7 U ?_ ?_
 .intro h1;refine qG 4 ?_;refine A9 qf U ((by rw[Ai hd];rfl)) ?_;refine qG 8 ?_;exact⟨qaa Value.bool (by unfold inA;rw[qac];simp_all;try omega),rfl⟩
 .intro h2;refine qG 13 ?_;exact⟨qaa Value.bool (by unfold inA;rw[qac];simp_all;try omega),rfl⟩
section
variable {ba c:Nat}{a:Option Addr}{full:List Value}{acs:List Ac}{k x:Int}{S:List Nat}{w0 w:World}{R:List (Nat × Obj)}
theorem Jn(H0:Ctx w0 S w ((ba,A17 a acs.length c)::(ent a 162 full++R)))(O:OS a acs.length c 2 full (acs.flatMap Cg))(_:acs.length<=1000000:=by omega):Rd w a 2 Cg acs :=
 OS.rd O (fun y hy=>H0.blk y<|qae _<|qax _ hy) (fun _ _=>rfl) (by omega)
theorem Uj(H0:Ctx w0 S w ((ba,A17 a acs.length c)::(ent a 162 full++R)))(O:OS a acs.length c 2 full (acs.flatMap Cg))(hn:acs.length<=1000000) :
  Ret prog 118 #[ptr ba] w fun v w'=>(16<=acs.length->v=.tuple #[.int .i64 0,.int .i64 6]/\Ctx w0 S w' ((ba,A17 a acs.length c)::(ent a 162 full++R))) /\
   (acs.length<16->v=.tuple #[.int .i64 (acs.length:Int),.int .i64 0]/\∃a' c' full',OS a' (acs++[a00]).length c' 2 full' ((acs++[a00]).flatMap Cg)/\Ctx w0 S w' ((ba,A17 a' (acs++[a00]).length c')::(ent a' 162 full'++R))):=by
 have H:=H0;refine iG func118 U ?_;refine qGp 15 ?_ ?_
 .intro h1;refine qG 8 ?_;exact⟨fun _=>⟨rfl,H⟩,fun h=>by omega⟩
 .intro h1;replace H:Ctx w0 S w<|((ba,A17 a acs.length c)::R)++ent a 162 full:=H.perm<|(qb5).cons _;refine qG 8 ?_;refine Bd [.int .i64 0,.int .i64 0] qf qf ?_;refine qG 1 ?_;rintro b16 w - H;refine BL (L:=(ba,A17 a acs.length c)::R) qf qf qf qf qf U U U H O U (fun v hv=>by simp at hv;rcases hv with rfl|rfl <;> rfl) ?_;rintro a' c' full' w H O;refine qG 3 ?_;rintro w H;refine qG 15 ?_;refine⟨fun h=>by omega,fun _=>⟨?_,a',c',full',?_,?_⟩⟩
  .rw[show(((acs.length+1:Nat):Int) - 1)=(acs.length:Int)by omega]
  .rw[qbn,qat];exact O
  .rw[qat];exact H.perm<|(qb5).cons _
theorem Xa(H0:Ctx w0 S w ((ba,A17 a acs.length c)::(ent a 162 full++R)))(O:OS a acs.length c 2 full (acs.flatMap Cg))(hn:acs.length<=1000000) :
  Ret prog 121 #[ptr ba,.int .i64 k,.int .i64 x] w fun v w'=>v=.int .i64 (GW acs k x)/\∃full',OS a acs.length c 2 full' ((Fg acs k x).flatMap Cg)/\Ctx w0 S w' ((ba,A17 a acs.length c)::(ent a 162 full'++R)):=by
 have H:=H0;have hd:=H.get at0;have Rr:=Jn H O hn;refine iG func121 U ?_;refine qG 8 ?_;refine Aj qB (Kd k _ hd) U ?_;rintro v w ⟨rfl,rfl⟩;refine qGp 3 ?_ ?_
 .intro h1;refine qG 7 ?_;have hC:GW acs k x=10:=if_pos h1;rw[show Fg acs k x=acs by unfold Fg;rw[if_neg<|by omega],hC];exact⟨rfl,full,O,H⟩
 .intro h1;refine qG 5 ?_;refine Aj qB (EV x _) U ?_;rintro v w ⟨rfl,rfl⟩;refine qGp 3 ?_ ?_
  .intro h2;refine qG 7 ?_;have hC:GW acs k x=1:=by unfold GW;rw[if_neg (by rw[h1];decide),if_pos h2]
   rw[show Fg acs k x=acs by unfold Fg;rw[if_neg<|by omega],hC];exact⟨rfl,full,O,H⟩
  .intro h2;have hC:GW acs k x=0:=by unfold GW;rw[if_neg (by rw[h1];decide),if_neg (by rw[h2];decide)]
   obtain⟨i,d,rfl,hat⟩:=Hl h1;have hg:=(Gi hat).2;obtain⟨q,rfl⟩:=O.form (by have:=BH hat;omega);replace H:Ctx w0 S w ((ba,A17 (some ⟨q,0,none⟩) acs.length c)::(q,Bl 162 full)::R):=H;have hOl:=O.len;have hOle:=O.le;have hil:=BH hat;have O1:=OS.setf O (y:=⟨d.ba,x⟩) (j:=1) (v := .int .i64 x) (fun _=>rfl) hat (by decide) rfl;refine qG 9 ?_;refine A2 Rr qf qf U U (by rfl)<|Ae qf U<|Ch (.int _ _) qf U U U H at1 (by show 0+((i:Int)).toNat*2+1<full.length;omega) ?_;rintro w H;refine qG 8 ?_;have hA:Fg acs (i:Int) x=acs.set i ⟨d.ba,x⟩:=by unfold Fg;rw[if_pos hC,hg];rfl
   rw[hA,hC];refine⟨rfl,_,O1,?_⟩;rw[show i*2+1=0+((i:Int)).toNat*2+1 by omega];exact H
theorem Uk(H0:Ctx w0 S w ((ba,A17 a acs.length c)::(ent a 162 full++R)))(O:OS a acs.length c 2 full (acs.flatMap Cg))(hac:CO acs=0) :
  Ret prog 120 #[ptr ba,.int .i64 k,.int .i64 x] w fun v w'=>v=.int .i64 (DG acs k x)/\∃full',OS a acs.length c 2 full' ((D8 acs k x).flatMap Cg)/\Ctx w0 S w' ((ba,A17 a acs.length c)::(ent a 162 full'++R)):=by
 have H:=H0;have hd:=H.get at0;have hn:=(BM.1 hac).1;have Rr:=Jn H O;have hno:∀{z:Int},DG acs k x=z->z≠0->D8 acs k x=acs:=fun h1 h2=>by unfold D8;rw[h1,if_neg h2]
 refine iG func120 U ?_;refine qG 8 ?_;refine Aj qB (Kd k _ hd) U ?_;rintro v w ⟨rfl,rfl⟩;refine qGp 3 ?_ ?_
 .intro h1;refine qG 7 ?_;have hC:DG acs k x=10:=if_pos h1;rw[hno hC<|by decide,hC];exact⟨rfl,full,O,H⟩
 .intro h1;refine qG 4 ?_;refine Bo (α:=Unit) 260096 (fun _=>[(17,.bool<|!(decide (0<x) && C0 x))]) (fun _ w'=>Ctx w0 S w' ((ba,A17 a acs.length c)::(ent a 162 full++R))) U ?_ ?_
  .refine qG 3 ?_;refine iC 13 U ?_ ?_
   .intro h1;refine qG 5 ?_;exact⟨rfl,(),rfl,⟨qaa Value.bool (by rw[qac];simp_all;try omega),trivial⟩,H⟩
   .intro h2;refine Ad U<|Aj qB (EV x _) U ?_;rintro v w ⟨rfl,rfl⟩;refine qG 3 ?_;exact⟨rfl,(),rfl,⟨qaa Value.bool (by rw[qac];simp_all;try omega),trivial⟩,H⟩
  rintro - j17 w H;replace hd:=H.get at0;replace Rr:=Jn H O;refine iB U ?_ ?_
  .intro h2;refine qG 7 ?_;have hC:DG acs k x=1:=by unfold DG;rw[if_neg (by rw[h1];decide),if_pos<|by simpa using h2]
   rw[hno hC<|by decide,hC];exact⟨rfl,full,O,H⟩
  .intro h2;replace h2:(decide (0<x) && C0 x)=true:=by simpa using h2
   have hx:=Cq.1<|(qag _ _ ▸ h2:_/\_).2;obtain⟨i,d,rfl,hat⟩:=Hl h1;have hg:=(Gi hat).2;have hdm:=FD hac h1;rw[hg]at hdm;have hil:=BH hat;refine qG 10 ?_;refine A2 Rr qf qf U U (by rfl)<|Ae qf U<|A9 qf U ((Rr.fld hat U (j:=0) U)) ?_;refine qGp 3 ?_ ?_
   .intro h3;refine qG 7 ?_;have hC:DG acs (i:Int) x=12:=by unfold DG;rw[if_neg (by rw[h1];decide),if_neg (by rw[h2];decide),hg,if_pos<|by omega]
    rw[hno hC<|by decide,hC];exact⟨rfl,full,O,H⟩
   .intro h3;have hC:DG acs (i:Int) x=0:=by unfold DG;rw[if_neg (by rw[h1];decide),if_neg (by rw[h2];decide),hg,if_neg<|by omega]
    obtain⟨q,rfl⟩:=O.form (by omega);replace H:Ctx w0 S w ((ba,A17 (some ⟨q,0,none⟩) acs.length c)::(q,Bl 162 full)::R):=H;have hOl:=O.len;have hOle:=O.le;have O1:=OS.setf O (y:=⟨d.ba - x,d.re⟩) (j:=0) (v := .int .i64 (d.ba - x)) (fun _=>rfl) hat (by decide) rfl;refine qG 8 ?_;refine A2 Rr qf qf U U (by rfl)<|Ae qf U<|A9 qf U ((Rr.fld hat U (j:=0) U))<|Ad U<|Cf U U<|A2 Rr qf qf U U (by rfl)<|Ae qf U<|Ch (.int _ _) qf U U U H at1 (by show 0+((i:Int)).toNat*2+0<full.length;omega) ?_;rintro w H;refine qG 8 ?_;have hA:D8 acs (i:Int) x=acs.set i ⟨d.ba - x,d.re⟩:=by unfold D8;rw[if_pos hC,hg];rfl
    rw[hA,hC];refine⟨rfl,_,O1,?_⟩;rw[show i*2+0=0+((i:Int)).toNat*2+0 by omega];exact H
theorem Ul(H0:Ctx w0 S w ((ba,A17 a acs.length c)::(ent a 162 full++R)))(O:OS a acs.length c 2 full (acs.flatMap Cg))(hac:CO acs=0) :
  Ret prog 119 #[ptr ba,.int .i64 k,.int .i64 x] w fun v w'=>v=.int .i64 (DW acs k x)/\∃full' R',OS a acs.length c 2 full' ((DF acs k x).flatMap Cg)/\Ctx w0 S w' ((ba,A17 a acs.length c)::(ent a 162 full'++(R++R'))):=by
 have H:=H0;have hd:=H.get at0;have hn:=(BM.1 hac).1;have Rr:=Jn H O;have hno:∀{z:Int},DW acs k x=z->z≠0->DF acs k x=acs:=fun h1 h2=>by unfold DF;rw[h1,if_neg h2]
 have hnil:∀{w':World},Ctx w0 S w' ((ba,A17 a acs.length c)::(ent a 162 full++R))->Ctx w0 S w' ((ba,A17 a acs.length c)::(ent a 162 full++(R++[]))):=fun h=>by rw[qar];exact h
 refine iG func119 U ?_;refine qG 8 ?_;refine Aj qB (Kd k _ hd) U ?_;rintro v w ⟨rfl,rfl⟩;refine qGp 3 ?_ ?_
 .intro h1;refine qG 7 ?_;have hC:DW acs k x=10:=if_pos h1;rw[hno hC<|by decide,hC];exact⟨rfl,full,[],O,hnil H⟩
 .intro h1;refine qG 4 ?_;refine Bo (α:=Unit) 1040384 (fun _=>[(19,.bool<|!(decide (0<x) && C0 x))]) (fun _ w'=>Ctx w0 S w' ((ba,A17 a acs.length c)::(ent a 162 full++R))) U ?_ ?_
  .refine qG 3 ?_;refine iC 15 U ?_ ?_
   .intro h1;refine qG 5 ?_;exact⟨rfl,(),rfl,⟨qaa Value.bool (by rw[qac];simp_all;try omega),trivial⟩,H⟩
   .intro h2;refine Ad U<|Aj qB (EV x _) U ?_;rintro v w ⟨rfl,rfl⟩;refine qG 3 ?_;exact⟨rfl,(),rfl,⟨qaa Value.bool (by rw[qac];simp_all;try omega),trivial⟩,H⟩
  rintro - j19 w H;replace hd:=H.get at0;replace Rr:=Jn H O;refine iB U ?_ ?_
  .intro h2;refine qG 7 ?_;have hC:DW acs k x=1:=by unfold DW;rw[if_neg (by rw[h1];decide),if_pos<|by simpa using h2]
   rw[hno hC<|by decide,hC];exact⟨rfl,full,[],O,hnil H⟩
  .intro h2;replace h2:(decide (0<x) && C0 x)=true:=by simpa using h2
   have hx:=Cq.1<|(qag _ _ ▸ h2:_/\_).2;obtain⟨i,d,rfl,hat⟩:=Hl h1;have hg:=(Gi hat).2;have hdm:=FD hac h1;rw[hg]at hdm;have hil:=BH hat;obtain⟨q,rfl⟩:=O.form (by omega);replace H:Ctx w0 S w ((ba,A17 (some ⟨q,0,none⟩) acs.length c)::(q,Bl 162 full)::R):=H;obtain⟨tt,htt⟩:=qD<|Dp<|bas acs++[x];have hcc:DW acs (i:Int) x=if tt.2≠0 then 13 else 0:=by unfold DW;rw[if_neg (by rw[h1];decide),if_neg (by rw[h2];decide),htt]
   have ht2:tt.2=0\/tt.2=13:=by
    rw[htt];unfold Dp
    have h3:(bas acs++[x]).all C0=true:=by
     rw[List.all_append,qag];exact⟨qaw.2 (Qo hac).1,by rw[List.all_cons,List.all_nil,qcx];exact Cq.2 hx⟩
    rw[if_neg (by rw[h3];decide)]
    split
    .exact .inl U
    .exact .inr U
   refine qG 7 ?_;refine Aj qB (Lx _ acs.length c acs _ Rr U) U ?_;rintro v w F4;obtain⟨a4,n4,c4,f4,rfl,O4,hb4⟩:=F4.ex;replace H:=H.callEnt F4.ext hb4 DX;have hl4:=O4.llen;rw[qaj,qaj]at hl4;obtain rfl:n4=acs.length:=by omega
   refine qG 2 ?_;rintro b27 w - H;refine BL (L:=(ba,A17 (some ⟨q,0,none⟩) acs.length c)::(q,Bl 162 full)::R) (new:=[.int .i64 x]) qf qf qf qf qf U U U H O4 U (fun v hv=>by obtain rfl:=qab.1 hv;rfl) ?_;rintro a5 c5 f5 w H O5;have R5:Rd w a5 1 I1 (bas acs++[x]):=OS.rd1 (by rw[qau];exact O5) fun y hy=>H.blk y<|qap _ hy;refine Aj qB (HZ a5 _ c5 (bas acs++[x]) _ R5 (by rw[qat];unfold bas;rw[qaj];rfl)) U ?_;rintro v w ⟨rfl,rfl⟩;rw[<-htt];replace H:Ctx w0 S w ((ba,A17 (some ⟨q,0,none⟩) acs.length c)::(q,Bl 162 full)::(R++ent a5 2 f5)):=H;refine qGp 13 ?_ ?_
   .intro h3;have hC:DW acs (i:Int) x=0:=by rw[hcc,if_neg<|by omega]
    have hOl:=O.len;have hOle:=O.le;have O1:=OS.setf O (y:=⟨d.ba+x,d.re⟩) (j:=0) (v := .int .i64 (d.ba+x)) (fun _=>rfl) hat (by decide) rfl;replace Rr:=Jn (R:=R++ent a5 2 f5) H O;refine qG 6 ?_;refine A2 Rr qf qf U U (by rfl)<|Ae qf U<|A9 qf U ((Rr.fld hat U (j:=0) U))<|Ad U<|Ap U U<|A2 Rr qf qf U U (by rfl)<|Ae qf U<|Ch (.int _ _) qf U U U H at1 (by show 0+((i:Int)).toNat*2+0<full.length;omega) ?_;rintro w H;refine qG 9 ?_;have hA:DF acs (i:Int) x=acs.set i ⟨d.ba+x,d.re⟩:=by unfold DF;rw[if_pos hC,hg];rfl
    rw[hA,hC];refine⟨by rw[h3],_,ent a5 2 f5,O1,?_⟩;rw[show i*2+0=0+((i:Int)).toNat*2+0 by omega];exact H
   .intro h3;refine qG 9 ?_;have hC:DW acs (i:Int) x=13:=by rw[hcc,if_pos h3]
    rw[hno hC<|by decide,hC];exact⟨by rw[ht2.resolve_left h3],full,_,O,H⟩
end
def IM(acs:List Ac)(ds:List Du)(k i:Nat):Int:=(acs.getD k a00).ba+Cl ((ds.take i).map fun d=>plc k d*d.am)
theorem LB{k:Nat}{d:Du}(h:ds[i]?=some d):IM acs ds k (i+1)=IM acs ds k i - (if d.fr=(k:Int)then d.am else 0)+(if d.to=(k:Int)then d.am else 0):=by
 unfold IM;rw[Fk h,Ep];have h1:Cl [plc k d*d.am]=plc k d*d.am:=by rw[Ce];show _+0=_;omega
 rw[h1];unfold plc
 by_cases g1:d.to=(k:Int)
 .rw[EM g1,if_pos g1]
  by_cases g2:d.fr=(k:Int)
  .rw[EM g2,if_pos g2];omega
  .rw[E3 g2,if_neg g2];omega
 .rw[E3 g1,if_neg g1]
  by_cases g2:d.fr=(k:Int)
  .rw[EM g2,if_pos g2];omega
  .rw[E3 g2,if_neg g2];omega
theorem N3{acs:List Ac}{ds:List Du}{k:Nat}(hb:0<=(acs.getD k a00).ba/\(acs.getD k a00).ba<=4503599627370496)(ham:∀d∈ds,0<=d.am/\d.am<=4503599627370496):∀i,i<=ds.length -> -(4503599627370496*((i:Int)+1))<=IM acs ds k i/\IM acs ds k i<=4503599627370496*((i:Int)+1)
 |0,_=>by
  have h:IM acs ds k 0=(acs.getD k a00).ba+0:=rfl;rw[h];omega
 |i+1,h=>by
  have ih:=N3 hb ham i (by omega);obtain⟨d,hd⟩:=Au (l:=ds) (i:=i);have h1:=ham d<|qad hd;rw[LB hd]
  split <;> split <;> omega
theorem Xb{k:Ak}(hk:k.kd=13)(_:AkIn k)(w:World)(I:LdIn w m s T)(H0:Ctx w (CR m s) w<|LL m s) :
  Ret prog 53 #[ptr m.bl,.agg (BN k).toArray] w (FG w m s T k):=by
 obtain⟨w0,rfl⟩:=qD w;obtain⟨bl,ba,bd,br,b,a,c,full,o,arch⟩:=m;obtain⟨S0,hS0⟩:=qD<|CR ⟨bl,ba,bd,br,b,a,c,full,o,arch⟩ s;have H:Ctx w0 S0 w0 ((bl,Bl 93 [ptr ba,ptr bd,ptr br,.int .i64 s.day])::(br,Bl 159 arch)::(ba,Bl 153 [.slice a s.acs.length c])::(bd,Bl 156 (DU b s.nx))::(b,o)::ent a 162 full):=by rw[hS0];exact H0
 have hn16:=(BM.1 I.ok.ac).1;have hbdb:bd≠b:=H.ne (i:=3) (j:=4) rfl rfl (by decide);have hR:Dq s k=if inA s.acs k.a=true then⟨0,[FP s.acs s.ds k.a.toNat]⟩else⟨10,[]⟩:=by unfold Dq;(iterate 10 rw[if_neg<|by omega]);rw[if_pos hk]
 have hS:Dn s k=s:=by unfold Dn;iterate 9 rw[if_neg<|by omega]
 have hstep:∀p,Dq s k=p->C9 s k s p:=fun p h2=>by
  unfold C9;rw[if_neg<|by omega];exact⟨hS.symm,h2.symm⟩
 refine iG func53 U ?_;refine Af<|Be (BN k) (.agg _) U U H ?_;rintro b3 w - H;refine AP U<|Ag U<|qA<|Dk 2095296 (α:=Nat) (fun z=>[(6,ptr z),(7,.bool<|inA s.acs k.a)]) (fun z w'=>Ctx w0 S0 w' ((z,Bl 162 (Cg<|Da s.acs k.a))::(b3,Bl 46 (BN k))::(bl,Bl 93 [ptr ba,ptr bd,ptr br,.int .i64 s.day])::(br,Bl 159 arch)::(ba,Bl 153 [.slice a s.acs.length c])::(bd,Bl 156 (DU b s.nx))::(b,o)::ent a 162 full)) U ?_ ?_
 .skip
  refine Km (.two [0,1,2,3,4,5] 6 (.one [7,8,9] 10 (.one [] 11 (.one [] 12 .stop))) 10 (.one [] 6 (.one [7,8,9] 11 (.one [] 12 .stop)))) (fun z=>z.heap[b3]?=some (Bl 46 (BN k))/\z.heap[bl]?=some (Bl 93 [ptr ba,ptr bd,ptr br,.int .i64 s.day])) AW (⟨H.drew.get at0,H.drew.get at1⟩) ?_;refine F6 U U U<|Bm U<|A7 U<|Ah qf U<|AU qf U (fun _ hx=>(by rw[Ai hx.2];rfl)) ?_;refine Ah qf U<|AU qf U (fun _ hx=>(by rw[Ai hx.1];rfl)) ?_;refine A6 ?_;replace H:=H.drew;refine⟨?_,?_⟩
  .skip
   refine Aj qB (Ms a _ c s.acs k.a _ (H.get at3) (OS.rd (t:=162) I.O (fun y hy=>H.blk y<|qap [_,_,_,_,_,_] hy) (fun _ _=>rfl)<|by decide) U<|by omega) U ?_;rintro v w ⟨rfl,hx18⟩;replace H:=H.call hx18;refine Ab<|B3 (by exact⟨H.get at0,H.get at1⟩) ?_;refine B1 U U<|CK U<|AZ U U<|AZ U U<|A6<|AN qf H ?_;rintro b6 w - H;refine Ab<|B3 (by exact⟨H.get at1,H.get at2⟩) ?_;refine B1 U U<|A6<|AM qf U U U (by exact GM _) H at0 U ?_;rintro w H;refine Ab<|B3 (by exact⟨H.get at1,H.get at2⟩) ?_;refine B1 U U<|A6<|A5 U<|Ab<|B3 (by exact⟨H.get at1,H.get at2⟩) ?_;refine Db<|Aa ?_;exact⟨b6,rfl,⟨rfl,rfl,trivial⟩,H⟩
  .skip
   refine AN qf H ?_;rintro b6 w - H;refine Ab<|B3 (by exact⟨H.get at1,H.get at2⟩) ?_;refine B1 U U<|A6<|Aj qB (Ms a _ c s.acs k.a _ (H.get at4) (OS.rd (t:=162) I.O (fun y hy=>H.blk y<|qap [_,_,_,_,_,_,_] hy) (fun _ _=>rfl)<|by decide) U<|by omega) U ?_;rintro v w ⟨rfl,hx18⟩;replace H:=H.call hx18;refine Ab<|B3 (by exact⟨H.get at1,H.get at2⟩) ?_;refine B1 U U<|CK U<|AZ U U<|AZ U U<|A6<|AM qf U U U (by exact GM _) H at0 U ?_;rintro w H;refine Ab<|B3 (by exact⟨H.get at1,H.get at2⟩) ?_;refine B1 U U<|A6<|A5 U<|Ab<|B3 (by exact⟨H.get at1,H.get at2⟩) ?_;refine Db<|Aa ?_;exact⟨b6,rfl,⟨rfl,rfl,trivial⟩,H⟩
 .rintro b6 j7 w H;refine AB<|Af<|Bj U<|Df U<|qA<|iB U ?_ ?_
  .intro h1
   have hf:inA s.acs k.a=false:=by cases hh:inA s.acs k.a with|false=>rfl|true=>rw[hh]at h1;cases h1
   refine Af<|AP U<|Ag U<|qA<|Bf<|AD<|Cz (v1:=(.slice _ _ _)) (v2:=(.int _ _)) U U U U ?_;subst hS0;exact Dz (P:=[_,_]) (m':=⟨bl,ba,bd,br,b,a,c,full,o,arch⟩) (s':=s) (l:=[]) (code:=10) I H (GY _) (hstep _ (by rw[hR,if_neg (by rw[hf];decide)];rfl)) I.O I.M I.ok U U U U
  .intro h1
   have hf:inA s.acs k.a=true:=by cases hh:inA s.acs k.a with|true=>rfl|false=>rw[hh]at h1;cases h1
   have hki:=Dx.1 hf;have hka:((k.a.toNat:Nat):Int)=k.a:=by omega
   have hga:=FD I.ok.ac hf;have hgd:s.acs.getD k.a.toNat a00=Da s.acs k.a:=Bp<|Ey hf
   have h0:IM s.acs s.ds k.a.toNat 0=(Da s.acs k.a).ba:=by
    have:IM s.acs s.ds k.a.toNat 0=(s.acs.getD k.a.toNat a00).ba+0:=rfl
    rw[this,hgd,qds]
   obtain⟨h64,-,-,-⟩:=CB I.ok.du;have hmy:∀d∈s.ds,CZ d=true:=fun d hd=>((EK I.ok.du).1 d hd).1;have ham:∀d∈s.ds,0<=d.am/\d.am<=4503599627370496:=fun d hd=>by have:=CD<|hmy d hd;omega
   refine A1<|Aa<|Af<|Ae qf U<|Bh qf U H at0 U<|Ag U<|qA<|AB<|Af<|AV U<|AR U ?_;refine Ae qf U<|Bh qf U H at2 U<|Aj qB (Ic I.ok.du _ ⟨b,s.nx,o,H.get at5,H.get at6,I.M⟩) U ?_;rintro v w ⟨hx29,a3,c3,rfl,R3⟩;replace H:=H.call hx29;refine Cp qf U<|Ad U<|qA<|AK ?_;have H8:=H;obtain⟨w1,rfl⟩:=qD w;have hb3:=H8.get at1;clear H;have H:=Ctx.start w1 [];refine AY 18014396361999616 (α:=Nat) (fun i=>[(8,.int .i64<|IM s.acs s.ds k.a.toNat i),(31,.int .i64 (i:Int))]) (fun i w'=>i<=s.ds.length/\Ctx w1 [] w' []) (fun i=>s.ds.length - i) 0 U ?_ ?_ ?_
   .exact⟨by rw[h0];rfl,rfl,trivial⟩
   .exact⟨qai _,H⟩
   .clear H;rintro i j w ⟨hi,H⟩;refine Af<|CH U U<|qA<|AB<|iB U ?_ ?_
    .intro h2;obtain⟨d,hd⟩:=Au (l:=s.ds) (i:=i);have hbi:=N3 (acs:=s.acs) (ds:=s.ds) (k:=k.a.toNat) (by rw[hgd];exact hga.1) ham i hi;have hda:=ham d<|qad hd;have hdn:=(CD<|hmy d<|qad hd).2.2.1;have hst:=LB (acs:=s.acs) (k:=k.a.toNat) hd;rw[hka]at hst;obtain⟨S,hS⟩:=qD<|IM s.acs s.ds k.a.toNat i;rw[<-hS]at hbi hst |-;refine A1<|Aa<|AB<|AK<|Af<|A2 (R3.ext0 H.ext) qf qf U U (by rfl) ?_;refine BC _ qf qf U U (((R3.ext0 H.ext).row hd U))<|AN qf H ?_;rintro b10 w - H;refine AM qf U U U (by exact Cx _) H at0 U ?_;rintro w H;refine qA ?_;replace H:Ctx w1 [] w [(b10,Bl 111 (BK d))]:=H;refine Af<|Ae qf U<|A9 qf U ((H.old (Ai hb3 _)<|by simp)) ?_;refine qA<|AK<|Af<|Ae qf U<|Bh qf U H at0 U<|Ct U U<|A5 U<|qA<|iB U ?_ ?_
     .intro h3;refine Aw<|Ad U<|Ae qf U<|Bh qf U H at0 U<|Cf U U ?_;refine Ag U<|Ab<|Av<|Av<|Aa<|Aw<|Ap U U ?_;refine Ad U<|qA ?_;exact⟨i+1,rfl,⟨qaa (Value.int .i64) (by rw[hst,if_pos h3.symm,if_neg<|by omega];omega),rfl,trivial⟩,⟨by omega,H.tail⟩,by omega⟩
     .intro h3;refine Af<|Ae qf U<|Bh qf U H at0 U<|Ct U U<|A5 U<|qA<|iB U ?_ ?_
      .intro h4;refine Aw<|Ad U<|Ae qf U<|Bh qf U H at0 U<|Ap U U ?_;refine Ag U<|Ab<|Av<|Av<|Aa<|Aw<|Ap U U ?_;refine Ad U<|qA ?_;exact⟨i+1,rfl,⟨qaa (Value.int .i64) (by rw[hst,if_neg<|by omega,if_pos h4.symm];omega),rfl,trivial⟩,⟨by omega,H.tail⟩,by omega⟩
      .intro h4;refine A1<|Av<|Av<|Aa<|Aw<|Ap U U ?_;refine Ad U<|qA ?_;exact⟨i+1,rfl,⟨qaa (Value.int .i64) (by rw[hst,if_neg<|by omega,if_neg<|by omega];omega),rfl,trivial⟩,⟨by omega,H.tail⟩,by omega⟩
    .intro h2;obtain rfl:i=s.ds.length:=by omega
     have hfin:IM s.acs s.ds k.a.toNat s.ds.length=FP s.acs s.ds k.a.toNat:=by
      unfold IM FP;rw[qba]
     rw[hfin];have H9:=H8.call H.ext;have H17:=Ctx.start w [];refine Bi<|Am<|Am<|A8<|Aa<|Af<|Ad U<|C5 [.int .i64<|FP s.acs s.ds k.a.toNat] (.int .i64<|FP s.acs s.ds k.a.toNat) qf qf qf U U U U H17 ?_;rintro b55 w2 - H17;refine AP U<|Ag U<|qA<|Bf<|Cz (v1:=(.slice _ _ _)) (v2:=(.int _ _)) U U U U ?_;subst hS0;exact Dz (P:=[_,_]) (m':=⟨bl,ba,bd,br,b,a,c,full,o,arch⟩) (s':=s) (l:=[FP s.acs s.ds k.a.toNat]) (code:=0) I H9 (FR (n:=1) (l:=[Cu<|FP s.acs s.ds k.a.toNat]) H17 U) (hstep _ (by rw[hR,if_pos hf];rfl)) I.O I.M I.ok U U U U
structure Rm where
 bl:Nat
 ba:Nat
 bd:Nat
 br:Nat
 a:Option Addr
 c:Nat
 full:List Value
 ad:Option Addr
 cd:Nat
 fd:List Value
 ar:Option Addr
 o:Nat
 cr:Nat
 fr:List Value
 qs:List RSl
abbrev L22(ba bd br:Nat)(day:Int):Obj:=Bl 103 [ptr ba,ptr bd,ptr br,.int .i64 day]
structure Rv(m:Rm)(s:Ld)(w:World):Prop where
 L:w.heap[m.bl]?=some (L22 m.ba m.bd m.br s.day)
 A:w.heap[m.ba]?=some (A17 m.a s.acs.length m.c)
 D:w.heap[m.bd]?=some (RDU m.ad s.ds.length m.cd s.nx)
 R:w.heap[m.br]?=some (A21 m.ar s.rn.length m.cr s.no)
 RA:Rd w m.a 2 Cg s.acs
 RD:Rd w m.ad 7 BK s.ds
 RR:Rd w m.ar 8 Er (s.rn.zip m.qs)
 n:m.qs.length=s.rn.length
 K:∀x∈s.rn.zip m.qs,RAt w x.1 x.2
theorem Rv.ext0{m:Rm}(h:Rv m s w)(hx:Ext [] w w'):Rv m s w' :=
 ⟨hx.to h.L<|by simp,hx.to h.A<|by simp,hx.to h.D<|by simp,hx.to h.R<|by simp,h.RA.ext0 hx,h.RD.ext0 hx,h.RR.ext0 hx,h.n,fun x hm=>(h.K x hm).ext0 hx⟩
theorem KX{m:Rm}(k:Int)(w:World)(V:Rv m s w):Ret prog 122 #[ptr m.bl,.int .i64 k] w fun v w'=>v=.bool (inA s.acs k)/\w=w':=by
 obtain⟨w0,rfl⟩:=qD w;have hL:=V.L;have hA:=V.A;obtain⟨bl,ba,bd,br,a,c,full,ad,cd,fd,ar,o,cr,fr,qs⟩:=m;dsimp only at hL hA;refine iG func122 U ?_;refine qG 8 ?_;refine iC 7 U ?_ ?_
 .intro h1;refine qG 4 ?_;refine A9 qf U ((by rw[Ai hL];rfl))<|AR U<|Ae qf U<|A9 qf U ((by rw[Ai hA];rfl)) ?_;refine qG 8 ?_;exact⟨qaa Value.bool (by unfold inA;rw[qac];simp_all;try omega),rfl⟩
 .intro h2;refine qG 16 ?_;exact⟨qaa Value.bool (by unfold inA;rw[qac];simp_all;try omega),rfl⟩
theorem EE(e:Int)(w:World):Ret prog 114 #[.int .i64 e] w fun v w'=>v=.agg #[.int .i64 e,.slice none 0 0]/\Ext [] w w':=by
 obtain⟨w0,rfl,H⟩:=qE w;refine iG func114 U<|Af<|AN qf H ?_;rintro b2 w - H;refine qG 4 ?_;refine Bd [.int .i64 e,.slice none 0 0] qf qf ?_;refine qG 1 ?_;rintro w H;refine qG 4 ?_;exact⟨rfl,H.ext⟩
theorem Xc{m:Rm}{k:Nat}(w:World)(V:Rv m s w)(hok:s.Ok)(hk:inA s.acs (k:Int)=true):Ret prog 128 #[ptr m.bl,.int .i64 (k:Int)] w fun v w'=>v=.int .i64 (FP s.acs s.ds k)/\w=w':=by
 obtain⟨w0,rfl⟩:=qD w;have hL:=V.L;have hA:=V.A;have hD:=V.D;have RA:=V.RA;have RD:=V.RD;obtain⟨bl,ba,bd,br,a,c,full,ad,cd,fd,ar,o,cr,fr,qs⟩:=m;dsimp only at hL hA hD RA RD;have hn16:=(BM.1 hok.ac).1;obtain⟨h64,-,-,-⟩:=CB hok.du;have hga:=FD hok.ac hk;have hgd:s.acs.getD k a00=Da s.acs (k:Int):=Bp<|Ey hk;have hki:=Dx.1 hk;obtain⟨x,hx⟩:=Au (l:=s.acs) (i:=k);have hxg:=(Gi hx).2
 have h0:IM s.acs s.ds k 0=x.ba:=by
  have:IM s.acs s.ds k 0=(s.acs.getD k a00).ba+0:=rfl
  rw[this,hgd,qds,hxg]
 have hmy:∀d∈s.ds,CZ d=true:=fun d hd=>((EK hok.du).1 d hd).1;have ham:∀d∈s.ds,0<=d.am/\d.am<=4503599627370496:=fun d hd=>by have:=CD<|hmy d hd;omega
 refine iG func128 U ?_;refine Af<|Ag U<|qA<|Af<|AV U<|AR U<|Ae qf U<|A9 qf U ((by rw[Ai hL];rfl)) ?_;refine AR U<|Ae qf U<|A9 qf U ((by rw[Ai hA];rfl)) ?_;refine Ad U<|A2 RA qf qf U U (by rfl) ?_;refine Ae qf U<|A9 qf U ((RA.fld hx U (j:=0) U)) ?_;refine Ag U<|qA<|AB<|Af<|Ag U<|qA<|AK<|AY 4835703278458516698562656 (α:=Nat) (fun i=>[(5,.int .i64<|IM s.acs s.ds k i),(6,.int .i64 (i:Int))]) (fun i w'=>i<=s.ds.length/\w0=w') (fun i=>s.ds.length - i) 0 U ?_ ?_ ?_
 .exact⟨by rw[h0];rfl,rfl,trivial⟩
 .exact⟨qai _,rfl⟩
 .rintro i j w ⟨hi,rfl⟩;refine AB<|Af<|Ad U<|AV U<|AR U<|Ae qf U<|A9 qf U ((by rw[Ai hL];rfl)) ?_;refine AR U<|Ae qf U<|A9 qf U ((by rw[Ai hD];rfl)) ?_;refine Cp qf U<|CH U U<|qA<|iB U ?_ ?_
  .intro h2;obtain⟨d,hd⟩:=Au (l:=s.ds) (i:=i);have hbi:=N3 (acs:=s.acs) (ds:=s.ds) (k:=k) (by rw[hgd];exact hga.1) ham i hi;have hda:=ham d<|qad hd;have hdn:=(CD<|hmy d<|qad hd).2.2.1;have hst:=LB (acs:=s.acs) (k:=k) hd;obtain⟨S,hS⟩:=qD<|IM s.acs s.ds k i;rw[<-hS]at hbi hst |-;refine A1<|Aa<|AB<|AK<|AB<|Af<|AV U<|AR U<|Ae qf U<|A9 qf U ((by rw[Ai hL];rfl)) ?_;refine AR U<|Ae qf U<|A9 qf U ((by rw[Ai hD];rfl)) ?_;refine Ad U<|A2 RD qf qf U U (by rfl) ?_;refine Ae qf U<|A9 qf U ((RD.fld hd U (j:=1) U)) ?_;refine Ad U<|Ct U U<|qA<|iB U ?_ ?_
   .intro h3;refine Aw<|Ad U<|AV U<|AR U<|Ae qf U<|A9 qf U ((by rw[Ai hL];rfl)) ?_;refine AR U<|Ae qf U<|A9 qf U ((by rw[Ai hD];rfl)) ?_;refine Ad U<|A2 RD qf qf U U (by rfl) ?_;refine Ae qf U<|A9 qf U ((RD.fld hd U (j:=3) U)) ?_;refine Cf U U<|Ag U<|qA<|Af<|AV U<|AR U<|Ae qf U<|A9 qf U ((by rw[Ai hL];rfl)) ?_;refine AR U<|Ae qf U<|A9 qf U ((by rw[Ai hD];rfl)) ?_;refine Ad U<|A2 RD qf qf U U (by rfl) ?_;refine Ae qf U<|A9 qf U ((RD.fld hd U (j:=2) U)) ?_;refine Ad U<|Ct U U<|qA<|iB U ?_ ?_
    .intro h4;omega
    .intro h4;refine A1<|Av<|Aa<|Aw<|Ad U<|Ap U U ?_;refine Ag U<|qA ?_;exact⟨i+1,rfl,⟨qaa (Value.int .i64) (by rw[hst,if_pos h3,if_neg<|by omega];omega),rfl,trivial⟩,⟨by omega,rfl⟩,by omega⟩
   .intro h3;refine A1<|Aa<|Af<|AV U<|AR U<|Ae qf U<|A9 qf U ((by rw[Ai hL];rfl)) ?_;refine AR U<|Ae qf U<|A9 qf U ((by rw[Ai hD];rfl)) ?_;refine Ad U<|A2 RD qf qf U U (by rfl) ?_;refine Ae qf U<|A9 qf U ((RD.fld hd U (j:=2) U)) ?_;refine Ad U<|Ct U U<|qA<|iB U ?_ ?_
    .intro h4;refine Aw<|Ad U<|AV U<|AR U<|Ae qf U<|A9 qf U ((by rw[Ai hL];rfl)) ?_;refine AR U<|Ae qf U<|A9 qf U ((by rw[Ai hD];rfl)) ?_;refine Ad U<|A2 RD qf qf U U (by rfl) ?_;refine Ae qf U<|A9 qf U ((RD.fld hd U (j:=3) U)) ?_;refine Ap U U<|Ag U<|Ab<|Av<|Aa<|Aw<|Ad U<|Ap U U ?_;refine Ag U<|qA ?_;exact⟨i+1,rfl,⟨qaa (Value.int .i64) (by rw[hst,if_neg<|by omega,if_pos h4];omega),rfl,trivial⟩,⟨by omega,rfl⟩,by omega⟩
    .intro h4;refine A1<|Av<|Aa<|Aw<|Ad U<|Ap U U ?_;refine Ag U<|qA ?_;exact⟨i+1,rfl,⟨qaa (Value.int .i64) (by rw[hst,if_neg<|by omega,if_neg<|by omega];omega),rfl,trivial⟩,⟨by omega,rfl⟩,by omega⟩
  .intro h2;obtain rfl:i=s.ds.length:=by omega
   have hfin:IM s.acs s.ds k s.ds.length=FP s.acs s.ds k:=by
    unfold IM FP;rw[qba]
   refine Bi<|Am<|Am<|A8<|Aa<|Af<|Ad U<|Ag U<|qA<|Bf<|B6 (v:=(.int _ _)) U U U ?_;rw[hfin];exact⟨rfl,rfl⟩
theorem Xd{no:Int}(w:World)(hd:w.heap[br]?=some (A21 a rn.length c no))(R:Rd w a 8 Er (rn.zip qs))(hq:qs.length=rn.length)(hn:rn.length<=1000000) :
  Ret prog 175 #[ptr br,.int .u64 k] w fun v w'=>Ext [] w w'/\((∃(i:Nat) (r:Rnd) (q:RSl),rn[i]?=some r/\(rn.zip qs)[i]?=some (r,q)/\r.no=k/\v=.tuple #[.agg (AE r q).toArray,.bool true])\/((∀r∈rn,r.no≠k)/\∃z q,v=.tuple #[.agg (AE z q).toArray,.bool false])):=by
 obtain⟨w0,rfl,H⟩:=qE w;have hzl:(rn.zip qs).length=rn.length:=by rw[qb3];omega
 refine iG func175 U ?_;refine Af<|AN qf H ?_;rintro b4 w - H;refine qG 9 ?_;have H8:=H;refine AY 8589934560 (α:=Nat) (fun i=>[(5,.bool false),(6,.int .i64 (i:Int))]) (fun i w'=>i<=rn.length/\w=w'/\∀(j:Nat) (r:Rnd),j<i->rn[j]?=some r->r.no≠k) (fun i=>rn.length - i) 0 U ?_ ?_ ?_
 .exact⟨rfl,rfl,trivial⟩
 .exact⟨qai _,rfl,fun j r h=>absurd h<|qay _⟩
 .rintro i j w ⟨hi,rfl,hb⟩;have hd1:=H.ext.to hd (by simp);have R1:=R.ext0 H.ext;refine qG 6 ?_;refine A9 qf U ((by rw[Ai hd1];rfl)) ?_;refine qGp 4 ?_ ?_
  .intro h1;obtain⟨r,hr⟩:=Au (l:=rn) (i:=i);obtain⟨q,hq2⟩:=Au (l:=qs) (i:=i);have hz:(rn.zip qs)[i]?=some (r,q):=by rw[qcc];exact⟨hr,hq2⟩
   refine qG 8 ?_;refine A9 qf U ((by rw[Ai hd1];rfl))<|Ad U<|A2 R1 qf qf U U (by omega)<|Ae qf U<|A9 qf U ((R1.fld hz U (j:=0) U)) ?_;refine qGp 4 ?_ ?_
   .intro h2;refine qG 4 ?_;refine A9 qf U ((by rw[Ai hd1];rfl))<|Ad U<|A2 R1 qf qf U U (by omega)<|BC _ qf qf U U ((R1.row hz U))<|AM qf U U U (by exact ES _ _) H at0 U ?_;rintro w H;refine qG 9 ?_;refine DV U U U qf qf H at0 U (show _=(.bool _)from rfl) ?_;exact⟨H.ext,.inl ⟨i,r,q,hr,hz,h2,rfl⟩⟩
   .intro h2;refine A1<|Av<|Aa<|Aw<|Ad U<|Ap U U ?_;refine Ag U<|qA ?_;refine⟨i+1,rfl,⟨rfl,rfl,trivial⟩,⟨by omega,rfl,fun j e hj he=>?_⟩,by omega⟩
    rcases qao j i with h7|h7
    .exact hb j e h7 he
    .obtain rfl:j=i:=by omega
     rw[hr]at he;cases he;exact h2
  .intro h1;obtain rfl:i=rn.length:=by omega
   refine Bi<|Am<|Am<|A8<|Aa<|Af<|Bd (AE ⟨0,0,false,[],0,[],[],[]⟩ ⟨none,0,none,0,none,0,none,0⟩) qf qf ?_;refine AM qf U U U (by exact ES _ _) H at0 U ?_;rintro w H;refine qG 4 ?_;refine DV U U U qf qf H at0 U (show _=(.bool _)from rfl)<|⟨H.ext,.inr ⟨fun r hr=>?_,_,_,rfl⟩⟩;obtain⟨j,hj⟩:=qbi.1 hr;exact hb j r (BH hj) hj
theorem Pr(h:Gg r=true):(1<=r.N/\r.N<=40)/\r.es.length<=200/\r.fl.length=r.es.length/\(r.pot.length:Int)=r.N/\r.ids.length<=64:=by
 unfold Gg at h;simp only[qag,qav]at h;obtain⟨hc,hi,-⟩:=h;obtain⟨h1,h2,-⟩:=G4.1 hc;obtain⟨g1,g2,g3,-⟩:=Cr (Cj (E4 h1).1).2.1;exact⟨⟨g1,g2⟩,g3,(Cj (E4 h1).1).1,(Je h2).1,hi⟩
theorem Um{k:Ak}(hk:k.kd=15)(hin:AkIn k)(hg:JA s k.id=none)(w:World)(I:LdIn w m s T)(H0:Ctx w (CR m s) w<|LL m s) :
  Ret prog 55 #[ptr m.bl,.agg (BN k).toArray] w (FG w m s T k):=by
 obtain⟨w0,rfl⟩:=qD w;obtain⟨bl,ba,bd,br,b,a,c,full,o,arch⟩:=m;obtain⟨S0,hS0⟩:=qD<|CR ⟨bl,ba,bd,br,b,a,c,full,o,arch⟩ s;have H:Ctx w0 S0 w0 ((bl,Bl 93 [ptr ba,ptr bd,ptr br,.int .i64 s.day])::(br,Bl 159 arch)::(ba,Bl 153 [.slice a s.acs.length c])::(bd,Bl 156 (DU b s.nx))::(b,o)::ent a 162 full):=by rw[hS0];exact H0
 have hn16:=(BM.1 I.ok.ac).1;have hbdb:bd≠b:=H.ne (i:=3) (j:=4) rfl rfl (by decide);have hS:Dn s k=s:=by unfold Dn;iterate 9 rw[if_neg<|by omega]
 have hstep:∀p,Dq s k=p->C9 s k s p:=fun p h2=>by
  unfold C9;rw[if_neg<|by omega];exact⟨hS.symm,h2.symm⟩
 have hno:0<=s.no/\s.no<=4611686018427387904:=by have:=I.ok.kept;omega
 have hR:Dq s k=⟨4,[]⟩:=by unfold Dq;(iterate 12 rw[if_neg<|by omega]);rw[if_pos hk,hg]
 refine iG func55 U ?_;refine Af<|Be (BN k) (.agg _) U U H ?_;rintro b3 w - H;refine qG 4 ?_;refine Dk 4190400 (α:=Nat) (fun z=>[(6,ptr z),(7,.bool false)]) (fun z w'=>Ctx w0 S0 w' ((z,Bl 57 rnd0)::(b3,Bl 46 (BN k))::(bl,Bl 93 [ptr ba,ptr bd,ptr br,.int .i64 s.day])::(br,Bl 159 arch)::(ba,Bl 153 [.slice a s.acs.length c])::(bd,Bl 156 (DU b s.nx))::(b,o)::ent a 162 full)) U ?_ ?_
 .skip
  refine Km (.two [0,1,2,3,4,5] 6 (.one [7,8,9] 10 (.one [] 11 (.one [] 12 .stop))) 10 (.one [] 6 (.one [7,8,9] 11 (.one [] 12 .stop)))) (fun z=>z.heap[b3]?=some (Bl 46 (BN k))/\z.heap[bl]?=some (Bl 93 [ptr ba,ptr bd,ptr br,.int .i64 s.day])) AW (⟨H.drew.get at0,H.drew.get at1⟩) ?_;refine F6 U U U<|Bm U<|A7 U<|Ah qf U<|AU qf U (fun _ hx=>(by rw[Ai hx.2];rfl)) ?_;refine Ah qf U<|AU qf U (fun _ hx=>(by rw[Ai hx.1];rfl)) ?_;refine A6 ?_;replace H:=H.drew;refine⟨?_,?_⟩
  .skip
   refine Aj qB (S6 (n:=s.rn.length) _ (H.get at2) I.n I.no hno hin.id<|Po I.ok hg) U ?_;rintro v w ⟨rfl,hx19⟩;replace H:=H.call hx19;refine Ab<|B3 (by exact⟨H.get at0,H.get at1⟩) ?_;refine B1 U U<|CK U<|AZ U U<|AZ U U<|A6<|AN qf H ?_;rintro b6 w - H;refine Ab<|B3 (by exact⟨H.get at1,H.get at2⟩) ?_;refine B1 U U<|A6<|AM qf U U U (by exact(by simp[rnd0,AF])) H at0 U ?_;rintro w H;refine Ab<|B3 (by exact⟨H.get at1,H.get at2⟩) ?_;refine B1 U U<|A6<|A5 U<|Ab<|B3 (by exact⟨H.get at1,H.get at2⟩) ?_;refine Db<|Aa ?_;exact⟨b6,rfl,⟨rfl,rfl,trivial⟩,H⟩
  .skip
   refine AN qf H ?_;rintro b6 w - H;refine Ab<|B3 (by exact⟨H.get at1,H.get at2⟩) ?_;refine B1 U U<|A6<|Aj qB (S6 (n:=s.rn.length) _ (H.get at3) I.n I.no hno hin.id<|Po I.ok hg) U ?_;rintro v w ⟨rfl,hx19⟩;replace H:=H.call hx19;refine Ab<|B3 (by exact⟨H.get at1,H.get at2⟩) ?_;refine B1 U U<|CK U<|AZ U U<|AZ U U<|A6<|AM qf U U U (by exact(by simp[rnd0,AF])) H at0 U ?_;rintro w H;refine Ab<|B3 (by exact⟨H.get at1,H.get at2⟩) ?_;refine B1 U U<|A6<|A5 U<|Ab<|B3 (by exact⟨H.get at1,H.get at2⟩) ?_;refine Db<|Aa ?_;exact⟨b6,rfl,⟨rfl,rfl,trivial⟩,H⟩
 .rintro b6 j7 w H;refine qGp 6 ?_ ?_
  .intro h1;refine qG 8 ?_;subst hS0;exact Dz (P:=[_,_]) (m':=⟨bl,ba,bd,br,b,a,c,full,o,arch⟩) (s':=s) (l:=[]) (code:=4) I H (GY _) (hstep _ (by rw[hR];rfl)) I.O I.M I.ok U U U U
  .intro h1;cases h1
theorem Un{k:Ak}(hk:k.kd=15)(hin:AkIn k)(hg:JA s k.id=some r)(w:World)(I:LdIn w m s T)(H0:Ctx w (CR m s) w<|LL m s) :
  Ret prog 55 #[ptr m.bl,.agg (BN k).toArray] w (FG w m s T k):=by
 obtain⟨w0,rfl⟩:=qD w;obtain⟨bl,ba,bd,br,b,a,c,full,o,arch⟩:=m;obtain⟨S0,hS0⟩:=qD<|CR ⟨bl,ba,bd,br,b,a,c,full,o,arch⟩ s;have H:Ctx w0 S0 w0 ((bl,Bl 93 [ptr ba,ptr bd,ptr br,.int .i64 s.day])::(br,Bl 159 arch)::(ba,Bl 153 [.slice a s.acs.length c])::(bd,Bl 156 (DU b s.nx))::(b,o)::ent a 162 full):=by rw[hS0];exact H0
 have hn16:=(BM.1 I.ok.ac).1;have hbdb:bd≠b:=H.ne (i:=3) (j:=4) rfl rfl (by decide);have hS:Dn s k=s:=by unfold Dn;iterate 9 rw[if_neg<|by omega]
 have hstep:∀p,Dq s k=p->C9 s k s p:=fun p h2=>by
  unfold C9;rw[if_neg<|by omega];exact⟨hS.symm,h2.symm⟩
 have hno:0<=s.no/\s.no<=4611686018427387904:=by have:=I.ok.kept;omega
 have hR:Dq s k=ER r k.b:=by unfold Dq;(iterate 12 rw[if_neg<|by omega]);rw[if_pos hk,hg]
 obtain⟨hg1,hgm,hgn⟩:=LA I.ok hg;have hmay:=I.ok.may r hgm;have hB:=Mw hmay;obtain⟨hm1,hm2,hm3,hm4,hm5⟩:=Pr hmay;obtain⟨q,hq1,hq2,hq3⟩:=I.kept r hgm;rw[hgn]at hq1;refine iG func55 U ?_;refine Af<|Be (BN k) (.agg _) U U H ?_;rintro b3 w - H;refine AP U<|Ag U<|qA<|Dk 4190400 (α:=Nat × RSl) (fun z=>[(6,ptr z.1),(7,.bool true)]) (fun z w'=>RAt w' r z.2/\Ctx w0 S0 w' ((z.1,Bl 57 (AE r z.2))::(b3,Bl 46 (BN k))::(bl,Bl 93 [ptr ba,ptr bd,ptr br,.int .i64 s.day])::(br,Bl 159 arch)::(ba,Bl 153 [.slice a s.acs.length c])::(bd,Bl 156 (DU b s.nx))::(b,o)::ent a 162 full)) U ?_ ?_
 .skip
  refine Km (.two [0,1,2,3,4,5] 6 (.one [7,8,9] 10 (.one [] 11 (.one [] 12 .stop))) 10 (.one [] 6 (.one [7,8,9] 11 (.one [] 12 .stop)))) (fun z=>z.heap[b3]?=some (Bl 46 (BN k))/\z.heap[bl]?=some (Bl 93 [ptr ba,ptr bd,ptr br,.int .i64 s.day])) AW (⟨H.drew.get at0,H.drew.get at1⟩) ?_;refine F6 U U U<|Bm U<|A7 U<|Ah qf U<|AU qf U (fun _ hx=>(by rw[Ai hx.2];rfl)) ?_;refine Ah qf U<|AU qf U (fun _ hx=>(by rw[Ai hx.1];rfl)) ?_;refine A6 ?_;replace H:=H.drew;refine⟨?_,?_⟩
  .skip
   refine Aj qB (Pn (n:=s.rn.length) (r:=r) (q:=q) _ (H.get at2) I.len I.n I.no hno hin.id hg1 hq1 (hq2.ext H.ext<|hq3.mono fun x hx=>I.own x (by rw[<-hS0];exact hx)) hB) U ?_;rintro v w ⟨hx19,q',rfl,RA,hoff⟩;have H9:=H.call hx19;clear H;obtain⟨w9,rfl,H⟩:=qE w;refine Ab<|B3 (by exact⟨H.ext.to (H9.get at0)<|by simp,H.ext.to (H9.get at1)<|by simp⟩) ?_;refine B1 U U<|CK U<|AZ U U<|AZ U U<|A6<|AN qf H ?_;rintro b6 w - H;refine Ab<|B3 (by exact⟨H.ext.to (H9.get at0)<|by simp,H.ext.to (H9.get at1)<|by simp⟩) ?_;refine B1 U U<|A6<|AM qf U U U (by simp[AF]) H at0 U ?_;rintro w H;refine Ab<|B3 (by exact⟨H.ext.to (H9.get at0)<|by simp,H.ext.to (H9.get at1)<|by simp⟩) ?_;refine B1 U U<|A6<|A5 U<|Ab<|B3 (by exact⟨H.ext.to (H9.get at0)<|by simp,H.ext.to (H9.get at1)<|by simp⟩) ?_;refine Db ?_
   refine Aa ?_;exact⟨(b6,q'),rfl,⟨rfl,rfl,trivial⟩,RA.ext0 H.ext,Ctx.mid (B:=[]) (L:=[]) H9 H⟩
  .skip
   refine AN qf H ?_;rintro b6 w - H;refine Ab<|B3 (by exact⟨H.get at1,H.get at2⟩) ?_;refine B1 U U<|A6<|Aj qB (Pn (n:=s.rn.length) (r:=r) (q:=q) _ (H.get at3) I.len I.n I.no hno hin.id hg1 hq1 (hq2.ext H.ext<|hq3.mono fun x hx=>I.own x (by rw[<-hS0];exact hx)) hB) U ?_;rintro v w ⟨hx19,q',rfl,RA,hoff⟩;have hlt:=AX<|H.get at0;have H9:=H.call hx19;clear H;obtain⟨w9,rfl⟩:=qD w;have H:=Ctx.start1<|H9.get at0;refine Ab<|B3 (by exact⟨H.ext.to (H9.get at1) (by rw[qab];exact H9.ne (i:=1) (j:=0) rfl rfl (by decide)),H.ext.to (H9.get at2) (by rw[qab];exact H9.ne (i:=2) (j:=0) rfl rfl (by decide))⟩) ?_;refine B1 U U<|CK U<|AZ U U<|AZ U U<|A6<|AM qf U U U (by simp[AF]) H at0 U ?_;rintro w H
   refine Ab<|B3 (by exact⟨H.ext.to (H9.get at1) (by rw[qab];exact H9.ne (i:=1) (j:=0) rfl rfl (by decide)),H.ext.to (H9.get at2) (by rw[qab];exact H9.ne (i:=2) (j:=0) rfl rfl (by decide))⟩) ?_;refine B1 U U ?_;refine A6<|A5 U<|Ab<|B3 (by exact⟨H.ext.to (H9.get at1) (by rw[qab];exact H9.ne (i:=1) (j:=0) rfl rfl (by decide)),H.ext.to (H9.get at2) (by rw[qab];exact H9.ne (i:=2) (j:=0) rfl rfl (by decide))⟩) ?_;refine Db<|Aa ?_;exact⟨(b6,q'),rfl,⟨rfl,rfl,trivial⟩,RA.ext H.ext (hoff.mono fun x hx=>by rw[qab.1 hx];exact hlt),Ctx.mid (B:=[]) (L:=[_]) H9 H⟩
 .rintro⟨b6,q'⟩ j7 w ⟨RA,H⟩;dsimp only at RA H;have H8:=H;have hb6:=H8.get at0;have hb3:=H8.get at1;obtain⟨w1,rfl⟩:=qD w;clear H;have H:=Ctx.start w1 [];refine AB<|Af<|Bj U<|Df U<|qA<|iB U ?_ ?_
  .intro h1;cases h1
  .intro h1;refine A1<|Aa<|CG (fun x=>x=_) AW U ?_;refine Aq qf U<|BD qf U (by rintro _ rfl;exact((by rw[Ai<|H.drew.ext.to hb3<|by simp];rfl))) ?_;refine Aq qf U<|Aq qf U<|BD qf U (by rintro _ rfl;exact((by rw[Ai<|H.drew.ext.to hb6<|by simp];rfl))) ?_;refine Aer U qf U<|Gw U U<|Gw U U<|Cc ?_;rintro _ rfl;replace H:=H.drew;refine AB<|AK<|Af<|Bo (α:=Unit) 4396972769280 (fun _=>[(30,.bool<|(decide (k.b < -1) || decide ((r.es.length:Int)+r.N<=k.b)))]) (fun _ w'=>Ctx w1 [] w' []) U ?_ ?_
   .refine Ad U (CH U U<|Bj U<|iC 33 U ?_ ?_)
    .intro h1;refine Al U<|Al U<|Al U<|Al U<|Al U<|Al U<|Al U<|Bz U (.bool _) U<|A5 U<|Ab ?_;exact⟨rfl,(),rfl,⟨qaa Value.bool (by rw[qac];simp_all;try omega),trivial⟩,H⟩
    .intro h2;refine Ad U<|Ad U<|Ae qf U<|Ae qf U<|A9 qf U ((H.old (Ai hb6 _)<|by simp)) ?_;refine Ap U U<|IW U U<|B9 U (.bool _) U<|A5 U<|Ab ?_;exact⟨rfl,(),rfl,⟨qaa Value.bool (by rw[qac];simp_all;try omega),trivial⟩,H⟩
   rintro - j30 w H;refine A3 _ U ?_ ?_
   .intro h2;have h2':k.b < -1\/(r.es.length:Int)+r.N<=k.b:=by simpa using h2
    refine Af<|AP U<|Ag U<|qA<|Bf<|Bn<|AD<|Cz (v1:=(.slice _ _ _)) (v2:=(.int _ _)) U U U U ?_;have H9:=H8.call H.ext;subst hS0;exact Dz (P:=[_,_]) (m':=⟨bl,ba,bd,br,b,a,c,full,o,arch⟩) (s':=s) (l:=[]) (code:=1) I H9 (GY _) (hstep _ (by rw[hR];unfold ER;rw[if_pos h2'];rfl)) I.O I.M I.ok U U U U
   .intro h2;have h2':¬(k.b < -1\/(r.es.length:Int)+r.N<=k.b):=by simpa using h2
    refine Af<|Ad U<|Ct U U<|A5 U<|qA<|iB U ?_ ?_
    .intro h3;refine BG [([0,1,2,3,5,6,7,8,9,10,11],4),([],12),([13],14)] (fun z=>Ext [] w1 z) [] AW (H.drew.ext)<|A0 U U ?_;refine Ah qf U<|AU qf U (fun _ hx=>(by rw[Ai<|hx.to hb6<|by simp];rfl)) ?_;refine Ah qf U<|AU qf U (fun _ hx=>(by rw[Ai<|hx.to hb6<|by simp];rfl)) ?_;refine Ah qf U<|Ah qf U<|AU qf U (fun _ hx=>(by rw[Ai<|hx.to hb6<|by simp];rfl)) ?_;refine AG U<|Ah qf U<|AU qf U (fun _ hx=>(by rw[Ai<|hx.to hb6<|by simp];rfl)) ?_;refine X6 U qf U<|A6 ?_;replace H:=H.drew;refine Aj qB (Vt r.cmp _) U ?_;rintro v w ⟨rfl,rfl⟩;refine Ab<|Bv (H.ext)<|A0 U U ?_;refine A6<|Cs ([r.day,GX r.cmp,r.N,(r.es.length:Int),(r.ids.length:Int)].map Cu) qf qf qf (Ctx.start _ []) ?_;rintro b57 w2 - H17;refine Ab (Bv (H.ext.trans H17.ext)<|A0 U U ?_)
     refine DA U<|A6<|Ag U<|Ab<|Bv (H.ext.trans H17.ext)<|Bu<|Bf<|Bn<|AD<|Cz (v1:=(.slice _ _ _)) (v2:=(.int _ _)) U U U U ?_;have H9:=H8.call H.ext;subst hS0;exact Dz (P:=[_,_]) (m':=⟨bl,ba,bd,br,b,a,c,full,o,arch⟩) (s':=s) (l:=[r.day,GX r.cmp,r.N,(r.es.length:Int),(r.ids.length:Int)]) (code:=0) I H9 (FR (n:=5) H17 U) (hstep _ (by rw[hR];unfold ER;rw[if_neg h2',if_pos h3];rfl)) I.O I.M I.ok U U U U
    .intro h3;refine Af<|Ad U<|Ad U<|IW U U<|A5 U<|qA<|iB U ?_ ?_
     .intro h4;obtain⟨y,hy⟩:=Au (l:=r.pot) (i:=(k.b - (r.es.length:Int)).toNat);refine Af<|Ae qf U<|Ae qf U<|A9 qf U ((H.old (Ai hb6 _)<|by simp)) ?_;refine Ad U<|Ad U<|Cf U U ?_;refine A2 (RA.P.ext0 H.ext) qf qf U U (by rfl)<|A9 qf U (((RA.P.ext0 H.ext).one (f:=Cu) hy)) ?_;have H17:=Ctx.start w [];refine C5 [.int .i64 y] (.int .i64 y) qf qf qf U U U U H17 ?_;rintro b70 w2 - H17;refine AP U<|Ag U<|qA<|Bf<|Bn<|AD<|Cz (v1:=(.slice _ _ _)) (v2:=(.int _ _)) U U U U ?_;have H9:=H8.call H.ext;subst hS0;exact Dz (P:=[_,_]) (m':=⟨bl,ba,bd,br,b,a,c,full,o,arch⟩) (s':=s) (l:=[y]) (code:=0) I H9 (FR (n:=1) (l:=[Cu y]) H17 U) (hstep _ (by rw[hR];unfold ER;rw[if_neg h2',if_neg h3,if_pos h4,Bp hy];rfl)) I.O I.M I.ok U U U U
     .intro h4;obtain⟨x,hxe⟩:=Au (l:=r.es) (i:=k.b.toNat);obtain⟨f,hf⟩:=Au (l:=r.fl) (i:=k.b.toNat);refine A1<|Av<|Aa<|Af<|Ae qf U<|Ae qf U<|A9 qf U ((H.old (Ai hb6 _)<|by simp)) ?_;refine Ad U<|A2 (RA.E.ext0 H.ext) qf qf U U (by rfl) ?_;refine BC _ qf qf U U (((RA.E.ext0 H.ext).row hxe U))<|AN qf H ?_;rintro b10 w - H;refine AM qf U U U (by exact Eg _) H at0 U ?_;rintro w H;refine Ag U<|qA<|AB ?_;replace H:Ctx w1 [] w [(b10,Bl 195 (Co x))]:=H;refine Af<|Ad U<|Ae qf U<|A9 qf U ((H.old (Ai hb6 _)<|by simp)) ?_;refine Cp qf U<|CH U U<|qA<|iB U ?_ ?_
      .intro h5;obtain⟨y,hy⟩:=Au (l:=r.ids) (i:=k.b.toNat);refine Aw<|Ae qf U<|A9 qf U ((H.old (Ai hb6 _)<|by simp)) ?_;refine Ad U<|A2 (RA.I.ext0 H.ext) qf qf U U (by rfl) ?_;refine A9 qf U (((RA.I.ext0 H.ext).one (f:=F2) hy))<|MD U U qf qf ?_;refine Ag U<|qA<|BG [([0,1,2,3,4,5,6,7,8,9,10,11,12,13,14],15),([16],17)] (fun z=>Ext [] w1 z/\z.heap[b10]?=some (Bl 195 (Co x))) [] AW (⟨H.drew.ext,H.drew.get at0⟩) ?_;refine A0 U U<|Ah qf U<|AU qf U (fun _ hx=>(by rw[Ai hx.2];rfl)) ?_;refine Ah qf U<|AU qf U (fun _ hx=>(by rw[Ai hx.2];rfl)) ?_;refine Ah qf U<|AU qf U (fun _ hx=>(by rw[Ai hx.2];rfl)) ?_;refine Ah qf U<|AU qf U (fun _ hx=>(by rw[Ai hx.2];rfl)) ?_;refine Ah qf U (Ah qf U<|AU qf U (fun _ hx=>(by rw[Ai<|hx.1.to hb6<|by simp];rfl)) ?_)
       refine AG U<|B4 (RA.F.ext0 H.ext) qf qf U U (by rfl) ?_;refine AU qf U (fun _ hx=>((RA.F.ext0 hx.1).one (f:=Cu) hf))<|AG U<|A6 ?_;replace H:=H.drew;refine Cs ([x.f,x.t,x.cap,x.cost,f,IntKind.i64.wrap y].map Cu) qf qf qf (Ctx.start _ []) ?_;rintro b103 w2 - H17;refine Ab<|Bv (⟨H.ext.trans H17.ext,H17.ext.to (H.get at0)<|by simp⟩) ?_;refine A0 U U<|DA U<|A6<|Ag U<|Ab<|Bv (⟨H.ext.trans H17.ext,H17.ext.to (H.get at0)<|by simp⟩) ?_;refine Bu<|Bf<|Cz (v1:=(.slice _ _ _)) (v2:=(.int _ _)) U U U U ?_;have H9:=H8.call H.ext;subst hS0
       exact Dz (P:=[_,_]) (m':=⟨bl,ba,bd,br,b,a,c,full,o,arch⟩) (s':=s) (l:=[x.f,x.t,x.cap,x.cost,f,IntKind.i64.wrap y]) (code:=0) I H9 (FR (n:=6) H17 U) (hstep _ (by rw[hR];unfold ER;rw[if_neg h2',if_neg h3,if_neg h4,Bp hxe,Bp hf,if_pos h5,Bp hy];rfl)) I.O I.M I.ok U U U U
      .intro h5;refine A1<|Aa<|BG [([0,1,2,3,4,5,6,7,8,9,10,11,12,13,14],15),([16],17)] (fun z=>Ext [] w1 z/\z.heap[b10]?=some (Bl 195 (Co x))) [] AW (⟨H.drew.ext,H.drew.get at0⟩) ?_;refine A0 U U<|Ah qf U<|AU qf U (fun _ hx=>(by rw[Ai hx.2];rfl)) ?_;refine Ah qf U<|AU qf U (fun _ hx=>(by rw[Ai hx.2];rfl)) ?_;refine Ah qf U<|AU qf U (fun _ hx=>(by rw[Ai hx.2];rfl)) ?_;refine Ah qf U<|AU qf U (fun _ hx=>(by rw[Ai hx.2];rfl)) ?_;refine Ah qf U<|Ah qf U<|AU qf U (fun _ hx=>(by rw[Ai<|hx.1.to hb6<|by simp];rfl)) ?_;refine AG U<|B4 (RA.F.ext0 H.ext) qf qf U U (by rfl) ?_;refine AU qf U (fun _ hx=>((RA.F.ext0 hx.1).one (f:=Cu) hf))<|AG U<|A6 ?_;replace H:=H.drew
       refine Cs ([x.f,x.t,x.cap,x.cost,f,0].map Cu) qf qf qf (Ctx.start _ []) ?_;rintro b103 w2 - H17;refine Ab<|Bv (⟨H.ext.trans H17.ext,H17.ext.to (H.get at0)<|by simp⟩) ?_;refine A0 U U<|DA U<|A6<|Ag U<|Ab<|Bv (⟨H.ext.trans H17.ext,H17.ext.to (H.get at0)<|by simp⟩) ?_;refine Bu<|Bf<|Cz (v1:=(.slice _ _ _)) (v2:=(.int _ _)) U U U U ?_;have H9:=H8.call H.ext;subst hS0;exact Dz (P:=[_,_]) (m':=⟨bl,ba,bd,br,b,a,c,full,o,arch⟩) (s':=s) (l:=[x.f,x.t,x.cap,x.cost,f,0]) (code:=0) I H9 (FR (n:=6) H17 U) (hstep _ (by rw[hR];unfold ER;rw[if_neg h2',if_neg h3,if_neg h4,Bp hxe,Bp hf,if_neg h5];rfl)) I.O I.M I.ok U U U U
theorem Xe{k:Ak}(hk:k.kd=15)(hin:AkIn k)(w:World)(I:LdIn w m s T)(H0:Ctx w (CR m s) w<|LL m s) :
  Ret prog 55 #[ptr m.bl,.agg (BN k).toArray] w (FG w m s T k):=by
 cases hg:JA s k.id with
 |none=>exact Um hk hin hg w I H0
 |some r=>exact Un hk hin hg w I H0
end Go.Proofs.YtfnfnmgilmejmaaGreat
