/- Part 9 of the proof. -/
import Derived.Test.YtfnfnmgilmejmaaGreatPart8
set_option maxRecDepth 20000
set_option maxHeartbeats 4000000
namespace Go.Proofs.YtfnfnmgilmejmaaGreat
open Go.GV Go.Proofs.Tryz
attribute [local irreducible] A4 W Wq Wt
variable{α:Type}{net:Bool}{d:Du}{k nx x:Int}{kk:IntKind}{ds os:List Du}{rs xs:List Int}{full vs:List Value}{L l:List α}{b b1 b2 b3 b7 bd bx c i m n s:Nat}{o:Obj}{y:Operand}{a:Option Addr}{el t:TypeId}{z:Value}
theorem Wv(a b:Option Addr)(n c m d:Nat)(xs ys:List Du)(w:World)(R:Rd w a 7 BK xs)(hn:xs.length=n)(hn2:n<=1000000)(Ry:Rd w b 7 BK ys)(hm:ys.length=m)(hm2:m<=1000000) :
  Ret prog 64 #[.slice a n c,.slice b m d] w fun v w'=>v=.bool (decide (xs=ys))/\Ext [] w w':=by
 subst hn hm;obtain⟨w0,rfl,H⟩:=qE w;refine iG func64 U ?_;refine qGp 13 ?_ ?_
 .intro h1;refine qG 7 ?_;exact⟨qaa Value.bool (qa1 fun h=>by rw[h]at h1;simp at h1).symm,H.ext⟩
 .intro h1;have hle:xs.length=ys.length:=by omega
  refine qG 8 ?_;refine AY 67106864 (α:=Nat) (fun i=>[(5,.int .i64 (i:Int))]) (fun i w'=>i<=xs.length/\Ctx w0 [] w' []/\∀(k:Nat) (x y:Du),k<i->xs[k]?=some x->ys[k]?=some y->x=y) (fun i=>xs.length - i) 0 U ?_ ?_ ?_
  .exact⟨rfl,trivial⟩
  .exact⟨qai _,H,fun k x y h=>absurd h<|qay _⟩
  .clear H;rintro i j w ⟨hi,H,hb⟩;refine qGp 8 ?_ ?_
   .intro h2;obtain⟨x,hx⟩:=Au (l:=xs) (i:=i);obtain⟨y,hy⟩:=Au (l:=ys) (i:=i);refine A1<|Aa<|AB<|AK<|CG (fun x=>x=_) AW U ?_;refine BT U<|AS U<|Br R qf qf U U (by rfl) ?_;refine FI _ qf qf U U (by rintro _ rfl;exact((R.ext0 H.drew.ext).row hx rfl)) ?_;refine BT U<|AS U<|Br Ry qf qf U U (by rfl) ?_;refine FI _ qf qf U U (by rintro _ rfl;exact((Ry.ext0 H.drew.ext).row hy rfl)) ?_;refine UA (ks:=[true,true,true,true,true,true,false]) (xs:=BK x) (ys:=BK y) (decide (x=y)) U U U ⟨rfl,rfl,rfl,rfl,rfl,rfl,True.intro,True.intro⟩ (Zl x y) ?_;refine Cc ?_;rintro _ rfl;replace H:=H.drew;refine A3 _ U ?_ ?_
    .intro h3;refine qG 11 ?_;have hne:¬x=y:=by simpa using h3
     exact⟨qaa Value.bool (qa1 fun h=>by subst h;rw[hx]at hy;injection hy with hy;exact hne hy).symm,H.ext⟩
    .intro h3;refine A1<|Av<|Aa<|Aw<|Ad U<|Ap U U ?_;refine Ag U<|qA ?_;have heq:x=y:=by simpa using h3
     refine⟨i+1,rfl,⟨rfl,trivial⟩,⟨by omega,H,fun k x' y' hk hx' hy'=>?_⟩,by omega⟩
     rcases qao k i with h7|h7
     .exact hb k x' y' h7 hx' hy'
     .obtain rfl:k=i:=by omega
      rw[hx]at hx';rw[hy]at hy';cases hx';cases hy';exact heq
   .intro h2;refine Bi<|Am<|Am<|A8<|Aa<|Af<|A5 U<|qA<|Bf<|B6 (v:=(.bool _)) U U U ?_;obtain rfl:i=xs.length:=by omega
    exact⟨qaa Value.bool (qam<|J2 hle hb).symm,H.ext⟩
theorem Zm(a:Option Addr)(n c:Nat)(acs:List Ac)(w:World)(R:Rd w a 2 Cg acs)(hn:acs.length=n)(hm:n<=1000000000:=by omega):
  Ret prog 39 #[.slice a n c] w fun v w'=>∃p,v=.tuple #[p,.int .i64<|CO acs]/\(CO acs≠0->p=.pointer none)/\(CO acs=0->∃bd a' c' full,p=ptr bd/\w'.heap[bd]?=some (Bl 96 [.slice a' acs.length c'])/\OS a' acs.length c' 2 full (acs.flatMap Cg) /\
   (∀x∈ent a' 162 full,w'.heap[x.1]?=some x.2/\w.heap.size<=x.1/\x.1≠bd)/\w.heap.size<=bd)/\Ext [] w w':=by
 subst hn;obtain⟨w0,rfl⟩:=qD w;refine iG func39 U ?_;refine qGp 12 ?_ ?_
 .intro h1;refine qG 8 ?_;have h1':CO acs=6:=by unfold CO;rw[if_pos<|by omega]
  exact⟨_,by rw[h1'],fun _=>rfl,(fun h=>by omega),Ext.refl _ _⟩
 .intro h1;have h1':¬16<acs.length:=by omega
  refine qG 8 ?_;refine AY 8589932572 (α:=Nat) (fun i=>[(4,.int .i64 (i:Int))]) (fun i w'=>i<=acs.length/\w0=w'/\(∀(k:Nat) (x:Ac),k<i->acs[k]?=some x->Fl x=true)) (fun i=>acs.length - i) 0 U ?_ ?_ ?_
  .exact⟨rfl,trivial⟩
  .exact⟨qai _,rfl,(fun k x h=>absurd h<|qay _)⟩
  .rintro i j w ⟨hi,rfl,hall⟩;refine qGp 8 ?_ ?_
   .intro h2;obtain⟨x,hx⟩:=Au (l:=acs) (i:=i);refine qG 5 ?_;refine Bo (α:=Unit) 8589803520 (fun _=>[(32,.bool<|!Fl x)]) (fun _ w'=>w'=w0) U ?_ ?_
    .refine AH U (Ad U<|A2 R qf qf U U (by rfl) ?_);refine Ae qf U<|A9 qf U ((R.fld hx U (j:=0) U)) ?_;refine Aj qB (EV x.ba _) U ?_;rintro v w ⟨rfl,rfl⟩;refine qG 2 ?_;refine iC 24 U ?_ ?_
     .intro h1;refine qG 9 ?_;exact⟨rfl,(),rfl,⟨qaa Value.bool (by unfold Fl;rw[qac];simp_all;try omega),trivial⟩,rfl⟩
     .intro h2;refine AH U<|Ad U<|A2 R qf qf U U (by rfl) ?_;refine Ae qf U<|A9 qf U ((R.fld hx U (j:=1) U)) ?_;refine Aj qB (EV x.re _) U ?_;rintro v w ⟨rfl,rfl⟩;refine qG 3 ?_;exact⟨rfl,(),rfl,⟨qaa Value.bool (by unfold Fl;rw[qac];simp_all;try omega),trivial⟩,rfl⟩
    rintro - j32 w hw;subst w;refine iB U ?_ ?_
    .intro h3;refine qG 12 ?_;have h3':CO acs=1:=by unfold CO;rw[if_neg h1',if_pos<|C2 hx<|by simpa using h3]
     exact⟨_,by rw[h3'],fun _=>rfl,(fun h=>by omega),Ext.refl _ _⟩
    .intro h3;refine A1<|Av<|Aa<|Aw<|Ad U<|Ap U U ?_;refine Ag U<|qA ?_;refine⟨i+1,rfl,⟨rfl,trivial⟩,⟨by omega,rfl,(fun k y hk hy=>?_)⟩,by omega⟩
     rcases qao k i with h7|h7
     .exact hall k y h7 hy
     .obtain rfl:k=i:=by omega
      rw[hx]at hy;cases hy
      simpa using h3
   .intro h2;obtain rfl:i=acs.length:=by omega
    have hal:acs.all Fl=true:=CN fun k x hk hx=>hall k x hk hx;have H:=Ctx.start w0 [];obtain⟨tt,htt⟩:=qD<|Dp<|acs.map Ac.ba;have hC:CO acs=tt.2:=by unfold CO;rw[if_neg h1',if_neg (by rw[hal];decide),htt]
    rw[hC];refine Bi<|Am<|Am<|A8<|Aa<|Af<|AH U<|Aj qB (Lx a acs.length c acs _ R U) U ?_;rintro v w F4;obtain⟨a4,n4,c4,f4,rfl,O4,hb4⟩:=F4.ex;replace H:=H.call F4.ext;have hl4:=O4.llen;rw[qaj,qaj]at hl4;refine Aj qB (HZ a4 n4 c4 (acs.map Ac.ba) _ (O4.rd1 fun x hx=>(hb4 x hx).1) (by rw[qaj];omega)) U ?_;rintro v w ⟨rfl,rfl⟩;rw[<-htt];refine qGp 13 ?_ ?_
    .intro h5;refine qG 9 ?_;exact⟨_,rfl,fun _=>rfl,(fun h=>absurd h h5),H.ext⟩
    .intro h5;refine A1<|Aa<|Af<|Bd [.slice none 0 0] qf qf ?_;refine Be [.slice none 0 0] (.agg _) U U H ?_;rintro b43 w - H;refine qG 10 ?_;refine Ee (L:=[_]) (a:=none) (n:=0) (c:=0) (full:=[]) (l:=[]) qf qf qf qf qf U (acs.flatMap Cg) U U H OS.nil (Jg acs) (OT acs) ((R.ext0 H.ext).app (fun _ _=>rfl)<|by omega) ?_;rintro a7 c7 full7 w H O;rw[show 0+acs.length=acs.length from qa0 _];refine AR U<|Ae qf U<|Ch (.slice _ _ _) qf U U U H at0 (by decide) ?_;rintro w H;refine qG 10 ?_;have h5':tt.2=0:=by omega
     rw[qcm,qa0]at O;refine⟨_,by rw[h5'],(fun h=>absurd h5' h),(fun _=>⟨b43,a7,c7,full7,rfl,H.get at0,O,fun x hx=>?_,?_⟩),H.ext⟩
     .have hm:=qae (b43,Bl 96 [.slice a7 acs.length c7]) hx;refine⟨H.blk x hm,(H.own x hm).elim (fun h=>by cases h) id,fun h=>?_⟩;exact(qbf.1 H.nd).1 x hx h.symm
     .exact(H.own (b43,_)<|qah ..).elim (fun h=>by cases h) id
theorem Ly(d:Du)(w:World):Ret prog 90 #[Fj d] w fun v w'=>v=.bool (CZ d)/\Ext [] w w':=by
 obtain⟨w0,rfl,H⟩:=qE w;refine iG func90 U<|Af<|Be (BK d) (.agg _) U U H ?_;rintro b1 w - H;refine qG 4 ?_;refine Bo (α:=Unit) 536870904 (fun _=>[(3,.bool<|E8 d.fr && (E8 d.to && !decide (d.fr=d.to)))]) (fun _ w'=>Ctx w0 [] w' [(b1,Bl 111 (BK d))]) U ?_ ?_
 .refine qG 4 ?_;refine iC 7 U ?_ ?_
  .intro h1;refine qG 5 ?_;refine iC 12 U ?_ ?_
   .intro h2;refine qG 5 ?_;refine iC 17 U ?_ ?_
    .intro h3;refine qG 5 ?_;refine iC 22 U ?_ ?_
     .intro h4;refine qG 8 ?_;exact⟨rfl,(),rfl,⟨qaa Value.bool (by unfold E8;rw[qac];simp_all;try omega),trivial⟩,H⟩
     .intro h5;refine qG 8 ?_;exact⟨rfl,(),rfl,⟨qaa Value.bool (by unfold E8;rw[qac];simp_all;try omega),trivial⟩,H⟩
    .intro h6;refine qG 13 ?_;exact⟨rfl,(),rfl,⟨qaa Value.bool (by unfold E8;rw[qac];simp_all;try omega),trivial⟩,H⟩
   .intro h7;refine qG 18 ?_;exact⟨rfl,(),rfl,⟨qaa Value.bool (by unfold E8;rw[qac];simp_all;try omega),trivial⟩,H⟩
  .intro h8;refine qG 23 ?_;exact⟨rfl,(),rfl,⟨qaa Value.bool (by unfold E8;rw[qac];simp_all;try omega),trivial⟩,H⟩
 rintro - j3 w H;refine qG 3 ?_;refine Az 30 U ?_ ?_
 .intro h9;refine qG 5 ?_;refine iC 35 U ?_ ?_
  .intro h10;refine qG 2 ?_;refine Aj qB (EV d.am _) U ?_;rintro v w ⟨rfl,rfl⟩;refine qG 2 ?_;refine Az 40 U ?_ ?_
   .intro h11;refine qG 5 ?_;refine iC 45 U ?_ ?_
    .intro h12;refine qG 5 ?_;refine iC 50 U ?_ ?_
     .intro h13;refine qG 9 ?_;exact⟨qaa Value.bool (by unfold CZ;generalize(E8 d.fr && (E8 d.to && !decide (d.fr=d.to)))=B at *;rw[qac];simp_all;try omega),H.ext⟩
     .intro h14;refine qG 9 ?_;exact⟨qaa Value.bool (by unfold CZ;generalize(E8 d.fr && (E8 d.to && !decide (d.fr=d.to)))=B at *;rw[qac];simp_all;try omega),H.ext⟩
    .intro h15;refine qG 14 ?_;exact⟨qaa Value.bool (by unfold CZ;generalize(E8 d.fr && (E8 d.to && !decide (d.fr=d.to)))=B at *;rw[qac];simp_all;try omega),H.ext⟩
   .intro h16;refine qG 19 ?_;exact⟨qaa Value.bool (by unfold CZ;generalize(E8 d.fr && (E8 d.to && !decide (d.fr=d.to)))=B at *;rw[qac];simp_all;try omega),H.ext⟩
  .intro h17;refine qG 24 ?_;exact⟨qaa Value.bool (by unfold CZ;generalize(E8 d.fr && (E8 d.to && !decide (d.fr=d.to)))=B at *;rw[qac];simp_all;try omega),H.ext⟩
 .intro h18;refine qG 29 ?_;exact⟨qaa Value.bool (by unfold CZ;generalize(E8 d.fr && (E8 d.to && !decide (d.fr=d.to)))=B at *;rw[qac];simp_all;try omega),H.ext⟩
theorem RV(a:Option Addr)(n c:Nat)(ds:List Du)(w:World)(R:Rd w a 7 BK ds)(hn:ds.length=n)(hm:n<=1000000:=by omega):
  Ret prog 91 #[.slice a n c] w fun v w'=>Fresh w w' 2 1 v ((ds.map Du.am).map Cu):=by
 subst hn;obtain⟨w0,rfl,H⟩:=qE w;refine iG func91 U ?_;refine qG 14 ?_;refine AY 524280 (α:=LSt) (fun t=>[(3,.slice t.a t.i t.c),(4,.int .i64 (t.i:Int))]) (fun t w'=>t.i<=ds.length/\OS t.a t.i t.c 1 t.full (((ds.take t.i).map Du.am).map Cu)/\Ctx w0 [] w' (ent t.a 2 t.full)) (fun t=>ds.length - t.i) ⟨0,none,0,[]⟩ U ?_ ?_ ?_
 .exact⟨rfl,rfl,trivial⟩
 .exact⟨qai _,OS.nil,H⟩
 .rintro⟨i,a2,c2,full⟩ j w ⟨hi,O,H⟩;dsimp only at hi O H;dsimp only;refine qGp 8 ?_ ?_
  .intro h1;obtain⟨x,hx⟩:=Au (l:=ds) (i:=i);refine qG 8 ?_;refine A2 R qf qf U U (by rfl)<|Ae qf U<|A9 qf U (((R.ext0 H.ext).fld hx U (j:=3) U)) ?_;refine qG 1 ?_;rintro b17 w - H;refine BL (L:=[]) qf qf qf qf qf U U U H O U (by simp[AF]) ?_;rintro a' c' full' w H O;refine AP U<|Ab<|Av<|Aa<|Aw<|Ad U<|Ap U U ?_;refine Ag U<|qA ?_;exact⟨⟨i+1,a',c',full'⟩,rfl,⟨rfl,rfl,trivial⟩,⟨by dsimp only;omega,by dsimp only;rw[Fk hx,qau];exact O,H⟩,by dsimp only;omega⟩
  .intro h1;refine Bi<|Am<|Am<|A8<|Aa<|Af<|AH U<|AP U<|qA<|Bf<|B6 (v:=(.slice _ _ _)) U U U ?_;obtain rfl:i=ds.length:=by omega
   rw[qba]at O;exact Ctx.fresh (L:=[]) H O
theorem J3(ds:List Du):∀v∈ds.flatMap BK,AF v=true:=fun v hv=>by
 obtain⟨a,_,h⟩:=qei.1 hv;exact Cx a v h
theorem GO(ds:List Du):(ds.flatMap BK).length=ds.length*7:=by
 induction ds with
 |nil=>rfl
 |cons a ds ih =>
  rw[qbw,qat,ih];show 7+ds.length*7=(ds.length+1)*7;omega
theorem RW{p:Du}(h0:0<i)(h:ds[i - 1]?=some p):Hv 0 (ds.take i)=p.id:=by
 obtain⟨j,rfl⟩:∃j,i=j+1:=⟨i - 1,by omega⟩;rw[qbr,show ds[j]?=some p from h];exact JJ 0 _ p
theorem Zn(a:Option Addr)(n c:Nat)(ds:List Du)(nx:Int)(w:World)(R:Rd w a 7 BK ds)(hn:ds.length=n)(_:0<=nx/\nx<18446744073709551616)(hid:∀d∈ds,0<=d.id/\d.id<18446744073709551616)(hn2:n<=1000000000:=by omega):
  Ret prog 40 #[.slice a n c,.int .u64 nx] w fun v w'=>∃p,v=.tuple #[p,.int .i64<|ofC ds nx]/\(ofC ds nx≠0->p=.pointer none)/\(ofC ds nx=0->∃bd a' c' full,p=ptr bd/\w'.heap[bd]?=some (Bl 132 [.slice a' ds.length c',.int .u64 nx])/\OS a' ds.length c' 7 full (ds.flatMap BK) /\
   (∀x∈ent a' 111 full,w'.heap[x.1]?=some x.2/\w.heap.size<=x.1/\x.1≠bd)/\w.heap.size<=bd)/\Ext [] w w':=by
 subst hn;obtain⟨w0,rfl,H⟩:=qE w;refine iG func40 U ?_;refine qGp 12 ?_ ?_
 .intro h1;refine qG 8 ?_;have h1':ofC ds nx=6:=by unfold ofC;rw[if_pos<|by omega]
  exact⟨_,by rw[h1'],fun _=>rfl,(fun h=>by omega),H.ext⟩
 .intro h1;have h1':¬64<ds.length:=by omega
  refine qG 8 ?_;refine AY 1152921504606838896 (α:=Nat) (fun i=>[(6,.int .i64 (i:Int))]) (fun i w'=>i<=ds.length/\Ctx w0 [] w' []/\ED nx 0 (ds.take i)=true) (fun i=>ds.length - i) 0 U ?_ ?_ ?_
  .exact⟨rfl,trivial⟩
  .exact⟨qai _,H,rfl⟩
  .clear H;rintro i j w ⟨hi,H,has⟩;refine qGp 8 ?_ ?_
   .intro h3;obtain⟨d,hd⟩:=Au (l:=ds) (i:=i)
    obtain⟨pd,hpv⟩:∃pd:Du,0<i->ds[i - 1]?=some pd:=by
     rcases qdk i with h|h
     .exact⟨d,fun h7=>by omega⟩
     .obtain⟨pd,hpd⟩:=Au (l:=ds) (i:=i - 1);exact⟨pd,fun _=>hpd⟩
    obtain⟨ah,hah⟩:=qD<|Hv 0 (ds.take i);have hah0:i=0->ah=0:=fun h=>by subst h;exact hah
    have hah1:0<i->ah=pd.id:=fun h=>by rw[hah];exact RW h<|hpv h
    have hahp:0<=ah:=by rw[hah];exact(Hw has).2.2
    have hdi:=hid d<|qad hd;have htk:ds.take (i+1)=ds.take i++[d]:=by rw[qbr,hd];rfl
    have hasc:ED nx 0 (ds.take<|i+1)=(CZ d && (decide (ah<d.id) && decide (d.id<nx))):=by
     rw[htk,Gf,has,qbs,<-hah];show(_ && true)=_;rw[qcx]
    have hpdi:0<i->0<=pd.id/\pd.id<18446744073709551616:=fun h=>hid pd<|qad<|hpv h
    have hbad:(CZ d && (decide (ah<d.id) && decide (d.id<nx)))=false->ofC ds nx=1:=fun h4=>by
     unfold ofC;rw[if_neg h1']
     split
     .rfl
     .rw[if_pos];have h5:ED nx 0 ds=ED nx 0 (ds.take (i+1)++ds.drop (i+1)):=by rw[qbp]
      rw[h5,Gf,hasc,h4];rfl
    have hnext:(CZ d && (decide (ah<d.id) && decide (d.id<nx)))=true->ED nx 0 (ds.take<|i+1)=true:=fun h4=>by rw[hasc];exact h4
    refine A1<|Aa<|AB<|AK<|BG [([0,1,2,3],4),([5,6,7,8,9,10,11,12,13,14,15,16,17,18,19,20,21,22,23,24,25,26,27,28,29,30,31,32,33,34,35,36,37,38,39],40)] (fun z=>Ext [] w0 z) [] AW (H.drew.ext) ?_;refine A0 U U<|Bq U<|AG U<|B4 R qf qf U U (by rfl) ?_;refine EZ _ qf qf U U (fun _ hx=>(R.ext0 hx).row hd rfl)<|A6 ?_;replace H:=H.drew;refine Aj qB (Ly d _) U ?_;rintro v w ⟨rfl,hx23⟩;replace H:=H.call hx23;refine Ab<|Bv (H.ext)<|A0 U U ?_;refine QI U U<|DT U<|iF 25 U ?_ ?_
    .intro g1;refine Bs U<|Bs U<|Bs U<|Bs U<|Bs U<|Bs U<|He U (.bool _) U<|DT U<|Bs U<|Bs U ?_;refine Bs U<|Bs U<|Bs U<|Bs U<|Bs U<|He U (.bool _) U<|DT U<|Bs U<|Bs U<|Bs U ?_;refine Bs U<|Bs U<|Bs U<|Bs U<|Bs U<|Bs U<|Bs U<|Bs U<|Bs U<|Bs U ?_;refine Bs U<|Bs U<|Bs U<|A6<|Bz U (.bool _) U<|Ab<|Bv (H.ext)<|Bu<|EG U<|Af<|Bx U ?_;refine Ag U<|qA<|Bf<|Bn<|AD<|AD<|Bn<|AD<|Cz (v1:=(.pointer _)) (v2:=(.int _ _)) U U U U ?_;exact⟨_,by rw[hbad (by rw[show CZ d=false by simpa using g1];rfl)],fun _=>rfl,(fun h=>by rw[hbad (by rw[show CZ d=false by simpa using g1];rfl)]at h;omega),H.ext⟩
    .intro g1;have g1':CZ d=true:=by simpa using g1
     refine Bq U<|AG U<|B4 R qf qf U U (by rfl) ?_;refine Ah qf U<|AU qf U (fun _ hx=>((R.ext0 hx).fld hd rfl (j:=0) rfl)) ?_;refine X4 U U U<|Kr U U (.bool _) U<|DT U<|iF 33 U ?_ ?_
     .intro g2;refine Bs U<|Bs U<|Bs U<|Bs U<|Bs U<|Bs U<|Bs U<|He U (.bool _) U<|DT U<|Bs U ?_;refine Bs U<|Bs U<|Bs U<|Bs U<|Bs U<|Bs U<|Bs U<|Bs U<|Bs U<|Bs U ?_;refine Bs U<|Bs U<|Bs U<|Bs U<|Bs U<|A6<|Bz U (.bool _) U<|Ab<|Bv (H.ext)<|Bu<|EG U ?_;refine Af<|Bx U<|Ag U<|qA<|Bf<|Bn<|AD<|AD<|Bn<|AD<|Cz (v1:=(.pointer _)) (v2:=(.int _ _)) U U U U ?_;have hb:=hbad (by rw[g1',qbs,qa1<|show ¬ah<d.id by omega];rfl);exact⟨_,by rw[hb],fun _=>rfl,(fun h=>by omega),H.ext⟩
     .intro g2;refine Bq U<|AG U<|B4 R qf qf U U (by rfl) ?_;refine Ah qf U<|AU qf U (fun _ hx=>((R.ext0 hx).fld hd rfl (j:=0) rfl)) ?_;refine AG U<|QG U U U<|Kr U U (.bool _) U<|DT U<|iF 42 U ?_ ?_
      .intro g3;refine Bs U<|Bs U<|Bs U<|Bs U<|Bs U<|Bs U<|Bs U<|Bs U<|Bs U<|Bs U ?_;refine Bs U<|Bs U<|Bs U<|Bs U<|Bs U<|Bs U<|A6<|Bz U (.bool _) U<|Ab<|Bv (H.ext)<|Bu ?_;refine EG U<|Af<|Bx U<|Ag U<|qA<|Bf<|Bn<|AD<|AD<|Bn<|AD<|Cz (v1:=(.pointer _)) (v2:=(.int _ _)) U U U U ?_;have hb:=hbad (by rw[g1',qbs,qa1<|show ¬d.id<nx by omega,qcv]);exact⟨_,by rw[hb],fun _=>rfl,(fun h=>by omega),H.ext⟩
      .intro g3;refine AG U<|X5 U U U<|DT U<|iF 45 U ?_ ?_
       .intro g4;have hp0:=hah1 (by omega);refine Bq U<|AG U<|D9 U U ?_;rw[show(i:Int) - 1=((i - 1:Nat):Int)by omega];refine B4 R qf qf U U (by rfl) ?_;refine Ah qf U<|AU qf U (fun _ hx=>((R.ext0 hx).fld (hpv<|by omega) rfl (j:=0) rfl)) ?_;refine Bq U<|AG U<|B4 R qf qf U U (by rfl) ?_;refine Ah qf U<|AU qf U (fun _ hx=>((R.ext0 hx).fld hd rfl (j:=0) rfl)) ?_;refine QG U U U<|He U (.bool _) U<|A6<|B9 U (.bool _) U<|Ab<|Bv (H.ext)<|Bu<|iB U ?_ ?_
        .intro g5;refine qG 12 ?_;have hb:=hbad (by rw[g1',qbs,qa1<|show ¬ah<d.id by omega];rfl);exact⟨_,by rw[hb],fun _=>rfl,(fun h=>by omega),H.ext⟩
        .intro g5;refine A1<|Av<|Aa<|Aw<|Ad U<|Ap U U ?_;refine Ag U<|qA ?_;exact⟨i+1,rfl,⟨rfl,trivial⟩,⟨by omega,H,hnext (by rw[g1',qam<|show ah<d.id by omega,qam<|show d.id<nx by omega];rfl)⟩,by omega⟩
       .intro g4;have hp0:=hah0 (by omega);refine Bs U<|Bs U<|Bs U<|Bs U<|Bs U<|Bs U<|Bs U<|Bs U<|Bs U<|Bs U ?_;refine Bs U<|Bs U<|Kr U U (.bool _) U<|A6<|B9 U (.bool _) U<|Ab<|Bv (H.ext)<|Bu<|FT U<|A1<|Av<|Aa<|Aw ?_;refine Ad U<|Ap U U ?_;refine Ag U<|qA ?_;exact⟨i+1,rfl,⟨rfl,trivial⟩,⟨by omega,H,hnext (by rw[g1',qam<|show ah<d.id by omega,qam<|show d.id<nx by omega];rfl)⟩,by omega⟩
   .intro h3;obtain rfl:i=ds.length:=by omega
    rw[qba]at has;refine Bi<|Am<|Am<|A8<|Aa<|AB<|Af<|Bo (α:=Unit) 72634054790231359488 (fun _=>[(65,.bool<|!(decide (1<=nx) && decide (nx<=4611686018427387904)))]) (fun _ w'=>Ctx w0 [] w' []) U ?_ ?_
    .refine qG 3 ?_;refine iC 62 U ?_ ?_
     .intro h1;refine qG 4 ?_;exact⟨rfl,(),rfl,⟨qaa Value.bool (by rw[qac];simp_all;try omega),trivial⟩,H⟩
     .intro h2;refine qG 4 ?_;exact⟨rfl,(),rfl,⟨qaa Value.bool (by rw[qac];simp_all;try omega),trivial⟩,H⟩
    rintro - j65 w H;refine iB U ?_ ?_
    .intro h2;refine qG 8 ?_;have h2':ofC ds nx=1:=by unfold ofC;rw[if_neg h1',if_pos<|by simpa using h2]
     exact⟨_,by rw[h2'],fun _=>rfl,(fun h=>by omega),H.ext⟩
    .intro h2;have h2':(decide (1<=nx) && decide (nx<=4611686018427387904))=true:=by simpa using h2
     have h2n:¬(decide (1<=nx) && decide (nx<=4611686018427387904))=false:=by rw[h2'];decide
     obtain⟨tt,htt⟩:=qD<|Dp<|ds.map Du.am;have hC:ofC ds nx=tt.2:=by unfold ofC;rw[if_neg h1',if_neg h2n,if_neg (by rw[has];decide),htt]
     rw[hC];refine qG 4 ?_;refine Aj qB (RV a ds.length c ds _ (R.ext0 H.ext) U) U ?_;rintro v w F4;obtain⟨a4,n4,c4,f4,rfl,O4,hb4⟩:=F4.ex;replace H:=H.call F4.ext;have hl4:=O4.llen;rw[qaj,qaj]at hl4;refine Aj qB (HZ a4 n4 c4 (ds.map Du.am) _ (O4.rd1 fun x hx=>(hb4 x hx).1) (by rw[qaj];omega)) U ?_;rintro v w ⟨rfl,rfl⟩;rw[<-htt];refine qGp 13 ?_ ?_
     .intro h5;refine qG 9 ?_;exact⟨_,rfl,fun _=>rfl,(fun h=>absurd h h5),H.ext⟩
     .intro h5;refine qG 4 ?_;refine Bd [.slice none 0 0,.int .u64 nx] qf qf<|Be [.slice none 0 0,.int .u64 nx] (.agg _) U U H ?_;rintro b77 w - H;refine qG 10 ?_;refine Ee (L:=[_]) (a:=none) (n:=0) (c:=0) (full:=[]) (l:=[]) qf qf qf qf qf U (ds.flatMap BK) U U H OS.nil (GO ds) (J3 ds) ((R.ext0 H.ext).app (fun _ _=>rfl)<|by omega) ?_;rintro a7 c7 full7 w H O;rw[show 0+ds.length=ds.length from qa0 _];refine qG 3 ?_;rintro w H;refine qG 10 ?_;have h5':tt.2=0:=by omega
      rw[qcm,qa0]at O;refine⟨_,by rw[h5'],(fun h=>absurd h5' h),(fun _=>⟨b77,a7,c7,full7,rfl,H.get at0,O,fun x hx=>?_,?_⟩),H.ext⟩
      .have hm:=qae (b77,Bl 132 [.slice a7 ds.length c7,.int .u64 nx]) hx;refine⟨H.blk x hm,(H.own x hm).elim (fun h=>by cases h) id,fun h=>?_⟩;exact(qbf.1 H.nd).1 x hx h.symm
      .exact(H.own (b77,_)<|qah ..).elim (fun h=>by cases h) id
def pC(d:Du)(x:Int):Int:=if x<0 then 1 else if d.held=true then 14 else if d.am<x then 12 else 0
def pD(d:Du)(x:Int):Du:=if pC d x=0 then{ d with am:=d.am - x }else d
theorem Adf(w:World)(h7:w.heap[b7]?=some (Bl 111 (BK d)))(hx:w.heap[bx]?=some (Bl 2 [.int .i64 x]))(ham:0<=d.am/\d.am<=4503599627370496)(hne:bx≠b7:=by omega):
  Ret prog 203 #[ptr b7,ptr bx] w fun v w'=>v=.int .i64 (pC d x)/\Ctx w [b7] w' [(b7,Bl 111 (BK<|pD d x))]:=by
 obtain⟨w0,rfl⟩:=qD w;have H:=Ctx.start1 h7;have hn:bx∉[b7]:=by rw[qab];exact hne
 refine iG func203 U ?_;refine qG 7 ?_;refine A9 qf U ((H.old (Ai hx _) hn)) ?_;refine qGp 4 ?_ ?_
 .intro h1;refine qG 8 ?_;have hp:pC d x=1:=if_pos h1;exact⟨by rw[hp],by unfold pD;rw[hp,if_neg<|by decide];exact H⟩
 .intro h1;refine qGc 8 ?_ ?_
  .intro h2;refine qG 8 ?_;have hp:pC d x=14:=by unfold pC;rw[if_neg<|by omega,if_pos h2]
   exact⟨by rw[hp],by unfold pD;rw[hp,if_neg<|by decide];exact H⟩
  .intro h2;refine CG (fun x=>x=_) AW U ?_;refine BD qf U (by rintro _ rfl;exact((H.old (Ai hx _) hn))) ?_;refine BE U<|Bc U<|Aq qf U<|B7 qf U (by rintro _ rfl;exact H.drew) at0 U ?_;refine QD U U U<|Ll U U<|Cc ?_;rintro _ rfl;replace H:=H.drew;refine iB U ?_ ?_
   .intro h3;refine qG 8 ?_;have hp:pC d x=12:=by unfold pC;rw[if_neg<|by omega,if_neg (by rw[h2];decide),if_pos h3]
    exact⟨by rw[hp],by unfold pD;rw[hp,if_neg<|by decide];exact H⟩
   .intro h3;refine A1<|Av<|Aa<|De 8 AW U U (BE U<|Bc U<|Aq qf U<|B7 qf U (by rintro _ rfl;exact H.drew) at0 U<|BD qf U (by rintro _ rfl;exact((H.old (Ai hx _) hn))) ?_);refine qG 4 ?_;replace H:=H.drew;refine qG 1 ?_;rintro w H;refine qG 8 ?_;have hp:pC d x=0:=by unfold pC;rw[if_neg<|by omega,if_neg (by rw[h2];decide),if_neg<|by omega]
    exact⟨by rw[hp],by unfold pD;rw[hp,if_pos rfl];exact H⟩
def Cn(ds:List Du)(k:Int):Option Du:=ds.find? fun d=>d.id == k
theorem G2(ds:List Du)(k:Int):DR (dm ds) k=(Cn ds k).map Fj:=by
 induction ds with
 |nil=>rfl
 |cons x ds ih =>
  unfold dm DR Cn at ih |-;rw[qas,qcd,qcd]
  cases h:x.id == k with
  |true=>rfl
  |false=>exact ih
def FN:List Du->Int->Int->List Du
 | [],_,_=>[]
 |d::ds,k,x=>if d.id=k then(if d.am=x then ds else{ d with am:=d.am - x }::ds)else d::FN ds k x
theorem Zo(h:Cn ds k=some d)(hx:d.am=x:=by omega):JR (dm ds) k=dm (FN ds k x):=by
 induction ds with
 |nil=>cases h
 |cons y ds ih =>
  unfold Cn at h;rw[qcd]at h
  by_cases e:y.id=k
  .rw[show(y.id == k)=true by simpa using e]at h
   injection h with h
   subst h;unfold FN;rw[if_pos e,if_pos hx];show(if y.id=k then dm ds else _)=_;rw[if_pos e]
  .rw[show(y.id == k)=false by simpa using e]at h;unfold FN;rw[if_neg e];show(if y.id=k then _ else(y.id,Fj y)::JR (dm ds) k)=_;rw[if_neg e,ih h];rfl
theorem Zp(h:Cn ds k=some d)(hx:¬d.am=x):Kp (dm ds) k (Fj { d with am:=d.am - x })=dm (FN ds k x):=by
 induction ds with
 |nil=>cases h
 |cons y ds ih =>
  unfold Cn at h;rw[qcd]at h
  by_cases e:y.id=k
  .rw[show(y.id == k)=true by simpa using e]at h
   injection h with h
   subst h;unfold FN;rw[if_pos e,if_neg hx];show(if y.id=k then(k,_)::dm ds else _)=_;rw[if_pos e,<-e];rfl
  .rw[show(y.id == k)=false by simpa using e]at h;unfold FN;rw[if_neg e];show(if y.id=k then _ else(y.id,Fj y)::Kp (dm ds) k _)=_;rw[if_neg e,ih h];rfl
def GP(ds:List Du)(k x:Int):Int:=match Cn ds k with
 |none=>11
 |some d=>pC d x
def IJ(ds:List Du)(k x:Int):List Du:=if GP ds k x=0 then FN ds k x else ds
def payF(bx:Nat):Value := .func (.func 203) #[] #[ptr bx]
theorem Ww(w:World)(hd:w.heap[bd]?=some (Bl 156 (DU b nx)))(hb:w.heap[b]?=some o)(hM:CQ .u64 (dm ds) o)(hbd:bd≠b)(hf:Cn ds k=none) :
  Ret prog 152 #[ptr bd,.int .u64 k,payF bx] w fun v w'=>v=.int .i64 (GP ds k x)/\∃o',CQ .u64 (dm<|IJ ds k x) o'/\Ctx w [b] w' [(b,o')]:=by
 obtain⟨w0,rfl⟩:=qD w;have H:=Ctx.start1 hb;have hc:GP ds k x=11:=by unfold GP;rw[hf]
 have hmg:DR (dm ds) k=none:=by rw[G2,hf];rfl
 unfold IJ;rw[hc,if_neg<|by decide];refine iG func152 U ?_;refine qGc 10 ?_ ?_
 .intro h0;cases h0
 .intro h0;refine qG 6 ?_;refine A9 qf U ((H.old (Ai hd _) (by rw[qab];exact hbd)))<|Ad U<|Ga U qf qf qf U U H at0 hM ?_;rw[hmg];rw[Option.getD_none,Option.isSome_none];refine qG 4 ?_;rintro b7 w - H;refine AM qf U U U (by exact Cx d00) H at0 U ?_;rintro w H;refine qGp 9 ?_ ?_
  .intro h1;refine qG 7 ?_;exact⟨rfl,o,hM,H.tail⟩
  .intro h1;cases h1
theorem GQ(h:Cn ds k=some d):d∈ds/\d.id=k:=by
 have h1:=List.mem_of_find?_eq_some h;have h2:=List.find?_some h;exact⟨h1,by simpa using h2⟩
theorem Zq(d:Du)(x:Int):pC d x=1\/pC d x=14\/pC d x=12\/(pC d x=0/\0<=x/\x<=d.am/\d.held=false):=by
 unfold pC
 split
 .exact .inl U
 .split
  .exact .inr (.inl U)
  .rename_i h2
   split
   .exact .inr (.inr<|.inl U)
   .exact .inr (.inr<|.inr ⟨rfl,by omega,by omega,by simpa using h2⟩)
theorem Wx(w:World)(hd:w.heap[bd]?=some (Bl 156 (DU b nx)))(hb:w.heap[b]?=some o)(hM:CQ .u64 (dm ds) o)(hbd:bd≠b)(hf:Cn ds k=some d)(hx:w.heap[bx]?=some (Bl 2 [.int .i64 x]))(hbx:bx≠b)(ham:0<=d.am/\d.am<=4503599627370496) :
  Ret prog 152 #[ptr bd,.int .u64 k,payF bx] w fun v w'=>v=.int .i64 (GP ds k x)/\∃o',CQ .u64 (dm<|IJ ds k x) o'/\Ctx w [b] w' [(b,o')]:=by
 obtain⟨w0,rfl⟩:=qD w;have H:=Ctx.start1 hb;have hxl:=AX hx;have hc:GP ds k x=pC d x:=by unfold GP;rw[hf]
 have hmg:DR (dm ds) k=some (Fj d):=by rw[G2,hf];rfl
 have hcs:=Zq d x;unfold IJ;rw[hc];obtain⟨code,hcode⟩:=qD<|pC d x;obtain⟨e,he⟩:=qD<|pD d x;have heam:code=0->e={ d with am:=d.am - x }:=fun h=>by rw[he];unfold pD;rw[if_pos<|by omega]
 rw[<-hcode]at hcs;rw[<-hcode];refine iG func152 U ?_;refine qGc 10 ?_ ?_
 .intro h0;cases h0
 .intro h0;refine qG 6 ?_;refine A9 qf U ((H.old (Ai hd _) (by rw[qab];exact hbd)))<|Ad U<|Ga U qf qf qf U U H at0 hM ?_;rw[hmg];rw[Option.getD_some,Option.isSome_some];refine qG 4 ?_;rintro b7 w - H;refine AM qf U U U (by exact Cx _) H at0 U ?_;rintro w H;refine qGp 9 ?_ ?_
  .intro h1;cases h1
  .intro h1;refine qG 4 ?_;have hb7:w0.heap.size<=b7:=(H.own _<|qah ..).elim (fun h=>by have h8:=H.ne at0 at1 (by decide);exact absurd (qab.1 h) h8) id;refine FA U qB (Adf (x:=x) (d:=d) _ (H.get at0) (H.ext.to hx (by rw[qab];exact hbx)) ham) U ?_;rintro v w ⟨rfl,H2⟩;replace H:=Ctx.back (L1:=[_]) (L2:=[_]) H H2;rw[<-hcode];rw[<-he]at H;refine qGp 11 ?_ ?_
   .intro h2;refine A1<|Av<|Aa<|Af<|Ad U<|Ag U<|qA<|Bf<|B6 (v:=(.int _ _)) U U U ?_;rw[if_neg h2];exact⟨rfl,o,hM,H.tail⟩
   .intro h2;have h2':code=0:=by omega
    have hee:=heam h2';have hea:e.am=d.am - x:=by rw[hee]
    rw[if_pos h2'];refine qGp 7 ?_ ?_
    .intro h3;refine qG 4 ?_;refine A9 qf U ((H.old (Ai hd _) (by rw[qab];exact hbd)))<|Ad U<|Lp U qf qf U U H at1 hM ?_;rintro o2 w hM2 H;refine Ab<|Av<|Aa<|Af<|Ad U<|Ag U<|qA<|Bf<|B6 (v:=(.int _ _)) U U U ?_;exact⟨rfl,o2,by rw[<-Zo hf];exact hM2,H.tail⟩
    .intro h3;refine DL 6 AW U U ?_;refine BE U<|Bc U<|Aq qf U<|BD qf U (by rintro _ rfl;exact((H.old (Ai hd _) (by rw[qab];exact hbd)))) ?_;refine AS U<|MF U qf qf U (by rintro _ rfl;exact H.drew) at0 U ?_;refine Cc ?_;replace H:=H.drew;refine Ik (Fj e) U qf qf U U U H at1 hM ?_;rintro o2 w hM2 H;refine Ab<|Av<|Aa<|Af<|Ad U<|Ag U<|qA<|Bf<|B6 (v:=(.int _ _)) U U U ?_;exact⟨rfl,o2,by rw[<-Zp hf (show ¬d.am=x by omega),<-hee];exact hM2,H.tail⟩
theorem Zr(w:World)(hd:w.heap[bd]?=some (Bl 156 (DU b nx)))(hb:w.heap[b]?=some o)(hM:CQ .u64 (dm ds) o)(hbd:bd≠b)(hx:w.heap[bx]?=some (Bl 2 [.int .i64 x]))(ham:∀d∈ds,0<=d.am/\d.am<=4503599627370496)(hbx:bx≠b:=by omega):
  Ret prog 152 #[ptr bd,.int .u64 k,payF bx] w fun v w'=>v=.int .i64 (GP ds k x)/\∃o',CQ .u64 (dm<|IJ ds k x) o'/\Ctx w [b] w' [(b,o')]:=by
 cases hf:Cn ds k with
 |none=>exact Ww w hd hb hM hbd hf
 |some d=>exact Wx w hd hb hM hbd hf hx hbx<|ham d (GQ hf).1
theorem Adg(w:World)(hd:w.heap[bd]?=some (Bl 156 (DU b nx)))(hb:w.heap[b]?=some o)(hM:CQ .u64 (dm ds) o)(hbd:bd≠b)(ham:∀d∈ds,0<=d.am/\d.am<=4503599627370496) :
  Ret prog 159 #[ptr bd,.int .u64 k,.int .i64 x] w fun v w'=>v=.int .i64 (GP ds k x)/\∃o',CQ .u64 (dm<|IJ ds k x) o'/\Ctx w [b] w' [(b,o')]:=by
 obtain⟨w0,rfl,H⟩:=qE w;have hbl:=AX hb;refine iG func159 U ?_;refine qG 2 ?_;rintro b5 w - H;refine qG 6 ?_;refine Ci [.pointer _] U ?_;have hb5:w0.heap.size<=b5:=(H.own _<|qah ..).elim (fun h=>by cases h) id;refine Aj qB (Zr (x:=x) _ (H.ext.to hd<|by simp) (H.ext.to hb<|by simp) hM hbd (H.get at0) ham) U ?_;rintro v w ⟨rfl,o',hM',H2⟩;refine qG 5 ?_;have H3:=H.ext.mono (S':=[b]) (by simp);exact⟨rfl,o',hM',⟨H3.trans H2.ext,H2.blk,H2.nd,fun y hy=>by rw[qab.1 hy];exact .inl<|qab.2 rfl⟩⟩
structure PlD(ds:List Du)(k:Int)(i:Nat)(d:Du):Prop where
 at':ds[i]?=some d
 id:d.id=k
 fst:∀(j:Nat) (e:Du),j<i->ds[j]?=some e->e.id≠k
theorem PlD.find(h:PlD ds k i d):Cn ds k=some d:=by
 induction ds generalizing i with
 |nil=>have:=h.at';cases this
 |cons y ds ih =>
  unfold Cn;rw[qcd]
  cases i with
  |zero =>
   have h1:=h.at'
   injection h1 with h1
   rw[h1,show(d.id == k)=true by simpa using h.id]
  |succ i =>
   have h1:=h.fst 0 y (Nat.succ_pos _) rfl;rw[show(y.id == k)=false by simpa using h1];exact ih ⟨h.at',h.id,fun j e hj he=>h.fst (j+1) e (qej hj) he⟩
theorem PlD.pay(h:PlD ds k i d):FN ds k x=if d.am=x then ds.eraseIdx i else ds.set i { d with am:=d.am - x }:=by
 induction ds generalizing i with
 |nil=>have:=h.at';cases this
 |cons y ds ih =>
  unfold FN
  cases i with
  |zero =>
   have h1:=h.at'
   injection h1 with h1
   rw[h1,if_pos h.id];rfl
  |succ i =>
   have h1:=h.fst 0 y (Nat.succ_pos _) rfl;rw[if_neg h1,ih ⟨h.at',h.id,fun j e hj he=>h.fst (j+1) e (qej hj) he⟩]
   split <;> rfl
theorem Wy(h:∀(j:Nat) (e:Du),j<ds.length->ds[j]?=some e->e.id≠k):Cn ds k=none:=by
 unfold Cn;rw[qek];intro e he;obtain⟨j,hj⟩:=qbi.1 he
 simpa using h j e (BH hj) hj
theorem KE(a:Option Addr)(n c:Nat)(ds:List Du)(nx k:Int)(w:World)(hd:w.heap[bd]?=some (Bl 132 [.slice a n c,.int .u64 nx]))(R:Rd w a 7 BK ds)(hn:ds.length=n)(hn2:n<=1000000) :
  Ret prog 173 #[ptr bd,.int .u64 k] w fun v w'=>w=w'/\((v=.int .i64 (-1)/\Cn ds k=none)\/∃(i:Nat) (d:Du),v=.int .i64 (i:Int)/\PlD ds k i d):=by
 subst hn;obtain⟨w0,rfl⟩:=qD w;refine iG func173 U ?_;refine qG 10 ?_;refine AY 67108848 (α:=Nat) (fun i=>[(5,.int .i64 (i:Int))]) (fun i w'=>i<=ds.length/\w0=w'/\∀(j:Nat) (e:Du),j<i->ds[j]?=some e->e.id≠k) (fun i=>ds.length - i) 0 U ?_ ?_ ?_
 .exact⟨rfl,trivial⟩
 .exact⟨qai _,rfl,fun j e h=>absurd h<|qay _⟩
 .rintro i j w ⟨hi,rfl,hb⟩;refine qG 6 ?_;refine A9 qf U ((by rw[Ai hd];rfl)) ?_;refine qGp 4 ?_ ?_
  .intro h1;obtain⟨d,hd2⟩:=Au (l:=ds) (i:=i);refine qG 8 ?_;refine A9 qf U ((by rw[Ai hd];rfl))<|Ad U<|A2 R qf qf U U (by rfl)<|Ae qf U<|A9 qf U ((R.fld hd2 U (j:=0) U)) ?_;refine qGp 4 ?_ ?_
   .intro h2;refine qG 12 ?_;exact⟨rfl,.inr ⟨i,d,rfl,hd2,h2,hb⟩⟩
   .intro h2;refine A1<|Av<|Aa<|Aw<|Ad U<|Ap U U ?_;refine Ag U<|qA ?_;refine⟨i+1,rfl,⟨rfl,trivial⟩,⟨by omega,rfl,fun j e hj he=>?_⟩,by omega⟩
    rcases qao j i with h7|h7
    .exact hb j e h7 he
    .obtain rfl:j=i:=by omega
     rw[hd2]at he;cases he;exact h2
  .intro h1;refine Bi<|Am<|Am<|A8<|Aa<|Af<|Ag U<|qA<|Bf<|B6 (v:=(.int _ _)) U U U ?_;exact⟨rfl,.inl ⟨rfl,Wy fun j e hj he=>hb j e (by omega) he⟩⟩
theorem OV(a:Option Addr)(n c i:Nat)(ds:List Du)(nx:Int)(w:World)(hd:w.heap[bd]?=some (Bl 132 [.slice a n c,.int .u64 nx]))(hR:∀w',Ext [bd] w w'->Rd w' a 7 BK ds)(hn:ds.length=n)(hc:ds.length<=c)(hi:i<n)(hn2:n<=1000000:=by omega):
  Ret prog 174 #[ptr bd,.int .i64 (i:Int)] w fun v w'=>v=.tuple #[]/\∃a' c' full,OS a' (ds.eraseIdx i).length c' 7 full ((ds.eraseIdx i).flatMap BK)/\Ctx w [bd] w' ((bd,Bl 132 [.slice a' (ds.eraseIdx i).length c',.int .u64 nx])::ent a' 111 full):=by
 subst hn;obtain⟨w0,rfl⟩:=qD w;have H:=Ctx.start1 hd;have hel:(ds.eraseIdx i).length=i+(ds.length - (i+1)):=by rw[List.length_eraseIdx];split <;> omega
 have hef:(ds.eraseIdx i).flatMap BK=(ds.take i).flatMap BK++(ds.drop<|i+1).flatMap BK:=by rw[List.eraseIdx_eq_take_drop_succ,qbn]
 refine iG func174 U ?_;refine qG 12 ?_;refine Ee (L:=[_]) (a:=none) (n:=0) (c:=0) (full:=[]) (l:=[]) qf qf qf qf qf U ((ds.take i).flatMap BK) U U H OS.nil (by rw[GO,qa8];omega) (J3 _) (((hR _ H.ext).take i).app (fun _ _=>rfl)<|by omega) ?_;rintro a1 c1 f1 w H O1;refine qG 12 ?_;rw[show(i:Int)+1=((i+1:Nat):Int)by omega];refine IX U qf qf U U<|Ee (L:=[_]) qf qf qf qf qf U ((ds.drop<|i+1).flatMap BK) U U H O1 (by rw[GO,qdj];rfl) (J3 _) (((hR _ H.ext).cut (i+1) c hc).app (fun _ _=>rfl)<|by omega) ?_;rintro a2 c2 f2 w H O2;refine qG 3 ?_;rintro w H;refine Ab<|Ii U U ?_;have hln:0+((i:Int)).toNat+(ds.length - ((i+1:Nat):Int).toNat)=(ds.eraseIdx i).length:=by rw[hel];omega
 rw[qcm,<-hef,hln]at O2;rw[hln]at H;exact⟨rfl,a2,c2,f2,O2,H⟩
theorem KF{x:α}:(l.set i x).eraseIdx i=l.eraseIdx i:=by
 induction l generalizing i with
 |nil=>rfl
 |cons y l ih =>
  cases i with
  |zero=>rfl
  |succ i=>simp[ih]
theorem Wz(a:Option Addr)(c:Nat)(full:List Value)(w:World)(hd:w.heap[bd]?=some (Bl 132 [.slice a ds.length c,.int .u64 nx]))(O:OS a ds.length c 7 full (ds.flatMap BK))(hb:∀y∈ent a 111 full,w.heap[y.1]?=some y.2/\y.1≠bd)(hn2:ds.length<=1000000)(ham:∀d∈ds,0<=d.am/\d.am<=4503599627370496) :
  Ret prog 169 #[ptr bd,.int .u64 k,.int .i64 x] w fun v w'=>v=.int .i64 (GP ds k x)/\∃a' c' full',w'.heap[bd]?=some (Bl 132 [.slice a' (IJ ds k x).length c',.int .u64 nx])/\OS a' (IJ ds k x).length c' 7 full' ((IJ ds k x).flatMap BK) /\
   (∀y∈ent a' 111 full',w'.heap[y.1]?=some y.2/\y.1≠bd/\(y.1∈(ent a 111 full).map (·.1)\/w.heap.size<=y.1))/\Ext (bd::(ent a 111 full).map (·.1)) w w':=by
 obtain⟨w0,rfl⟩:=qD w;have R:Rd w0 a 7 BK ds:=OS.rd O (fun x hx=>(hb x hx).1) (fun _ _=>rfl) (by omega);have hsame:∀{C:Int},GP ds k x=C->C≠0->IJ ds k x=ds:=fun h1 h2=>by unfold IJ;rw[h1,if_neg h2]
 have hsm:∀y∈ent a 111 full,w0.heap[y.1]?=some y.2/\y.1≠bd/\(y.1∈(ent a 111 full).map (·.1)\/w0.heap.size<=y.1):=fun y hy=>⟨(hb y hy).1,(hb y hy).2,.inl<|qa6 (f:=(·.1)) hy⟩;refine iG func169 U ?_;refine qG 7 ?_;refine Aj qB (KE a ds.length c ds nx k _ hd R U hn2) U ?_;rintro v w ⟨rfl,hpl⟩;obtain⟨pi,rfl,hpi⟩:∃pi:Int,v=.int .i64 pi/\((pi = -1/\Cn ds k=none)\/∃(i:Nat) (d:Du),pi=(i:Int)/\PlD ds k i d):=hpl.elim (fun h=>⟨-1,h.1,.inl ⟨rfl,h.2⟩⟩)<|fun⟨i,d,h1,h2⟩=>⟨i,h1,.inr ⟨i,d,rfl,h2⟩⟩;refine qGp 9 ?_ ?_
 .intro h1;refine qG 7 ?_
  rcases hpi with⟨-,hf⟩|⟨i,d,rfl,-⟩
  .have hC:GP ds k x=11:=by unfold GP;rw[hf]
   rw[hsame hC<|by decide,hC];exact⟨rfl,a,c,full,hd,O,hsm,Ext.refl _ _⟩
  .omega
 .intro h1;obtain⟨i,d,hpe,P⟩:∃(i:Nat) (d:Du),pi=(i:Int)/\PlD ds k i d:=hpi.elim (fun h=>by omega) id;subst hpe;have hil:=BH P.at';have hdm:=ham d<|qad P.at';have hC0:GP ds k x=pC d x:=by unfold GP;rw[P.find]
  have hcs:(pC d x=if x<0 then 1 else if d.held=true then 14 else if d.am<x then 12 else 0):=rfl;obtain⟨q,rfl⟩:=O.form (by omega);have hqb:w0.heap[q]?=some (Bl 111 full)/\q≠bd:=hb (q,Bl 111 full)<|qab.2 rfl
  have H:Ctx w0 (bd::[q]) w0 [(bd,Bl 132 [.slice (some ⟨q,0,none⟩) ds.length c,.int .u64 nx]),(q,Bl 111 full)]:=⟨Ext.refl _ _,fun y hy=>by
   simp only[qaf,qan,or_false]at hy
   rcases hy with rfl|rfl
   .exact hd
   .exact hqb.1,by simp only[qbf,qab,forall_eq,qan,false_implies,implies_true,List.Pairwise.nil,and_true];exact fun h=>hqb.2 h.symm,fun y hy=>by
   simp only[qaf,qan,or_false]at hy
   rcases hy with rfl|rfl
   .exact .inl (qah ..)
   .exact .inl (qae _<|qah ..)⟩
  have hOl:=O.len;have hOle:=O.le;refine qGp 8 ?_ ?_
  .intro h2;refine qG 7 ?_;have hC:GP ds k x=1:=by rw[hC0,hcs,if_pos h2]
   rw[hsame hC<|by decide,hC];exact⟨rfl,_,c,full,hd,O,hsm,Ext.refl _ _⟩
  .intro h2;refine qG 9 ?_;refine A2 R qf qf U U (by rfl)<|Ae qf U<|A9 qf U ((R.fld P.at' U (j:=6) U))<|qA<|A3 _ U ?_ ?_
   .intro h3;refine qG 7 ?_;have hC:GP ds k x=14:=by rw[hC0,hcs,if_neg<|by omega,if_pos h3]
    rw[hsame hC<|by decide,hC];exact⟨rfl,_,c,full,hd,O,hsm,Ext.refl _ _⟩
   .intro h3;refine qG 10 ?_;refine A2 R qf qf U U (by rfl)<|Ae qf U<|A9 qf U ((R.fld P.at' U (j:=3) U)) ?_;refine qGp 3 ?_ ?_
    .intro h4;refine qG 7 ?_;have hC:GP ds k x=12:=by rw[hC0,hcs,if_neg<|by omega,if_neg (by rw[h3];decide),if_pos h4]
     rw[hsame hC<|by decide,hC];exact⟨rfl,_,c,full,hd,O,hsm,Ext.refl _ _⟩
    .intro h4;have hC:GP ds k x=0:=by rw[hC0,hcs,if_neg<|by omega,if_neg (by rw[h3];decide),if_neg<|by omega]
     have hS:IJ ds k x=FN ds k x:=by unfold IJ;rw[hC,if_pos rfl]
     rw[hS,hC];obtain⟨e,he⟩:∃e:Du,e={ d with am:=d.am - x }:=⟨_,rfl⟩;have hea:e.am=d.am - x:=by rw[he]
     have O1:=OS.setf O (y:=e) (j:=3) (v := .int .i64 (d.am - x)) (fun _=>rfl) P.at' (by decide) (by rw[he];rfl);obtain⟨full2,hf2⟩:=qD<|full.set (i*7+3)<|.int .i64<|d.am - x;rw[<-hf2]at O1;have hat:(ds.set i e)[i]?=some e:=qc2 hil;have hR2:∀{z:World},z.heap[q]?=some (Bl 111 full2)->Rd z (some ⟨q,0,none⟩) 7 BK (ds.set i e):=fun h=>O1.rd (t:=111) (fun y hy=>by have hy:=qab.1 hy;rw[hy];exact h) (fun _ _=>rfl) (by decide);have hsl:(ds.set i e).length=ds.length:=qb8;refine qG 8 ?_;refine A2 R qf qf U U (by rfl)<|Ae qf U<|A9 qf U ((R.fld P.at' U (j:=3) U))<|Ad U<|Cf U U<|A2 R qf qf U U (by rfl)<|Ae qf U<|Ch (.int _ _) qf U U U H at1 (by show 0+((i:Int)).toNat*7+3<full.length;omega) ?_;rintro w H
     replace H:Ctx w0 (bd::[q]) w [(bd,Bl 132 [.slice (some ⟨q,0,none⟩) ds.length c,.int .u64 nx]),(q,Bl 111 full2)]:=by rw[hf2,show i*7+3=0+((i:Int)).toNat*7+3 by omega];exact H
     refine qG 9 ?_;refine A2 (hR2<|H.get at1) qf qf U U (by omega)<|Ae qf U<|A9 qf U (((hR2<|H.get at1).fld hat U (j:=3) (show(BK e)[3]?=some (.int .i64<|d.am - x)by rw[he];rfl))) ?_;refine qGp 3 ?_ ?_
     .intro h5;have hL:FN ds k x=ds.eraseIdx i:=by rw[P.pay,if_pos<|by omega]
      have hes:(ds.set i e).eraseIdx i=ds.eraseIdx i:=KF;rw[hL];have hd2:=H.get at0;have hq2:=H.get at1;rw[<-hsl]at hd2;refine Aw<|AV U<|Ad U<|Aj qB (OV (some ⟨q,0,none⟩) (ds.set i e).length c i (ds.set i e) nx _ hd2 (fun z hz=>hR2<|hz.to hq2 (by rw[qab];exact hqb.2)) U (by omega)<|by omega) U ?_;rintro v w ⟨rfl,a3,c3,f3,O3,H3⟩;rw[hes]at O3;rw[hes]at H3;have hx0:=H.ext;clear H;have H:=H3;refine qG 8 ?_;refine⟨rfl,a3,c3,f3,H3.get at0,O3,fun y hy=>?_,hx0.trans<|H3.ext.mono<|by simp⟩;have hm:=qae (bd,Bl 132 [.slice a3 (ds.eraseIdx i).length c3,.int .u64 nx]) hy;have hnb:y.1≠bd:=fun h=>(qbf.1 H3.nd).1 y hy h.symm;refine⟨H3.blk y hm,hnb,(H3.own y hm).elim (fun h=>absurd (qab.1 h) hnb) fun h => .inr (qa3 hx0.size h)⟩
     .intro h5;refine qG 8 ?_;have hL:FN ds k x=ds.set i e:=by rw[P.pay,if_neg<|by omega,he]
      rw[hL,hsl];refine⟨rfl,_,c,full2,H.get at0,O1,fun y hy=>?_,H.ext⟩;have hy:=qab.1 hy;rw[hy];exact⟨H.get at1,hqb.2,.inl<|qab.2 U⟩
theorem W0(a:Option Addr)(n c:Nat)(ds:List Du)(w:World)(R:Rd w a 7 BK ds)(hn:ds.length=n)(hm:n<=1000000000:=by omega):
  Ret prog 206 #[.slice a n c] w fun v w'=>Fresh w w' 111 7 v (ds.flatMap BK):=by
 subst hn;obtain⟨w0,rfl,H⟩:=qE w;refine iG func206 U ?_;refine qGc 10 ?_ ?_
 .intro h1;have ha:a=none:=by simpa using h1
  subst ha
  have hxs:ds=[]:=by
   cases ds with
   |nil=>rfl
   |cons x xs=>obtain⟨b,o,h⟩:=R.some' (by simp);cases h
  subst hxs;refine qG 7 ?_;exact Fresh.nil H _ _
 .intro h1;refine qG 4 ?_;rintro b5 w H O;refine AH U<|Ee qf qf qf qf qf U (ds.flatMap BK) U U H O (GO ds) (J3 ds) ((R.ext0 H.ext).app (fun _ _=>rfl)<|by omega) ?_;rintro a7 c7 full7 w H O;refine qG 5 ?_;exact H.fresh O
theorem RY(d:Du)(w:World):Ret prog 207 #[Fj d] w fun v w'=>v=.bool d.held/\Ext [] w w':=by
 obtain⟨w0,rfl,H⟩:=qE w;refine iG func207 U<|Af<|Be (BK d) (.agg _) U U H ?_;rintro b1 w - H;refine qG 11 ?_;exact⟨rfl,H.ext⟩
abbrev Ae9:Value := .func (.func 207) #[] #[]
structure FstH(ds:List Du)(i:Nat):Prop where
 at':∃d,ds[i]?=some d/\d.held=true
 fst:∀(j:Nat) (e:Du),j<i->ds[j]?=some e->e.held=false
theorem Adh(a:Option Addr)(n c:Nat)(ds:List Du)(w:World)(R:Rd w a 7 BK ds)(hn:ds.length=n)(hn2:n<=1000000) :
  Ret prog 236 #[.slice a n c,Ae9] w fun v w'=>Ext [] w w'/\((v=.int .i64 (-1)/\∀d∈ds,d.held=false)\/∃i:Nat,v=.int .i64 (i:Int)/\FstH ds i):=by
 subst hn;obtain⟨w0,rfl,H⟩:=qE w;refine iG func236 U ?_;refine qG 12 ?_;refine AY 524080 (α:=Nat) (fun i=>[(8,.int .i64 (i:Int))]) (fun i w'=>i<=ds.length/\Ctx w0 [] w' []/\∀(j:Nat) (e:Du),j<i->ds[j]?=some e->e.held=false) (fun i=>ds.length - i) 0 U ?_ ?_ ?_
 .exact⟨rfl,trivial⟩
 .exact⟨qai _,H,fun j e h=>absurd h<|qay _⟩
 .clear H;rintro i j w ⟨hi,H,hb⟩;refine qGp 5 ?_ ?_
  .intro h1;obtain⟨d,hd2⟩:=Au (l:=ds) (i:=i);refine qG 13 ?_;refine A2 R qf qf U U (by rfl)<|BC _ qf qf U U ((R.ext0 H.ext).row hd2 U)<|FA U qB (RY d _) U ?_;rintro v w ⟨rfl,hx16⟩;replace H:=H.call hx16;refine qGc 2 ?_ ?_
   .intro h2;refine qG 12 ?_;exact⟨H.ext,.inr ⟨i,rfl,⟨d,hd2,h2⟩,hb⟩⟩
   .intro h2;refine A1<|Av<|Aa<|Aw<|Ap U U ?_;refine Ad U<|qA ?_;refine⟨i+1,rfl,⟨rfl,trivial⟩,⟨by omega,H,fun j e hj he=>?_⟩,by omega⟩
    rcases qao j i with h7|h7
    .exact hb j e h7 he
    .obtain rfl:j=i:=by omega
     rw[hd2]at he;cases he;exact h2
  .intro h1;refine Bi<|Am<|Am<|A8<|Aa<|Af<|Ag U<|qA<|Bf<|B6 (v:=(.int _ _)) U U U ?_;refine⟨H.ext,.inl ⟨rfl,fun d hd=>?_⟩⟩;obtain⟨j,hj⟩:=qbi.1 hd;exact hb j d (by have:=BH hj;omega) hj
def opn(ds:List Du):List Du:=ds.filter fun d => !d.held
theorem OW:∀(vs l:List Value) (o k:Nat),k<=o->(over l o vs).take k=l.take k
 | [],_,_,_,_=>rfl
 |v::vs,l,o,k,h=>by
  show(over (l.set o v) (o+1) vs).take k=_;rw[OW vs (l.set o v) (o+1) k<|by omega];refine qca fun j=>?_;rw[qbt,qbt]
  split
  .rw[qbx<|by omega]
  .rfl
theorem OS.shrink{enc:α->List Value}{o:Nat}(O:OS a n c s full<|L.flatMap enc)(hs:∀x∈L,(enc x).length=s)(hi:i<=n)(hL:L.length=n)(ho:vs=[]\/i*s<=o):OS a i c s (Go.GV.over full o vs)<|(L.take i).flatMap enc:=by
 refine⟨O.zero,O.none',by rw[D6];exact O.len,qa3 hi O.le,?_⟩
 have h1:(Go.GV.over full o vs).take (i*s)=full.take (i*s):=by
  rcases ho with rfl|ho
  .rfl
  .exact OW _ _ _ _ ho
 rw[h1]
 have h2:full.take (i*s)=(full.take<|n*s).take (i*s):=by
  rw[List.take_take,qch<|qcs _ hi]
 rw[h2,O.pre];have h3:L.flatMap enc=(L.take i).flatMap enc++(L.drop i).flatMap enc:=by rw[<-qbn,qbp]
 have h4:((L.take i).flatMap enc).length=i*s:=by
  rw[E5 fun z hz=>hs z<|qdl hz,qa8,qch<|by omega]
 rw[h3];exact qc1 h4
theorem KG(ds:List Du)(d:Du):opn (ds++[d])=opn ds++if d.held=true then[]else[d]:=by
 unfold opn;rw[qcj];cases h:d.held <;> simp[h]
theorem Vd(h:∀d∈ds,d.held=false):opn ds=ds:=by
 unfold opn;rw[qd6];intro d hd;rw[h d hd];rfl
structure DSt where
 i:Nat
 j:Nat
 L:List Du
 full:List Value
theorem Ai7(a:Option Addr)(c:Nat)(full:List Value)(ds:List Du)(w:World)(O:OS a ds.length c 7 full (ds.flatMap BK))(hb:∀y∈ent a 111 full,w.heap[y.1]?=some y.2)(hn2:ds.length<=1000000) :
  Ret prog 205 #[.slice a ds.length c,Ae9] w fun v w'=>∃full',v=.slice a (opn ds).length c/\OS a (opn ds).length c 7 full' ((opn ds).flatMap BK)/\Ctx w ((ent a 111 full).map (·.1)) w' (ent a 111 full'):=by
 obtain⟨w0,rfl⟩:=qD w;have R:Rd w0 a 7 BK ds:=OS.rd O hb (fun _ _=>rfl) (by omega);have H:Ctx w0 ((ent a 111 full).map (·.1)) w0<|ent a 111 full:=⟨Ext.refl _ _,hb,DX,fun x hx => .inl (qa6 (f:=(·.1)) hx)⟩;refine iG func205 U ?_;refine qG 7 ?_;refine Aj qB (Adh a ds.length c ds _ R U hn2) U ?_;rintro v w ⟨hx10,hidx⟩;replace H:=H.call hx10;obtain⟨pi,rfl,hpi⟩:∃pi:Int,v=.int .i64 pi/\((pi = -1/\∀d∈ds,d.held=false)\/∃i:Nat,pi=(i:Int)/\FstH ds i):=hidx.elim (fun h=>⟨-1,h.1,.inl ⟨rfl,h.2⟩⟩)<|fun⟨i,h1,h2⟩=>⟨i,h1,.inr ⟨i,rfl,h2⟩⟩;refine qGp 9 ?_ ?_
 .intro h1;refine qG 8 ?_;have hal:∀d∈ds,d.held=false:=hpi.elim (fun h=>h.2) fun⟨i,h,_⟩=>by omega
  rw[Vd hal];exact⟨full,rfl,O,H⟩
 .intro h1;obtain⟨i,hpe,P⟩:∃i:Nat,pi=(i:Int)/\FstH ds i:=hpi.elim (fun h=>absurd h.1 h1) id;subst hpe;obtain⟨d0,hd0,hh0⟩:=P.at';have hil:=BH hd0;obtain⟨q,rfl⟩:=O.form (by omega);replace H:Ctx w0 [q] w [(q,Bl 111 full)]:=H
  have hop0:opn (ds.take i)=ds.take i:=Vd fun d hd=>by
   obtain⟨j,hj⟩:=qbi.1 hd;rw[qbt]at hj
   split at hj
   .exact P.fst j d (by assumption) hj
   .cases hj
  have hst0:opn (ds.take<|i+1)=ds.take i:=by
   rw[qbr,hd0];show opn (ds.take i++[d0])=_;rw[KG,if_pos hh0,hop0,qar]
  refine qG 10 ?_;refine AY 68719411424 (α:=DSt) (fun t=>[(5,.int .i64 (t.i:Int)),(6,.int .i64 (t.j:Int))]) (fun t w'=>t.i<t.j/\t.j<=ds.length/\t.L.length=ds.length/\t.L.take t.i=opn (ds.take t.j)/\(∀p,t.j<=p->t.L[p]?=ds[p]?)/\OS (some ⟨q,0,none⟩) ds.length c 7 t.full (t.L.flatMap BK)/\Ctx w0 [q] w' [(q,Bl 111 t.full)]) (fun t=>ds.length - t.j) ⟨i,i+1,ds,full⟩ U ?_ ?_ ?_
  .exact⟨rfl,rfl,trivial⟩
  .exact⟨Nat.lt_succ_self _,by dsimp only;omega,rfl,hst0.symm,fun p _=>rfl,O,H⟩
  .clear H;rintro⟨i,j,L,fu⟩ jj w ⟨hij,hj,hL,hT,hS,O1,H⟩;dsimp only at hij hj hL hT hS O1 H;dsimp only;have hOl:=O1.len;have hOle:=O1.le;refine qGp 8 ?_ ?_
   .intro h2;obtain⟨d,hdj⟩:=Au (l:=ds) (i:=j);have hLd:L[j]?=some d:=by rw[hS j<|qaq _,hdj]
    have R1:Rd w (some ⟨q,0,none⟩) 7 BK L:=O1.rd (t:=111) (fun y hy=>by have hy:=qab.1 hy;rw[hy];exact H.get at0) (fun _ _=>rfl) (by decide);have htk:ds.take (j+1)=ds.take j++[d]:=by rw[qbr,hdj];rfl
    refine qG 7 ?_;refine A2 R1 qf qf U U (by omega)<|BC _ qf qf U U (R1.row hLd U)<|AN qf H ?_;rintro b7 w - H;refine AM qf U U U (by exact Cx _) H at0 U ?_;rintro w H;refine qG 5 ?_;refine FA U qB (RY d _) U ?_;rintro v w ⟨rfl,hx28⟩;replace H:=H.call hx28;refine qGp 3 ?_ ?_
    .intro h3;have h3':¬d.held=true:=by simpa using h3
     obtain⟨y,hy⟩:=Au (l:=L) (i:=i);have O2:=OS.over O1 (fun _=>rfl) hy d;refine qG 4 ?_;refine A2 R1 qf qf U U (by omega)<|FU (vs:=BK d) U qf U U U (Cx d) H at1 (by show 0+(i:Int).toNat*7+7<=_;omega) ?_;rintro w H;replace H:Ctx w0 [q] w [(b7,Bl 111 (BK d)),(q,Bl 111 (over fu (i*7)<|BK d))]:=by rw[show i*7=0+((i:Int)).toNat*7 by omega];exact H
     refine qA<|Aw<|Ad U<|Ap U U ?_;refine Ag U<|Ab<|Av<|Aa<|Aw<|Ad U<|Ap U U ?_;refine Ag U<|qA ?_;refine⟨⟨i+1,j+1,L.set i d,over fu (i*7)<|BK d⟩,rfl,⟨rfl,rfl,trivial⟩,⟨by dsimp only;omega,by dsimp only;omega,by dsimp only;rw[qb8];exact hL,?_,fun p hp=>?_,O2,?_⟩,by dsimp only;omega⟩
     .dsimp only;rw[htk,KG,if_neg h3',<-hT,qbr,qc2<|by omega]
      congr 1
      refine qca fun z=>?_;rw[qbt,qbt]
      split
      .rw[qbx<|by omega]
      .rfl
     .dsimp only at hp |-;rw[qbx<|by omega];exact hS p<|by omega
     .exact H.tail
    .intro h3;have h3':d.held=true:=by simpa using h3
     refine A1<|Av<|Aa<|Aw<|Ad U<|Ap U U ?_;refine Ag U<|qA ?_;refine⟨⟨i,j+1,L,fu⟩,rfl,⟨rfl,rfl,trivial⟩,⟨by dsimp only;omega,by dsimp only;omega,hL,?_,fun p hp=>hS p (by dsimp only at hp;omega),O1,H.tail⟩,by dsimp only;omega⟩;dsimp only;rw[htk,KG,if_pos h3',qar];exact hT
   .intro h2;obtain rfl:j=ds.length:=by omega
    rw[qba]at hT;have hlen:(opn ds).length=i:=by rw[<-hT,qa8];omega
    obtain⟨o',ho',ho2⟩:∃o',Md (some ⟨q,0,none⟩) c i 7=some ⟨q,o',none⟩/\((c=i/\o'=0)\/o'=i*7):=by
     unfold Md
     by_cases h:c=i
     .rw[if_pos h];exact⟨0,rfl,.inl ⟨h,rfl⟩⟩
     .rw[if_neg h];exact⟨0+i*7,(by show some (Addr.add _ _)=_;rw[add_none]),.inr<|qa0 _⟩
    refine Bi<|Am<|Am<|A8<|Aa<|Af<|AH U<|Ad U<|IX U qf qf U U ?_;refine Og (b:=q) (o:=o') (n:=ds.length - i) (c:=c - i) (s:=7) U qf qf U (by simp[AF]) (show Value.slice (Md (some ⟨q,0,none⟩) c i 7) (ds.length - i) (c - i)=_ by rw[ho']) H at0 (by omega) ?_;rintro w H;refine qG 11 ?_;have O3:=OS.shrink (i:=i) (o:=o') (vs:=(List.replicate (ds.length - i) [Value.int .u64 0,.int .i64 0,.int .i64 0,.int .i64 0,.int .i64 0,.int .i64 0,.bool false]).flatten) O1 (fun _ _=>rfl) (by omega) hL<|ho2.elim (fun h=>by omega) fun h => .inr (by omega);rw[hT]at O3;rw[hlen];exact⟨_,rfl,O3,H⟩
theorem Ve(a:Option Addr)(n c:Nat)(ds:List Du)(w:World)(R:Rd w a 7 BK ds)(hn:ds.length=n)(hm:n<=1000000) :
  Ret prog 162 #[.slice a n c] w fun v w'=>Fresh w w' 111 7 v ((opn ds).flatMap BK):=by
 subst hn;obtain⟨w0,rfl⟩:=qD w;refine iG func162 U ?_;refine qG 6 ?_;refine Aj qB (W0 a ds.length c ds _ R U) U ?_;rintro v w F;obtain⟨a4,n4,c4,f4,rfl,O4,hb4⟩:=F.ex;have hl4:=O4.llen;rw[GO]at hl4;obtain rfl:ds.length=n4:=by omega
 refine Aj qB (Ai7 a4 c4 f4 ds _ O4 (fun y hy=>(hb4 y hy).1) hm) U ?_;rintro v w ⟨f5,rfl,O5,H5⟩;refine qG 5 ?_;refine⟨⟨_,_,_,f5,rfl,O5,fun x hx=>⟨H5.blk x hx,?_⟩⟩,F.ext.then H5.ext fun x hx=>?_⟩
 .rcases H5.own x hx with h|h
  .obtain⟨y,hy,hyx⟩:=qak.1 h;rw[<-hyx];exact(hb4 y hy).2
  .exact qa3 F.ext.size h
 .obtain⟨y,hy,rfl⟩:=qak.1 hx;exact .inr (hb4 y hy).2
def El:Nat->List Du->List Du
 |_,[]=>[]
 |i,d::ds=>{ d with id:=(i:Int)+1 }::El (i+1) ds
theorem OX(i:Nat)(ds:List Du):(El i ds).length=ds.length:=by
 induction ds generalizing i with
 |nil=>rfl
 |cons d ds ih=>show(El (i+1) ds).length+1=ds.length+1;rw[ih]
theorem Qb(i:Nat)(ds es:List Du):El i (ds++es)=El i ds++El (i+ds.length) es:=by
 induction ds generalizing i with
 |nil=>rfl
 |cons d ds ih =>
  show _::El (i+1) (ds++es)=_::(El (i+1) ds++El (i+(ds.length+1)) es);rw[ih,show i+1+ds.length=i+(ds.length+1)by omega]
theorem TS(h:ds[i]?=some d):El 0 (ds.take<|i+1)=El 0 (ds.take i)++[{ d with id:=(i:Int)+1 }]:=by
 have hl:=BH h;rw[qbr,h];show El 0 (ds.take i++[d])=_;rw[Qb,qa8,qch<|by omega,qa0];rfl
theorem Zu:∀(i:Nat) (d:Du),d∈El i ds->(i:Int)<d.id/\d.id<=i+ds.length:=by
 induction ds with
 |nil=>intro i d h;cases h
 |cons x ds ih =>
  intro i d h
  rcases qaf.1 h with rfl|h
  .dsimp only[List.length_cons];omega
  .have:=ih (i+1) d h;rw[qbd];omega
theorem W1:∀(i:Nat),ED ((i:Int)+ds.length+1) i (El i ds)=ds.all CZ:=by
 induction ds with
 |nil=>intro i;rfl
 |cons d ds ih =>
  intro i;have h:=ih<|i+1;show((CZ d && (decide ((i:Int)<(i:Int)+1) && decide ((i:Int)+1<_))) && ED _ ((i:Int)+1) (El (i+1) ds))=(CZ d && ds.all CZ);rw[<-h,qam<|show(i:Int)<(i:Int)+1 by omega,qam (show(i:Int)+1<(i:Int)+((d::ds).length:Nat)+1 by rw[qbd];omega),show((i:Int)+((d::ds).length:Nat)+1)=(((i+1:Nat):Int)+ds.length+1)by rw[qbd];omega];simp
def CY(rs:List Int)(ds:List Du):Bool :=
 decide (rs.length<=16) && (!decide ((Dp rs).2=1) && (ds.all (fun d=>decide (max d.fr d.to<rs.length)) && decide (ofC (El 0 ds) (ds.length+1)=0)))
theorem W3(hd:ds[i]?=some d)(h:¬max d.fr d.to<rs.length):CY rs ds=false:=by
 unfold CY
 have:ds.all (fun d=>decide (max d.fr d.to<rs.length))=false:=by
  rw[List.all_eq_false];exact⟨d,qad hd,by simpa using h⟩
 rw[this];simp
theorem W4(a b:Option Addr)(n c m e:Nat)(rs:List Int)(ds:List Du)(w:World)(R:Rd w a 1 I1 rs)(hn:rs.length=n)(hn2:n<=1000000)(Rd':Rd w b 7 BK ds)(hm:ds.length=m)(hm2:m<=1000000) :
  Ret prog 196 #[.slice a n c,.slice b m e] w fun v w'=>v=.bool (CY rs ds)/\Ext [] w w':=by
 subst hn hm;obtain⟨w0,rfl,H⟩:=qE w;obtain⟨tt,htt⟩:=qD<|Dp rs;refine iG func196 U ?_;refine qGp 11 ?_ ?_
 .intro h1;refine qG 7 ?_;exact⟨qaa Value.bool (by unfold CY;rw[qa1<|show ¬rs.length<=16 by omega];rfl),H.ext⟩
 .intro h1;have h1':decide (rs.length<=16)=true:=qam (by omega);refine qG 5 ?_;refine Aj qB (J0 a rs.length c rs _ R U (hn2:=hn2)) U ?_;rintro v w ⟨rfl,rfl⟩;rw[<-htt];refine qGp 12 ?_ ?_
  .intro h2;refine qG 7 ?_;exact⟨qaa Value.bool (by unfold CY;rw[<-htt,h2,h1'];rfl),H.ext⟩
  .intro h2;refine qG 14 ?_;refine AY 70368727401360 (α:=LSt) (fun t=>[(7,.slice t.a t.i t.c),(24,.int .i64 (t.i:Int))]) (fun t w'=>t.i<=ds.length/\OS t.a t.i t.c 7 t.full ((El 0 (ds.take t.i)).flatMap BK)/\Ctx w0 [] w' (ent t.a 111 t.full)/\∀(j:Nat) (d:Du),j<t.i->ds[j]?=some d->max d.fr d.to<rs.length) (fun t=>ds.length - t.i) ⟨0,none,0,[]⟩ U ?_ ?_ ?_
   .exact⟨rfl,rfl,trivial⟩
   .exact⟨qai _,OS.nil,H,fun j d h=>absurd h<|qay _⟩
   .clear H;rintro⟨i,a2,c2,full⟩ jj w ⟨hi,O,H,hb⟩;dsimp only at hi O H hb;dsimp only;refine qGp 5 ?_ ?_
    .intro h3;obtain⟨d,hd⟩:=Au (l:=ds) (i:=i);obtain⟨d',hd'⟩:∃d':Du,d'={ d with id:=(i:Int)+1 }:=⟨_,rfl⟩;refine qG 6 ?_;refine A2 Rd' qf qf U U (by rfl)<|BC _ qf qf U U ((Rd'.ext0 H.ext).row hd U)<|AN qf H ?_;rintro b9 w - H;refine Ag U<|AM qf U U U (by exact Cx _) H at0 U ?_;rintro w H;refine qGp 14 ?_ ?_
     .intro h4;refine qG 12 ?_;exact⟨qaa Value.bool (W3 hd<|show ¬max d.fr d.to<rs.length by omega).symm,H.ext⟩
     .intro h4;refine qG 8 ?_;rintro w H;refine qA ?_;replace H:Ctx w0 [] w ((b9,Bl 111 (BK d'))::ent a2 111 full):=by rw[hd'];exact H
      refine qG 4 ?_;rintro b43 w - H;refine BL (L:=[_]) qf qf qf qf qf U U U H O U (by simp[AF]) ?_;rintro a' c' full' w H O;refine AP U<|Ab<|Av<|Aa<|Aw<|Ap U U ?_;refine Ad U<|qA ?_;refine⟨⟨i+1,a',c',full'⟩,rfl,⟨rfl,rfl,trivial⟩,⟨by dsimp only;omega,?_,H.tail,fun j x hj hx=>?_⟩,by dsimp only;omega⟩
      .dsimp only;rw[TS hd,<-hd',qbn];exact O
      .rcases qao j i with h7|h7
       .exact hb j x h7 hx
       .obtain rfl:j=i:=by dsimp only at hj;omega
        rw[hd]at hx;cases hx;omega
    .intro h3;obtain rfl:i=ds.length:=by omega
     rw[qba]at O
     have hal:ds.all (fun d=>decide (max d.fr d.to<rs.length))=true:=by
      rw[qaw];intro d hd;obtain⟨j,hj⟩:=qbi.1 hd;exact qam<|hb j d (BH hj) hj
     have RO:Rd w a2 7 BK (El 0 ds):=OS.rd O (fun y hy=>H.blk y hy) (fun _ _=>rfl)<|by omega
     have hbr:CY rs ds=decide (ofC (El 0 ds) (ds.length+1)=0):=by
      unfold CY;rw[h1',hal,<-htt,qa1 h2];rfl
     obtain⟨cd,hcd⟩:=qD<|ofC (El 0 ds)<|ds.length+1;rw[hbr,<-hcd];refine Bi<|Am<|Am<|A8<|Aa<|Af<|AH U<|AH U<|Cp qf U<|FZ U U qf qf ?_;refine Et U U<|Aj qB (Ze a2 ds.length c2 (El 0 ds) (ds.length+1) _ RO (OX 0 ds) (by omega) (fun d hd=>by have:=Zu 0 d hd;omega)) U ?_;rintro v w ⟨p,rfl,hp1,hp2,hx52⟩;obtain⟨pp,rfl⟩:∃pp,p=.pointer pp:=by by_cases hz:ofC (El 0 ds) (ds.length+1)=0;(obtain⟨bd,_,_,e1,_⟩:=hp2 hz;exact⟨_,e1⟩);exact⟨none,hp1 hz⟩
     replace H:=H.call hx52;rw[<-hcd];refine qG 15 ?_;exact⟨rfl,H.ext⟩
def Jh(d:Du):Ed:=⟨d.fr,d.to,d.am,-d.we⟩
def Ji(rs:List Int):List Ed:=(List.range (2*rs.length)).map fun j=>if j % 2=0 then⟨rs.length,(j / 2:Nat),rs.getD (j / 2) 0,0⟩else⟨(j / 2:Nat),rs.length,4503599627370496,0⟩
def Cm(rs:List Int)(ds:List Du)(net:Bool):List Ed:=ds.map Jh++if net=true then[]else Ji rs
theorem KH(h:rs[i]?=some x):(Ji rs)[2*i]?=some ⟨rs.length,i,x,0⟩:=by
 have hl:=BH h;unfold Ji;rw[Ds<|by omega,if_pos<|by omega,show 2*i / 2=i by omega,Bp h]
theorem Mq(h:i<rs.length):(Ji rs)[2*i+1]?=some ⟨i,rs.length,4503599627370496,0⟩:=by
 unfold Ji;rw[Ds<|by omega,if_neg<|by omega,show(2*i+1) / 2=i by omega]
theorem Mr(rs:List Int):(Ji rs).length=2*rs.length:=by unfold Ji;simp
def edV(e:Ed):List Value:=[.agg (Co e).toArray]
structure RndK(b1 b2 b3:Nat)(a b:Option Addr)(n c m e:Nat)(rs:List Int)(ds:List Du)(net:Bool)(w:World):Prop where
 h1:w.heap[b1]?=some (Bl 23 [.slice b m e])
 h2:w.heap[b2]?=some (Bl 4 [.bool net])
 h3:w.heap[b3]?=some (Bl 41 [.slice a n c])
 R:Rd w a 1 I1 rs
 Rd':Rd w b 7 BK ds
theorem TT{b:Option Addr}{e:Nat}(hn:rs.length=n)(hm:ds.length=m)(hn2:n<=1000000)(hw:∀d∈ds,-1000000000<=d.we/\d.we<=1000000000)(hm2:m<=1000000:=by omega):
  P8 prog 228 #[ptr b1,ptr b2,ptr b3] [] (fun _ w=>RndK b1 b2 b3 a b n c m e rs ds net w) ((Cm rs ds net).map edV):=by
 subst hn hm;intro l w J E hJ0 hJs hEs hK hY;obtain⟨M0,hJ0⟩:=hJ0;obtain⟨w0,rfl⟩:=qD w
 have hat1:∀(i:Nat) (d:Du),ds[i]?=some d->((Cm rs ds net).map edV)[i]?=some (edV<|Jh d):=fun i d hd=>by
  unfold Cm;have hl:=BH hd;rw[qa9,qcw (by rw[qaj];exact hl),qa9,hd];rfl
 have hat2:net=false->∀(j:Nat) (x:Ed),(Ji rs)[j]?=some x->((Cm rs ds net).map edV)[ds.length+j]?=some (edV x):=fun h0 j x hx=>by
  unfold Cm;rw[h0,qa9,qcp (by rw[qaj];omega),qaj,show ds.length+j - ds.length=j by omega];show((Ji rs)[j]?).map edV=_;rw[hx];rfl
 have hlen:((Cm rs ds net).map edV).length=ds.length+if net=true then 0 else 2*rs.length:=by
  unfold Cm;rw[qaj,qat,qaj]
  split
  .rfl
  .rw[Mr]
 refine iG func228 U ?_;have K0:=(hK _ _ _ hJ0).2;have H:=Ctx.start w0 [];refine AB<|Af<|A9 qf U ((by rw[Ai K0.h1];rfl)) ?_;refine qG 5 ?_;refine AY 1073737792 (α:=Nat) (fun i=>[(12,.int .i64 (i:Int))]) (fun i w'=>i<=ds.length/\∃M,J i M w') (fun i=>ds.length - i) 0 U ?_ ?_ ?_
 .exact⟨rfl,trivial⟩
 .exact⟨qai _,M0,hJ0⟩
 .clear H;rintro i j w ⟨hi,M,hJ⟩;have KK:=(hK _ _ _ hJ).2;have R:=KK.Rd';obtain⟨w1,rfl,H⟩:=qE w;refine qGp 5 ?_ ?_
  .intro h1;obtain⟨d,hd⟩:=Au (l:=ds) (i:=i);have hwd:=hw d<|qad hd;refine qG 5 ?_;refine A2 R qf qf U U (by rfl)<|BC _ qf qf U U ((R.ext0 H.ext).row hd U)<|AN qf H ?_;rintro b6 w - H;refine AM qf U U U (by exact Cx _) H at0 U ?_;rintro w H;refine qG 13 ?_;refine Bd (Co<|Jh d) qf qf ?_;have hY1:=hY i (edV<|Jh d) M _ (hat1 i d hd)<|hJs _ _ _ _ hJ H.ext;refine Gb (vs:=edV<|Jh d) U hY1 U ?_;rintro u w hu;obtain⟨bb,rfl,hu1,hu0⟩:∃bb,u=.bool bb/\(bb=true->∃M,J (i+1) M w)/\(bb=false->E w):=hu.elim (fun h=>⟨true,h.1,fun _=>let ⟨M',h1,_⟩:=h.2;⟨M',h1⟩,fun h=>by cases h⟩) fun h=>⟨false,h.1,(fun h=>by cases h),fun _=>h.2⟩;refine qGp 3 ?_ ?_
   .intro h2;refine qG 7 ?_;exact .inr<|hu0<|by simpa using h2
   .intro h2;refine A1<|Av<|Aa<|Aw<|Ap U U ?_;refine Ad U<|qA ?_;exact⟨i+1,rfl,⟨rfl,trivial⟩,⟨by omega,hu1<|by simpa using h2⟩,by omega⟩
  .intro h1;obtain rfl:i=ds.length:=by omega
   refine Bi<|Am<|Am<|A8<|Aa<|AB<|Af<|A9 qf U ((H.old0 (by rw[Ai KK.h2];rfl))) ?_;refine qA<|A3 _ U ?_ ?_
   .intro h2;refine qG 3 ?_;exact .inl ⟨M,by rw[hlen,if_pos h2];exact hJ⟩
   .intro h2;refine A1<|Aa<|Af<|A9 qf U ((H.old0 (by rw[Ai KK.h3];rfl))) ?_;refine qG 5 ?_;refine A9 qf U ((H.old0 (by rw[Ai KK.h3];rfl))) ?_;refine qG 5 ?_;refine AY 72057559678190336 (α:=Nat) (fun i=>[(35,.int .i64 (i:Int))]) (fun i w'=>i<=rs.length/\∃M,J (ds.length+2*i) M w') (fun i=>rs.length - i) 0 U ?_ ?_ ?_
    .exact⟨rfl,trivial⟩
    .exact⟨qai _,M,hJ⟩
    .clear H;rintro i j2 w ⟨hi,M,hJ⟩;have KK:=(hK _ _ _ hJ).2;have R:=KK.R;obtain⟨w1,rfl,H⟩:=qE w;refine qGp 5 ?_ ?_
     .intro h3;obtain⟨x,hx⟩:=Au (l:=rs) (i:=i);refine qG 6 ?_;refine A2 R qf qf U U (by rfl)<|A9 qf U (((R.ext0 H.ext).fld hx U (j:=0) U)) ?_;refine qG 9 ?_;refine Bd (Co ⟨rs.length,i,x,0⟩) qf qf ?_;have hY1:=hY _ (edV ⟨rs.length,i,x,0⟩) M _ (hat2 h2 _ _<|KH hx)<|hJs _ _ _ _ hJ H.ext;refine Gb (vs:=edV ⟨rs.length,i,x,0⟩) U hY1 U ?_;rintro u w hu;clear H;obtain⟨bb,rfl,hu1,hu0⟩:∃bb,u=.bool bb/\(bb=true->∃M,J (ds.length+2*i+1) M w)/\(bb=false->E w):=hu.elim (fun h=>⟨true,h.1,fun _=>let ⟨M',h1,_⟩:=h.2;⟨M',h1⟩,fun h=>by cases h⟩) fun h=>⟨false,h.1,(fun h=>by cases h),fun _=>h.2⟩;refine qG 2 ?_;refine iC 47 U ?_ ?_
      .intro h4;refine qG 16 ?_;exact .inr<|hu0<|by simpa using h4
      .intro h4;refine qG 3 ?_;refine Bd (Co ⟨i,rs.length,4503599627370496,0⟩) qf qf ?_;obtain⟨M2,hJ2⟩:∃M,J (ds.length+2*i+1) M w:=hu1 (by simp_all);have hY2:=hY _ (edV ⟨i,rs.length,4503599627370496,0⟩) M2 _ (hat2 h2 _ _<|Mq<|by omega) hJ2;refine Gb (vs:=edV ⟨i,rs.length,4503599627370496,0⟩) U hY2 U ?_;rintro u w hu;obtain⟨bb,rfl,hv1,hv0⟩:∃bb,u=.bool bb/\(bb=true->∃M,J (ds.length+2*i+1+1) M w)/\(bb=false->E w):=hu.elim (fun h=>⟨true,h.1,fun _=>let ⟨M',h1,_⟩:=h.2;⟨M',h1⟩,fun h=>by cases h⟩) fun h=>⟨false,h.1,(fun h=>by cases h),fun _=>h.2⟩;refine qGp 4 ?_ ?_
       .intro h5;refine qG 6 ?_;exact .inr<|hv0<|by simpa using h5
       .intro h5;refine A1<|Av<|Aa<|Aw<|Ap U U ?_;refine Ad U<|qA ?_;exact⟨i+1,rfl,⟨rfl,trivial⟩,⟨by omega,by rw[show ds.length+2*(i+1)=ds.length+2*i+1+1 by omega];exact hv1<|by simpa using h5⟩,by omega⟩
     .intro h3;refine qG 5 ?_;obtain rfl:i=rs.length:=by omega
      exact .inl ⟨M,by rw[hlen,if_neg (by rw[h2];decide)];exact hJ⟩
abbrev U1(x:Int):List Value:=[F2 x]
instance:DecidableEq Ed:=fun x y=>if h:x.f=y.f/\x.t=y.t/\x.cap=y.cap/\x.cost=y.cost then isTrue (by cases x;cases y;simp_all)else isFalse fun e=>h (by subst e;exact⟨rfl,rfl,rfl,rfl⟩)
theorem RZ(x y:Ed):decide (x=y)=true↔Co x=Co y:=by
 obtain⟨a,b,c,d⟩:=x;obtain⟨a',b',c',d'⟩:=y;simp[Co]
theorem Ai8(a b:Option Addr)(n c m d:Nat)(xs ys:List Ed)(w:World)(R:Rd w a 4 Co xs)(hn:xs.length=n)(hn2:n<=1000000)(Ry:Rd w b 4 Co ys)(hm:ys.length=m)(hm2:m<=1000000) :
  Ret prog 201 #[.slice a n c,.slice b m d] w fun v w'=>v=.bool (decide (xs=ys))/\Ext [] w w':=by
 subst hn hm;obtain⟨w0,rfl,H⟩:=qE w;refine iG func201 U ?_;refine qGp 13 ?_ ?_
 .intro h1;refine qG 7 ?_;exact⟨qaa Value.bool (qa1 fun h=>by rw[h]at h1;simp at h1).symm,H.ext⟩
 .intro h1;have hle:xs.length=ys.length:=by omega
  refine qG 10 ?_;refine AY 67100720 (α:=Nat) (fun i=>[(13,.int .i64 (i:Int))]) (fun i w'=>i<=xs.length/\Ctx w0 [] w' []/\∀(k:Nat) (x y:Ed),k<i->xs[k]?=some x->ys[k]?=some y->x=y) (fun i=>xs.length - i) 0 U ?_ ?_ ?_
  .exact⟨rfl,trivial⟩
  .exact⟨qai _,H,fun k x y h=>absurd h<|qay _⟩
  .clear H;rintro i j w ⟨hi,H,hb⟩;refine qGp 5 ?_ ?_
   .intro h2;obtain⟨x,hx⟩:=Au (l:=xs) (i:=i);obtain⟨y,hy⟩:=Au (l:=ys) (i:=i);refine qG 9 ?_;refine CG (fun x=>x=_) AW U<|BT U<|AS U<|Br R qf qf U U (by rfl)<|FI _ qf qf U U (by rintro _ rfl;exact((R.ext0 H.drew.ext).row hx rfl))<|BT U<|AS U<|Br Ry qf qf U U (by rfl)<|FI _ qf qf U U (by rintro _ rfl;exact((Ry.ext0 H.drew.ext).row hy rfl))<|UA (ks:=[true,true,true,true]) (xs:=Co x) (ys:=Co y) (decide (x=y)) U U U ⟨rfl,rfl,rfl,rfl,trivial⟩ (RZ x y)<|Cc ?_;rintro _ rfl;replace H:=H.drew;refine A3 _ U ?_ ?_
    .intro h3;refine qG 11 ?_;have hne:¬x=y:=by simpa using h3
     exact⟨qaa Value.bool (qa1 fun h=>by subst h;rw[hx]at hy;injection hy with hy;exact hne hy).symm,H.ext⟩
    .intro h3;refine A1<|Av<|Aa<|Aw<|Ap U U ?_;refine Ad U<|qA ?_;have heq:x=y:=by simpa using h3
     refine⟨i+1,rfl,⟨rfl,trivial⟩,⟨by omega,H,fun k x' y' hk hx' hy'=>?_⟩,by omega⟩
     rcases qao k i with h7|h7
     .exact hb k x' y' h7 hx' hy'
     .obtain rfl:k=i:=by omega
      rw[hx]at hx';rw[hy]at hy';cases hx';cases hy';exact heq
   .intro h2;refine Bi<|Am<|Am<|A8<|Aa<|Af<|A5 U<|qA<|Bf<|B6 (v:=(.bool _)) U U U ?_;obtain rfl:i=xs.length:=by omega
    exact⟨qaa Value.bool (qam<|J2 hle hb).symm,H.ext⟩
theorem Ai9(a b:Option Addr)(n c m d:Nat)(xs ys:List Int)(w:World)(R:Rd w a 1 U1 xs)(hn:xs.length=n)(hn2:n<=1000000)(Ry:Rd w b 1 U1 ys)(hm:ys.length=m)(hm2:m<=1000000) :
  Ret prog 202 #[.slice a n c,.slice b m d] w fun v w'=>v=.bool (decide (xs=ys))/\Ext [] w w':=by
 subst hn hm;obtain⟨w0,rfl,H⟩:=qE w;refine iG func202 U ?_;refine qGp 13 ?_ ?_
 .intro h1;refine qG 7 ?_;exact⟨qaa Value.bool (qa1 fun h=>by rw[h]at h1;simp at h1).symm,H.ext⟩
 .intro h1;have hle:xs.length=ys.length:=by omega
  refine qG 10 ?_;refine AY 67100720 (α:=Nat) (fun i=>[(13,.int .i64 (i:Int))]) (fun i w'=>i<=xs.length/\Ctx w0 [] w' []/\∀(k:Nat) (x y:Int),k<i->xs[k]?=some x->ys[k]?=some y->x=y) (fun i=>xs.length - i) 0 U ?_ ?_ ?_
  .exact⟨rfl,trivial⟩
  .exact⟨qai _,H,fun k x y h=>absurd h<|qay _⟩
  .clear H;rintro i j w ⟨hi,H,hb⟩;refine qGp 5 ?_ ?_
   .intro h2;obtain⟨x,hx⟩:=Au (l:=xs) (i:=i);obtain⟨y,hy⟩:=Au (l:=ys) (i:=i);refine qG 9 ?_;refine CG (fun x=>x=_) AW U<|BT U<|AS U<|Br R qf qf U U (by rfl)<|BD qf U (by rintro _ rfl;exact(((R.ext0 H.drew.ext).fld hx rfl (j:=0) rfl)))<|BT U<|AS U<|Br Ry qf qf U U (by rfl)<|BD qf U (by rintro _ rfl;exact(((Ry.ext0 H.drew.ext).fld hy rfl (j:=0) rfl)))<|LM U U<|Cc ?_;rintro _ rfl;replace H:=H.drew;refine iB U ?_ ?_
    .intro h3;refine qG 11 ?_;have hne:¬x=y:=h3;exact⟨qaa Value.bool (qa1 fun h=>by subst h;rw[hx]at hy;injection hy with hy;exact hne hy).symm,H.ext⟩
    .intro h3;refine A1<|Av<|Aa<|Aw<|Ap U U ?_;refine Ad U<|qA ?_;have heq:x=y:=by omega
     refine⟨i+1,rfl,⟨rfl,trivial⟩,⟨by omega,H,fun k x' y' hk hx' hy'=>?_⟩,by omega⟩
     rcases qao k i with h7|h7
     .exact hb k x' y' h7 hx' hy'
     .obtain rfl:k=i:=by omega
      rw[hx]at hx';rw[hy]at hy';cases hx';cases hy';exact heq
   .intro h2;refine Bi<|Am<|Am<|A8<|Aa<|Af<|A5 U<|qA<|Bf<|B6 (v:=(.bool _)) U U U ?_;obtain rfl:i=xs.length:=by omega
    exact⟨qaa Value.bool (qam<|J2 hle hb).symm,H.ext⟩
theorem W5(a b:Option Addr)(n c m d:Nat)(net:Bool)(w:World):Ret prog 197 #[.slice a n c,.slice b m d,.bool net] w fun v w'=>∃b1 b2 b3,v=.func (.func 228) #[] #[ptr b1,ptr b2,ptr b3]/\Ctx w [] w' [(b2,Bl 4 [.bool net]),(b1,Bl 23 [.slice b m d]),(b3,Bl 41 [.slice a n c])]:=by
 obtain⟨w0,rfl,H⟩:=qE w;refine iG func197 U ?_;refine qG 2 ?_;rintro b3 w - H;refine qG 1 ?_;rintro b4 w - H;refine Be _ (.bool _) U U H ?_;rintro b5 w - H;refine Dr U .nilFunc U<|qA<|Af<|Ci [.pointer _,.pointer _,.pointer _] U ?_;refine qG 5 ?_;exact⟨_,_,_,rfl,H⟩
theorem JZ(a:Option Addr)(n c:Nat)(ds:List Du)(w:World)(R:Rd w a 7 BK ds)(hn:ds.length=n)(hm:n<=1000000:=by omega):
  Ret prog 115 #[.slice a n c] w fun v w'=>Fresh w w' 111 7 v ((opn ds).flatMap BK):=by
 subst hn;obtain⟨w0,rfl,H⟩:=qE w;refine iG func115 U ?_;refine qG 14 ?_;refine AY 16777208 (α:=LSt) (fun t=>[(3,.slice t.a (opn<|ds.take t.i).length t.c),(4,.int .i64 (t.i:Int))]) (fun t w'=>t.i<=ds.length/\OS t.a (opn<|ds.take t.i).length t.c 7 t.full ((opn<|ds.take t.i).flatMap BK)/\Ctx w0 [] w' (ent t.a 111 t.full)) (fun t=>ds.length - t.i) ⟨0,none,0,[]⟩ U ?_ ?_ ?_
 .exact⟨rfl,rfl,trivial⟩
 .exact⟨qai _,OS.nil,H⟩
 .clear H;rintro⟨i,a2,c2,full⟩ j w ⟨hi,O,H⟩;dsimp only at hi O H;dsimp only;have hol:(opn<|ds.take i).length<=i:=qa3 (qcy _ _) (by rw[qa8];omega);refine qGp 8 ?_ ?_
  .intro h1;obtain⟨d,hd⟩:=Au (l:=ds) (i:=i)
   have hos:opn (ds.take<|i+1)=opn (ds.take i)++if d.held=true then[]else[d]:=by
    rw[qbr,hd];exact KG _ _
   refine qG 7 ?_;refine A2 R qf qf U U (by rfl)<|Ae qf U<|A9 qf U (((R.ext0 H.ext).fld hd U (j:=6) U)) ?_;refine qGp 3 ?_ ?_
   .intro h2;have h2':¬d.held=true:=by simpa using h2
    rw[if_neg h2']at hos;refine qG 4 ?_;refine A2 R qf qf U U (by rfl)<|BC _ qf qf U U ((R.ext0 H.ext).row hd U) ?_;refine qG 1 ?_;rintro b22 w - H;refine BL (L:=[]) qf qf qf qf qf U U U H O U (by simp[AF]) ?_;rintro a' c' full' w H O;refine AP U<|Ab<|Av<|Aa<|Aw<|Ad U<|Ap U U ?_;refine Ag U<|qA ?_;exact⟨⟨i+1,a',c',full'⟩,rfl,⟨by dsimp only;rw[hos,qat];rfl,rfl,trivial⟩,⟨by dsimp only;omega,by dsimp only;rw[hos,qat,qbn];exact O,H⟩,by dsimp only;omega⟩
   .intro h2;have h2':d.held=true:=by simpa using h2
    rw[if_pos h2',qar]at hos;refine A1<|Av<|Aa<|Aw<|Ad U<|Ap U U ?_;refine Ag U<|qA ?_;exact⟨⟨i+1,a2,c2,full⟩,rfl,⟨by dsimp only;rw[hos];rfl,rfl,trivial⟩,⟨by dsimp only;omega,by dsimp only;rw[hos];exact O,H⟩,by dsimp only;omega⟩
  .intro h1;refine Bi<|Am<|Am<|A8<|Aa<|Af<|AH U<|AP U<|qA<|Bf<|B6 (v:=(.slice _ _ _)) U U U ?_;obtain rfl:i=ds.length:=by omega
   rw[qba]at O |-;exact Ctx.fresh (L:=[]) H O
theorem Zv(l:List Int):∀v∈l.map Cu,AF v=true:=fun v hv=>by
 obtain⟨x,_,rfl⟩:=qak.1 hv;rfl
theorem Lz(a:Option Addr)(n c:Nat)(xs:List Int)(w:World)(R:Rd w a 1 I1 xs)(hn:xs.length=n)(hm:n<=1000000000:=by omega):
  Ret prog 161 #[.slice a n c] w fun v w'=>Fresh w w' 2 1 v (xs.map Cu):=by
 subst hn;obtain⟨w0,rfl,H⟩:=qE w;refine iG func161 U ?_;refine qGc 10 ?_ ?_
 .intro h1;have ha:a=none:=by simpa using h1
  subst ha
  have hxs:xs=[]:=by
   cases xs with
   |nil=>rfl
   |cons x xs=>obtain⟨b,o,h⟩:=R.some' (by simp);cases h
  subst hxs;refine qG 7 ?_;exact Fresh.nil H _ _
 .intro h1;refine qG 4 ?_;rintro b5 w H O;refine AH U<|Ee qf qf qf qf qf U (xs.map Cu) U U H O (by simp) (Zv xs) (Rd.app1 (f:=Cu)<|R.ext0 H.ext) ?_;rintro a7 c7 full7 w H O;refine qG 5 ?_;exact H.fresh O
def Qc(k:Int)(n:Nat):Nat:=(max 0 (min k (n:Int))).toNat
theorem Vf(N:Int)(a b:Option Addr)(n c m d:Nat)(k:Int)(fl:List Int)(w:World)(R:Rd w b 1 I1 fl)(hm:fl.length=m)(hd:m<=d)(hm2:m<=1000000) :
  Ret prog 105 #[CM N a n c,.slice b m d,.int .i64 k] w fun v w'=>Fresh w w' 2 1 v ((fl.take<|Qc k m).map Cu):=by
 subst hm;obtain⟨w0,rfl,H⟩:=qE w;have hk:Qc k fl.length<=fl.length:=by unfold Qc;omega
 refine iG func105 U<|Af<|Be [.int .i64 N,.slice a n c] (.agg _) U U H ?_;rintro b3 w - H;refine qG 8 ?_;refine Aby U U U<|P5 U U U<|IY U qf qf U U<|Aj qB (Lz b (Qc k fl.length) d (fl.take<|Qc k fl.length) _ ((R.ext0 H.ext).take _) (by rw[qa8];omega)) U ?_;rintro v w F;obtain⟨a9,n9,c9,f9,rfl,O9,hb9⟩:=F.ex;refine qG 5 ?_;exact⟨⟨a9,n9,c9,f9,rfl,O9,fun x hx=>⟨(hb9 x hx).1,qa3 H.size (hb9 x hx).2⟩⟩,H.ext.trans F.ext⟩
section
variable {P:Program}{r:Option Nat}{ops rest:List Oper}{Q:Exit->Env->World->Prop}{e:Env}{w:World}{dst:Option Tmp}{ty:TypeId}{pos:String}{af:Array Edge}{g:Option (Nat × Bool)}
theorem Qd{k:TypeId}{x:Operand}{m:List (Int × Value)}{n:Int}(hg:AJ ⟨dst,.lookup t x y true,ty,pos,af,g⟩ ops e=true)(ht:Kq P t=some (k,el))(hk:P.underlying k=some (.int kk))(hz:(P.info? el).bind (·.zero)=some z)(hx:ev e x=.map (some b))(hy:ev e y=.int kk n)(hb:w.heap[b]?=some o)(hM:CQ kk m o)(h:A4 P r ops Q rest (put e dst<|.tuple #[(DR m n).getD z,.bool (DR m n).isSome]) w):A4 P r ops Q (⟨dst,.lookup t x y true,ty,pos,af,g⟩::rest) e w:=by
 have H:Ctx w [b] w [(b,o)]:=Ctx.start1 hb;exact Ga hg ht hk hz hx hy H at0 hM h
end
def GS(ds:List Du)(k:Int):Du:=(Cn ds k).getD d00
theorem Qe(w:World)(hd:w.heap[bd]?=some (Bl 156 (DU b nx)))(hb:w.heap[b]?=some o)(hM:CQ .u64 (dm ds) o) :
  Ret prog 108 #[ptr bd,.int .u64 k] w fun v w'=>v=.tuple #[Fj<|GS ds k,.bool (Cn ds k).isSome]/\Ext [] w w':=by
 obtain⟨w0,rfl,H⟩:=qE w
 have hmg:(DR (dm ds) k).getD (Fj d00)=Fj (GS ds k):=by
  rw[G2];unfold GS;cases Cn ds k <;> rfl
 have hms:(DR (dm ds) k).isSome=(Cn ds k).isSome:=by
  rw[G2];cases Cn ds k <;> rfl
 refine iG func108 U ?_;refine Af<|AN qf H ?_;rintro b4 w - H;refine qGc 9 ?_ ?_
 .intro h0;cases h0
 .intro h0;refine qG 6 ?_;refine A9 qf U ((H.old0 (by rw[Ai hd];rfl)))<|Ad U<|Qd (z:=Fj d00) U qf qf qf U U (H.ext.to hb<|by simp) hM ?_;rw[hmg,hms];refine qG 4 ?_;rintro b6 w - H;refine AM qf U U U (by exact Cx<|GS ds k) H at0 U ?_;rintro w H;refine qG 6 ?_;refine AM qf U U U (by exact Cx<|GS ds k) H at1 U ?_;rintro w H;refine qG 4 ?_;refine DV U U U qf qf H at1 U (show _=(.bool _)from rfl) ?_;exact⟨rfl,H.ext⟩
theorem Adi(w:World):Ret prog 32 #[] w fun v w'=>∃bd b o,v=ptr bd/\CQ .u64 (dm []) o/\Ctx w [] w' [(bd,Bl 156 (DU b 1)),(b,o)]:=by
 obtain⟨w0,rfl,H⟩:=qE w;refine iG func32 U<|Af<|Bx U<|qA<|Af<|MH .u64 U H ?_;rintro b o w hM H;refine Bd (DU b 1) qf qf<|Be (DU b 1) (.agg _) U U H ?_;rintro b3 w - H;refine qG 5 ?_;exact⟨b3,b,o,rfl,hM,H⟩
def Me(n:Nat)(d:Du):Bool:=CZ d && (decide (d.fr<n) && decide (d.to<n))
def W6(rs:List Int)(ds:List Du):Bool:=(decide (rs.length<=16) && decide (ds.length<=64)) && (rs.all C0 && (ds.all (Me rs.length) && decide ((Dp (ds.map Du.am)).2=0)))
theorem Zx(ds:List Du):∀i,(El i ds).map Du.am=ds.map Du.am:=by
 induction ds with
 |nil=>intro i;rfl
 |cons d ds ih=>intro i;show d.am::(El (i+1) ds).map Du.am=d.am::ds.map Du.am;rw[ih]
theorem Zy(rs:List Int):decide ((Dp rs).2=1) = !rs.all C0:=by
 unfold Dp
 cases h:rs.all C0 with
 |false=>rw[if_pos rfl];rfl
 |true =>
  rw[if_neg<|by decide]
  split <;> rfl
theorem Zz(rs:List Int)(ds:List Du)(hl:ds.length<=1000000):W6 rs ds=CY rs ds:=by
 have h1:decide (ofC (El 0 ds) (ds.length+1)=0)=(decide (ds.length<=64) && (ds.all CZ && decide ((Dp<|ds.map Du.am).2=0))):=by
  have ha:=W1 (ds:=ds) 0;rw[show(((0:Nat):Int)+ds.length+1)=(ds.length:Int)+1 by omega]at ha;have ham:(El 0 ds).map (·.am)=ds.map Du.am:=Zx ds 0;unfold ofC;rw[OX,ham,show ED ((ds.length:Int)+1) 0 (El 0 ds)=ds.all CZ from ha]
  by_cases h64:64<ds.length
  .rw[if_pos h64,qa1<|show ¬ds.length<=64 by omega];rfl
  .rw[if_neg h64,qam<|show ds.length<=64 by omega,qbs,if_neg (by rw[qam<|show 1<=(ds.length:Int)+1 by omega,qam<|show(ds.length:Int)+1<=4611686018427387904 by omega];decide)]
   cases hm:ds.all CZ with
   |false=>rw[if_pos rfl];rfl
   |true=>rw[if_neg<|by decide,qbs]
 have h2:ds.all (Me rs.length)=(ds.all (fun d=>decide (max d.fr d.to<rs.length)) && ds.all CZ):=by
  rw[qac];simp only[qag,qaw,qav,Me];constructor
  .intro h;exact⟨fun d hd=>by have:=h d hd;omega,fun d hd=>(h d hd).1⟩
  .intro h d hd;have:=h.1 d hd;exact⟨h.2 d hd,by omega,by omega⟩
 unfold W6 CY;rw[h1,h2,Zy];cases decide (rs.length<=16) <;> cases decide (ds.length<=64) <;> cases rs.all C0 <;> cases ds.all (fun d=>decide (max d.fr d.to<rs.length)) <;> cases ds.all CZ <;> rfl
theorem Sa(a b:Option Addr)(n c m e:Nat)(rs:List Int)(ds:List Du)(w:World)(R:Rd w a 1 I1 rs)(hn:rs.length=n)(hn2:n<=1000000)(Rd':Rd w b 7 BK ds)(hm:ds.length=m)(hm2:m<=1000000) :
  Ret prog 247 #[.slice a n c,.slice b m e] w fun v w'=>v=.bool (CY rs ds)/\Ext [] w w':=by
 rw[<-Zz rs ds (by omega)];subst hn hm;obtain⟨w0,rfl,H⟩:=qE w;obtain⟨tt,htt⟩:=qD<|Dp<|ds.map Du.am;refine iG func247 U ?_;refine qG 6 ?_;refine Bo (α:=Unit) 261120 (fun _=>[(17,.bool<|!(decide (rs.length<=16) && decide (ds.length<=64)))]) (fun _ w'=>Ctx w0 [] w' []) U ?_ ?_
 .refine qG 4 ?_;refine iC 13 U ?_ ?_
  .intro h1;refine qG 5 ?_;exact⟨rfl,(),rfl,⟨qaa Value.bool (by rw[qac];simp_all;try omega),trivial⟩,H⟩
  .intro h2;refine qG 5 ?_;exact⟨rfl,(),rfl,⟨qaa Value.bool (by rw[qac];simp_all;try omega),trivial⟩,H⟩
 rintro - j17 w H;refine iB U ?_ ?_
 .intro h1;refine qG 7 ?_;exact⟨qaa Value.bool (by unfold W6;rw[show(decide (rs.length<=16) && decide (ds.length<=64))=false by simpa using h1];rfl),H.ext⟩
 .intro h1;have h1':(decide (rs.length<=16) && decide (ds.length<=64))=true:=by simpa using h1
  have hB:W6 rs ds=(rs.all C0 && (ds.all (Me rs.length) && decide (tt.2=0))):=by unfold W6;rw[h1',htt];rfl
  rw[hB];refine qG 12 ?_;refine AY 1073479760 (α:=Nat) (fun i=>[(6,.int .i64 (i:Int))]) (fun i w'=>i<=rs.length/\Ctx w0 [] w' []/\∀(k:Nat) (x:Int),k<i->rs[k]?=some x->C0 x=true) (fun i=>rs.length - i) 0 U ?_ ?_ ?_
  .exact⟨rfl,trivial⟩
  .exact⟨qai _,H,fun k x h=>absurd h<|qay _⟩
  .clear H;rintro i j w ⟨hi,H,hb⟩;refine qGp 8 ?_ ?_
   .intro h2;obtain⟨x,hx⟩:=Au (l:=rs) (i:=i);refine qG 7 ?_;refine A2 R qf qf U U (by rfl)<|A9 qf U (((R.ext0 H.ext).fld hx U (j:=0) U))<|Aj qB (EV x _) U ?_;rintro v w ⟨rfl,rfl⟩;refine qGp 3 ?_ ?_
    .intro h3;refine qG 11 ?_;exact⟨qaa Value.bool (by rw[C2 hx<|show C0 x=false by simpa using h3];rfl),H.ext⟩
    .intro h3;refine A1<|Av<|Aa<|Aw<|Ad U<|Ap U U ?_;refine Ag U<|qA ?_;exact⟨i+1,rfl,⟨rfl,trivial⟩,⟨by omega,H,GN hx hb<|by simpa using h3⟩,by omega⟩
   .intro h2;obtain rfl:i=rs.length:=by omega
    have hal:rs.all C0=true:=CN fun k x hk hx=>hb k x hk hx;rw[hal,qbs];refine Bi<|Am<|Am<|A8<|Aa<|AB<|Af<|Ag U<|qA<|AK<|AY 1180591620716337561776 (α:=LSt) (fun t=>[(5,.slice t.a t.i t.c),(7,.int .i64 (t.i:Int))]) (fun t w'=>t.i<=ds.length/\OS t.a t.i t.c 1 t.full (((ds.take t.i).map Du.am).map Cu)/\Ctx w0 [] w' (ent t.a 2 t.full)/\∀(k:Nat) (d:Du),k<t.i->ds[k]?=some d->Me rs.length d=true) (fun t=>ds.length - t.i) ⟨0,none,0,[]⟩ U ?_ ?_ ?_
    .exact⟨rfl,rfl,trivial⟩
    .exact⟨qai _,OS.nil,H,fun k x h=>absurd h<|qay _⟩
    .clear H;rintro⟨i,a2,c2,full⟩ jj w ⟨hi,O,H,hdb⟩;dsimp only at hi O H hdb;dsimp only;refine qGp 8 ?_ ?_
     .intro h3;obtain⟨d,hd⟩:=Au (l:=ds) (i:=i);refine qG 6 ?_;refine Bo (α:=Unit) 4611685949707911168 (fun _=>[(61,.bool<|!Me rs.length d)]) (fun _ w'=>Ctx w0 [] w'<|ent a2 2 full) U ?_ ?_
      .refine AH U (Ad U<|A2 Rd' qf qf U U (by rfl) ?_);refine BC _ qf qf U U ((Rd'.ext0 H.ext).row hd U)<|Aj qB (Ly d _) U ?_;rintro v w ⟨rfl,hx40⟩;replace H:=H.call hx40;refine qG 2 ?_;refine iC 42 U ?_ ?_
       .intro h3;refine qG 20 ?_;exact⟨rfl,(),rfl,⟨qaa Value.bool (by unfold Me;rw[qac];simp_all;try omega),trivial⟩,H⟩
       .intro h4;refine AH U<|Ad U<|A2 Rd' qf qf U U (by rfl)<|Ae qf U<|A9 qf U (((Rd'.ext0 H.ext).fld hd U (j:=1) U)) ?_;refine qG 5 ?_;refine iC 52 U ?_ ?_
        .intro h5;refine qG 10 ?_;exact⟨rfl,(),rfl,⟨qaa Value.bool (by unfold Me;rw[qac];simp_all;try omega),trivial⟩,H⟩
        .intro h6;refine AH U<|Ad U<|A2 Rd' qf qf U U (by rfl)<|Ae qf U<|A9 qf U (((Rd'.ext0 H.ext).fld hd U (j:=2) U)) ?_;refine qG 5 ?_;exact⟨rfl,(),rfl,⟨qaa Value.bool (by unfold Me;rw[qac];simp_all;try omega),trivial⟩,H⟩
      rintro - j61 w H;refine iB U ?_ ?_
      .intro h4;refine qG 12 ?_
       have h5:ds.all (Me rs.length)=false:=by
        rw[List.all_eq_false];exact⟨d,qad hd,by simpa using h4⟩
       exact⟨qaa Value.bool (by rw[h5];rfl),H.ext⟩
      .intro h4;refine qG 6 ?_;refine A2 Rd' qf qf U U (by rfl)<|Ae qf U<|A9 qf U (((Rd'.ext0 H.ext).fld hd U (j:=3) U)) ?_;refine qG 1 ?_;rintro b68 w - H;refine BL (L:=[]) qf qf qf qf qf U U U H O U (by simp[AF]) ?_;rintro a' c' full' w H O;refine AP U<|Ab<|Av<|Aa<|Aw<|Ad U<|Ap U U ?_;refine Ag U<|qA ?_;refine⟨⟨i+1,a',c',full'⟩,rfl,⟨rfl,rfl,trivial⟩,⟨by dsimp only;omega,by dsimp only;rw[Fk hd,qau];exact O,H,fun k x hk hx=>?_⟩,by dsimp only;omega⟩
       rcases qao k i with h7|h7
       .exact hdb k x h7 hx
       .obtain rfl:k=i:=by dsimp only at hk;omega
        rw[hd]at hx;cases hx
        simpa using h4
     .intro h3;obtain rfl:i=ds.length:=by omega
      rw[qba]at O
      have had:ds.all (Me rs.length)=true:=by
       rw[qaw];intro d hd;obtain⟨k,hk⟩:=qbi.1 hd;exact hdb k d (BH hk) hk
      rw[had,qbs];refine Bi<|Am<|Am<|A8<|Aa<|Af<|AH U<|Aj qB (HZ a2 ds.length c2 (ds.map Du.am) _ (O.rd1 fun x hx=>H.blk x hx)<|by rw[qaj]) U ?_;rintro v w ⟨rfl,rfl⟩;rw[<-htt];refine qG 15 ?_;exact⟨rfl,H.ext⟩
def inA(acs:List Ac)(k:Int):Bool:=decide (0<=k) && decide (k<acs.length)
def Da(acs:List Ac)(k:Int):Ac:=if inA acs k=true then acs.getD k.toNat a00 else a00
theorem Ms(a:Option Addr)(n c:Nat)(acs:List Ac)(k:Int)(w:World)(hd:w.heap[bd]?=some (Bl 153 [.slice a n c]))(R:Rd w a 2 Cg acs)(hn:acs.length=n)(hm:n<=1000000) :
  Ret prog 86 #[ptr bd,.int .i64 k] w fun v w'=>v=.tuple #[.agg (Cg<|Da acs k).toArray,.bool<|inA acs k]/\Ext [] w w':=by
 subst hn;obtain⟨w0,rfl,H⟩:=qE w;refine iG func86 U ?_;refine Af<|AN qf H ?_;rintro b4 w - H;refine qG 5 ?_;refine Bo (α:=Unit) 2097088 (fun _=>[(20,.bool<|!inA acs k)]) (fun _ w'=>Ctx w0 [] w' [(b4,Bl 162 (Cg a00))]) U ?_ ?_
 .refine qG 3 ?_;refine Az 8 U ?_ ?_
  .intro h1;refine qG 13 ?_;exact⟨rfl,(),rfl,⟨qaa Value.bool (by unfold inA;rw[qac];simp_all;try omega),trivial⟩,H⟩
  .intro h2;refine qG 4 ?_;refine iC 12 U ?_ ?_
   .intro h3;refine qG 9 ?_;exact⟨rfl,(),rfl,⟨qaa Value.bool (by unfold inA;rw[qac];simp_all;try omega),trivial⟩,H⟩
   .intro h4;refine qG 4 ?_;refine A9 qf U ((H.old0 (by rw[Ai hd];rfl))) ?_;refine qG 4 ?_;exact⟨rfl,(),rfl,⟨qaa Value.bool (by unfold inA;rw[qac];simp_all;try omega),trivial⟩,H⟩
 rintro - j20 w H;refine iB U ?_ ?_
 .intro h1;refine Af<|Bd [.int .i64 0,.int .i64 0] qf qf ?_;refine qG 1 ?_;rintro w H;refine qG 5 ?_;refine DV U U U qf qf H at0 U (show _=(.bool _)from rfl) ?_;have h1':inA acs k=false:=by simpa using h1
  exact⟨by unfold Da;rw[h1',if_neg<|by decide];rfl,H.ext⟩
 .intro h1;have h1':inA acs k=true:=by simpa using h1
  have h2:0<=k/\k<acs.length:=by unfold inA at h1';simpa using h1'
  obtain⟨i,rfl⟩:∃i:Nat,k=(i:Int):=⟨k.toNat,by omega⟩;obtain⟨x,hx⟩:=Au (l:=acs) (i:=i);refine qG 6 ?_;refine A9 qf U ((H.old0 (by rw[Ai hd];rfl)))<|Ad U<|A2 R qf qf U U (by rfl)<|BC _ qf qf U U ((R.ext0 H.ext).row hx U)<|AM qf U U U (by exact GM _) H at0 U ?_;rintro w H;refine qG 4 ?_;refine DV U U U qf qf H at0 U (show _=(.bool _)from rfl) ?_;exact⟨by unfold Da;rw[h1',if_pos rfl,show((i:Int)).toNat=i from rfl,Bp hx],H.ext⟩
section
variable {P:Program}{r:Option Nat}{ops rest:List Oper}{Q:Exit->Env->World->Prop}{e:Env}{w:World}{dst:Option Tmp}{ty:TypeId}{pos:String}{af:Array Edge}{g:Option (Nat × Bool)}
theorem Adj{k:TypeId}{x:Operand}{m:List (Int × Value)}(hg:AJ ⟨dst,.call ⟨.builtin .len,#[x],#[t]⟩,ty,pos,af,g⟩ ops e=true)(ht:Kq P t=some (k,el))(hx:ev e x=.map (some b))(hb:w.heap[b]?=some o)(hM:CQ kk m o)(h:A4 P r ops Q rest (put e dst<|.int .i64 (m.length:Int)) w):A4 P r ops Q (⟨dst,.call ⟨.builtin .len,#[x],#[t]⟩,ty,pos,af,g⟩::rest) e w:=by
 obtain⟨es,clock,rfl,hes,_⟩:=hM
 have hl:es.size=m.length:=by
  have:=qaa List.length hes
  simpa using this
 have hgo:(getObj b).run P w=.ok (.map es clock) w:=by simp[getObj,Sem.run,hb]
 exact B8 hg U (by simp[execOp,resolve,invoke,builtin,hx,Builtin.len_,Bg<|G7 ht,hgo,goInt,hl]) h
end
theorem Z0(h:DR (dm ds) d.id=none):Kp (dm ds) d.id (Fj d)=dm (ds++[d]):=by
 rw[<-Zc];generalize dm ds=m at h
 induction m with
 |nil=>rfl
 |cons p m ih =>
  have hp:¬p.1=d.id:=by
   intro hp;simp[DR,hp]at h
  have hb2:(p.1 == d.id)=false:=by simpa using hp
  have hm2:DR m d.id=none:=by rw[<-h];simp[DR,hb2]
  simp[Kp,hp,ih hm2]
def KI(N k:Int):Bool:=decide (0<=k) && decide (k<N)
theorem Sb(N:Int)(a:Option Addr)(n c:Nat)(k:Int)(w:World):Ret prog 223 #[CM N a n c,.int .i64 k] w fun v w'=>v=.bool (KI N k)/\Ext [] w w':=by
 obtain⟨w0,rfl,H⟩:=qE w;refine iG func223 U<|Af<|Be [.int .i64 N,.slice a n c] (.agg _) U U H ?_;rintro b2 w - H;refine qG 7 ?_;refine iC 7 U ?_ ?_
 .intro h1;refine qG 10 ?_;exact⟨qaa Value.bool (by unfold KI;rw[qac];simp_all;try omega),H.ext⟩
 .intro h2;refine qG 10 ?_;exact⟨qaa Value.bool (by unfold KI;rw[qac];simp_all;try omega),H.ext⟩
theorem CU:(Dp xs).2=0↔(∀x∈xs,C0 x=true)/\Cl xs<=4503599627370496:=by
 unfold Dp
 cases h:xs.all C0 with
 |false =>
  rw[if_pos rfl];refine⟨fun h=>by simp at h,fun h2=>?_⟩;rw[qaw.2 h2.1]at h;cases h
 |true =>
  rw[if_neg<|by decide];rw[qaw]at h
  split
  .rename_i h3;exact⟨fun _=>⟨h,h3⟩,fun _=>rfl⟩
  .rename_i h3;exact⟨fun h=>by simp at h,fun h4=>absurd h4.2 h3⟩
theorem DZ:ofC ds nx=0↔ds.length<=64/\(1<=nx/\nx<=4611686018427387904)/\ED nx 0 ds=true/\(Dp<|ds.map (·.am)).2=0:=by
 unfold ofC
 by_cases h1:64<ds.length
 .rw[if_pos h1];exact⟨fun h=>by simp at h,fun h=>absurd h.1<|by omega⟩
 rw[if_neg h1]
 by_cases h2:1<=nx/\nx<=4611686018427387904
 .rw[qam h2.1,qam h2.2,if_neg<|by decide]
  cases h3:ED nx 0 ds with
  |false=>rw[if_pos rfl];exact⟨fun h=>by simp at h,fun h=>by cases h.2.2.1⟩
  |true=>rw[if_neg<|by decide];exact⟨fun h=>⟨by omega,h2,rfl,h⟩,fun h=>h.2.2.2⟩
 .have:(decide (1<=nx) && decide (nx<=4611686018427387904))=false:=by
   rw[Bool.eq_false_iff];intro h;simp only[qag,qav]at h;exact h2 h
  rw[if_pos this];exact⟨fun h=>by simp at h,fun h=>absurd h.2.1 h2⟩
theorem Adk{a b:Int}(h:ED nx b ds=true)(hab:a<=b:=by omega):ED nx a ds=true:=by
 cases ds with
 |nil=>rfl
 |cons d ds =>
  simp only[ED,qag,qav]at h |-;exact⟨⟨h.1.1,by omega,h.1.2.2⟩,h.2⟩
def EJ:List Du->List Int->List Du
 | [],_=>[]
 |d::ds,[]=>d::ds
 |d::ds,x::xs=>if d.held=true then d::EJ ds (x::xs)else if d.am=x then EJ ds xs else{ d with am:=d.am - x }::EJ ds xs
theorem OY(ds:List Du):EJ ds []=ds:=by cases ds <;> rfl
theorem Iz(h:d.held=true)(ds:List Du)(xs:List Int):EJ (d::ds) xs=d::EJ ds xs:=by
 cases xs with
 |nil=>rw[OY,OY]
 |cons x xs=>show(if d.held=true then _ else _)=_;rw[if_pos h]
theorem I3(h:¬d.held=true)(ds:List Du)(x:Int)(xs:List Int):EJ (d::ds) (x::xs)=(if d.am=x then[]else[{ d with am:=d.am - x }])++EJ ds xs:=by
 show(if d.held=true then _ else _)=_;rw[if_neg h]
 split <;> rfl
theorem Ia(d:Du)(ds:List Du):opn (d::ds)=(if d.held=true then[]else[d])++opn ds:=by
 unfold opn;rw[qbo];cases d.held <;> rfl
def PayIn(os:List Du)(xs:List Int):Prop:=os.length=xs.length/\∀(i:Nat) (d:Du) (x:Int),os[i]?=some d->xs[i]?=some x->0<=x/\x<=d.am
theorem PayIn.tail(h:PayIn (d::os) (x::xs)):(0<=x/\x<=d.am)/\PayIn os xs :=
 ⟨h.2 0 d x rfl rfl,by have:=h.1;simp only[qbd]at this;omega,fun i e y he hy=>h.2 (i+1) e y he hy⟩
theorem PayIn.cons(h:PayIn (d::os) xs):∃x xs',xs=x::xs':=by
 cases xs with
 |nil=>have:=h.1;simp at this
 |cons x xs=>exact⟨x,xs,rfl⟩
theorem Ib{motive:List Du->List Int->Prop}(h0:∀xs,motive [] xs)(h1:∀d ds xs,d.held=true->motive ds xs->motive (d::ds) xs)(h2:∀d ds x xs,¬d.held=true->0<=x->x<=d.am->motive ds xs->motive (d::ds) (x::xs)):∀(ds:List Du) (xs:List Int),PayIn (opn ds) xs->motive ds xs
 | [],xs,_=>h0 xs
 |d::ds,xs,h=>by
  rw[Ia]at h
  by_cases hd:d.held=true
  .rw[if_pos hd]at h;exact h1 d ds xs hd<|Ib h0 h1 h2 ds xs h
  .rw[if_neg hd]at h;obtain⟨x,xs,rfl⟩:=PayIn.cons h;obtain⟨ha,hb⟩:=PayIn.tail h;exact h2 d ds x xs hd ha.1 ha.2<|Ib h0 h1 h2 ds xs hb
theorem Z3(h:PayIn (opn ds) xs):∀ah,ED nx ah ds=true->ED nx ah (EJ ds xs)=true:=by
 refine Ib (motive:=fun ds xs=>∀ah,ED nx ah ds=true->ED nx ah (EJ ds xs)=true) ?_ ?_ ?_ ds xs h
 .intro xs ah h;exact h
 .intro d ds xs hd ih ah h;rw[Iz hd];simp only[ED,qag,qav]at h |-;exact⟨h.1,ih _ h.2⟩
 .intro d ds x xs hd h0 h1 ih ah h;rw[I3 hd];simp only[ED,qag,qav]at h
  by_cases he:d.am=x
  .rw[if_pos he];exact Adk<|ih _ h.2
  .rw[if_neg he];show ED nx ah ({ d with am:=d.am - x }::EJ ds xs)=true;simp only[ED,qag,qav];refine⟨⟨?_,h.1.2⟩,ih _ h.2⟩;have hm:=h.1.1;unfold CZ C0 at hm |-;simp only[qag,qav,qcf,qd5]at hm |-;exact⟨hm.1,by omega,by omega,hm.2.2.2⟩
theorem Z4(h:PayIn (opn ds) xs):(EJ ds xs).length<=ds.length:=by
 refine Ib (motive:=fun ds xs=>(EJ ds xs).length<=ds.length) ?_ ?_ ?_ ds xs h
 .intro xs;exact qaq _
 .intro d ds xs hd ih;rw[Iz hd];simpa using ih
 .intro d ds x xs hd _ _ ih;rw[I3 hd,qat,qbd]
  split <;> simp <;> omega
theorem Z5(c:Du->Int)(hc:∀d z,c { d with am:=z }=c d)(h:PayIn (opn ds) xs):Cl ((EJ ds xs).map fun d=>c d*d.am)=Cl (ds.map fun d=>c d*d.am) - Cl (List.zipWith (fun d x=>c d*x) (opn ds) xs):=by
 refine Ib (motive:=fun ds xs=>Cl ((EJ ds xs).map fun d=>c d*d.am)=Cl (ds.map fun d=>c d*d.am) - Cl (List.zipWith (fun d x=>c d*x) (opn ds) xs)) ?_ ?_ ?_ ds xs h
 .intro xs;rfl
 .intro d ds xs hd ih;rw[Iz hd,Ia,if_pos hd,qas,qas,Ce,Ce,ih,qcm];omega
 .intro d ds x xs hd _ _ ih;rw[I3 hd,Ia,if_neg hd,qcu,qcm,qau,Ep,ih,qas,Ce];show _=_ - Cl ((c d*x)::List.zipWith _ _ _);rw[Ce]
  by_cases he:d.am=x
  .rw[if_pos he,he];show Cl []+_=_
   have:Cl []=0:=rfl
   rw[this];omega
  .rw[if_neg he];show Cl [c { d with am:=d.am - x }*(d.am - x)]+_=_;have h1:∀z:Int,Cl [z]=z:=fun z=>by rw[Ce];show z+0=z;omega
   rw[h1,hc,Int.mul_sub];omega
theorem Adl(h:PayIn (opn ds) xs)(ho:ofC ds nx=0):ofC (EJ ds xs) nx=0:=by
 obtain⟨h1,h2,h3,h4⟩:=DZ.1 ho;have h5:=Z3 h 0 h3;have h6:=Z4 h;have h7:=Z5 (fun _=>1) (fun _ _=>rfl) h;simp only[Int.one_mul]at h7;obtain⟨ha,hb⟩:=CU.1 h4;refine DZ.2 ⟨by omega,h2,h5,CU.2 ⟨fun x hx=>?_,?_⟩⟩
 .obtain⟨d,hd,rfl⟩:=qak.1 hx;have:=((Hw h5).1 d hd).2.2.2;unfold CZ at this;simp only[qag]at this;exact this.2.2.1
 .have h8:0<=Cl (List.zipWith (fun _ x=>x) (opn ds) xs):=EO fun x hx=>by
   obtain⟨i,hi⟩:=qbi.1 hx;rw[qd1]at hi
   cases h9:(opn ds)[i]? with
   |none=>rw[h9]at hi;cases hi
   |some d =>
    cases h10:xs[i]? with
    |none=>rw[h9,h10]at hi;cases hi
    |some y =>
     rw[h9,h10]at hi
     injection hi with hi
     have:=(h.2 i d y h9 h10).1;omega
  show Cl ((EJ ds xs).map fun d=>d.am)<=_;rw[h7];show Cl (ds.map fun d=>d.am) - _<=_;have hb':Cl (ds.map fun d=>d.am)<=4503599627370496:=hb;omega
def JK(ds:List Du):List (Du × Int)->Prop
 | []=>True
 |p::ps=>(Cn ds p.1.id=some p.1/\p.1.held=false/\0<=p.2/\p.2<=p.1.am)/\JK (FN ds p.1.id p.2) ps
def Gu(ds:List Du):List (Du × Int)->List Du
 | []=>ds
 |p::ps=>Gu (FN ds p.1.id p.2) ps
theorem Sc(ps qs:List<|Du × Int):∀ds,Gu ds (ps++qs)=Gu (Gu ds ps) qs:=by
 induction ps with
 |nil=>intro ds;rfl
 |cons p ps ih=>intro ds;exact ih _
theorem Qf{ps qs:List (Du × Int)}:∀{ds},JK ds (ps++qs)->JK ds ps/\JK (Gu ds ps) qs:=by
 induction ps with
 |nil=>intro ds h;exact⟨trivial,h⟩
 |cons p ps ih=>intro ds h;exact⟨⟨h.1,(ih h.2).1⟩,(ih h.2).2⟩
theorem Nq{ps:List (Du × Int)}(h:JK ds ps){p:Du × Int}(hp:ps[i]?=some p):(Cn (Gu ds<|ps.take i) p.1.id=some p.1/\p.1.held=false/\0<=p.2/\p.2<=p.1.am)/\Gu ds (ps.take<|i+1)=FN (Gu ds<|ps.take i) p.1.id p.2:=by
 have hs:ps=ps.take i++ps.drop i:=(qbp i ps).symm
 have hd:ps.drop i=p::ps.drop (i+1):=by
  have hl:=BH hp;rw[qdz hl];rw[qb4 hl]at hp
  injection hp with hp
  rw[hp]
 rw[hs,hd]at h;refine⟨(Qf h).2.1,?_⟩;rw[qbr,hp];exact Sc _ [p] ds
theorem OZ{p:Du × Int}(h:Cn ds p.1.id=some p.1/\p.1.held=false/\0<=p.2/\p.2<=p.1.am):GP ds p.1.id p.2=0/\IJ ds p.1.id p.2=FN ds p.1.id p.2:=by
 have h1:GP ds p.1.id p.2=0:=by
  unfold GP pC;rw[h.1];show(if p.2<0 then(1:Int)else if p.1.held=true then 14 else if p.1.am<p.2 then 12 else 0)=0;rw[if_neg<|by omega,h.2.1,if_neg<|by decide,if_neg<|by omega]
 exact⟨h1,by unfold IJ;rw[if_pos h1]⟩
theorem Z6{P:List Du}(h:∀d∈P,d.id≠k):FN (P++ds) k x=P++FN ds k x:=by
 induction P with
 |nil=>rfl
 |cons y P ih =>
  show(if y.id=k then _ else y::FN (P++ds) k x)=_;rw[if_neg<|h y<|qah ..,ih fun d hd=>h d<|qae _ hd];rfl
theorem W9{P:List Du}(h:∀d∈P,d.id≠k):Cn (P++ds) k=Cn ds k:=by
 unfold Cn;rw[List.find?_append,qek.2 fun d hd=>by simpa using h d hd];rfl
theorem Adm(h:PayIn (opn ds) xs):∀P:List Du,((P++ds).map (·.id)).Nodup->JK (P++ds) ((opn ds).zip xs)/\Gu (P++ds) ((opn ds).zip xs)=P++EJ ds xs:=by
 refine Ib (motive:=fun ds xs=>∀P:List Du,((P++ds).map (·.id)).Nodup->JK (P++ds) ((opn ds).zip xs)/\Gu (P++ds) ((opn ds).zip xs)=P++EJ ds xs) ?_ ?_ ?_ ds xs h
 .intro xs P _;exact⟨trivial,rfl⟩
 .intro d ds xs hd ih P hn;rw[Ia,if_pos hd,Iz hd,qcm];have:=ih (P++[d]) (by rw[qaz];exact hn);rw[qaz,qaz]at this;exact this
 .intro d ds x xs hd h0 h1 ih P hn
  have hP:∀e∈P,e.id≠d.id:=fun e he h=>by
   rw[qau,qdy]at hn;exact hn.2.2 e.id (qa6 (f:=fun d:Du=>d.id) he) d.id (qa6 (f:=fun d:Du=>d.id)<|qah ..) h
  have hpl:FN (P++d::ds) d.id x=P++((if d.am=x then[]else[{ d with am:=d.am - x }])++ds):=by
   rw[Z6 hP]
   congr 1
   show(if d.id=d.id then _ else _)=_;rw[if_pos rfl]
   split <;> rfl
  rw[Ia,if_neg hd,I3 hd];show((Cn (P++d::ds) d.id=some d/\d.held=false/\0<=x/\x<=d.am)/\JK (FN (P++d::ds) d.id x) ((opn ds).zip xs))/\Gu (FN (P++d::ds) d.id x) ((opn ds).zip xs)=_;rw[hpl,<-qaz]
  have hn2:((P++(if d.am=x then([]:List Du)else[{ d with am:=d.am - x }])++ds).map fun d:Du=>d.id).Nodup:=by
   split
   .rw[qar];refine List.Nodup.sublist ?_ hn;exact List.Sublist.map _<|List.Sublist.append (List.Sublist.refl _)<|List.sublist_cons_self _ _
   .rw[qaz,qau]at *;exact hn
  obtain⟨i1,i2⟩:=ih _ hn2;refine⟨⟨⟨?_,by simpa using hd,h0,h1⟩,i1⟩,by rw[i2,qaz]⟩;rw[W9 hP];unfold Cn;rw[qcd,show(d.id == d.id)=true by simp]
theorem Z7{l:List Int}(h:l.Pairwise (·<·)):l.Nodup:=h.imp fun h=>by omega
theorem Jj(h:ofC ds nx=0):(ds.map (·.id)).Nodup:=Z7 (Hw (DZ.1 h).2.2.1).2.1
theorem Z9(h:ofC ds nx=0)(hd:d∈ds):0<d.id/\d.id<nx/\CZ d=true:=by
 have:=(Hw (DZ.1 h).2.2.1).1 d hd;exact⟨this.1,this.2.2⟩
theorem CD(h:CZ d=true):(0<=d.fr/\d.fr<16)/\(0<=d.to/\d.to<16)/\d.fr≠d.to/\(1<=d.am/\d.am<=4503599627370496)/\(1<=d.we/\d.we<=1000)/\0<=d.un:=by
 unfold CZ C0 E8 at h;simp only[qag,qav,qcf,qd5]at h;exact⟨h.1.1,h.1.2.1,h.1.2.2,⟨h.2.1,h.2.2.1.2⟩,⟨h.2.2.2.1,h.2.2.2.2.1⟩,h.2.2.2.2.2⟩
def TU(ds:List Du):Prop:=∀d∈ds,0<=d.am/\d.am<=4503599627370496
theorem Afa(h:ofC ds nx=0):TU ds:=fun d hd=>by
 have:=(CD (Z9 h hd).2.2).2.2.2.1;omega
theorem Adn{e:Du}(h:TU ds)(hf:Cn ds k=some e)(h0:0<=x)(h1:x<=e.am):TU (FN ds k x)/\(FN ds k x).length<=ds.length:=by
 induction ds with
 |nil=>cases hf
 |cons d ds ih =>
  unfold Cn at hf;rw[qcd]at hf;have hd:=h d<|qah ..;unfold FN
  by_cases hk:d.id=k
  .rw[show(d.id == k)=true by simpa using hk]at hf
   injection hf with hf
   subst hf;rw[if_pos hk]
   split
   .exact⟨fun e he=>h e<|qae _ he,by simp⟩
   .refine⟨fun e he=>?_,by simp⟩
    rcases qaf.1 he with rfl|he
    .exact⟨by show 0<=d.am - x;omega,by show d.am - x<=_;omega⟩
    .exact h e (qae _ he)
  .rw[show(d.id == k)=false by simpa using hk]at hf;obtain⟨i1,i2⟩:=ih (fun e he=>h e<|qae _ he) hf;rw[if_neg hk];refine⟨fun e he=>?_,by simpa using i2⟩
   rcases qaf.1 he with rfl|he
   .exact hd
   .exact i1 e he
theorem Qg{ds:List Du}{ps:List (Du × Int)}(h:TU ds)(hp:JK ds ps):∀i,TU (Gu ds<|ps.take i)/\(Gu ds<|ps.take i).length<=ds.length
 |0=>⟨h,qaq _⟩
 |i+1=>by
  obtain⟨i1,i2⟩:=Qg h hp i
  cases hi:ps[i]? with
  |none=>rw[qbr,hi];show TU (Gu ds<|ps.take i++[])/\(Gu ds<|ps.take i++[]).length<=_;rw[qar];exact⟨i1,i2⟩
  |some p =>
   obtain⟨h1,h2⟩:=Nq hp hi;rw[h2];obtain⟨h3,h4⟩:=Adn i1 h1.1 h1.2.2.1 h1.2.2.2;exact⟨h3,qa3 h4 i2⟩
end Go.Proofs.YtfnfnmgilmejmaaGreat
