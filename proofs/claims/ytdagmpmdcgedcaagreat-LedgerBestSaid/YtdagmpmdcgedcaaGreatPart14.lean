/- Part 14 of the proof. The last text: LedgerBest: for every input the law answers true, and turns nothing. -/
import Derived.Test.YtdagmpmdcgedcaaGreatPart13
set_option maxRecDepth 20000
set_option maxHeartbeats 8000000
namespace Go.Proofs.YtdagmpmdcgedcaaGreat
open Go.GV Go.Proofs.Tryz
attribute [local irreducible] AN W Wq Wt
structure TwZ where
 i:Nat
 m:Lm
 s:Ld
 T:Nat->Prop
abbrev kdN(net:Bool):Int:=if net=true then 11 else 10
theorem Aq8(net:Bool):(kdN net=10\/kdN net=11)/\decide (kdN net=11)=net:=by cases net <;> decide
theorem Aq9(net:Bool):AkIn (ak (kdN net) 0 0 0 0 0 0):=by cases net <;> exact Gw
def W1(rs:List Int)(os:List Du)(net:Bool)(xs:List Int)(i k:Nat):Int:=Ly rs net k+Ea (grE ((rs.length+1:Nat):Int) (BX rs os net)) (flE xs) i k
theorem Yf{rs:List Int}{os:List Du}{net:Bool}{xs:List Int}{i:Nat}{d:Du}{x:Int}(hd:os[i]?=some d)(hx:xs[i]?=some x)(k:Nat):W1 rs os net xs (i+1) k=W1 rs os net xs i k+(one (d.to.toNat=k) - one (d.fr.toNat=k))*x:=by
 unfold W1;rw[Gd,QR (Hu hd),QQ (Hu hd),show flE xs i=x from Br hx];unfold KI;dsimp only;omega
theorem Ak7{f g:Nat->Int}{n k:Nat}(h1:∀q,q≠k->g q=f q):(tab f n).set k (g k)=tab g n:=by
 apply qb2;intro j;rw[qed]
 by_cases hj:j<n
 .rw[Cd hj,Cd hj]
  by_cases h:k=j
  .subst h;rw[if_pos rfl,if_pos (by rw[CY];exact hj)]
  .rw[if_neg h,h1 j (Ne.symm h)]
 .rw[qba (by rw[CY];omega),qba (by rw[CY];omega)]
  split
  .rw[if_neg (by rw[CY];omega)]
  .rfl
theorem OS.setI{a:Option Addr}{n c:Nat}{full:List Value}{f g:Nat->Int}(O:OS a n c 1 full ((tab f n).flatMap I1)){k:Nat}(hk:k<n)(h1:∀q,q≠k->g q=f q):OS a n c 1 (full.set k (.int .i64 (g k))) ((tab g n).flatMap I1):=by
 have h:=OS.over O (fun _=>rfl) (Cd hk) (g k);rw[Ak7 h1,qcl]at h;exact h
theorem Aia(n:Nat):(tab (fun _=>0) n).flatMap I1=(List.replicate n [Value.int .i64 0]).flatten:=by
 unfold tab;rw[List.map_const',qez,List.flatMap_def,List.map_replicate]
theorem OS.getI{a:Option Addr}{n c:Nat}{full:List Value}{f:Nat->Int}(O:OS a n c 1 full ((tab f n).flatMap I1)){k:Nat}(hk:k<n):full[k]?=some (.int .i64 (f k)):=by
 have h1:(full.take (n*1))[k]?=full[k]? := by rw[qb0,if_pos (by omega)]
 rw[<-h1,O.pre,Yr (f:=fun x=>Value.int .i64 x),qa1,Cd hk];rfl
structure PmS where
 i:Nat
 full:List Value
def K4(rs:List Int)(os:List Du)(xs:List Int)(i k:Nat):Int := -(W1 rs os true xs i k)
theorem UL(a b p:Option Addr)(n c m e u f:Nat)(rs:List Int)(ds:List Du)(net:Bool)(xs:List Int)(w:World)(R:Rd w a 1 I1 rs)(hn:rs.length=n)(Rd':Rd w b 7 CM ds)(hm:ds.length=m)(Rp:Rd w p 1 I1 xs)(hu:xs.length=u)(hn2:n<=1000000:=by omega)(hm2:m<=1000000:=by omega)(hu2:u<=1000000:=by omega):
  Ret prog 21 #[.slice a n c,.slice b m e,.bool net,.slice p u f] w fun v w'=>(∃z,v=.bool z/\(z=true->PermP rs ds net xs))/\Ext [] w w':=by
 subst hn hm hu;obtain⟨w0,rfl,H⟩:=qE w;obtain⟨br,hbr⟩:=qD (DH rs ds);have hol:=Hv ds;refine A2 (fn:=f21) func21 U [.slice a rs.length c,.slice b ds.length e,.bool net,.slice p xs.length f] U (Ad (Ai U (qA (Ad (Ao U (Am qB (QO b ds.length e ds _ Rd' U hm2) U ?_))))));rintro v w F;obtain⟨ao,no,co,fo,rfl,OO,hbo⟩:=F.ex;replace H:=H.call F.ext;refine Az U (qA (Ap ?_));obtain rfl:no=(opn ds).length:=OO.numN (fun _ _=>rfl) (by decide);have RO0:Rd w ao 7 CM (opn ds):=OS.rd OO (fun y hy=>(hbo y hy).1) (fun _ _=>rfl) (by decide);have hE1:=H.ext;obtain⟨w1,rfl⟩:=qD w;clear H;have H:=Ctx.start w1 [];refine Ad (B9 (α:=Unit) 67076096 (fun _=>[(25,.bool ((!br || !decide ((opn ds).length=xs.length))))]) (fun _ w'=>Ctx w1 [] w' []) U ?_ ?_)
 .refine Ao U (Ao U (Am qB (VF a b rs.length c ds.length e rs ds _ (R.ext0 (hE1.trans H.ext)) U hn2 (Rd'.ext0 (hE1.trans H.ext)) U hm2) U ?_));rintro v w ⟨rfl,hx17⟩;replace H:=H.call hx17;rw[<-hbr];refine B1 U (Au U (AE 19 U ?_ ?_))
  .intro h1;replace h1:=Bv h1;refine Ag U (Ag U (Ag U (Ag U (Ag U (A8 U (.bool _) U (Ab ?_))))));exact⟨rfl,(),rfl,⟨qaa Value.bool (by(simp_all;done)),trivial⟩,H⟩
  .intro h2;replace h2:=Bw h2;refine Ao U (AU BT U (Ao U (AU AR U (C0 U U (AA U (.bool _) U (Ab ?_))))));exact⟨rfl,(),rfl,⟨qaa Value.bool (by(simp_all;omega)),trivial⟩,H⟩
 rintro - j25 w H;refine Av _ U ?_ ?_
 .intro h1;refine Ad (Ai U (qA (A6 (Al (AD (v:=(.bool _)) U U U ?_)))));exact⟨⟨false,rfl,fun h=>by cases h⟩,hE1.trans H.ext⟩
 .intro h1;rw[Bool.or_eq_false_iff,Bool.not_eq_false',Bool.not_eq_false',qam]at h1;have hB:Bright rs ds:=(Hg (hl:=hm2)).1 (by rw[<-hbr];exact h1.1);have hBo:=hB.open';have hlen:=h1.2;have hn16:=hB.n16;have hRf:∀{w:World},Ext [] w1 w->Rd w ao 7 CM (opn ds):=fun h=>RO0.ext0 h;have hRp:∀{w:World},Ext [] w1 w->Rd w p 1 I1 xs:=fun h=>Rp.ext0 (hE1.trans h);have hRr:∀{w:World},Ext [] w1 w->Rd w a 1 I1 rs:=fun h=>R.ext0 (hE1.trans h);refine Aq (Aa (Ad (Ao U (AU AR U (F2 AR Bt J9 Eh U U H ?_)))));rintro b28 w - H;refine Az U (qA (Ap ?_));rw[qa7]at H |-;refine Ad (Af U (qA (Ax ?_)))
  have O:OS (some ⟨b28,0,none⟩) rs.length rs.length 1 (List.replicate rs.length (Value.int .i64 0)) ((tab (K4 rs (opn ds) xs 0) rs.length).flatMap I1):=by
   have hz:tab (K4 rs (opn ds) xs 0) rs.length=tab (fun _=>0) rs.length:=Ai8 fun k _=>rfl;rw[hz,Aia,List.flatten_replicate_singleton];exact⟨(fun _ h=>by cases h;rfl),(fun h=>by cases h),by simp,qan _,by simp⟩
  refine Bn 1208925819614628637837568 (α:=PmS) (fun t=>[(11,.int .i64 (t.i:Int))]) (fun t w'=>t.i<=(opn ds).length/\Ctx w1 [] w' [(b28,Bl 2 t.full)]/\OS (some ⟨b28,0,none⟩) rs.length rs.length 1 t.full ((tab (K4 rs (opn ds) xs t.i) rs.length).flatMap I1)/\∀(j:Nat) (d:Du) (x:Int),j<t.i->(opn ds)[j]?=some d->xs[j]?=some x->0<=x/\x<=d.am) (fun t=>(opn ds).length - t.i) ⟨0,List.replicate rs.length (Value.int .i64 0)⟩ U ?_ ?_ ?_
  .exact⟨rfl,trivial⟩
  .exact⟨qaf _,H,O,fun j d x h=>absurd h (qaw _)⟩
  .clear H O;rintro⟨i,full⟩ jj w ⟨hi,H,O,hpi⟩;dsimp only at hi H O hpi;dsimp only;refine Ap (Ad (Ae U (Ao U (AU BT U (AZ U U (qA (Av _ U ?_ ?_)))))))
   .intro h3;replace h3:=AJ h3;obtain⟨d,hd⟩:=AB (l:=opn ds) (i:=i);obtain⟨x,hxv⟩:=AB (l:=xs) (i:=i);obtain⟨hmay,hfr2,hto2⟩:=hBo.due d (qac hd);have hma:=C4 hmay
    have hbnd:∀k,k<rs.length -> -9007199254740992<=K4 rs (opn ds) xs i k/\K4 rs (opn ds) xs i k<=9007199254740992:=fun k hk=>by
     have h4:=QU (rs:=rs) (net:=true) (qd7 hlen) k i (by omega) hpi;have h5:=Ol (xs:=(opn ds).map Du.am) (fun y hy=>by obtain⟨d',hd',rfl⟩:=qah.1 hy;have:=C4 (hBo.due d' hd').1;omega) i;have h6:=hBo.tot;unfold K4 W1 Ly;rw[if_pos rfl];omega
    refine Aq (Aa (Ap (Ax (Ap ?_))))
    by_cases g1:x<0
    .skip
     refine CN (fun x=>x=_) Bs U (B0 U (AY U (Bo (hRp H.drew.ext) AR Bt U U (by rfl) ?_)));refine BF Bm U (by rintro _ rfl;exact(((hRp H.drew.ext).one (f:=CQ) hxv))) ?_;refine K8 U U ?_;rw[qal g1];refine Co U (A4 U (A4 U (A4 U (A4 U (A4 U (A4 U (A4 U (A4 U (A4 U ?_)))))))));refine A4 U (Gb U (.bool _) U (BM ?_));rintro _ rfl;replace H:=H.drew;refine D4 U (Ad (Ai U (qA (A6 (Al (A5 (Al (Al (A5 (Al (AD (v:=(.bool _)) U U U ?_)))))))))));exact⟨⟨false,rfl,fun h=>by cases h⟩,hE1.trans H.ext⟩
    .skip
     refine CN (fun x=>x=_) Bs U (B0 U (AY U (Bo (hRp H.drew.ext) AR Bt U U (by rfl) ?_)));refine BF Bm U (by rintro _ rfl;exact(((hRp H.drew.ext).one (f:=CQ) hxv))) ?_;refine K8 U U ?_;rw[qay g1];refine Co U (B0 U (AY U (Bo (hRp H.drew.ext) AR Bt U U (by rfl) ?_)));refine BF Bm U (by rintro _ rfl;exact(((hRp H.drew.ext).one (f:=CQ) hxv))) ?_;refine B0 U (AY U (Bo (hRf H.drew.ext) BT BC U U (by rfl) ?_));refine A3 Dl U (BF Bm U (by rintro _ rfl;exact(((hRf H.drew.ext).fld hd rfl (j:=3) rfl))) ?_);refine K9 U U (D6 U (.bool _) U (BM ?_));rintro _ rfl;replace H:=H.drew;refine Av _ U ?_ ?_
     .intro g2;replace g2:=AJ g2;refine Ad (Ai U (qA (A6 (Al (A5 (Al (Al (A5 (Al (AD (v:=(.bool _)) U U U ?_))))))))));exact⟨⟨false,rfl,fun h=>by cases h⟩,hE1.trans H.ext⟩
     .intro g2;replace g2:=AK g2;have hxr:0<=x/\x<=d.am:=by omega
      have hst:=Yf (rs:=rs) (net:=true) hd hxv;obtain⟨id',fr',to',am',we',un',held'⟩:=d;dsimp only at hst hfr2 hto2 hma hxr;obtain⟨fn,rfl⟩:∃fn:Nat,fr'=fn:=⟨fr'.toNat,by omega⟩;obtain⟨tn,rfl⟩:∃tn:Nat,to'=tn:=⟨to'.toNat,by omega⟩;rw[qa7,qa7]at hst;have hfl:fn<rs.length:=by omega
      have htl:tn<rs.length:=by omega
      have hft:fn≠tn:=by omega
      have hbf:=hbnd fn hfl;have hbt:=hbnd tn htl;obtain⟨F0,hF0⟩:=qD (K4 rs (opn ds) xs i);have hst':∀k,K4 rs (opn ds) xs (i+1) k=F0 k - (one (tn=k) - one (fn=k))*x:=fun k=>by rw[hF0];unfold K4;rw[hst];omega
      rw[<-hF0]at O hbf hbt;have hg0:full[fn]?=some (.int .i64 (F0 fn)):=OS.getI O hfl;obtain⟨F1,hF1⟩:=qD (upd F0 fn (F0 fn+x));have hof:F1 fn=F0 fn+x:=by rw[hF1,D0]
      have hon:∀k,k≠fn->F1 k=F0 k:=fun k hk=>by rw[hF1,EM hk]
      have O1:=OS.setI O hfl hon;have hg1:(full.set fn (.int .i64 (F1 fn)))[tn]?=some (.int .i64 (F1 tn)):=OS.getI O1 htl;have hot:F1 tn=F0 tn:=hon tn (Ne.symm hft)
      have hst2:∀k,k≠tn->K4 rs (opn ds) xs (i+1) k=F1 k:=fun k hk=>by
       rw[hst',E4 (Ne.symm hk)]
       by_cases h7:fn=k
       .subst h7;rw[Fj rfl,hof];omega
       .rw[E4 h7,hon k (Ne.symm h7)];omega
      have hst3:K4 rs (opn ds) xs (i+1) tn=F1 tn - x:=by
       rw[hst',Fj rfl,E4 hft,hot];omega
      have O2:=OS.setI O1 htl hst2;have hlf:full.length=rs.length:=by have:=O.len;omega
      refine Aq (Aa (C1 [([0,1,2,3,4,5,6,7,8,9,10,11,12,13],14)] (fun z=>Ext [] w1 z/\z.heap[b28]?=some (Bl 2 full)) [14] Bs (⟨H.drew.ext,H.drew.get at0⟩) ?_));refine AO U U (B4 U (B4 U (Bg U (C5 (hRf (Ext.refl [] w1)) BT BC U U (by rfl) ?_))));refine A1 Dk U (B5 B6 U (fun _ hx=>(((hRf hx.1).fld hd rfl (j:=1) rfl).trans (show some _=some (Value.int .i64 (fn:Int))from rfl))) ?_);refine AV AR Bt U U ?_;refine B5 Bm U (fun _ hx=>((An hx.2 (0+fn*1)).trans (by rw[qa2,qcl];exact hg0))) ?_;refine B4 U (Bg U (C5 (hRp (Ext.refl [] w1)) AR Bt U U (by rfl) ?_));refine B5 Bm U (fun _ hx=>((hRp hx.1).one (f:=CQ) hxv)) (E6 U U ?_);refine AV AR Bt U U (Bb ?_);replace H:=H.drew
      refine Cz (.int .i64 (F1 fn)) Bt U (qaa (Value.int .i64) hof.symm) U H at0 (show 0+fn*1<full.length by omega) ?_;rintro w H;refine Ab (BH U (BK ?_));replace H:Ctx w1 [] w [(b28,Bl 2 (full.set fn (.int .i64 (F1 fn))))]:=by rw[show 0+(fn:Int).toNat*1=fn by simp]at H;exact H
      obtain⟨full1,hfull1⟩:=qD (full.set fn (.int .i64 (F1 fn)));have hl1:full1.length=full.length:=by rw[hfull1,qb4]
      rw[<-hfull1]at H hg1 O1 O2;refine ET [([0,1,2,3,4,5,6,7,8,9,10,11,12,13],14)] (fun z=>Ext [] w1 z/\z.heap[b28]?=some (Bl 2 full1)) [14] Bs (⟨H.drew.ext,H.drew.get at0⟩) ?_;refine AO U U (B4 U (B4 U (Bg U (C5 (hRf (Ext.refl [] w1)) BT BC U U (by rfl) ?_))));refine A1 D7 U (B5 B6 U (fun _ hx=>(((hRf hx.1).fld hd rfl (j:=2) rfl).trans (show some _=some (Value.int .i64 (tn:Int))from rfl))) ?_);refine AV AR Bt U U ?_;refine B5 Bm U (fun _ hx=>((An hx.2 (0+tn*1)).trans (by rw[qa2,qcl];exact hg1))) ?_;refine B4 U (Bg U (C5 (hRp (Ext.refl [] w1)) AR Bt U U (by rfl) ?_));refine B5 Bm U (fun _ hx=>((hRp hx.1).one (f:=CQ) hxv)) (EO U U ?_);refine AV AR Bt U U (Bb ?_);replace H:=H.drew
      refine Cz (.int .i64 (K4 rs (opn ds) xs (i+1) tn)) Bt U (qaa (Value.int .i64) hst3.symm) U H at0 (show 0+tn*1<full1.length by omega) ?_;rintro w H;refine Ab (BH U (BK (A7 (Aa (Ay (Ae U (Aw U U ?_)))))));refine Af U (qA ?_);replace H:Ctx w1 [] w [(b28,Bl 2 (full1.set tn (.int .i64 (K4 rs (opn ds) xs (i+1) tn))))]:=by rw[show 0+(tn:Int).toNat*1=tn by simp]at H;exact H
      refine⟨⟨i+1,_⟩,rfl,⟨rfl,trivial⟩,⟨by dsimp only;omega,H,O2,fun k d' x' hk hd' hx'=>?_⟩,by dsimp only;omega⟩
      rcases qap k i with h7|h7
      .exact hpi k d' x' h7 hd' hx'
      .obtain rfl:k=i:=by dsimp only at hk;omega
       rw[hd]at hd';rw[hxv]at hx';cases hd';cases hx';exact hxr
   .intro h3;replace h3:=AK h3;obtain rfl:i=(opn ds).length:=by omega
    have hpay:PayIn (opn ds) xs:=⟨hlen,fun k d x hd hx=>hpi k d x (Cb hd) hd hx⟩;have RL:Rd w (some ⟨b28,0,none⟩) 1 I1 (tab (K4 rs (opn ds) xs (opn ds).length) rs.length):=OS.rd (t:=2) O (fun y hy=>H.blk y hy) (fun _ _=>rfl) (by decide);have hE2:=hE1.trans H.ext;have hRr2:Rd w a 1 I1 rs:=hRr H.ext;clear H;obtain⟨w2,rfl,H⟩:=qE w;refine Be (Aj (Aj (AH (Aa (Ap (Ad (Af U (qA (Ax (Bn 40564817998377521233265327870208 (α:=Nat) (fun i=>[(12,.int .i64 (i:Int))]) (fun i w'=>(i<=rs.length/\∀k,k<i->K4 rs (opn ds) xs (opn ds).length k<=rs.getD k 0/\(net=true->K4 rs (opn ds) xs (opn ds).length k=0))/\Ctx w2 [] w' []) (fun i=>rs.length - i) 0 U ?_ ?_ ?_))))))))))
    .exact⟨rfl,trivial⟩
    .exact⟨⟨qaf _,fun k h=>absurd h (qaw _)⟩,H⟩
    .clear H;rintro q j12 w ⟨⟨hq,hok⟩,H⟩;refine Ap (Ad (Ae U (Ao U (AU AR U (AZ U U (qA (Av _ U ?_ ?_)))))))
     .intro h4;replace h4:=AJ h4;have hql:q<rs.length:=by omega
      obtain⟨y,hy⟩:=AB (l:=rs) (i:=q) (h:=hql);obtain⟨o,ho⟩:=qD (K4 rs (opn ds) xs (opn ds).length q);have hyq:(tab (K4 rs (opn ds) xs (opn ds).length) rs.length)[q]?=some o:=by rw[ho];exact Cd hql
      refine Aq (Aa (Ap (Ax ?_)))
      by_cases g1:o>y
      .skip
       refine CN (fun x=>x=_) Bs U (B0 U (AY U (Bd AR Bt U U ?_)));refine BF Bm U (by rintro _ rfl;exact(((RL.ext0 H.drew.ext).one (f:=CQ) hyq))) ?_;refine B0 U (AY U (Bo (hRr2.ext0 H.drew.ext) AR Bt U U (by rfl) ?_));refine BF Bm U (by rintro _ rfl;exact(((hRr2.ext0 H.drew.ext).one (f:=CQ) hy))) ?_;refine K9 U U ?_;rw[qal g1];refine Co U (A4 U (A4 U (A4 U (A4 U (A4 U (A4 U (A4 U (A4 U (Gb U (.bool _) U ?_)))))))));refine BM ?_;rintro _ rfl;replace H:=H.drew;refine D4 U (Ad (Ai U (qA (A6 (A5 (Al (Al (A5 (Al (AD (v:=(.bool _)) U U U ?_))))))))));exact⟨⟨false,rfl,fun h=>by cases h⟩,hE2.trans H.ext⟩
      .skip
       rcases net with _|_
       .skip
        refine CN (fun x=>x=_) Bs U (B0 U (AY U (Bd AR Bt U U ?_)));refine BF Bm U (by rintro _ rfl;exact(((RL.ext0 H.drew.ext).one (f:=CQ) hyq))) ?_;refine B0 U (AY U (Bo (hRr2.ext0 H.drew.ext) AR Bt U U (by rfl) ?_));refine BF Bm U (by rintro _ rfl;exact(((hRr2.ext0 H.drew.ext).one (f:=CQ) hy))) ?_;refine K9 U U ?_;rw[qay g1];refine Co U (Co U (Co U (A4 U (A4 U (A4 U (A4 U (A4 U (D6 U (.bool _) U (D6 U (.bool _) U ?_)))))))));refine BM ?_;rintro _ rfl;replace H:=H.drew;refine D5 U (Aq (A7 (Aa (Ay (Ae U (Aw U U ?_))))));refine Af U (qA ?_);refine⟨q+1,rfl,⟨rfl,trivial⟩,⟨⟨by omega,fun k hk=>?_⟩,H⟩,by omega⟩
        rcases qd8.1 hk with h|rfl
        .exact hok k h
        .rw[<-ho,Br hy];exact⟨by omega,fun h=>by cases h⟩
       .skip
        refine CN (fun x=>x=_) Bs U (B0 U (AY U (Bd AR Bt U U ?_)));refine BF Bm U (by rintro _ rfl;exact(((RL.ext0 H.drew.ext).one (f:=CQ) hyq))) ?_;refine B0 U (AY U (Bo (hRr2.ext0 H.drew.ext) AR Bt U U (by rfl) ?_));refine BF Bm U (by rintro _ rfl;exact(((hRr2.ext0 H.drew.ext).one (f:=CQ) hy))) ?_;refine K9 U U ?_;rw[qay g1];refine Co U (Co U (Co U (B0 U (AY U (Bd AR Bt U U ?_)))));refine BF Bm U (by rintro _ rfl;exact(((RL.ext0 H.drew.ext).one (f:=CQ) hyq))) ?_;refine Gi U U (Gb U (.bool _) U (D6 U (.bool _) U (BM ?_)));rintro _ rfl;replace H:=H.drew;refine Av _ U ?_ ?_
        .intro g3;replace g3:=CC g3;refine Ad (Ai U (qA (A6 (A5 (Al (Al (A5 (Al (AD (v:=(.bool _)) U U U ?_)))))))));exact⟨⟨false,rfl,fun h=>by cases h⟩,hE2.trans H.ext⟩
        .intro g3;replace g3:=CD g3;refine Aq (A7 (Aa (Ay (Ae U (Aw U U ?_)))));refine Af U (qA ?_);refine⟨q+1,rfl,⟨rfl,trivial⟩,⟨⟨by omega,fun k hk=>?_⟩,H⟩,by omega⟩
         rcases qd8.1 hk with h|rfl
         .exact hok k h
         .rw[<-ho,Br hy];exact⟨by omega,fun h=>by omega⟩
     .intro h4;replace h4:=AK h4;obtain rfl:q=rs.length:=by omega
      refine Be (Aj (Aj (AH (Aa (Ad (Ai U (qA (A6 (AD (v:=(.bool _)) U U U ?_)))))))));refine⟨⟨true,rfl,fun _=>⟨hB,hpay,fun k hk=>?_⟩⟩,hE2.trans H.ext⟩;have h7:=hok k hk;have hos:∀d∈opn ds,0<=d.fr/\0<=d.to:=fun d hdm=>by have:=C4 (hBo.due d hdm).1;omega
      have h8:byK rs (opn ds) net xs k=byK rs (opn ds) true xs k:=by rw[Jl hos (qd7 hlen),Jl hos (qd7 hlen)]
      have h9:K4 rs (opn ds) xs (opn ds).length k = -(0+byK rs (opn ds) true xs k):=rfl;unfold Mo Ly;rw[h8]
      cases net with
      |false=>rw[if_neg (by decide)];exact⟨by omega,fun h=>by cases h⟩
      |true =>
       have:=h7.2 rfl;rw[if_pos rfl];exact⟨by omega,fun _=>by omega⟩
theorem W3(b p:Option Addr)(m e u f:Nat)(ds:List Du)(xs:List Int)(w:World)(Rd':Rd w b 7 CM ds)(hm:ds.length=m)(Rp:Rd w p 1 I1 xs)(hu:xs.length=u)(hp:PayIn (opn ds) xs)(hmay:∀d∈opn ds,mayD d=true)(htot:Ch ((opn ds).map Du.am)<=4503599627370496)(hm2:m<=1000000:=by omega):
  Ret prog 22 #[.slice b m e,.slice p u f] w fun v w'=>v=.int .i64 (Er (opn ds) xs (opn ds).length)/\Ext [] w w':=by
 subst hm hu;obtain⟨w0,rfl,H⟩:=qE w;have hol:=Hv ds;refine A2 (fn:=f22) func22 U [.slice b ds.length e,.slice p xs.length f] U (Ad (Af U (qA (Ad (Ao U (Am qB (QO b ds.length e ds _ Rd' U hm2) U ?_))))));rintro v w F;obtain⟨ao,no,co,fo,rfl,OO,hbo⟩:=F.ex;replace H:=H.call F.ext;refine Az U (qA ?_);obtain rfl:no=(opn ds).length:=OO.numN (fun _ _=>rfl) (by decide);have RO0:Rd w ao 7 CM (opn ds):=OS.rd OO (fun y hy=>(hbo y hy).1) (fun _ _=>rfl) (by decide);have hE1:=H.ext;obtain⟨w1,rfl⟩:=qD w;clear H;have H:=Ctx.start w1 [];have hlen:=hp.1;have hRf:∀{w:World},Ext [] w1 w->Rd w ao 7 CM (opn ds):=fun h=>RO0.ext0 h;have hRp:∀{w:World},Ext [] w1 w->Rd w p 1 I1 xs:=fun h=>Rp.ext0 (hE1.trans h)
 refine Ad (Af U (qA (Ap (Ad (Af U (qA (Ax (Bn 34359737536 (α:=Nat) (fun i=>[(7,.int .i64 (i:Int)),(6,.int .i64 (Er (opn ds) xs i))]) (fun i w'=>i<=(opn ds).length/\Ctx w1 [] w' []) (fun i=>(opn ds).length - i) 0 U ?_ ?_ ?_))))))))
 .exact⟨rfl,rfl,trivial⟩
 .exact⟨qaf _,H⟩
 .clear H;rintro i j w ⟨hi,H⟩;refine Ap (Ad (B9 (α:=Unit) 2096128 (fun _=>[(20,.bool (decide (i<(opn ds).length)))]) (fun _ w'=>Ctx w1 [] w' []) U ?_ ?_))
  .refine Ae U (Ao U (AU BT U (AZ U U (Au U (AE 14 U ?_ ?_)))))
   .intro h1;replace h1:=AJ h1;refine Ao U (AU BT U (Ao U (AU AR U (Cj U U (A8 U (.bool _) U (Ab ?_))))));exact⟨rfl,(),rfl,⟨qaa Value.bool (by(simp_all;done)),trivial⟩,H⟩
   .intro h2;replace h2:=AK h2;refine Ag U (Ag U (Ag U (Ag U (Ag U (AA U (.bool _) U (Ab ?_))))));exact⟨rfl,(),rfl,⟨qaa Value.bool (by(simp_all;done)),trivial⟩,H⟩
  rintro - j20 w H;refine Av _ U ?_ ?_
  .intro h3;replace h3:=qbd h3;obtain⟨d,hd⟩:=AB (l:=opn ds) (i:=i);obtain⟨x,hxv⟩:=AB (l:=xs) (i:=i);have hma:=C4 (hmay d (qac hd));have hxr:=hp.2 i d x hd hxv;have hwe:∀d∈opn ds,0<=d.we/\d.we<=1000:=fun d hd=>by have:=C4 (hmay d hd);omega
   have hps:∀k,Ch (((opn ds).map Du.am).take k)<=4503599627370496:=fun k=>qbj (Ol (fun y hy=>by obtain⟨d',hd',rfl⟩:=qah.1 hy;have:=C4 (hmay d' hd');omega) k) htot;have hw0:=IM hp hwe i hi;have hw1:=IM hp hwe (i+1) (by omega);have hp0:=hps i;have hp1:=hps (i+1);have hstep:=Jm hd hxv;have hm1:0<=d.we*x:=qc7 (by omega) hxr.1;have hm2:d.we*x<=4503599627370496000:=by omega
   refine Aq (Aa (Ap (Ax (TV (fun x=>x=_) Bs U ?_))));refine AY U (B0 U (AY U (Bo (hRf H.drew.ext) BT BC U U (by rfl) ?_)));refine A3 Hs U (BF Bm U (by rintro _ rfl;exact(((hRf H.drew.ext).fld hd rfl (j:=4) rfl))) ?_);refine B0 U (AY U (Bo (hRp H.drew.ext) AR Bt U U (by rfl) ?_));refine BF Bm U (by rintro _ rfl;exact(((hRp H.drew.ext).one (f:=CQ) hxv))) ?_;refine SG U U U (CX U U ?_);refine C6 U (BM ?_);rintro _ rfl;replace H:=H.drew;refine A7 (Aa (Ay (Ae U (Aw U U ?_))));refine Af U (qA ?_);exact⟨i+1,rfl,⟨rfl,qaa (Value.int .i64) hstep.symm,trivial⟩,⟨by omega,H⟩,by omega⟩
  .intro h3;replace h3:=qbk h3;obtain rfl:i=(opn ds).length:=by omega
   refine Be (Aj (Aj (AH (Aa (Ad (Ae U (Af U (qA (A6 (AD (v:=(.int _ _)) U U U ?_))))))))));exact⟨rfl,hE1.trans H.ext⟩
theorem Ak8{s:Ld}(z:StZ){n:Nat}{r:Rnd}{q:RSl}(w:World)(Z:StAt w s z)(hn:s.rn.length=n+1)(h4:n<=4)(hx:(s.rn.zip z.qs)[n]?=some (r,q)) :
  Ret prog 23 #[.agg (stC s z).toArray] w fun v w'=>v=.agg (BD r q).toArray/\Ext [] w w':=by
 obtain⟨w0,rfl,H⟩:=qE w;have hzl:(s.rn.zip z.qs).length=s.rn.length:=by rw[qcx,Z.n,qd4]
 refine A2 (fn:=f23) func23 U [.agg (stC s z).toArray] U (Ad (Bu (stC s z) (.agg _) U U H ?_));rintro b1 w - H;refine AX GA H ?_;rintro b2 w - H;refine qA (Ap (Ad (Ah Na U (AG Vo U H at1 U (AU KZ U (Cj U U (qA (Av _ U ?_ ?_))))))))
 .intro h1;replace h1:=AJ h1;omega
 .intro h1;replace h1:=AK h1;refine Aq (Aa (Ad (Ah Na U (AG Vo U H at1 U (Ah Na U (AG Vo U H at1 U (AU KZ U (B3 U U ?_))))))));rw[show((s.rn.length:Nat):Int) - 1=(n:Int)by omega];refine AM (Z.R.ext0 H.ext) KZ Dv U U (by omega) (Ca _ Gm Dv U U (((Z.R.ext0 H.ext).row hx U)) ?_);refine Bi Dv U U U (by simp[AS]) H at0 U ?_;rintro w H;refine qA (A6 (Kb U U U Gm Dv H at0 U ?_));exact⟨rfl,H.ext⟩
def W4(s:Ld)(r:Rnd):Rnd:={ r with no:=s.no+1,day:=s.day }
theorem Ab9{s:Ld}{r:Rnd}(hok:(Fu s r).Ok):∃n,(Fu s r).rn.length=n+1/\n<=4/\(Fu s r).rn[n]?=some (W4 s r)/\Po (Fu s r) (s.no+1)=some (W4 s r):=by
 have h1:(Fu s r).rn.getLast? = some (W4 s r):=Abh s.rn (W4 s r);rw[List.getLast?_eq_getElem?]at h1;have h2:=Cb h1;have h4:=hok.kept.1;refine⟨(Fu s r).rn.length - 1,by omega,by omega,h1,?_⟩;unfold Po;have h3:(Fu s r).no=s.no+1:=rfl;rw[h3,if_pos ⟨by omega,by omega⟩,show(s.no+1 - (s.no+1 - ((Fu s r).rn.length:Nat)+1)).toNat=(Fu s r).rn.length - 1 by omega];exact h1
theorem MG{s s':Ld}{n b:Int}{p:Rp}{r:Rnd}(h:CI s (ak 15 0 b 0 0 0 n) s' p)(hr:Po s n=some r):s'=s/\p=GR r b:=by
 obtain⟨h1,h2⟩:=DS h (hk:=show ¬((15:Int)=10\/(15:Int)=11)by decide);refine⟨h1,h2.trans ?_⟩;show(match Po s n with|none=>_|some r=>_)=_;rw[hr]
theorem Yg{r:Rnd}(hN:0<=r.N):GR r (-1)=⟨0,[r.day,Mp r.cmp,r.N,r.es.length,r.ids.length]⟩:=by
 unfold GR;rw[if_neg (by omega),if_pos rfl]
theorem Yh{r:Rnd}{b:Nat}{e:Ed}{x:Int}(he:r.es[b]?=some e)(hx:r.fl[b]?=some x)(hN:0<=r.N):∃y,GR r (b:Int)=⟨0,[e.f,e.t,e.cap,e.cost,x,y]⟩:=by
 have:=Cb he;unfold GR;(iterate 3 rw[if_neg (by omega)]);rw[qa7,Br he,Br hx];exact⟨_,rfl⟩
theorem Aca{r:Rnd}{b:Nat}{y:Int}(hy:r.pot[b]?=some y)(hb:(b:Int)<r.N):GR r ((r.es.length:Int)+b)=⟨0,[y]⟩:=by
 unfold GR;rw[if_neg (by omega),if_neg (by omega),if_pos (by omega),show((r.es.length:Int)+b - r.es.length).toNat=b by omega,Br hy]
theorem Pq(a:Int):(!decide (a=a))=false:=by simp
structure BsZ where
 i:Nat
 m:Lm
 s:Ld
 T:Nat->Prop
structure AuZ where
 i:Nat
 m:Lm
 T:Nat->Prop
structure RmZ where
 i:Nat
 a:Option Addr
 c:Nat
 f:List Value
theorem Led.dropE{bl:Nat}{w0 w:World}{E B:List (Nat × Obj)}{m:Lm}{s:Ld}{T:Nat->Prop}(L:Led bl w0 w (E++B) m s T):Led bl w0 w B m s T :=
 ⟨by have h:=L.H;rw[qa9]at h;exact h.right,L.I,L.e⟩
theorem Sj(a p:Option Addr)(c u:Nat)(ks:List Ak)(net:Bool)(xs:List Int)(w:World)(R:Rd w a 7 Ci ks)(hin:∀k∈ks,AkIn k)(Rp:Rd w p 1 I1 xs):Ret prog 4 #[.slice a ks.length c,.bool net,.slice p xs.length u] w fun v w'=>v=.bool true/\Ext [] w w':=by
 obtain⟨w0,rfl,H⟩:=qE w;refine A2 (fn:=Tryz.f4) func4 U [.slice a ks.length c,.bool net,.slice p xs.length u] U ?_;refine Ad (Ai U (qA (Ap (Ad (B9 (α:=Unit) 534773760 (fun _=>[(28,.bool ((decide ((ks.length:Int)>100) || decide ((xs.length:Int)>100))))]) (fun _ w'=>Ctx w0 [] w' []) U ?_ ?_)))))
 .refine Ao U (AU HK U (Cp U U (Au U (AE 24 U ?_ ?_))))
  .intro h1;replace h1:=AJ h1;refine Ag U (Ag U (Ag U (A8 U (.bool _) U (Ab ?_))));exact⟨rfl,(),rfl,⟨qaa Value.bool (by(rw[qad];simp only[qae,qb6,qam,qcp,false_iff,iff_false,true_iff];omega)),trivial⟩,H⟩
  .intro h2;replace h2:=AK h2;refine Ao U (AU AR U (Cp U U (AA U (.bool _) U (Ab ?_))));exact⟨rfl,(),rfl,⟨qaa Value.bool (by(rw[qad];simp only[qae,qb6,qam,qcp,false_iff,iff_false,true_iff];omega)),trivial⟩,H⟩
 rintro - j28 w H;refine Av _ U ?_ ?_
 .intro h1;refine Ad (Am qB (Rb _) U ?_);rintro v w ⟨rfl,hx29⟩;replace H:=H.call hx29;refine Ai U (qA (A6 (Al (AD (v:=(.bool _)) U U U ?_))));exact⟨rfl,H.ext⟩
 .intro h1;have h1':¬((ks.length:Int)>100\/(xs.length:Int)>100):=by simpa using h1
  have hE0:=H.ext;refine Aq (Aa (Ad (Am qB (LU _) U ?_)));rintro v w ⟨m0,rfl,H0,I0⟩;obtain⟨bl,hb0⟩:∃b,m0.bl=b:=⟨_,rfl⟩;have L:Led bl w0 w [] m0 s00 (fun x=>x∈Di m0 s00):=⟨(Ctx.back (L1:=[]) (L2:=[]) H H0).nil_app,I0,hb0⟩;rw[hb0];clear H0 I0 hb0 H;refine BE U (qA (Ap (Ad (Af U (qA (Ax (Bn 8793945538816 (α:=BsZ) (fun z=>[(8,.int .i64 (z.i:Int))]) (fun z w'=>z.i<=ks.length/\z.s.no<=z.i/\Led bl w0 w' [] z.m z.s z.T) (fun z=>ks.length - z.i) ⟨0,m0,s00,fun x=>x∈Di m0 s00⟩ U ?_ ?_ ?_)))))))
  .exact⟨rfl,trivial⟩
  .exact⟨qaf _,qav _,L⟩
  .clear L;rintro⟨i,m,s,T⟩ j w ⟨hi,hno,L⟩;dsimp only at hi hno L;dsimp only;obtain⟨w1,rfl,H⟩:=qE w;refine Ap (Ad (Ae U (Ao U (AU HK U (AZ U U (qA (Av _ U ?_ ?_)))))))
   .intro h2;replace h2:=AJ h2;obtain⟨k,hk⟩:=AB (l:=ks) (i:=i);have hkin:=hin k (qac hk);refine Aq (Aa (Ap (Ax (Ay (A9 U (Ao U (Ae U (AM (R.ext0 L.H.ext) HK Ii U U (by rfl) ?_))))))));refine Ca _ OH Ii U U (((R.ext0 L.H.ext).row hk U)) (Am qB (Ef (k:=k) L hkin) U ?_);rintro v w ⟨a1,n1,c1,f1,p,s',m',T',rfl,OP,hst,L3,g,hxD⟩;refine Ab (A7 (Aa (Ay (Ae U (Aw U U ?_)))));refine Af U (qA ?_);have hno':=UI hst;exact⟨⟨i+1,m',s',T'⟩,rfl,⟨rfl,trivial⟩,⟨by dsimp only;omega,by dsimp only;omega,L3.drop⟩,by dsimp only;omega⟩
   .intro h2;replace h2:=AK h2;have hok:=L.I.ok;have h64:=(D3 hok.du).1;have h16:=(Cr.1 hok.ac).1;have hnn:0<=s.no/\s.no<=100:=by have:=hok.kept;omega
    have hmay:∀x∈s.acs,(0<=x.ba/\x.ba<=4503599627370496)/\0<=x.re/\x.re<=4503599627370496:=fun x hx=>Fq.1 ((Cr.1 hok.ac).2.1 x hx);obtain⟨hkk,hkd⟩:=Aq8 net;refine Be (Aj (Aj (AH (Aa (Ad (A9 U (Am qB (Ft L) U ?_)))))));rintro v w ⟨hx44,z1,rfl,Z1,O1⟩;replace O1:StOff s z1 T:=O1.mono L.I.low;replace L:=L.call hx44;clear H;obtain⟨w2,rfl,H⟩:=qE w;refine AX KC H ?_;rintro b9 w - H;refine Bi FC U U U (by exact(by simp[AS])) H at0 U ?_;rintro w H;refine qA (Ad (Az U (qA (Ap (Ad (Af U (qA (Ax ?_))))))));clear hi hno;refine Bn 590295775174333565952 (α:=RmZ) (fun z=>[(10,.slice z.a z.i z.c),(11,.int .i64 (z.i:Int))]) (fun z w'=>z.i<=s.acs.length/\Ctx w2 [] w' ([(b9,Bl 32 (stC s z1))]++ent z.a 2 z.f)/\OS z.a z.i z.c 1 z.f (((s.acs.take z.i).map C9).flatMap I1)) (fun z=>s.acs.length - z.i) ⟨0,none,0,[]⟩ U ?_ ?_ ?_
    .exact⟨rfl,rfl,trivial⟩
    .exact⟨qaf _,H,OS.nil⟩
    .clear H;rintro⟨i,aR,cR,fR⟩ j2 w ⟨hi,H,O⟩;dsimp only at hi H O;dsimp only;refine Ap (Ad (Ae U (Ah El U (AG E3 U H at0 U (AU Dz U (AZ U U (qA (Av _ U ?_ ?_))))))))
     .intro h3;replace h3:=AJ h3;obtain⟨x,hx⟩:=AB (l:=s.acs) (i:=i);have hxm:=hmay x (qac hx);have hx':=hx;refine Aq (Aa (Ap (Ax (ET [([0,1,2,3,4,5,6,7,8,9,10,11,12,13,14],15),([],16),([],17)] (fun z=>Ext [] w2 z/\z.heap[b9]?=some (Bl 32 (stC s z1))) [] Bs (⟨H.drew.ext,H.drew.get at0⟩) ?_))));refine AO U U (B4 U (A1 El U (B5 E3 U (fun _ hx=>(by rw[An hx.2];rfl)) ?_)));refine Bg U (C5 Z1.A Dz DP U U (by rfl) ?_);refine A1 Ex U (B5 Bm U (fun _ hx=>((Z1.A.ext0 hx.1).fld hx' rfl (j:=0) rfl)) ?_);refine A1 El U (B5 E3 U (fun _ hx=>(by rw[An hx.2];rfl)) ?_);refine Bg U (C5 Z1.A Dz DP U U (by rfl) ?_);refine A1 Hn U (B5 Bm U (fun _ hx=>((Z1.A.ext0 hx.1).fld hx' rfl (j:=1) rfl)) ?_);refine EO U U (Amp U U U ?_);refine Bb ?_
      replace H:=H.drew;refine Cs _ (.int _ _) AR Bt Eh U U U U H ?_;rintro b67 w - H;refine Ab (BR (⟨H.ext,H.get at1⟩) (AO U U ?_));refine Bb (C3 (L:=[_]) AR AR Bt J9 Eh U U U H O U (by simp[AS]) ?_);rintro a' c' f' w H O;rw[show max (x.ba - x.re) 0=C9 x from Int.max_comm _ _]at O;refine Ab (BR (⟨H.ext,H.get at0⟩) (AO U U ?_));refine Bb (Az U (Ab (BR (⟨H.ext,H.get at0⟩) (BK (A7 (Aa (Ay (Ae U (Aw U U ?_)))))))));refine Af U (qA ?_);refine⟨⟨i+1,a',c',f'⟩,rfl,⟨rfl,rfl,trivial⟩,⟨by dsimp only;omega,H,?_⟩,by dsimp only;omega⟩;dsimp only;rw[qbt,hx',qax,qb1];exact O
     .intro h3;replace h3:=AK h3;obtain rfl:i=s.acs.length:=by omega
      rw[qbf]at O;refine Be (Aj (Aj (AH (Aa (Ad (Af U (qA (Ap (Ad (Au U (qA ?_)))))))))));clear hi;obtain⟨w3,rfl⟩:=qD w;refine FO 4096 (α:=Unit) (fun _=>[(12,.int .u8 (kdN net))]) (fun _ w'=>w'=w3) U ?_ ?_
      .skip
       refine Av _ U ?_ ?_
       .intro h3;refine Ay (Af U (qA ?_));exact⟨(),rfl,⟨by rw[show kdN net=11 from by rw[h3];rfl];rfl,trivial⟩,rfl⟩
       .intro h3;refine Aq (Aa ?_);exact⟨(),rfl,⟨by rw[show kdN net=10 from by rw[h3];rfl];rfl,trivial⟩,rfl⟩
      .rintro - j12 w rfl;refine Ad (A9 U (Ae U (Bz (Ci (ak (kdN net) 0 0 0 0 0 0)) FA EW ?_)))
       replace L:=L.next H
       replace Z1:=Z1.ext0 H.ext;refine Am qB (Ef (k:=ak (kdN net) 0 0 0 0 0 0) L (Aq9 net)) U ?_;have hown:=L.I.own;clear L H;rintro v w ⟨a1,n1,c1,f1,p1,s1,m1,T1,rfl,OP1,hst1,L,g1,hx1⟩;replace Z1:=Z1.ext hx1 (O1.mono hown);obtain⟨r,P1,rfl,rfl⟩:=Rc hok hst1 hkk;obtain rfl:n1=3:=OP1.num;obtain⟨w4,rfl,H⟩:=qE w;refine AX Gq H ?_;rintro b13 w - H;refine Bi Eu U U U (by exact(by simp[AS])) H at0 U ?_;rintro w H;refine qA (Ap ?_);have P1':PlanR s.acs s.ds net r:=by rw[<-hkd];exact P1
       obtain⟨hC,hok1⟩:=MC hok P1 (by omega);have F:=EV hok.ac hok.du hC;have hb9:=L.H.blk (b9,Bl 32 (stC s z1)) (qao _ (by simp));have RR:Rd w4 aR 1 I1 (s.acs.map C9):=OS.rd (t:=2) O (fun x hx=>L.H.blk x (qao _ (by simp[hx]))) (fun _ _=>rfl) (by decide);have R1:Rd w4 a1 1 I1 [s.no+1,Er (opn s.ds) r.fl (opn s.ds).length,Ij (r.fl.take (opn s.ds).length) (opn s.ds).length]:=OP1.rd1 (t:=2) fun x hx=>L.H.blk x (qao _ (by simp[hx]));have Rp4:=Rp.ext0 L.H.ext;replace L:=L.drop.call H.ext;replace RR:=RR.ext0 H.ext;replace R1:=R1.ext0 H.ext;replace Rp4:=Rp4.ext0 H.ext;replace Z1:=Z1.ext0 H.ext;replace hb9:=H.ext.to hb9 (by simp);have hb13:=H.get at0;clear H;obtain⟨w5,rfl,H⟩:=qE w;have hbest:=fun Q=>(Zi P1').best (xs:=xs) Q;refine Ad (Ah Hm U (Ba KX U ((by rw[An (H.ext.to hb13 (by simp))];rfl)) ?_))
       refine C0 U U ?_;rw[Pq];refine Au U (Ah EQ U (Ba Cc U ((by rw[An (H.ext.to hb13 (by simp))];rfl)) ?_));refine AU AR U (C0 U U ?_);rw[show(!decide (((3:Nat):Int)=3))=false by decide];refine AA U (.bool _) U (qA (D5 U (Aq (Aa (Ap (Eo 1267640928821672484463305555968 (α:=Unit) (fun _=>[(99,.bool false)]) (fun _ w'=>Ext [] w5 w') U ?_ ?_))))))
       .skip
        refine ET [([0,1,2,3,4],5),([6,7,8,9,11,12,13,14],10),([15],16)] (fun z=>Ext [] w5 z) [] Bs (H.drew.ext) (AO U U ?_);refine B4 U (A1 EI U (B5 Gj U (fun _ hx=>(by rw[An (hx.to hb9 (by simp))];rfl)) ?_));refine MR U U (B4 U (Bb ?_));replace H:=H.drew;refine Am qB (UL aR z1.aD p _ cR _ z1.cD _ u (s.acs.map C9) s.ds net xs _ (RR.ext0 H.ext) (qak ..) (Z1.D.ext0 H.ext) U (Rp4.ext0 H.ext) U) U ?_;rintro v w ⟨⟨z,rfl,hz⟩,hx88⟩;replace H:=H.call hx88;refine Ab (BR (H.ext) (AO U U ?_));refine MR U U (Qb 89 U ?_ ?_)
        .intro h4;have hp:=hz h4;have hBo:=hp.B.open';have hb7:=hbest hp;refine A1 EI U (B5 Gj U (fun _ hx=>(by rw[An (hx.to hb9 (by simp))];rfl)) ?_);refine B4 U (A1 EQ U (B5 Cc U (fun _ hx=>(by rw[An (hx.to hb13 (by simp))];rfl)) ?_));refine C5 R1 AR Bt U U (by rfl) ?_;refine B5 Bm U (fun _ hx=>((R1.ext0 hx).one (f:=CQ) (i:=1) rfl)) (Bb (Am qB (W3 z1.aD p _ z1.cD _ u s.ds xs _ (Z1.D.ext0 H.ext) U (Rp4.ext0 H.ext) U hp.pay (fun d hd=>(hBo.due d hd).1) hBo.tot) U ?_));rintro v w ⟨rfl,hx93⟩;replace H:=H.call hx93;refine Ab (BR (H.ext) (AO U U ?_));refine Acn U U U ?_;rw[qay (Int.not_lt.2 hb7)];refine Bb (A8 U (.bool _) U (Ab (BR (H.ext) (BK (Aa ?_)))));exact⟨(),rfl,⟨rfl,trivial⟩,H.ext⟩
        .intro h4;refine F3 U (F3 U (F3 U (F3 U (F3 U (F3 U (F3 U (Bb (Ag U (Ab (BR (H.ext) ?_))))))))));refine AO U U (F3 U (Bb (AA U (.bool _) U (Ab (BR (H.ext) (BK (Aa ?_)))))));exact⟨(),rfl,⟨rfl,trivial⟩,H.ext⟩
       .rintro - j20 w hx20;refine Av _ U ?_ ?_
        .intro g5;cases g5
        .intro g5;obtain⟨n4,hkn,hk4,hkr,hkg⟩:=Ab9 hok1;replace L:=L.call hx20;replace R1:=R1.ext0 hx20;replace hb13:=hx20.to hb13 (by simp);clear H;obtain⟨w6,rfl,H⟩:=qE w;refine Aq (Aa (Ad (A9 U (Am qB (Ft L) U ?_))));rintro v w ⟨hx101,z2,rfl,Z2,O2⟩;replace O2:=O2.mono L.I.low;replace L:=L.call hx101;replace R1:=R1.ext0 hx101;replace hb13:=hx101.to hb13 (by simp);clear H;obtain⟨w7,rfl,H⟩:=qE w;obtain⟨r',hr'⟩:=qD (W4 s r);rw[<-hr']at hkr hkg;obtain⟨q,hzq⟩:∃q,((Fu s r).rn.zip z2.qs)[n4]?=some (r',q):=(by obtain⟨q,hq⟩:=AB (l:=z2.qs) (i:=n4) (h:=by rw[Z2.n];omega);exact⟨q,by rw[qc8];exact⟨hkr,hq⟩⟩);refine Am qB (Ak8 z2 _ Z2 hkn hk4 hzq) U ?_;rintro v w ⟨rfl,hx102⟩;replace H:=H.call hx102;refine AX GA H ?_;rintro b14 w - H
         refine Bi Dv U U U (by exact(by simp[AS])) H at0 U ?_;rintro w H;refine qA (Ap ?_)
         replace L:=L.drop.next H
         have hb14:w.heap[b14]?=some (Bl 55 (BD r' q)):=H.get at0;replace R1:=R1.ext0 H.ext;replace hb13:=H.ext.to hb13 (by simp);replace Z2:=Z2.ext0 H.ext;clear H;obtain⟨w8,rfl,H⟩:=qE w;have RA:RAt w8 r' q:=Z2.K _ (qac hzq);have hno':r'.no=s.no+1:=by rw[hr'];rfl
         have hmay':=hok1.may r' (qac hkr);have hB:=PD hmay'
         have hchk:Fk r'.N r'.es r'.fl r'.pot=true:=by
          unfold Oo at hmay';rw[qae]at hmay';exact hmay'.1
         obtain⟨hfl',hpN⟩:r'.fl.length=r'.es.length/\(r'.pot.length:Int)=r'.N:=by
          have h0:=hchk;unfold Fk FQ at h0;simp only[qae,qam]at h0;exact⟨(Cw (ER h0.2.1).1).1,h0.2.2.1.2⟩
         have hno14:∀{z:World},Ext [] w8 z->z.cell? ⟨b14,0+0,none⟩=some (.int .u64 (s.no+1)):=fun hx=>by
          rw[An (hx.to hb14 (by simp)),<-hno'];rfl
         refine C1 [([0,1,2,3],4),([5,6,7,8,9,10,11,12,13,14],15)] (fun z=>Ext [] w8 z) [] Bs (H.drew.ext) (AO U U ?_);refine A1 Ey U (GX _ CG C2 U U (fun _ hx=>(CS (b:=b14) (t:=55) (l:=BD r' q) (hx.to hb14 (by simp)) 4 [.int .i64 r'.N,.slice q.aE r'.es.length q.cE] rfl)) ?_);refine A1 Gc U (GX _ SV Nd U U (fun _ hx=>(CS (b:=b14) (t:=55) (l:=BD r' q) (hx.to hb14 (by simp)) 6 [.slice q.aF r'.fl.length q.cF,.slice q.aP r'.pot.length q.cP] rfl)) ?_);refine Bb ?_;replace H:=H.drew;refine Am qB (VN r'.N q.aE q.aF q.aP _ q.cE _ q.cF _ q.cP r'.es r'.fl r'.pot _ (RA.E.ext0 H.ext) U hB.es (RA.F.ext0 H.ext) U hB.fl (RA.P.ext0 H.ext) U hB.pot) U ?_;rintro v w ⟨rfl,hx107⟩;rw[hchk];replace H:=H.call hx107;refine Ab (BR (H.ext) (AO U U ?_));refine t_not U U (MR U U (A1 Io U (B5 BL U (fun _ hx=>(hno14 hx)) ?_)));refine WP U U FD Xs ?_
         refine A1 EQ U (B5 Cc U (fun _ hx=>(by rw[An (hx.to hb13 (by simp))];rfl)) ?_);refine C5 R1 AR Bt U U (by rfl) ?_;refine B5 Bm U (fun _ hx=>((R1.ext0 hx).one (f:=CQ) (i:=0) rfl)) (t_neq U U U ?_);rw[Pq];refine Bb (AA U (.bool _) U (Ab (BR (H.ext) (BK (D5 U (Aq (Aa ?_)))))));have hN0:0<=r'.N:=by rw[<-hpN];omega
         have hin15:∀b:Int,-9223372036854775808<=b/\b<=9223372036854775807->AkIn (ak 15 0 b 0 0 0 (s.no+1)):=fun b hb=>Gw (h:=⟨by decide,by decide,hb,by decide,by decide,by decide,by omega⟩);refine Ad (A9 U (Ah Io U (Ba BL U ((hno14 H.ext)) ?_)));refine Bz (Ci (ak 15 0 (-1) 0 0 0 (s.no+1))) FA EW ?_;replace L:=L.call H.ext;replace Z2:=Z2.ext0 H.ext;refine Am qB (Ef (k:=ak 15 0 (-1) 0 0 0 (s.no+1)) L (hin15 (-1) (by decide))) U ?_;have hown:=L.I.own;clear L H;rintro v w ⟨a2,n2,c2,f2,p2,s2,m2,T2,rfl,OP2,hst2,L,g2,hx2⟩;obtain⟨rfl,rfl⟩:=MG hst2 hkg;replace O2:=O2.grows Z2 g2;replace Z2:=Z2.ext hx2 (StOff.mono (O2.mono g2.1) hown);rw[Yg hN0]at OP2 |-;obtain rfl:n2=5:=OP2.num;have R2:Rd w a2 1 I1 [r'.day,Mp r'.cmp,r'.N,r'.es.length,r'.ids.length]:=OP2.rd1 (t:=2) fun x hx=>L.H.blk x (qao _ (by simp[hx]));replace L:=L.dropE;obtain⟨w9,rfl⟩:=qD w
         have H:=Ctx.start w9 [];refine AX Gq H ?_;rintro b15 w - H;refine Bi Eu U U U (by exact(by simp[AS])) H at0 U ?_;rintro w H;refine qA (Ap ?_);replace hb14:w9.heap[b14]?=some (Bl 55 (BD r' q)):=L.H.blk (b14,Bl 55 (BD r' q)) (qao _ (by simp));clear hno14;refine CN (fun x=>x=_) Bs U (A3 Hm U (BS KX U (by rintro _ rfl;exact H.drew) at0 U ?_));refine Gi U U ?_;rw[Pq];refine Co U (A3 EQ U (BS Cc U (by rintro _ rfl;exact H.drew) at0 U ?_));refine Mf AR U (Gi U U ?_);rw[show(!decide (((5:Nat):Int)=5))=false by decide];refine D6 U (.bool _) U (Co U (A3 EQ U (BS Cc U (by rintro _ rfl;exact H.drew) at0 U ?_)));refine Bo R2 AR Bt U U (by rfl) ?_;refine BF Bm U (by rintro _ rfl;exact(((R2.ext0 H.drew.ext).one (f:=CQ) (i:=2) rfl))) ?_
         refine A3 Ey U (A3 DW U (BF B6 U (by rintro _ rfl;exact((by rw[An (H.drew.ext.to hb14 (by simp))];rfl))) ?_));refine Gi U U ?_;rw[Pq];refine D6 U (.bool _) U (Co U (A3 EQ U (BS Cc U (by rintro _ rfl;exact H.drew) at0 U ?_)));refine Bo R2 AR Bt U U (by rfl) ?_;refine BF Bm U (by rintro _ rfl;exact(((R2.ext0 H.drew.ext).one (f:=CQ) (i:=3) rfl))) ?_;refine A3 Ey U (A3 C8 U (BF DO U (by rintro _ rfl;exact((by rw[An (H.drew.ext.to hb14 (by simp))];rfl))) ?_));refine Mf CU U (Gi U U ?_);rw[Pq];refine D6 U (.bool _) U (Co U (A3 EQ U (BS Cc U (by rintro _ rfl;exact H.drew) at0 U ?_)));refine Bo R2 AR Bt U U (by rfl) ?_;refine BF Bm U (by rintro _ rfl;exact(((R2.ext0 H.drew.ext).one (f:=CQ) (i:=4) rfl))) ?_
         refine A3 GN U (BF KA U (by rintro _ rfl;exact((by rw[An (H.drew.ext.to hb14 (by simp))];rfl))) ?_);refine Mf BA U (Gi U U ?_);rw[Pq];refine D6 U (.bool _) U (BM ?_);rintro _ rfl;replace H:=H.drew;refine D5 U (Aq (Aa (Ap ?_)));replace L:=L.call H.ext;replace Z2:=Z2.ext0 H.ext;refine Ad (Af U (qA (Ax (Bn 220855883097298041197888803566667520031744228152128909236886280241348672 (α:=AuZ) (fun z=>[(16,.int .i64 (z.i:Int))]) (fun z w'=>z.i<=r'.es.length/\Led bl w0 w' [(b14,Bl 55 (BD r' q))] z.m (Fu s r) z.T/\StAt w' (Fu s r) z2/\StOff (Fu s r) z2 z.T) (fun z=>r'.es.length - z.i) ⟨0,m2,T2⟩ U ?_ ?_ ?_))))
         .exact⟨rfl,trivial⟩
         .exact⟨qaf _,L,Z2,O2⟩
         .clear L Z2 O2 H hb14 R2 RA OP2;rintro⟨i,m3,T3⟩ j29 w ⟨hi,L,Z2,O2⟩;dsimp only at hi L Z2 O2;dsimp only;obtain⟨w11,rfl,H⟩:=qE w;have hb14:w11.heap[b14]?=some (Bl 55 (BD r' q)):=L.H.blk (b14,Bl 55 (BD r' q)) (qao _ (by simp));have RA:RAt w11 r' q:=Z2.K _ (qac hzq)
          have hno14:∀{z:World},Ext [] w11 z->z.cell? ⟨b14,0+0,none⟩=some (.int .u64 (s.no+1)):=fun hx=>by
           rw[An (hx.to hb14 (by simp)),<-hno'];rfl
          refine Ap (Ad (Ae U (Ah Ey U (Ah C8 U (Ba DO U ((by rw[An (H.ext.to hb14 (by simp))];rfl)) ?_)))));refine AU CU U (AZ U U (qA (Av _ U ?_ ?_)))
          .intro h6;replace h6:=AJ h6;obtain⟨e,he⟩:=AB (l:=r'.es) (i:=i);obtain⟨x,hx6⟩:=AB (l:=r'.fl) (i:=i);obtain⟨y,hy⟩:=Yh he hx6 hN0;have hes:=hB.es;refine Aq (Aa (Ap (Ax (Ad (A9 U (Ah Io U (Ba BL U ((hno14 H.ext)) ?_)))))));refine Ae U (Bz (Ci (ak 15 0 ((i:Int)) 0 0 0 (s.no+1))) FA EW ?_);replace L:=L.call H.ext;replace Z2:=Z2.ext0 H.ext;refine Am qB (Ef (k:=ak 15 0 ((i:Int)) 0 0 0 (s.no+1)) L (hin15 ((i:Int)) (by omega))) U ?_;have hown:=L.I.own;clear L H;rintro v w ⟨a2,n2,c2,f2,p2,s2,m2,T2,rfl,OP2,hst2,L,g2,hx2⟩;obtain⟨rfl,rfl⟩:=MG hst2 hkg;replace O2:=O2.grows Z2 g2;replace Z2:=Z2.ext hx2 (StOff.mono (O2.mono g2.1) hown);rw[hy]at OP2 |-;obtain rfl:n2=6:=OP2.num;have R2:Rd w a2 1 I1 [e.f,e.t,e.cap,e.cost,x,y]:=OP2.rd1 (t:=2) fun x hx=>L.H.blk x (qao _ (by simp[hx]));replace L:=L.dropE
           obtain⟨w12,rfl,H⟩:=qE w;replace hb14:w12.heap[b14]?=some (Bl 55 (BD r' q)):=L.H.blk (b14,Bl 55 (BD r' q)) (qao _ (by simp));replace RA:RAt w12 r' q:=Z2.K _ (qac hzq);refine AX Gq H ?_;rintro b17 w - H;refine Bi Eu U U U (by exact(by simp[AS])) H at0 U ?_;rintro w H;refine qA ?_;clear hno14;refine Ad (Ah Ey U (Ah C8 U (Ba DO U ((by rw[An (H.ext.to hb14 (by simp))];rfl)) ?_)));refine Ae U (AM RA.E CU CW U U (by rfl) ?_);refine Ca _ Je CW U U (((RA.E.ext0 H.ext).row he U)) (AX GY H ?_);rintro b18 w - H;refine Bi CW U U U (by exact(by intro v hv;rcases(show v=.int .i64 e.f\/v=.int .i64 e.t\/v=.int .i64 e.cap\/v=.int .i64 e.cost by simpa[CJ]using hv)with h|h|h|h <;> rw[h] <;> rfl)) H at0 U ?_;rintro w H
           refine qA (CN (fun x=>x=_) Bs U ?_);refine A3 EQ U (BS Cc U (by rintro _ rfl;exact H.drew) at1 U ?_);refine Mf AR U (Gi U U ?_);rw[show(!decide (((6:Nat):Int)=6))=false by decide];refine Co U (A3 EQ U (BS Cc U (by rintro _ rfl;exact H.drew) at1 U ?_));refine Bo R2 AR Bt U U (by rfl) ?_;refine BF Bm U (by rintro _ rfl;exact(((R2.ext0 H.drew.ext).one (f:=CQ) (i:=0) rfl))) ?_;refine A3 EX U (BS B6 U (by rintro _ rfl;exact H.drew) at0 U ?_);refine Gi U U ?_;rw[Pq];refine D6 U (.bool _) U (Co U (A3 EQ U (BS Cc U (by rintro _ rfl;exact H.drew) at1 U ?_)));refine Bo R2 AR Bt U U (by rfl) ?_;refine BF Bm U (by rintro _ rfl;exact(((R2.ext0 H.drew.ext).one (f:=CQ) (i:=1) rfl))) ?_;refine A3 EY U (BS B6 U (by rintro _ rfl;exact H.drew) at0 U ?_);refine Gi U U ?_;rw[Pq]
           refine D6 U (.bool _) U (Co U (A3 EQ U (BS Cc U (by rintro _ rfl;exact H.drew) at1 U ?_)));refine Bo R2 AR Bt U U (by rfl) ?_;refine BF Bm U (by rintro _ rfl;exact(((R2.ext0 H.drew.ext).one (f:=CQ) (i:=2) rfl))) ?_;refine A3 DX U (BS Bm U (by rintro _ rfl;exact H.drew) at0 U ?_);refine Gi U U ?_;rw[Pq];refine D6 U (.bool _) U (Co U (A3 EQ U (BS Cc U (by rintro _ rfl;exact H.drew) at1 U ?_)));refine Bo R2 AR Bt U U (by rfl) ?_;refine BF Bm U (by rintro _ rfl;exact(((R2.ext0 H.drew.ext).one (f:=CQ) (i:=3) rfl))) ?_;refine A3 EZ U (BS Bm U (by rintro _ rfl;exact H.drew) at0 U ?_);refine Gi U U ?_;rw[Pq];refine D6 U (.bool _) U (Co U (A3 EQ U (BS Cc U (by rintro _ rfl;exact H.drew) at1 U ?_)));refine Bo R2 AR Bt U U (by rfl) ?_
           refine BF Bm U (by rintro _ rfl;exact(((R2.ext0 H.drew.ext).one (f:=CQ) (i:=4) rfl))) ?_;refine A3 Gc U (A3 Ho U (BF Cc U (by rintro _ rfl;exact((by rw[An (H.drew.ext.to hb14 (by simp))];rfl))) ?_));refine AY U (Bo RA.F AR Bt U U (by rfl) ?_);refine BF Bm U (by rintro _ rfl;exact(((RA.F.ext0 H.drew.ext).one (f:=CQ) hx6))) ?_;refine Gi U U ?_;rw[Pq];refine D6 U (.bool _) U (BM ?_);rintro _ rfl;replace H:=H.drew;refine D5 U (Aq (A7 (Aa (Ay (Ae U (Aw U U ?_))))));refine Af U (qA ?_);exact⟨⟨i+1,m2,T2⟩,rfl,⟨rfl,trivial⟩,⟨by dsimp only;omega,L.call (by exact H.ext),Z2.ext0 (by exact H.ext),O2⟩,by dsimp only;omega⟩
          .intro h6;replace h6:=AK h6;clear hno14;have hpot:=hB.pot;have hes:=hB.es;refine Be (Aj (Aj (AH (Aa (Ap (Ad (Af U (qA (Ax (Bn 7588550360035898300181850032331458541479036900568984517780439855777394088922841152 (α:=AuZ) (fun z=>[(19,.int .i64 (z.i:Int))]) (fun z w'=>z.i<=r'.pot.length/\Led bl w0 w' [(b14,Bl 55 (BD r' q))] z.m (Fu s r) z.T/\StAt w' (Fu s r) z2/\StOff (Fu s r) z2 z.T) (fun z=>r'.pot.length - z.i) ⟨0,m3,T3⟩ U ?_ ?_ ?_))))))))))
           .exact⟨rfl,trivial⟩
           .exact⟨qaf _,L.call (by exact H.ext),Z2.ext0 (by exact H.ext),O2⟩
           .clear L Z2 O2 H hb14 RA;rintro⟨i,m3,T3⟩ j36 w ⟨hi,L,Z2,O2⟩;dsimp only at hi L Z2 O2;dsimp only;obtain⟨w11,rfl,H⟩:=qE w;have hb14:w11.heap[b14]?=some (Bl 55 (BD r' q)):=L.H.blk (b14,Bl 55 (BD r' q)) (qao _ (by simp));have RA:RAt w11 r' q:=Z2.K _ (qac hzq)
            have hno14:∀{z:World},Ext [] w11 z->z.cell? ⟨b14,0+0,none⟩=some (.int .u64 (s.no+1)):=fun hx=>by
             rw[An (hx.to hb14 (by simp)),<-hno'];rfl
            refine Ap (Ad (Ae U (Ah Ey U (Ah DW U (Ba B6 U ((by rw[An (H.ext.to hb14 (by simp))];rfl)) ?_)))));refine AZ U U (qA (Av _ U ?_ ?_))
            .intro h7;replace h7:=AJ h7;obtain⟨y,hy6⟩:=AB (l:=r'.pot) (i:=i);have hy:=Aca hy6 (show(i:Int)<r'.N by omega);refine Aq (Aa (Ap (Ax (Ad (A9 U (Ah Io U (Ba BL U ((hno14 H.ext)) ?_)))))));refine Ah Ey U (Ah C8 U (Ba DO U ((by rw[An (H.ext.to hb14 (by simp))];rfl)) ?_));refine AU CU U (Ae U (Aw U U ?_));refine Bz (Ci (ak 15 0 ((r'.es.length:Int)+(i:Int)) 0 0 0 (s.no+1))) FA EW ?_;replace L:=L.call H.ext;replace Z2:=Z2.ext0 H.ext;refine Am qB (Ef (k:=ak 15 0 ((r'.es.length:Int)+(i:Int)) 0 0 0 (s.no+1)) L (hin15 ((r'.es.length:Int)+(i:Int)) (by omega))) U ?_;have hown:=L.I.own;clear L H;rintro v w ⟨a2,n2,c2,f2,p2,s2,m2,T2,rfl,OP2,hst2,L,g2,hx2⟩;obtain⟨rfl,rfl⟩:=MG hst2 hkg;replace O2:=O2.grows Z2 g2;replace Z2:=Z2.ext hx2 (StOff.mono (O2.mono g2.1) hown);rw[hy]at OP2 |-;obtain rfl:n2=1:=OP2.num
             have R2:Rd w a2 1 I1 [y]:=OP2.rd1 (t:=2) fun x hx=>L.H.blk x (qao _ (by simp[hx]));replace L:=L.dropE;obtain⟨w12,rfl,H⟩:=qE w;replace hb14:w12.heap[b14]?=some (Bl 55 (BD r' q)):=L.H.blk (b14,Bl 55 (BD r' q)) (qao _ (by simp));replace RA:RAt w12 r' q:=Z2.K _ (qac hzq);refine AX Gq H ?_;rintro b20 w - H;refine Bi Eu U U U (by simp[AS]) H at0 U ?_;rintro w H;refine qA ?_;clear hno14;refine CN (fun x=>x=_) Bs U (A3 EQ U (BS Cc U (by rintro _ rfl;exact H.drew) at0 U ?_));refine Mf AR U (Gi U U ?_);rw[show(!decide (((1:Nat):Int)=1))=false by decide];refine Co U (A3 EQ U (BS Cc U (by rintro _ rfl;exact H.drew) at0 U ?_));refine Bo R2 AR Bt U U (by rfl) ?_
             refine BF Bm U (by rintro _ rfl;exact(((R2.ext0 H.drew.ext).one (f:=CQ) (i:=0) rfl))) ?_;refine A3 Gc U (A3 Kh U (BF Cc U (by rintro _ rfl;exact((by rw[An (H.drew.ext.to hb14 (by simp))];rfl))) ?_));refine AY U (Bo RA.P AR Bt U U (by rfl) ?_);refine BF Bm U (by rintro _ rfl;exact(((RA.P.ext0 H.drew.ext).one (f:=CQ) hy6))) ?_;refine Gi U U ?_;rw[Pq];refine D6 U (.bool _) U (BM ?_);rintro _ rfl;replace H:=H.drew;refine D5 U (Aq (A7 (Aa (Ay (Ae U (Aw U U ?_))))));refine Af U (qA ?_);exact⟨⟨i+1,m2,T2⟩,rfl,⟨rfl,trivial⟩,⟨by dsimp only;omega,L.call (by exact H.ext),Z2.ext0 (by exact H.ext),O2⟩,by dsimp only;omega⟩
            .intro h7;replace h7:=AK h7;refine Be (Aj (Aj (AH (Aa (Ad (Am qB (Rb _) U ?_))))));rintro v w ⟨rfl,hx272⟩;replace H:=H.call hx272;refine Ai U (qA (A6 (AD (v:=(.bool _)) U U U ?_)));exact⟨rfl,L.H.ext.trans H.ext⟩
open Go.GV Go.Proofs.Tryz Go.ChangeShapes Go.WideShapes Go.RowKit
set_option maxRecDepth 100000 in
theorem N9(os:Os)(started:os.Started)(H:Type)(enc:TypeId × Value->H) :
  ReturnsInHanded {} checked os 4 .any (Rows.ledgerBestSpec.pre6 enc prog Tryz.f4 Rows.ledgerBestRow.domain false) (Rows.ledgerBestSpec.post enc prog Tryz.f4 false true false false):=by
 refine returnsInHanded_of_change (C:=checked) own started (by kernel_rfl) func4
  (ChangeSpec.witness6 (enc:=enc) (C:=checked) false ⟨#[],#[.slice none 0 0,.bool false,.slice none 0 0],[]⟩ 8 (by kernel_rfl) (by kernel_rfl) (by kernel_rfl) (by kernel_rfl)) ?_
 intro W base args ds gs before hval0 hW hcnd _;have hval:∀(j:Nat) t v,Tryz.f4.params[j]?=some t->args[j]?=some v->Value.okWide prog W .any base t v:=hval0;have hW':=hW;obtain⟨p,q,hA0,hV,rfl,hfz,hnd⟩:=hW;have hA:DataW.TrodAll enc prog W 0 (fun _=>true) true Tryz.f4.params.toList args.toList ds p:=hA0;rw[params4]at hA hval;obtain⟨v0,vs0,d0,ds0,p0,q0,hargs,rfl,rfl,h0,r0⟩:=trodAll_cons hA;obtain⟨v1,vs1,d1,ds1,p1,q1,rfl,rfl,rfl,h1,r1⟩:=trodAll_cons r0;obtain⟨v2,vs2,d2,ds2,p2,q2,rfl,rfl,rfl,h2,r2⟩:=trodAll_cons r1;obtain⟨rfl,rfl,rfl⟩:=trodAll_nil r2;obtain rfl:args=#[v0,v1,v2]:=by cases args;simp_all
 obtain⟨a0,c0,l0,rfl,R0,H0⟩:=PF (hval 0 _ v0 rfl rfl) h0;obtain⟨k1,rfl,rfl,rfl⟩:=open_bool underlying4 (hval 1 _ v1 rfl rfl) h1;obtain⟨a2,c2,l2,rfl,R2,H2⟩:=Aky (hval 2 _ v2 rfl rfl) h2;refine(Sj a0 a2 c0 c2 l0 k1 l2 W R0 H0 R2).calls.mono ?_;rintro e W' ⟨v,rfl,rfl,hx⟩;exact⟨_,rfl,MW PE U U underlying4 (fun ds h=>match ds,h with | [_,_,_],_=>rfl) hW' hx⟩
theorem Sk:jn1 prog 4 Tryz.f4 Rows.ledgerBestSpec Rows.ledgerBestRow=true:=by kernel_rfl
theorem Sm:jn2 prog 4 Tryz.f4 Rows.ledgerBestSpec Rows.ledgerBestRow=true:=by kernel_rfl
theorem Sn:jn3 prog 4 Tryz.f4 Rows.ledgerBestSpec Rows.ledgerBestRow=true:=by kernel_rfl
theorem So:jn4 prog 4 Tryz.f4 Rows.ledgerBestSpec Rows.ledgerBestRow=true:=by kernel_rfl
theorem Sp:jn5 prog 4 Tryz.f4 Rows.ledgerBestSpec Rows.ledgerBestRow=true:=by kernel_rfl
theorem Sq:joinedFacts prog 4 Tryz.f4 Rows.ledgerBestSpec Rows.ledgerBestRow=true:=LF Sk Sm Sn So Sp
theorem ledgerBest_holds:Rows.LedgerBestSaid :=
 OpenClaim.holds_of_wide 4 Tryz.f4 rfl rfl rfl rfl rfl rfl rfl ⟨rfl,rfl,rfl,rfl,rfl⟩ rfl rfl rfl rfl rfl (by kernel_rfl) func4 Sq
  (qbd (by kernel_rfl)) (by unfold Func.isWrapper;rw[if_neg (qbk (by kernel_rfl))];exact⟨rfl,rfl⟩)
  (fun os started H enc _=>N9 os started H enc)
#print axioms ledgerBest_holds
end Go.Proofs.YtdagmpmdcgedcaaGreat
