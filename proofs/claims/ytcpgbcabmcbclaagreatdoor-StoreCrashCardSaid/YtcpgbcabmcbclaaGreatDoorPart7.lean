/- Part 7 of the proof. -/
import Derived.Test.YtcpgbcabmcbclaaGreatDoorPart6
import Derived.Sort.OwnSortedInts
set_option maxRecDepth 20000
set_option maxHeartbeats 16000000
namespace Go.Proofs.YtcpgbcabmcbclaaGreatDoor
open Go.GV Go.Proofs.Tryz
attribute [local irreducible] AB W Wq Wt
def ZW(f:Nat)(cl:List Value)(G:List It->List It)(key:Byt)(fr n:Nat):Prop :=
 ∀{w:World} {bt bd bp ba bc:Nat} {c:Ch} {F:Mut} {L:List (Nat × Obj)},Cx w bt bd bp ba fr bc c F L->c.tk.length+2*n<=90000->c.gn.length+2*n<=90000->∀(page depth:Nat),depth+n=17->page<=4294967296 ->
  ∀(Z:Mut),(∀x,Z x->x<w.heap.size)->DoOk f cl G w (MZ (TM F ba bt bp L) Z)->∀(ka:Option Addr) (kc:Nat),Rdx w (MZ (TM F ba bt bp L) Z) ka key->∀(mx:Nat),Few c.A mx->mx+2*n<=900000000->(CM fr G key (n+1) c page depth).1≠99 ->
  Ret prog 176 #[ptr bc,.int .i64 (page:Int),.int .i64 (depth:Int),.slice ka key.length kc,.func (.func f) #[] cl.toArray] w fun v w'=>∃(inner:Bool) (a:Option Addr) (m cc:Nat) (F':Mut) (L':List (Nat × Obj)),
   v=.tuple #[.agg #[.bool inner,.slice a m cc],.int .i64 (CM fr G key (n+1) c page depth).1]/\Cx w' bt bd bp ba fr bc (CM fr G key (n+1) c page depth).2.1 F' L'/\Grown (TM F ba bt bp L) (TM F' ba bt bp L') w w' /\
   ((CM fr G key (n+1) c page depth).1=0->inner=(CM fr G key (n+1) c page depth).2.2.1/\Its w' (MZ (TM F' ba bt bp L') Z) a m cc (CM fr G key (n+1) c page depth).2.2.2)
structure ES where
 a:Option Addr
 n:Nat
 c:Nat
 M:List It
 fr:Nat
 to:Nat
 ch:Ch
 L:List (Nat × Obj)
 Y:List (Nat × Obj)
abbrev NBl(inner:Bool)(a:Option Addr)(n c:Nat):Obj:=Bl 183 [.bool inner,.slice a n c]
theorem ZX{w:World}{M:Mut}{aa qa:Option Addr}{nn cc qn qc sfr sto:Nat}{l q:List It}(I:Its w M aa nn cc l)(Q:Its w M qa qn qc q)(hf:sfr<=nn)(ht:sto<=nn)(h1:(l.take sfr).length=sfr)(h2:(l.drop sto).length=nn - sto) :
  ∀x∈([(aa,l.take sfr,cc),(qa,q,qc),(EL aa cc sto 3,l.drop sto,cc - sto)]:List SI),Its w M x.1 x.2.1.length x.2.2 x.2.1:=by
 intro x hx;simp only[qac,qam,or_false]at hx
 rcases hx with rfl|rfl|rfl
 .show Its w M aa (l.take sfr).length cc (l.take sfr);rw[h1];exact I.take hf
 .show Its w M qa q.length qc q;rw[<-Q.num];exact Q
 .show Its w M _ (l.drop sto).length _ (l.drop sto);rw[h2];exact I.drop ht
theorem Tc{w:World}{M:Mut}{a b:Option Addr}{n c m d:Nat}{l q:List It}(I:Its w M a n c l)(Q:Its w M b m d q):∀x∈([(a,l,c),(b,q,d)]:List SI),Its w M x.1 x.2.1.length x.2.2 x.2.1:=by
 intro x hx;simp only[qac,qam,or_false]at hx
 rcases hx with rfl|rfl
 .show Its w M a l.length c l;rw[<-I.num];exact I
 .show Its w M b q.length d q;rw[<-Q.num];exact Q
theorem UV{f:Nat}{cl:List Value}{G:List It->List It}{key:Byt}{fr:Nat}(hf:Aw prog f=true)(hfr:fr<=5000)(_:key.length<=100000)(n:Nat)(IH:∀n',n=n'+1->ZW f cl G key fr n'):ZW f cl G key fr n:=by
 intro w bt bd bp ba bc c F L X htk hgn page depth hd hp Z hZ D ka kc Rk mx hfew hmx hok;obtain⟨w0,rfl⟩:=qD w;obtain⟨ec,hec⟩:=qD (CM fr G key (n+1) c page depth);rw[<-hec]at hok |-;rw[CM]at hec;obtain⟨rt,hrt⟩:=qD (Dr c.A fr c.P.length (page:Int) (depth:Int));rw[<-hrt]at hec;have E0:=Fr.start X hZ;have H:=Ctx.start w0 [];obtain⟨rb1,rb2,rb3,rb4⟩:=Ik (fr:=fr) (c:=c) (p:=page) (d:=depth);refine A6 (fn:=f176) func176 U [.pointer (some ⟨bc,0,none⟩),.int .i64 (page:Int),.int .i64 (depth:Int),.slice ka key.length kc,.func (.func f) #[] cl.toArray] U ?_;refine Ad (Bj Cl H ?_);rintro b10 w - H;refine Ac U (qA (Ad (Am U (Ae U (Ae U ?_)))));obtain⟨E1,-⟩:=E0.own H;refine Ai qB (XH E1.X hfr page depth hfew) U ?_;rintro v w2 ⟨inner,aa,nn,cc,L2,rfl,X2,g2,hits⟩;rw[<-hrt]at hits
 rw[<-hrt];obtain⟨E2,-⟩:=E1.call X2 g2;replace H:=E2.O.ctx;refine AQ U (Ah U U (Ah U U (Bj Cl H ?_)));rintro b12 w - H;refine Bo Bh U U U (by simp[Bi]) H at0 U ?_;rintro w H;refine Ac U (qA (Aq (Ad (Ae U (Ba U U (qA (Au _ U ?_ ?_)))))))
 .intro hA;replace hA:=Bu hA
  have hnone:rt.2=none:=by
   cases h5:rt.2 with
   |none=>rfl
   |some r=>obtain⟨i,l⟩:=r;rw[hrt]at h5;rw[hrt]at hA;exact absurd (FJ h5).1 hA
  rw[hnone]at hec;dsimp only at hec;have hrd:rdC fr c page depth=c:=by unfold rdC;rw[<-hrt,if_neg hA]
  refine Ad (BN BQ Bh U H at0 U (Ae U (Bo Bh U U U (by simp[Bi]) H at1 U ?_)));rintro w H;refine Ac U (qA (Ax (Ao (Dx U U U BQ Bh H at1 U (show _=(.int _ _)from rfl) ?_))));obtain⟨E3,-⟩:=E2.own H;have X3:=E3.X;rw[hrd]at X3;exact⟨inner,aa,nn,cc,F,L2,by rw[hec],by rw[hec];exact X3,E3.GT,fun h=>absurd (by rw[hec]at h;exact h) hA⟩
 .intro hA;replace hA:=Bv hA;have hA':rt.1=0:=by simpa using hA
  obtain⟨⟨i,l⟩,hsome⟩:∃r,rt.2=some r:=by
   cases h5:rt.2 with
   |none=>rw[hrt]at h5;rw[hrt]at hA';exact absurd hA' (IW h5)
   |some r=>exact⟨r,rfl⟩
  obtain⟨-,hne,hd16,-,-,hll⟩:=FJ (A:=c.A) (fr:=fr) (sz:=c.P.length) (page:=(page:Int)) (depth:=(depth:Int)) (by rw[<-hrt];exact hsome);obtain⟨rfl,I2f,hb⟩:=hits i l hsome;have I2:=I2f.weak E1.fresh;rw[hsome]at hec;have hnum:=I2.num;refine Ap (Aa (Aq (Ad (Af DD U (AH Gf U H at0 U (BX U (qA (Au _ U ?_ ?_))))))))
  .intro hB;replace hB:=Cz hB;subst hB;dsimp only at hec;refine Ad (Ee U (.func _ _ _) U ?_);refine Af Br U (AH BT U H at0 U ?_);obtain⟨E3,g3⟩:=E2.own H;have I3:=I2.turn g3;refine KP U U hf (D _ _ E3.GA E3.mylt _ _ _ _ I3 (by omega)) U ?_;rintro v w4 ⟨a4,c4,rfl,I4,hx4⟩;obtain⟨E4,g4⟩:=E3.call0 hx4;replace H:=E4.O.ctx;refine Af Br U (Bf (.slice _ _ _) CP U U U H at0 (by(simp;done)) ?_);rintro w H;refine qA (Ad (BN BQ Bh U H at0 U (Bo Bh U U U (by simp[Bi]) H at1 U ?_)));rintro w H;refine Ac U (qA (Ax (Ao (Dx U U U BQ Bh H at1 U (show _=(.int _ _)from rfl) ?_))));obtain⟨E5,g5⟩:=E4.own H;exact⟨false,a4,(G l).length,c4,F,L2,by rw[hec];rfl,by rw[hec];exact E5.X,E5.GT,fun _=>⟨by rw[hec],by rw[hec];exact(I4.turn g5).weak MY.le⟩⟩
  .intro hB;replace hB:=C0 hB;subst hB;dsimp only at hec;obtain⟨E3,g3⟩:=E2.own H;have I3:=I2.turn g3;replace H:=E3.O.ctx;obtain⟨w3,rfl⟩:=qD w;obtain⟨ms,R,-,hl,hok3⟩:=I3.ex;have hml:ms.length=nn:=by rw[hnum,<-hl,qaj]
   have hbl:=Pv hne key;obtain⟨bi,hbi⟩:=qD (Cf l key);obtain⟨x,hx1⟩:=AO (l:=ms) (i:=bi);have hxL:=Im.at hl hx1;have hpa:Cq l bi=x.it.page:=by unfold Cq;rw[hxL];rfl
   have hxb:=hb x.it (qad hxL);obtain⟨n',rfl⟩:∃n',n=n'+1:=⟨n - 1,by omega⟩;have Rk3:=(Rk.turn E3.GA).1;rw[<-hbi]at hec;obtain⟨r,hr⟩:=qD (CM fr G key (n'+1) (rdC fr c page depth) (Cq l bi) (depth+1));rw[<-hr]at hec;rw[hpa]at hr;have hok5:r.1≠99:=fun h=>hok (by rw[hec,if_pos (by rw[h];decide)];exact h);obtain⟨eb1,eb2,eb3⟩:=Mr (fr:=fr) (G:=G) (key:=key) (m:=mx) (n:=n'+1) (c:=rdC fr c page depth) (p:=x.it.page) (d:=depth+1);rw[<-hr]at eb1 eb2 eb3;rw[rb1]at eb1;have hfew2:Few (rdC fr c page depth).A mx:=by rw[rb3];exact hfew
   replace eb3:=eb3 hfew2;refine Ap (Aa (Ad (Af Br U (AH BT U H at0 U (Aj U (Ai qB (XB I3 ka kc _ key Rk3 U) U ?_))))));rintro v w5 ⟨rfl,rfl⟩;rw[<-hbi];refine Ac U (qA (Ad (Am U (Af Br U (AH BT U H at0 U (Ae U (AY R Bw Bm U U ?_)))))));refine Af Gg U (Be DW U (R.fld hx1 U (j:=2) U) ?_);refine Ae U (A7 U U ?_);rw[show((depth:Int)+1)=((depth+1:Nat):Int)by omega];refine Aj U (Ee U (.func _ _ _) U ?_);refine Ai qB (IH n' U E3.X (by rw[rb1];omega) (by omega) x.it.page (depth+1) (by omega) (by omega) (MY Z _) E3.zlt (D.keep (E3.GA.weak MYZ)) ka kc ((Rk.turn E3.GA).weak MYZ) mx hfew2 (by omega) (by rw[<-hr];exact hok5)) U ?_;rintro v w5 ⟨kin,k5,n5,c5,F5,L5,rfl,X5,g5,hk5⟩;rw[<-hr]at X5 hk5;rw[<-hr];obtain⟨E5,gg5⟩:=E3.call X5 g5;have I5:=I3.turn gg5;replace H:=E5.O.ctx
   refine AQ U (Ah U U (Ah U U (Bj Cl H ?_)));rintro b15 w - H;refine Bo Bh U U U (by simp[Bi]) H at0 U ?_;rintro w H;refine Ac U (qA (Aq (Ad (Ae U (Ba U U (qA (Au _ U ?_ ?_)))))))
   .intro hC;replace hC:=Bu hC;rw[if_pos hC]at hec;refine Ad (BN BQ Bh U H at1 U (Ae U (Bo Bh U U U (by simp[Bi]) H at2 U ?_)));rintro w H;refine Ac U (qA (Ax (Ao (Dx U U U BQ Bh H at2 U (show _=(.int _ _)from rfl) ?_))));obtain⟨E6,-⟩:=E5.own H;exact⟨true,aa,nn,cc,F5,L5,by rw[hec],by rw[hec];exact E6.X,E6.GT,fun h=>absurd (by rw[hec]at h;exact h) hC⟩
   .intro hC;replace hC:=Bv hC;have hC':r.1=0:=by simpa using hC
    rw[if_neg (by simpa using hC)]at hec;obtain⟨rfl,K5⟩:=hk5 hC';obtain⟨E6,g6⟩:=E5.own H;have I6:=I5.turn g6;have K6:=(K5.weak Aef).turn g6;replace H:=E6.O.ctx;obtain⟨w6,rfl⟩:=qD w;obtain⟨sc,hsc⟩:=qD (EF fr r.2.1 l bi depth r.2.2.1 r.2.2.2);rw[<-hsc]at hec;have hkn:=K6.num;obtain⟨sb1,sb2,sb3⟩:=Pz (fr:=fr) (c:=r.2.1) (l:=l) (i:=bi) (d:=depth) (inner:=r.2.2.1) (kid:=r.2.2.2);rw[<-hsc]at sb1 sb2 sb3;obtain⟨kin,hkin⟩:=qD r.2.2.1;rw[<-hkin]at hec hsc H E6 I6 K6;rw[<-hkin];refine Ap (Aa (Ad (Ae U (Ae U (A7 U U ?_)))));rw[show((bi:Int)+1)=((bi+1:Nat):Int)by omega];refine Ac U (Ac U (qA (Aq (Ad (BE (α:=Unit) 150525431641469941186560 (fun _=>[(76,.bool (kin && decide (n5=1)))]) (fun _ w'=>w6=w') U ?_ ?_)))))
    .refine Af DD U (AH Gf U H at0 U (AA U (AR 71 U ?_ ?_)))
     .intro h1;refine Af Br U (AH BT U H at0 U (AP Bw U (B6 U U (AN U (.bool _) U (Ab ?_)))));exact⟨rfl,(),rfl,⟨qab Value.bool (by(rw[h1]);(try rw[qar]);simp;try omega),trivial⟩,rfl⟩
     .intro h2;refine Ag U (Ag U (Ag U (Ag U (AK U (.bool _) U (Ab ?_)))));exact⟨rfl,(),rfl,⟨qab Value.bool (by(rw[h2]);(try rw[qar]);simp;try omega),trivial⟩,rfl⟩
    rintro - j76 w rfl;refine EZ 2787593149816327892540849056629216545540096 (α:=ES) (fun s=>[(16,.int .i64 (s.fr:Int)),(17,.int .i64 (s.to:Int))]) (fun s w'=>Fr w0 Z (TM F ba bt bp L) w' bt bd bp ba fr bc s.ch F5 s.L ((b15,NBl kin s.a s.n s.c)::(b12,NBl true aa nn cc)::(b10,NBl false none 0 0)::s.Y)/\Its w' (MY (MZ (TM F5 ba bt bp s.L) Z) ((b15,NBl kin s.a s.n s.c)::(b12,NBl true aa nn cc)::(b10,NBl false none 0 0)::s.Y)) aa nn cc l/\Its w' (MY (MZ (TM F5 ba bt bp s.L) Z) ((b15,NBl kin s.a s.n s.c)::(b12,NBl true aa nn cc)::(b10,NBl false none 0 0)::s.Y)) s.a s.n s.c s.M/\sc=(0,s.ch,s.M,s.fr,s.to)/\s.fr<=nn/\s.to<=nn) U ?_ ?_
    .skip
     refine Au _ U ?_ ?_
     .intro hE;have hfw:IZ kin r.2.2.2=true:=by unfold IZ;rw[<-hkn];exact hE
      have hk1:kin=true/\n5=1:=by simpa using hE
      obtain⟨hk2,hn5⟩:=hk1;have hk5l:=K6.le;unfold EF at hsc;rw[if_pos hfw]at hsc;refine Aq (Ad (Ae U (BB U U ?_)));refine N9 U U U ?_;rw[show max ((bi:Int) - 1) 0=((bi - 1:Nat):Int)by omega];refine Ae U (A7 U U ?_);rw[show((bi:Int)+1)=((bi+1:Nat):Int)by omega];refine Ac U (Ac U (qA (Ad (Ae U (B6 U U (qA (EZ 131072 (α:=Unit) (fun _=>[(17,.int .i64 ((if bi=0 then 2 else bi+1:Nat):Int))]) (fun _ w'=>w6=w') U ?_ ?_)))))))
      .skip
       refine Au _ U ?_ ?_
       .intro hF;replace hF:=AV hF;refine Av (Ac U (qA ?_));exact⟨(),rfl,⟨qab (Value.int .i64) (by rw[if_pos (by omega)];rfl),trivial⟩,rfl⟩
       .intro hF;replace hF:=AW hF;refine Ap (Aa ?_);exact⟨(),rfl,⟨qab (Value.int .i64) (by rw[if_neg (by omega)]),trivial⟩,rfl⟩
      .rintro - j17 w' rfl;obtain⟨to,hto⟩:=qD (if bi=0 then 2 else bi+1);rw[<-hto]at hsc |-;obtain⟨kk,hkk⟩:=qD (Ja bi);rw[<-hkk]at hsc;have hto2:to<=bi+2:=by rw[hto];split <;> omega
       have hkk2:((bi - 1:Nat):Int)+(to:Int) - 1 - (bi:Int)=(kk:Int):=by
        rw[hkk,hto];unfold Ja
        by_cases h0:bi=0
        .rw[if_pos h0,if_pos h0];omega
        .rw[if_neg h0,if_neg h0];omega
       have htk:kk+1=to\/to<=nn:=by
        rw[hto,hkk];unfold Ja
        by_cases h0:bi=0
        .left;rw[if_pos h0,if_pos h0]
        .right;rw[if_neg h0];omega
       refine Ad (Ae U (Ae U (A7 U U ?_)));refine BB U U (Ae U (BB U U ?_));rw[hkk2];refine Ac U (qA (Aq (Ad (Ae U (Af Br U (AH BT U H at1 U (AP Bw U (IE U U (qA ?_)))))))));refine Au _ U ?_ ?_
       .intro hG;replace hG:=AV hG;rw[if_pos (by omega)]at hsc;rw[hsc]at hec;dsimp only at hec;rw[if_pos (by decide)]at hec;refine Ad (BN BQ Bh U H at1 U (Bo Bh U U U (by simp[Bi]) H at2 U ?_));rintro w H;refine Ac U (qA (Ax (Ao (Ao (Dx U U U BQ Bh H at2 U (show _=(.int _ _)from rfl) ?_)))));obtain⟨E7,-⟩:=E6.own H;exact⟨true,aa,nn,cc,F5,L5,by rw[hec],by rw[hec];exact E7.X,E7.GT,fun h=>by rw[hec]at h;cases h⟩
       .intro hG;replace hG:=AW hG;rw[if_neg (by omega)]at hsc;obtain⟨ms6,R6,-,hl6,hok6⟩:=I6.ex;have hml6:ms6.length=nn:=by rw[hnum,<-hl6,qaj]
        obtain⟨y,hy1⟩:=AO (l:=ms6) (i:=kk);have hyL:=Im.at hl6 hy1;have hpy:Cq l kk=y.it.page:=by unfold Cq;rw[hyL];rfl
        have hyb:=hb y.it (qad hyL);obtain⟨rt2,hrt2⟩:=qD (Dr r.2.1.A fr r.2.1.P.length ((y.it.page:Nat):Int) ((depth+1:Nat):Int));rw[hpy,<-hrt2]at hsc;refine Ap (Aa (Ad (Am U (Af Br U (AH BT U H at1 U (Ae U (AY R6 Bw Bm U U ?_)))))));refine Af Gg U (Be DW U (R6.fld hy1 U (j:=2) U) ?_);refine Ae U (A7 U U ?_);rw[show((depth:Int)+1)=((depth+1:Nat):Int)by omega];refine Ai qB (XH E6.X hfr y.it.page (depth+1) eb3) U ?_;rintro v w7 ⟨oin,oa,on,oc,L7,rfl,X7,g7,hits7⟩;rw[<-hrt2]at hits7;rw[<-hrt2];obtain⟨E7,gg7⟩:=E6.call X7 g7;replace H:=E7.O.ctx;refine AQ U (Ah U U (Ah U U (Bj Cl H ?_)));rintro b19 w - H;refine Bo Bh U U U (by simp[Bi]) H at0 U ?_;rintro w H
        refine Ac U (qA (Aq (Ad (BE (α:=Unit) 82427712629240388602921629226369024 (fun _=>[(115,.bool (decide (rt2.1=0) && !oin))]) (fun _ w'=>Ctx w7 [b15,b12,b10] w' [(b19,NBl oin oa on oc),(b15,NBl kin k5 n5 c5),(b12,NBl true aa nn cc),(b10,NBl false none 0 0)]) U ?_ ?_))))
        .refine Ae U (B6 U U (AA U (AR 111 U ?_ ?_)))
         .intro h3;replace h3:=AV h3;refine Af DD U (AH Gf U H at0 U (BX U (AN U (.bool _) U (Ab ?_))));exact⟨rfl,(),rfl,⟨qab Value.bool (by(rw[qal h3]);simp),trivial⟩,H⟩
         .intro h4;replace h4:=AW h4;refine Ag U (Ag U (Ag U (AK U (.bool _) U (Ab ?_))));exact⟨rfl,(),rfl,⟨qab Value.bool (by(rw[qag h4]);simp),trivial⟩,H⟩
        rintro - j115 w H;refine Au _ U ?_ ?_
        .intro hI;have hI2:rt2.1=0/\oin=false:=by simpa using hI
         obtain⟨⟨i2,o⟩,hsome2⟩:∃z,rt2.2=some z:=by
          cases h5:rt2.2 with
          |none=>rw[hrt2]at h5;exact absurd (by rw[<-hrt2];exact hI2.1) (IW h5)
          |some z=>exact⟨z,rfl⟩
         obtain⟨hi2,-,-⟩:=hits7 i2 o hsome2;rw[hsome2,<-hi2,hI2.2]at hsc;dsimp only at hsc;rw[hsc]at hec;dsimp only at hec;rw[if_pos (by decide)]at hec;refine Av (Ac U (qA (Aq (Ad (Ae U (Ba U U (qA (Au _ U ?_ ?_))))))))
         .intro hJ;replace hJ:=Bu hJ;refine Ad (BN BQ Bh U H at2 U (Ae U (Bo Bh U U U (by simp[Bi]) H at3 U ?_)));rintro w H;refine Ac U (qA (Ax (Ao (Ao (Dx U U U BQ Bh H at3 U (show _=(.int _ _)from rfl) ?_)))));obtain⟨E8,-⟩:=E7.own H;exact⟨true,aa,nn,cc,F5,L7,by rw[hec],by rw[hec];exact E8.X,E8.GT,fun h=>by rw[hec]at h;cases h⟩
         .intro hJ;replace hJ:=Bv hJ;exact absurd hJ (by decide)
        .intro hI;refine Ap (Aa (Aq (Ad (Ae U (Ba U U (qA (Au _ U ?_ ?_)))))))
         .intro hJ;replace hJ:=Bu hJ
          have hnone2:rt2.2=none:=by
           cases h5:rt2.2 with
           |none=>rfl
           |some z=>obtain⟨i2,o⟩:=z;rw[hrt2]at h5;exact absurd (by rw[hrt2];exact(FJ h5).1) hJ
          rw[hnone2]at hsc;dsimp only at hsc;rw[hsc]at hec;dsimp only at hec;rw[if_pos hJ]at hec;have hrd2:rdC fr r.2.1 y.it.page (depth+1)=r.2.1:=by unfold rdC;rw[<-hrt2,if_neg hJ]
          refine Ad (BN BQ Bh U H at2 U (Ae U (Bo Bh U U U (by simp[Bi]) H at3 U ?_)));rintro w H;refine Ac U (qA (Ax (Ao (Ao (Dx U U U BQ Bh H at3 U (show _=(.int _ _)from rfl) ?_)))));obtain⟨E8,-⟩:=E7.own H;have X8:=E8.X;rw[hrd2]at X8;exact⟨true,aa,nn,cc,F5,L7,by rw[hec],by rw[hec];exact X8,E8.GT,fun h=>absurd (by rw[hec]at h;exact h) hJ⟩
         .intro hJ;replace hJ:=Bv hJ;have hJ':rt2.1=0:=by simpa using hJ
          obtain⟨⟨i2,o⟩,hsome2⟩:∃z,rt2.2=some z:=by
           cases h5:rt2.2 with
           |none=>rw[hrt2]at h5;exact absurd (by rw[<-hrt2];exact hJ') (IW h5)
           |some z=>exact⟨z,rfl⟩
          obtain⟨rfl,O7,hb7⟩:=hits7 i2 o hsome2
          have hoin:oin=true:=by
           cases oin with
           |true=>rfl
           |false=>rw[hJ']at hI;simp at hI
          subst hoin;rw[hsome2]at hsc;dsimp only at hsc;obtain⟨-,-,-,-,-,hol⟩:=FJ (A:=r.2.1.A) (fr:=fr) (sz:=r.2.1.P.length) (page:=((y.it.page:Nat):Int)) (depth:=((depth+1:Nat):Int)) (by rw[<-hrt2];exact hsome2);obtain⟨E8,g8⟩:=E7.own H;have I8:=(I6.turn gg7).turn g8;have K8:=(K6.turn gg7).turn g8;have O8:=(O7.weak E6.fresh).turn g8;have hon:=O8.num;have htn:to<=nn:=by omega
          replace H:=E8.O.ctx;obtain⟨w8,rfl⟩:=qD w;refine Ap (Aa (Ad (Af Br U (AH BT U H at1 U (Af Br U (AH BT U H at0 U (Adt [.slice k5 n5 c5,.slice oa on oc] U Km CP Aib ?_)))))));refine Bj Aib H ?_;rintro b21 w - H;refine Bo Apo U U U (by simp[Bi]) H at0 U ?_;rintro w H;refine qA (Aq (Ad (Ae U (Ae U (Bn U U (qA (Au _ U ?_ ?_)))))))
          .intro hK;replace hK:=AV hK
           have hbi0:bi≠0:=by
            intro h0;rw[hkk]at hK;unfold Ja at hK;rw[if_pos h0]at hK;omega
           rw[if_neg hbi0]at hsc;refine Av (EB Km CP U U ?_);refine AH BT U H at0 U (EB Km CP U U ?_);refine AH BT U H at0 U (EB Km CP U U ?_);refine Bf (.slice _ _ _) CP U U U H at0 (by(simp;done)) ?_;rintro w H;refine EB Km CP U U (Bf (.slice _ _ _) CP U U U H at0 (by(simp;done)) ?_);rintro w H;refine qA (Av (EB Km CP U U ?_));refine AH BT U H at0 U (EB Km CP U U ?_);refine AH BT U H at0 U (Cb [.slice oa on oc,.slice k5 n5 c5] IL CP Nf H ?_);rintro b138 w - H;obtain⟨E9,g9⟩:=E8.own H;have I9:=I8.turn g9;have K9:=K8.turn g9;have O9:=O8.turn g9
           have RR:Rd w (some ⟨b138,0,none⟩) 1 Oh [(oa,o,oc),(k5,r.2.2.2,c5)]:=Rd.of_bl (r:=[]) (H.get at0) (by simp[Oh,<-hon,<-hkn]) (fun _ _=>rfl);have CC:=Gt (n:=2) (c:=2) E9.mylt _ RR (Tc O9 K9) rfl (by simp only[qay,qbn,qc5,qde];omega);rw[show([(oa,o,oc),(k5,r.2.2.2,c5)]:List SI).flatMap (fun x=>x.2.1)=o++r.2.2.2 by simp]at CC;refine Ai qB CC U ?_;rintro v w11 ⟨a11,c11,rfl,J11,hx11⟩;obtain⟨E11,g11⟩:=E9.call0 hx11;replace H:=E11.O.ctx;refine Af Br U (Bf (.slice _ _ _) CP U U U H at3 (by(simp;done)) ?_);rintro w H;refine qA ?_;obtain⟨E12,g12⟩:=E11.own H.tail.tail.tail;exact⟨⟨a11,(o++r.2.2.2).length,c11,o++r.2.2.2,bi - 1,to,rdC fr r.2.1 y.it.page (depth+1),L7,[]⟩,rfl,⟨rfl,rfl,trivial⟩,E12,(I9.turn g11).turn g12,J11.turn g12,hsc,by dsimp only;omega,htn⟩
          .intro hK;replace hK:=AW hK
           have hbi0:bi=0:=by
            rw[hkk]at hK;unfold Ja at hK
            by_cases h0:bi=0
            .exact h0
            .rw[if_neg h0]at hK;omega
           rw[if_pos hbi0]at hsc;refine Ap (Aa (Av (EB Km CP U U ?_)));refine AH BT U H at0 U (EB Km CP U U ?_);refine AH BT U H at0 U (Cb [.slice k5 n5 c5,.slice oa on oc] IL CP Nf H ?_);rintro b138 w - H;obtain⟨E9,g9⟩:=E8.own H;have I9:=I8.turn g9;have K9:=K8.turn g9;have O9:=O8.turn g9;have RR:Rd w (some ⟨b138,0,none⟩) 1 Oh [(k5,r.2.2.2,c5),(oa,o,oc)]:=Rd.of_bl (r:=[]) (H.get at0) (by simp[Oh,<-hon,<-hkn]) (fun _ _=>rfl);have CC:=Gt (n:=2) (c:=2) E9.mylt _ RR (Tc K9 O9) rfl (by simp only[qay,qbn,qc5,qde];omega);rw[show([(k5,r.2.2.2,c5),(oa,o,oc)]:List SI).flatMap (fun x=>x.2.1)=r.2.2.2++o by simp]at CC;refine Ai qB CC U ?_;rintro v w11 ⟨a11,c11,rfl,J11,hx11⟩;obtain⟨E11,g11⟩:=E9.call0 hx11;replace H:=E11.O.ctx
           refine Af Br U (Bf (.slice _ _ _) CP U U U H at3 (by(simp;done)) ?_);rintro w H;refine qA ?_;obtain⟨E12,g12⟩:=E11.own H.tail.tail.tail;exact⟨⟨a11,(r.2.2.2++o).length,c11,r.2.2.2++o,bi - 1,to,rdC fr r.2.1 y.it.page (depth+1),L7,[]⟩,rfl,⟨rfl,rfl,trivial⟩,E12,(I9.turn g11).turn g12,J11.turn g12,hsc,by dsimp only;omega,htn⟩
     .intro hE;have hfw:¬IZ kin r.2.2.2=true:=by unfold IZ;rw[<-hkn,hE];simp
      unfold EF at hsc;rw[if_neg hfw]at hsc;refine Ap (Aa ?_);exact⟨⟨k5,n5,c5,r.2.2.2,bi,bi+1,r.2.1,L5,[]⟩,rfl,⟨rfl,rfl,trivial⟩,E6,I6,K6,hsc,by dsimp only;omega,by dsimp only;omega⟩
    .rintro⟨sa,sn,scc,sM,sfr,sto,sch,L8,Y8⟩ j8 w ⟨E8,I8,K8,hsc8,hfn,htn⟩;dsimp only at E8 I8 K8 hsc8 hfn htn;dsimp only;rw[hsc8]at hec;dsimp only at hec;rw[if_neg (by simp)]at hec;have hch:sch=sc.2.1:=by rw[hsc8]
     rw[<-hch]at sb1 sb2 sb3;obtain⟨q,hq⟩:=qD (Fa fr sch kin sM);rw[<-hq]at hec;have hok8:q.1≠99:=fun h=>hok (by rw[hec];exact h);obtain⟨hokM,hqc⟩:=Acc (fr:=fr) (c:=sch) (i:=kin) (M:=sM) (by rw[<-hq];exact hok8);rw[<-hq]at hqc;obtain⟨m1,m2,m3,m4⟩:=Ajl hokM;obtain⟨qb1,qb2,qb3,qb4⟩:=Lp (fr:=fr) (c:=sch) (i:=kin) (M:=sM) (m:=mx+2*(n'+1));rw[<-hq]at qb1 qb2 qb3 qb4;have hkn8:=K8.num;have hcc8:=I8.le;have hfew8:Few sch.A (mx+2*(n'+1)):=by rw[sb3];exact eb3
     have H:=E8.O.ctx;refine Ad (Am U (BN BQ Bh U H at0 U (Ai qB (Ab9 E8.X hfr (by rw[sb1];omega) kin (MY Z _) E8.zlt (K8.weak MYZ) m2 m3 m4 hfew8) U ?_)));rintro v w9 ⟨qa,qn,qc,F9,L9,rfl,X9,g9,Q9⟩;rw[<-hqc]at X9 Q9;rw[<-hqc];obtain⟨E9,gg9⟩:=E8.call X9 g9;have Q9':=Q9.weak Aef;have I9:=I8.turn gg9;replace H:=E9.O.ctx;refine AQ U (Ah U U (Ah U U (Ak U (Ac U (qA (BR [([0,1,2,3,4,5,6,7,8],9),([],10),([11],12)] (fun z=>z.heap[b12]?=some (NBl true aa nn cc)) [12] mixed (H.drew.get at1) ?_))))));refine AC U U (AD Br U (BG BT U (fun _ hx=>Ar hx (0+1)) ?_));refine B9 U (Hr U Bw Bm U U ?_);refine BF U (AD Br U (BG BT U (fun _ hx=>Ar hx (0+1)) ?_));refine B9 U (Gp Bw Bm U U ?_);refine AU ?_;replace H:=H.drew
     refine Cb [.slice aa sfr cc,.slice qa qn qc,.slice (EL aa cc sto 3) (nn - sto) (cc - sto)] IL CP Nf H ?_;rintro b156 w - H;refine Ab (Bc (H.get at2) (AC U U ?_));refine AU ?_;obtain⟨E10,g10⟩:=E9.own H;have I10:=I9.turn g10;have Q10:=Q9'.turn g10;have hlt9:(l.take sfr).length=sfr:=(by rw[qa0];omega);have hld9:(l.drop sto).length=nn - sto:=(by rw[qbg];omega);have hqn9:q.2.2.length=qn:=Q10.num.symm;have RR:Rd w (some ⟨b156,0,none⟩) 1 Oh [(aa,l.take sfr,cc),(qa,q.2.2,qc),(EL aa cc sto 3,l.drop sto,cc - sto)]:=Rd.of_bl (r:=[]) (H.get at0) (by simp[Oh,hlt9,hld9,hqn9]) (fun _ _=>rfl);have hIts:∀x∈([(aa,l.take sfr,cc),(qa,q.2.2,qc),(EL aa cc sto 3,l.drop sto,cc - sto)]:List SI),Its w _ x.1 x.2.1.length x.2.2 x.2.1:=ZX I10 Q10 hfn htn hlt9 hld9
     have hfl:([(aa,l.take sfr,cc),(qa,q.2.2,qc),(EL aa cc sto 3,l.drop sto,cc - sto)]:List SI).flatMap (fun x=>x.2.1)=l.take sfr++(q.2.2++l.drop sto):=(by simp);have CC:=Gt (n:=3) (c:=3) E10.mylt _ RR hIts rfl (by simp only[qay,qbn,qc5,qde];omega);rw[hfl]at CC;refine Ai qB CC U ?_;rintro v w11 ⟨a11,c11,rfl,J11,hx11⟩;obtain⟨E11,g11⟩:=E10.call0 hx11;replace H:=E11.O.ctx;refine Ab (Bc (H.get at2) (AC U U ?_));refine AD Br U (AU (Bf (.slice _ _ _) CP U U U H at2 (by(simp;done)) ?_));rintro w H;refine Ab (De U (B1 (Ad (BN BQ Bh U H at2 U (Ae U (Bo Bh U U U (by simp[Bi]) H at3 U ?_))))));rintro w H;refine Ac U (qA (Ax (Dx U U U BQ Bh H at3 U (show _=(.int _ _)from rfl) ?_)));obtain⟨E12,g12⟩:=E11.own H
     exact⟨true,a11,_,c11,F9,L9,by rw[hec];rfl,by rw[hec];exact E12.X,E12.GT,fun _=>⟨by rw[hec],by rw[hec];exact(J11.turn g12).weak MY.le⟩⟩
theorem XM{f:Nat}{cl:List Value}{G:List It->List It}{key:Byt}{fr:Nat}(hf:Aw prog f=true)(hfr:fr<=5000)(hkl:key.length<=100000):∀n,ZW f cl G key fr n
 |0=>UV hf hfr hkl 0 fun n' h=>by omega
 |n+1=>UV hf hfr hkl (n+1) fun n' h=>by
   obtain rfl:n=n':=by omega
   exact XM hf hfr hkl n
theorem UW(P:List Nat):(IX P).length=P.length:=by
 unfold IX;split
 .rfl
 .simp
theorem Amd{fr:Nat}{c:Ch}{i:Bool}{M:List It}:(wrC fr c i M).2.P.length=c.P.length:=by
 unfold wrC
 split
 .rfl
 .split
  .exact UW _
  .exact UW _
theorem Acd{fr:Nat}{i:Bool}:∀{Hs:List (List It)} {c:Ch} {acc:List It},c.P.length<=4096->(∀h∈Hs,(Gu h).length<=65535)->(∀x∈acc,x.key.length<=65535/\x.val.length<=65535/\x.page<=4096)->∀x∈(C4 fr i Hs c acc).2.2,x.key.length<=65535/\x.val.length<=65535/\x.page<=4096
 | [],c,acc,_,_,ha=>ha
 |h::Hs,c,acc,hP,hk,ha=>by
  unfold C4
  split
  .refine Acd (by rw[Amd];exact hP) (fun h hh=>hk h (qai _ hh)) fun x hx=>?_
   rcases qau.1 hx with hx|hx
   .exact ha x hx
   .rw[qaa.1 hx];have:=XG c.P;exact⟨hk h (qaf ..),by simp,by dsimp only;omega⟩
  .intro x hx;cases hx
theorem Ame{fr:Nat}{c:Ch}{i:Bool}{M:List It}(hP:c.P.length<=4096)(hM:∀x∈M,x.key.length<=65535):∀x∈(JC fr c i M).2.2,x.key.length<=65535/\x.val.length<=65535/\x.page<=4096:=by
 unfold JC
 split
 .intro x hx;cases hx
 .refine Acd hP (fun h hh=>?_) (fun x hx=>by cases hx);unfold Gu
  cases h0:h[0]? with
  |none=>simp
  |some y=>exact hM y ((SX hh).2 y (qad h0))
theorem Amf{w:World}{bt bd bp ba fr bc:Nat}{c:Ch}{F:Mut}{L:List (Nat × Obj)}(X:Cx w bt bd bp ba fr bc c F L)(hfr:fr<=5000)(inner:Bool){a:Option Addr}{n cc:Nat}{M:List It}(Z:Mut)(hZ:∀x,Z x->x<w.heap.size)(I:Its w (MZ (TM F ba bt bp L) Z) a n cc M){mx:Nat}(hfew:Few c.A mx)(hok:(Ef fr c inner M).1≠99)(htk:c.tk.length<=99980:=by omega)(hmx:mx<=999999980:=by omega):
  Ret prog 177 #[ptr bc,.agg #[.bool inner,.slice a n cc]] w fun v w'=>∃(p:Int) (F':Mut) (L':List (Nat × Obj)),v=.tuple #[.int .i64 p,.int .i64 (Ef fr c inner M).1]/\Cx w' bt bd bp ba fr bc (Ef fr c inner M).2.1 F' L'/\Grown (TM F ba bt bp L) (TM F' ba bt bp L') w w'/\((Ef fr c inner M).1=0->p=(Ef fr c inner M).2.2):=by
 obtain⟨w0,rfl⟩:=qD w;have hnum:=I.num;obtain⟨tc,htc⟩:=qD (Ef fr c inner M);rw[<-htc]at hok |-;unfold Ef at htc;have E0:=Fr.start X hZ;have H:=Ctx.start w0 [];refine A6 (fn:=f177) func177 U [.pointer (some ⟨bc,0,none⟩),.agg #[.bool inner,.slice a n cc]] U ?_;refine Ad (Cn [.bool inner,.slice a n cc] (.agg _) U U H ?_);rintro b3 w - H;refine Ac U (Ac U (qA (Aq (Ad (BE (α:=Unit) 261120 (fun _=>[(17,.bool (inner && decide (n=1)))]) (fun _ w'=>Ctx w0 [] w' [(b3,Bl 183 [.bool inner,.slice a n cc])]) U ?_ ?_)))))
 .refine Af DD U (AH Gf U H at0 U (AA U (AR 12 U ?_ ?_)))
  .intro h1;refine Af Br U (AH BT U H at0 U (AP Bw U (B6 U U (AN U (.bool _) U (Ab ?_)))));exact⟨rfl,(),rfl,⟨qab Value.bool (by(rw[h1]);(try rw[qar]);simp;try omega),trivial⟩,H⟩
  .intro h2;refine Ag U (Ag U (Ag U (Ag U (AK U (.bool _) U (Ab ?_)))));exact⟨rfl,(),rfl,⟨qab Value.bool (by(rw[h2]);(try rw[qar]);simp;try omega),trivial⟩,H⟩
 rintro - j17 w H;refine Au _ U ?_ ?_
 .intro hA;have hfw:IZ inner M=true:=by unfold IZ;rw[<-hnum];exact hA
  rw[if_pos hfw]at htc;have hn1:n=1:=by simp at hA;exact hA.2
  obtain⟨E1,g1⟩:=E0.own H;have I1:=(I.weak MY.nil).turn g1;replace H:=E1.O.ctx;obtain⟨ms,R,-,hl,hok1⟩:=I1.ex;have hml:ms.length=n:=by rw[hnum,<-hl,qaj]
  obtain⟨x,hx1⟩:=AO (l:=ms) (i:=0);have hxL:=Im.at hl hx1;have hpa:Cq M 0=x.it.page:=by unfold Cq;rw[hxL];rfl
  refine Ad (Af Br U (AH BT U H at0 U (AY R Bw Bm U U ?_)));refine Af Gg U (Be DW U (R.fld hx1 U (j:=2) U) ?_);refine Ac U (Ac U (qA (Ax (Ao (Ce (v1:=(.int _ _)) (v2:=(.int _ _)) U U U U ?_)))));exact⟨_,F,L,by rw[htc],by rw[htc];exact E1.X,E1.GT,fun _=>by rw[htc,hpa]⟩
 .intro hA;have hfw:¬IZ inner M=true:=by unfold IZ;rw[<-hnum,hA];simp
  rw[if_neg hfw]at htc;obtain⟨q,hq⟩:=qD (Fa fr c inner M);rw[<-hq]at htc;have hok8:q.1≠99:=fun h=>hok (by rw[htc,if_pos (by rw[h];decide)];exact h);obtain⟨hokM,hqc⟩:=Acc (fr:=fr) (c:=c) (i:=inner) (M:=M) (by rw[<-hq];exact hok8);rw[<-hq]at hqc;obtain⟨m1,m2,m3,m4⟩:=Ajl hokM;obtain⟨qb1,qb2,qb3,qb4⟩:=Lp (fr:=fr) (c:=c) (i:=inner) (M:=M) (m:=mx);rw[<-hq]at qb1 qb2 qb3 qb4;have hsz:=Ame (fr:=fr) (c:=c) (i:=inner) (M:=M) X.T.pg.len (fun x hx=>(m2 x hx).1);rw[<-hqc]at hsz;obtain⟨E1,g1⟩:=E0.own H;have I1:=(I.weak MY.nil).turn g1;replace H:=E1.O.ctx;refine Ap (Aa (Ad (Am U (BN BQ Bh U H at0 U (Ai qB (Ab9 E1.X hfr (by omega) inner (MY Z _) E1.zlt (I1.weak MYZ) m2 m3 m4 hfew) U ?_)))));rintro v w9 ⟨qa,qn,qc,F9,L9,rfl,X9,g9,Q9⟩;rw[<-hqc]at X9 Q9;rw[<-hqc];obtain⟨E9,gg9⟩:=E1.call X9 g9;have hqn:=Q9.num;replace H:=E9.O.ctx
  refine AQ U (Ah U U (Ah U U (Ak U (Ac U (qA (Aq (Ad (BE (α:=Unit) 68182605824 (fun _=>[(35,.bool (decide (q.1≠0) || decide (q.2.2.length=0)))]) (fun _ w'=>Ctx w9 [b3] w' [(b3,Bl 183 [.bool inner,.slice a n cc])]) U ?_ ?_))))))))
  .refine Ae U (Ba U U (AA U (AR 31 U ?_ ?_)))
   .intro h3;replace h3:=Bu h3;refine Ag U (Ag U (Ag U (AN U (.bool _) U (Ab ?_))));exact⟨rfl,(),rfl,⟨qab Value.bool (by(rw[qal (show q.1≠0 from h3)]);(try rw[<-hqn]);(try rw[qar]);simp;try omega),trivial⟩,H⟩
   .intro h4;replace h4:=Bv h4;refine Aj U (AP Bw U (B6 U U (AK U (.bool _) U (Ab ?_))));exact⟨rfl,(),rfl,⟨qab Value.bool (by(rw[qag (show ¬q.1≠0 from fun h=>h h4)]);(try rw[<-hqn]);(try rw[qar]);simp;try omega),trivial⟩,H⟩
  rintro - j35 w H;refine Au _ U ?_ ?_
  .intro hB;refine Ad (Ae U (Ac U (Ac U (qA (Ax (Ao (Ce (v1:=(.int _ _)) (v2:=(.int _ _)) U U U U ?_)))))));obtain⟨E10,-⟩:=E9.own H
   by_cases h0:q.1=0
   .have h1:q.2.2=[]:=by
     rw[h0]at hB
     simpa using hB
    rw[if_neg (by rw[h0];simp),if_pos h1]at htc;exact⟨-1,F9,L9,by rw[htc,h0],by rw[htc];exact E10.X,E10.GT,fun _=>by rw[htc]⟩
   .rw[if_pos h0]at htc;exact⟨-1,F9,L9,by rw[htc],by rw[htc];exact E10.X,E10.GT,fun _=>by rw[htc]⟩
  .intro hB
   have hB2:q.1=0/\q.2.2≠[]:=by
    simp at hB;exact⟨hB.1,hB.2⟩
   obtain⟨h0,h1⟩:=hB2;rw[if_neg (by rw[h0];simp),if_neg h1]at htc;obtain⟨E10,g10⟩:=E9.own H;have Q10:=(Q9.weak Aef).turn g10;replace H:=E10.O.ctx;obtain⟨w10,rfl⟩:=qD w;refine Ap (Aa (Aq (Ad (Aj U (AP Bw U (BZ U U (qA (Au _ U ?_ ?_))))))))
   .intro hC;replace hC:=AV hC;rw[if_pos (by omega)]at htc;refine Ad (Am U (Aj U (B2 [.bool true,.slice qa qn qc] Ha Cl ?_)));refine Ai qB (Py E10.X hfr true (MY Z _) (Q10.weak MYZ) h1 (fun x hx=>⟨(hsz x hx).1,(hsz x hx).2.1⟩) (fun x hx=>by have:=(hsz x hx).2.2;omega) (qb3 hfew)) U ?_;rintro v w11 ⟨m,F11,L11,rfl,X11,g11,-,-,hm11⟩;obtain⟨E11,-⟩:=E10.call X11 g11;replace H:=E11.O.ctx;refine AQ U (Ah U U (Ah U U (Bj C3 H ?_)));rintro b8 w - H;refine Bo Bm U U U (by exact(by exact Im.oneE _)) H at0 U ?_;rintro w H;refine Ac U (qA (Ad (Af Gg U (AH DW U H at0 U (Ae U (Ac U (Ac U (qA (Ax (Ao (Ce (v1:=(.int _ _)) (v2:=(.int _ _)) U U U U ?_)))))))))));obtain⟨E12,-⟩:=E11.own H;exact⟨_,F11,L11,by rw[htc],by rw[htc];exact E12.X,E12.GT,fun h=>by rw[htc]at h |-;rw[hm11 h]⟩
   .intro hC;replace hC:=AW hC;rw[if_neg (by omega)]at htc;obtain⟨ms,R,-,hl,hok1⟩:=Q10.ex;have hml:ms.length=qn:=by rw[hqn,<-hl,qaj]
    have hpos:=qbv.2 h1;obtain⟨x,hx1⟩:=AO (l:=ms) (i:=0);have hxL:=Im.at hl hx1;have hpa:Cq q.2.2 0=x.it.page:=by unfold Cq;rw[hxL];rfl
    refine Ap (Aa (Ad (Aj U (AY R Bw Bm U U ?_))));refine Af Gg U (Be DW U (R.fld hx1 U (j:=2) U) ?_);refine Ac U (Ac U (qA (Ax (Ce (v1:=(.int _ _)) (v2:=(.int _ _)) U U U U ?_))));exact⟨_,F9,L9,by rw[htc],by rw[htc];exact E10.X,E10.GT,fun _=>by rw[htc,hpa]⟩
theorem Tx.none{w:World}{bt bd bp ba fr:Nat}{A:Dev}{P:List Nat}{F:Mut}{L:List (Nat × Obj)}(T:Tx w bt bd bp ba fr A P F L):Tx w bt bd bp ba fr A P F [] :=
 ⟨T.tr,T.pg,T.dev,(fun x h=>by cases h),List.Pairwise.nil,(fun x h=>by cases h),T.nbt,T.nbp,T.nba,T.lt⟩
theorem TM.none{F:Mut}{ba bt bp:Nat}{L:List (Nat × Obj)}:∀x,TM F ba bt bp [] x->TM F ba bt bp L x:=fun x h=>by
 rcases h with h|h|h|h|h
 .exact .inl h
 .exact .inr (.inl h)
 .exact .inr (.inr (.inl h))
 .exact .inr (.inr (.inr (.inl h)))
 .cases h
theorem Fr.born{w0 w:World}{bt bd bp ba fr bc:Nat}{c:Ch}{F Z:Mut}{L Y:List (Nat × Obj)}(T:Tx w0 bt bd bp ba fr c.A c.P F [])(hZ:∀x,Z x->x<w0.heap.size)(H:Ctx w0 [] w (L++Y))(hex:∃ta tc tf ga gc gf,L=CL bt bc ta c.tk.length tc tf ga c.gn.length gc gf/\OS ta c.tk.length tc 1 tf (c.tk.map pv)/\OS ga c.gn.length gc 1 gf (c.gn.map pv)):Fr w0 Z (TM F ba bt bp []) w bt bd bp ba fr bc c F L Y:=by
 have hnd:=qca.1 H.nd;have hlt0:∀x,TM F ba bt bp [] x->x<w0.heap.size:=T.mlt;have hyo:∀y∈L++Y,w0.heap.size<=y.1:=fun y hy=>(H.own y hy).elim (fun h=>by cases h) id;obtain⟨T1,g1⟩:=T.own (H.sub (L':=L) (fun x h=>qa5 _ h) hnd.1);refine⟨⟨T1,hex⟩,⟨fun y hy=>H.blk y (qax _ hy),hnd.2.1,fun y hy h=>?_⟩,g1,⟨.of0 H.ext,fun x h=>?_⟩,fun y hy=>?_,H.ext.size,hZ⟩
 .have h5:=hyo y (qax _ hy)
  rcases h with h|h
  .by_cases h6:y.1∈L.map (·.1)
   .obtain⟨x,hx,he⟩:=qah.1 h6;exact hnd.2.2 x hx y hy he
   .have:TM F ba bt bp [] y.1:=by
     rcases h with h|h|h|h|h
     .exact .inl h
     .exact .inr (.inl h)
     .exact .inr (.inr (.inl h))
     .exact .inr (.inr (.inr (.inl h)))
     .exact absurd h h6
    have:=hlt0 _ this;omega
  .have:=hZ _ h;omega
 .rcases h with(h|h)|h
  .by_cases h6:x∈L.map (·.1)
   .obtain⟨y,hy,rfl⟩:=qah.1 h6;exact .inr (hyo y (qa5 _ hy))
   .left;left
    rcases h with h|h|h|h|h
    .exact .inl h
    .exact .inr (.inl h)
    .exact .inr (.inr (.inl h))
    .exact .inr (.inr (.inr (.inl h)))
    .exact absurd h h6
  .exact .inl (.inr h)
  .obtain⟨y,hy,rfl⟩:=qah.1 h;exact .inr (hyo y (qax _ hy))
 .obtain⟨z,hz,rfl⟩:=qah.1 hy;exact hyo z (qax _ hz)
theorem Td{w:World}{bt bd bp ba fr bc:Nat}{c:Ch}{F:Mut}{L:List (Nat × Obj)}(X:Cx w bt bd bp ba fr bc c F L){b10 b9 t1 t2:Nat}{e:Int}{l1 l2:List Value}(h10:w.heap[b10]?=some (Bl t1 (ptr bc::l1)))(h9:w.heap[b9]?=some (Bl t2 (.int .i64 e::l2)))(hgn:c.gn.length<=1000000)(htk:c.tk.length<=1000000:=by omega):
  Agy prog 175 #[ptr b10,ptr b9] w fun w'=>Cx w' bt bd bp ba fr bc (DH c e) F L/\Grown (TM F ba bt bp L) (TM F ba bt bp L) w w':=by
 obtain⟨w0,rfl,H⟩:=qE w;refine U2 (fn:=f175) func175 U [.pointer (some ⟨b10,0,none⟩),.pointer (some ⟨b9,0,none⟩)] U ?_;refine Av (Be RY U ((by rw[Ar h10];rfl)) ?_);refine Be EW U ((by rw[Ar h9];rfl)) ?_;refine Ai qB (XK X e htk hgn) U ?_;rintro v w2 ⟨rfl,X2,g2⟩;refine Ab (Ih U U ?_);exact⟨X2,g2⟩
theorem Ajm{fr:Nat}{A:Dev}{P:List Nat}{root:Int}{key:Byt}{G:List It->List It}{ed:Int × Ch × Bool × List It}(hed:ed=if root = -1 then(0,⟨A,P,[],[]⟩,false,G [])else CM fr G key 18 ⟨A,P,[],[]⟩ root.toNat 0) :
  DG fr A P root key G=if ed.1≠0 then(ed.1,root,DH ed.2.1 ed.1)else if(Ef fr ed.2.1 ed.2.2.1 ed.2.2.2).1≠0 then((Ef fr ed.2.1 ed.2.2.1 ed.2.2.2).1,root,DH (Ef fr ed.2.1 ed.2.2.1 ed.2.2.2).2.1 (Ef fr ed.2.1 ed.2.2.1 ed.2.2.2).1)
   else(0,(Ef fr ed.2.1 ed.2.2.1 ed.2.2.2).2.2,DH (Ef fr ed.2.1 ed.2.2.1 ed.2.2.2).2.1 0):=by
 unfold DG;rw[hed]
theorem Ajn{fr:Nat}{c:Ch}{i:Bool}{M:List It}:(Ef fr c i M).2.1.tk.length<=c.tk.length+3/\(Ef fr c i M).2.1.gn=c.gn:=by
 obtain⟨q1,q2,-,-⟩:=Lp (fr:=fr) (c:=c) (i:=i) (M:=M) (m:=0);unfold Ef
 split
 .exact⟨qcp _ _,rfl⟩
 .split
  .exact⟨by dsimp only;omega,q2⟩
  .split
   .exact⟨by dsimp only;omega,q2⟩
   .split
    .have h1:=SW (fr:=fr) (c:=(Fa fr c i M).2.1) (inner:=true) (M:=(Fa fr c i M).2.2);exact⟨by dsimp only;omega,wrC_gn.trans q2⟩
    .exact⟨by dsimp only;omega,q2⟩
structure US where
 i:Bool
 a:Option Addr
 n:Nat
 c:Nat
 M:List It
 ch:Ch
 F:Mut
 L:List (Nat × Obj)
theorem XN{f:Nat}{cl:List Value}{G:List It->List It}{key:Byt}{fr:Nat}(hf:Aw prog f=true)(hfr:fr<=5000)(hkl:key.length<=100000){w:World}{bt bd bp ba:Nat}{A:Dev}{P:List Nat}{F:Mut}(T:Tx w bt bd bp ba fr A P F [])(root:Int)(hr1 : -1<=root)(hr2:root<=4294967296)(Z:Mut)(hZ:∀x,Z x->x<w.heap.size)(D:DoOk f cl G w (MZ (TM F ba bt bp []) Z))(ka:Option Addr)(kc:Nat)(Rk:Rdx w (MZ (TM F ba bt bp []) Z) ka key){mx:Nat}(hfew:Few A mx)(hmx:mx<=800000000)(hok:(DG fr A P root key G).1≠99) :
  Ret prog 144 #[ptr bt,.int .i64 root,.slice ka key.length kc,.func (.func f) #[] cl.toArray] w fun v w'=>∃F',v=.tuple #[.int .i64 (DG fr A P root key G).2.1,.int .i64 (DG fr A P root key G).1]/\Tx w' bt bd bp ba fr (DG fr A P root key G).2.2.A (DG fr A P root key G).2.2.P F' []/\Grown (TM F ba bt bp []) (TM F' ba bt bp []) w w':=by
 obtain⟨w0,rfl⟩:=qD w;obtain⟨ed,hed⟩:=qD (if root = -1 then(0,⟨A,P,[],[]⟩,false,G [])else CM fr G key 18 ⟨A,P,[],[]⟩ root.toNat 0:Int × Ch × Bool × List It);have htc:=Ajm hed;obtain⟨tc,htc2⟩:=qD (DG fr A P root key G);rw[<-htc2]at htc hok |-;have H:=Ctx.start w0 [];refine U3 (fn:=f144) func144 U [.pointer (some ⟨bt,0,none⟩),.int .i64 root,.slice ka key.length kc,.func (.func f) #[] cl.toArray] U ?_;refine Ad (Ac U (Bj Xr H ?_));rintro b9 w - H;refine qA (Ad (Am U (B2 [ptr bt,.slice none 0 0,.slice none 0 0] Ah4 Aia ?_)));refine Cn [ptr bt,.slice none 0 0,.slice none 0 0] (.agg _) U U H ?_;rintro bc w - H;refine Bj Ah9 H ?_;rintro b10 w - H;refine Bf (.pointer _) Ah6 U U U H at0 (by decide) ?_;rintro w H;refine qA (Ad (CG [.pointer _,.pointer _] U (WT U U ?_)))
 refine qA (Ad (B2 [.bool false,.slice none 0 0] Ha Cl ?_));refine Bj Cl H ?_;rintro b11 w - H;refine Bo Bh U U U (by simp[Bi]) H at0 U ?_;rintro w H;refine qA (Aq (Ad (Ae U (B6 U U (qA ?_)))));have E1:Fr w0 Z (TM F ba bt bp []) w bt bd bp ba fr bc ⟨A,P,[],[]⟩ F [(bc,Bl TC [ptr bt,.slice none 0 0,.slice none 0 0])] [(b11,NBl false none 0 0),(b10,Bl 186 [ptr bc]),(b9,Bl 28 [.int .i64 0])]:=Fr.born T hZ (H.perm (List.perm_middle (l₁:=[_,_]) (l₂:=[_]))) ⟨none,0,[],none,0,[],rfl,OS.nil,OS.nil⟩;replace H:=E1.O.ctx
 have hb:ed.2.1.tk.length<=36/\ed.2.1.gn.length<=36/\Few ed.2.1.A (mx+36):=by
  rw[hed]
  split
  .exact⟨qak _,qak _,hfew.mono (by omega)⟩
  .obtain⟨x1,x2,x3⟩:=Mr (fr:=fr) (G:=G) (key:=key) (m:=mx) (n:=18) (c:=⟨A,P,[],[]⟩) (p:=root.toNat) (d:=0);exact⟨by simpa using x1,by simpa using x2,x3 hfew⟩
 refine EZ 17179345152 (α:=US) (fun _=>[]) (fun s w'=>Fr w0 Z (TM F ba bt bp []) w' bt bd bp ba fr bc s.ch s.F s.L [(b11,NBl s.i s.a s.n s.c),(b10,Bl 186 [ptr bc]),(b9,Bl 28 [.int .i64 0])]/\Its w' (MY (MZ (TM s.F ba bt bp s.L) Z) [(b11,NBl s.i s.a s.n s.c),(b10,Bl 186 [ptr bc]),(b9,Bl 28 [.int .i64 0])]) s.a s.n s.c s.M/\ed=(0,s.ch,s.i,s.M)) U ?_ ?_
 .skip
  refine Au _ U ?_ ?_
  .intro hA;replace hA:=AV hA;rw[if_pos hA]at hed;refine Av (Ee U (.func _ _ _) U ?_);refine KP U U hf (D _ _ E1.GA E1.mylt none 0 0 [] Its.nil (by omega)) U ?_;rintro v w4 ⟨a4,c4,rfl,I4,hx4⟩;obtain⟨E4,-⟩:=E1.call0 hx4;replace H:=E4.O.ctx;refine Af Br U (Bf (.slice _ _ _) CP U U U H at0 (by decide) ?_);rintro w H;refine qA ?_;obtain⟨E5,g5⟩:=E4.own H;exact⟨⟨false,a4,(G []).length,c4,G [],⟨A,P,[],[]⟩,F,_⟩,rfl,trivial,E5,I4.turn g5,hed⟩
  .intro hA;replace hA:=AW hA;obtain⟨p,rfl⟩:∃p:Nat,root=(p:Int):=⟨root.toNat,by omega⟩;rw[if_neg hA,qbo]at hed;have hed':ed=CM fr G key (17+1) ⟨A,P,[],[]⟩ p 0:=hed;have hok5:ed.1≠99:=fun h=>hok (by rw[htc,if_pos (by rw[h];decide)];exact h);refine Ad (AH RY U H at1 U (Ae U (Aj U (Ee U (.func _ _ _) U ?_))));refine Ai qB (XM hf hfr hkl 17 E1.X (by simp) (by simp) p 0 (by omega) (by omega) (MY Z _) E1.zlt (D.keep (E1.GA.weak MYZ)) ka kc ((Rk.turn E1.GA).weak MYZ) mx hfew (by omega) (by rw[<-hed'];exact hok5)) U ?_;rintro v w5 ⟨kin,k5,n5,c5,F5,L5,rfl,X5,g5,hk5⟩;rw[<-hed']at X5 hk5;rw[<-hed'];obtain⟨E5,gg5⟩:=E1.call X5 g5;replace H:=E5.O.ctx;refine AQ U (Ah U U (Ah U U (Bo Bh U U U (by simp[Bi]) H at0 U ?_)));rintro w H;refine Bf (.int _ _) Ga U U U H at2 (by decide) ?_;rintro w H
   refine qA (Ad (AH EW U H at2 U (Ba U U (qA (Au _ U ?_ ?_)))))
   .intro hB;replace hB:=Bu hB;rw[if_pos hB]at htc;refine Agi 3 mixed U U (DM U (Abc U EW U (by rintro _ rfl;exact H.drew) at2 U ?_));refine EO U (Jo ?_);replace H:=H.drew;refine Bf (.int _ _) Ga U U U H at2 (by(simp;done)) ?_;rintro w H;refine qA (Ax (Ao ?_));obtain⟨E6,-⟩:=E5.own H;refine RQ U qB _ (Td E6.X (H.get at1) (H.get at2) (by omega)) (fun w7 hK tmps ht=>?_);exact⟨_,Qe U ht U U EW ((E6.O.call (hK.2.or Z)).1.blk (b9,_) (qad (i:=2) U)),F5,by rw[htc];rfl,by rw[htc];exact hK.1.T.none,(E6.GT.trans hK.2).weak TM.none⟩
   .intro hB;replace hB:=Bv hB;have hB':ed.1=0:=by simpa using hB
    rw[hB']at H;obtain⟨rfl,K5⟩:=hk5 hB';refine Ap (Aa ?_);obtain⟨E6,g6⟩:=E5.own H;exact⟨⟨ed.2.2.1,k5,n5,c5,ed.2.2.2,ed.2.1,F5,L5⟩,rfl,trivial,E6,(K5.weak Aef).turn g6,Prod.ext hB' rfl⟩
 .rintro⟨si,sa,sn,scc,sM,sch,sF,sL⟩ j18 w ⟨E8,I8,hed8⟩;dsimp only at E8 I8 hed8;rw[hed8]at htc hb;dsimp only at htc hb;rw[if_neg (by simp)]at htc;obtain⟨q,hq⟩:=qD (Ef fr sch si sM);rw[<-hq]at htc;have hokq:q.1≠99:=fun h=>hok (by rw[htc,if_pos (by rw[h];decide)];exact h);obtain⟨tb1,tb2⟩:=Ajn (fr:=fr) (c:=sch) (i:=si) (M:=sM);rw[<-hq]at tb1 tb2;have H:=E8.O.ctx;refine Ad (AH RY U H at1 U (BN BQ Bh U H at0 U (Ai qB (Amf E8.X hfr si (MY Z _) E8.zlt (I8.weak MYZ) hb.2.2 (by rw[<-hq];exact hokq)) U ?_)));rintro v w9 ⟨tp,F9,L9,rfl,X9,g9,hp9⟩;rw[<-hq]at X9 hp9;rw[<-hq];obtain⟨E9,gg9⟩:=E8.call X9 g9;replace H:=E9.O.ctx;refine AQ U (Ah U U (Ah U U (Ac U (Bf (.int _ _) Ga U U U H at2 (by decide) ?_))));rintro w H;refine qA (Aq (Ad (AH EW U H at2 U (Ba U U (qA (Au _ U ?_ ?_))))))
  .intro hC;replace hC:=Bu hC;rw[if_pos hC]at htc;refine Agi 3 mixed U U (DM U (Abc U EW U (by rintro _ rfl;exact H.drew) at2 U ?_));refine EO U (Jo ?_);replace H:=H.drew;refine Bf (.int _ _) Ga U U U H at2 (by(simp;done)) ?_;rintro w H;refine qA (Ax (Ao ?_));obtain⟨E10,-⟩:=E9.own H;refine RQ U qB _ (Td E10.X (H.get at1) (H.get at2) (by rw[tb2];omega)) (fun w7 hK tmps ht=>?_);exact⟨_,Qe U ht U U EW ((E10.O.call (hK.2.or Z)).1.blk (b9,_) (qad (i:=2) U)),F9,by rw[htc];rfl,by rw[htc];exact hK.1.T.none,(E10.GT.trans hK.2).weak TM.none⟩
  .intro hC;replace hC:=Bv hC;rw[if_neg (by simpa using hC)]at htc;have hC':q.1=0:=by simpa using hC
   have hp9':=hp9 hC';refine Ap (Aa (Ad (Ae U (Ac U (Bf (.int _ _) Ga U U U H at2 (by(simp;done)) ?_)))));rintro w H;refine qA (Ax ?_);obtain⟨E10,-⟩:=E9.own H;refine RQ U qB _ (Td E10.X (H.get at1) (H.get at2) (by rw[tb2];omega)) (fun w7 hK tmps ht=>?_);exact⟨_,Qe U ht U U EW ((E10.O.call (hK.2.or Z)).1.blk (b9,_) (qad (i:=2) U)),F9,by rw[htc];show Value.tuple #[.int .i64 tp,.int .i64 0]=.tuple #[.int .i64 q.2.2,.int .i64 0];rw[hp9'],by rw[htc];exact hK.1.T.none,(E10.GT.trans hK.2).weak TM.none⟩
theorem UX{w:World}{M:Mut}{a:Option Addr}{n c k m b:Nat}{l q:List It}(I:Its w M a n c l)(Q:Its w M (some ⟨b,0,none⟩) 1 1 q)(h1:(l.take k).length=k)(h2:(l.drop m).length=n - m)(hk:k<=n:=by omega)(hm:m<=n:=by omega):
  ∀x∈([(a,l.take k,c),(some ⟨b,0,none⟩,q,1),(EL a c m 3,l.drop m,c - m)]:List SI),Its w M x.1 x.2.1.length x.2.2 x.2.1:=by
 intro x hx;simp only[qac,qam,or_false]at hx
 rcases hx with rfl|rfl|rfl
 .show Its w M a (l.take k).length c (l.take k);rw[h1];exact I.take hk
 .show Its w M _ q.length _ q;rw[<-Q.num];exact Q
 .show Its w M _ (l.drop m).length _ (l.drop m);rw[h2];exact I.drop hm
theorem Aej{w:World}{M:Mut}{a:Option Addr}{n c k m:Nat}{l:List It}(I:Its w M a n c l)(h1:(l.take k).length=k)(h2:(l.drop m).length=n - m)(hk:k<=n:=by omega)(hm:m<=n:=by omega):
  ∀x∈([(a,l.take k,c),(EL a c m 3,l.drop m,c - m)]:List SI),Its w M x.1 x.2.1.length x.2.2 x.2.1:=by
 intro x hx;simp only[qac,qam,or_false]at hx
 rcases hx with rfl|rfl
 .show Its w M a (l.take k).length c (l.take k);rw[h1];exact I.take hk
 .show Its w M _ (l.drop m).length _ (l.drop m);rw[h2];exact I.drop hm
theorem Ace{w0 w:World}{M:Mut}(hM:∀x,M x->x<w0.heap.size){b t:Nat}{ka va:Option Addr}{kc vc:Nat}{key val:Byt}(hb:w.heap[b]?=some (Bl t [.slice ka key.length kc,.slice va val.length vc,.int .i64 0]))(hn:w0.heap.size<=b)(Rk:Rdx w M ka key)(Rv:Rdx w M va val)(hkc:key.length<=kc)(hvc:val.length<=vc):Its w M (some ⟨b,0,none⟩) 1 1 [⟨key,val,0⟩]:=by
 refine⟨⟨[⟨ka,kc,va,vc,⟨key,val,0⟩⟩],Rd.of_bl (r:=[]) hb U (fun _ _=>rfl),.inr fun h=>?_,rfl,fun m hm=>?_⟩,rfl,qae _⟩
 .have:=hM _ h;dsimp only[adr]at this;omega
 .rw[qaa.1 hm];exact⟨Rk,Rv,hkc,hvc⟩
theorem Ajo{w:World}{M:Mut}(hM:∀x,M x->x<w.heap.size){b6 b7 t6 t7:Nat}{ka va:Option Addr}{kc vc:Nat}{key val:Byt}{l6 l7:List Value}(h6:w.heap[b6]?=some (Bl t6 (.slice ka key.length kc::l6)))(h7:w.heap[b7]?=some (Bl t7 (.slice va val.length vc::l7)))(Rk:Rdx w M ka key)(Rv:Rdx w M va val)(hkc:key.length<=kc)(hvc:val.length<=vc){a:Option Addr}{n c:Nat}{l:List It}(I:Its w M a n c l)(hn:n<=100000) :
  Ret prog 145 #[.slice a n c,ptr b6,ptr b7] w fun v w'=>∃a' c',v=.slice a' (Lo key val l).length c'/\Its w' M a' (Lo key val l).length c' (Lo key val l)/\Ext [] w w':=by
 obtain⟨w0,rfl⟩:=qD w;have hnum:=I.num;have hcap:=I.le;have hpl:=Pw l key;obtain⟨k,hk⟩:=qD (CJ l key);obtain⟨kb,hkb⟩:=qD (Fv l key);have k6:∀{z:World},Ext [] w0 z->z.heap[b6]?=some (Bl t6 (.slice ka key.length kc::l6)):=fun{z} h=>by rw[h.block b6 (Al h6) (by simp)];exact h6
 have k7:∀{z:World},Ext [] w0 z->z.heap[b7]?=some (Bl t7 (.slice va val.length vc::l7)):=fun{z} h=>by rw[h.block b7 (Al h7) (by simp)];exact h7
 have hins:Lo key val l=if kb=true then l.take k++([⟨key,val,0⟩]++l.drop (k+1))else l.take k++([⟨key,val,0⟩]++l.drop k):=by unfold Lo;rw[hkb,hk]
 obtain⟨il,hil⟩:=qD (Lo key val l);rw[<-hil]at hins |-;have H:=Ctx.start w0 [];refine A6 (fn:=f145) func145 U [.slice a n c,.pointer (some ⟨b6,0,none⟩),.pointer (some ⟨b7,0,none⟩)] U ?_;refine Ad (Ak U (qA (Ad (Aj U (Be B4 U ((by rw[Ar h6];rfl)) ?_)))));refine Ai qB (SM I ka kc _ key Rk.1 U) U ?_;rintro v w1 ⟨rfl,hx1⟩;rw[<-hk,<-hkb];have H:=Ctx.start w1 [];refine AQ U (Ah U U (Ah U U (Ac U (An U (qA (Aq (Ad (AA U (qA ?_)))))))));refine Au _ U ?_ ?_
 .intro hA
  have hlt:k<n:=by
   rw[hkb]at hA;obtain⟨x,hx,-⟩:=Nl hA;have:=(qaq.1 hx).1;omega
  rw[if_pos hA]at hins;refine BR [([0,1,2,3,4,5,7,8,9,10],6),([],11),([],12),([],13)] (fun z=>Ext [] w1 z) [] mixed (Ext.drew [] w1) (AC U U ?_);refine BF U (B9 U (Hr U Bw Bm U U ?_));refine BG B4 U (fun _ hx=>(by rw[Ar (k6 (hx1.trans hx))];rfl)) ?_;refine BG B4 U (fun _ hx=>(by rw[Ar (k7 (hx1.trans hx))];rfl)) ?_;refine ED [.slice ka key.length kc,.slice va val.length vc,.int .i64 0] Nc C3 (BF U (B9 U (Fk U U ?_)));refine Gp Bw Bm U U (AU ?_);replace H:=H.drew;refine BJ [.slice ka key.length kc,.slice va val.length vc,.int .i64 0] (.agg _) Bw Bm C3 U U U U H ?_;rintro b20 w2 hb20 H;refine Ab (Bc (H.ext) (AC U U ?_))
  refine AU (Cb [.slice a k c,.slice (some ⟨b20,0,none⟩) 1 1,.slice (EL a c (k+1) 3) (n - (k+1)) (c - (k+1))] IL CP Nf H ?_);rintro b25 w3 - H;refine Ab (Bc (H.ext) (AC U U ?_));refine AU ?_;have hx3:=hx1.trans H.ext;have I3:=I.call hx3;have hlt9:(l.take k).length=k:=(by rw[qa0];omega);have hld9:(l.drop (k+1)).length=n - (k+1):=(by rw[qbg];omega);have Q3:=Ace hM (H.get at1) ((H.own _ (qai _ (qaf ..))).elim (fun h=>by cases h) fun h=>qav hx1.size h) (Rk.call hx3) (Rv.call hx3) hkc hvc;have RR:Rd w3 (some ⟨b25,0,none⟩) 1 Oh [(a,l.take k,c),(some ⟨b20,0,none⟩,[⟨key,val,0⟩],1),(EL a c (k+1) 3,l.drop (k+1),c - (k+1))]:=Rd.of_bl (r:=[]) (H.get at0) (by simp[Oh,hlt9,hld9]) (fun _ _=>rfl)
  have CC:=Gt (M:=M) (n:=3) (c:=3) (fun x h=>qas (hM x h) hx3.size) _ RR (UX I3 Q3 hlt9 hld9) rfl (by simp only[qay,qbn,qc5,qde,qbu];omega);rw[show([(a,l.take k,c),(some ⟨b20,0,none⟩,[⟨key,val,0⟩],1),(EL a c (k+1) 3,l.drop (k+1),c - (k+1))]:List SI).flatMap (fun x=>x.2.1)=il by rw[hins];simp]at CC;refine Ai qB CC U ?_;rintro v w4 ⟨a4,c4,rfl,J4,hx4⟩;have hx14:=H.ext.trans hx4;refine Ab (Bc (hx14) (AC U U ?_));refine AU (Ak U (Ab (Bc (hx14) (B1 (Ax (Ao (AG (v:=(.slice _ _ _)) U U U ?_)))))));exact⟨a4,c4,rfl,J4,hx1.trans hx14⟩
 .intro hA;rw[if_neg (by rw[hA];simp)]at hins;refine Ap (Aa (BR [([0,1,2,3,4,5,7,8,9],6),([],10),([],11),([],12)] (fun z=>Ext [] w1 z) [] mixed (Ext.drew [] w1) ?_));refine AC U U (BF U (B9 U (Hr U Bw Bm U U ?_)));refine BG B4 U (fun _ hx=>(by rw[Ar (k6 (hx1.trans hx))];rfl)) ?_;refine BG B4 U (fun _ hx=>(by rw[Ar (k7 (hx1.trans hx))];rfl)) ?_;refine ED [.slice ka key.length kc,.slice va val.length vc,.int .i64 0] Nc C3 (BF U (B9 U (Gp Bw Bm U U ?_)));refine AU ?_;replace H:=H.drew;refine BJ [.slice ka key.length kc,.slice va val.length vc,.int .i64 0] (.agg _) Bw Bm C3 U U U U H ?_;rintro b20 w2 hb20 H;refine Ab (Bc (H.ext) (AC U U ?_))
  refine AU (Cb [.slice a k c,.slice (some ⟨b20,0,none⟩) 1 1,.slice (EL a c k 3) (n - k) (c - k)] IL CP Nf H ?_);rintro b25 w3 - H;refine Ab (Bc (H.ext) (AC U U ?_));refine AU ?_;have hx3:=hx1.trans H.ext;have I3:=I.call hx3;have hlt9:(l.take k).length=k:=(by rw[qa0];omega);have hld9:(l.drop k).length=n - k:=(by rw[qbg];omega);have Q3:=Ace hM (H.get at1) ((H.own _ (qai _ (qaf ..))).elim (fun h=>by cases h) fun h=>qav hx1.size h) (Rk.call hx3) (Rv.call hx3) hkc hvc;have RR:Rd w3 (some ⟨b25,0,none⟩) 1 Oh [(a,l.take k,c),(some ⟨b20,0,none⟩,[⟨key,val,0⟩],1),(EL a c k 3,l.drop k,c - k)]:=Rd.of_bl (r:=[]) (H.get at0) (by simp[Oh,hlt9,hld9]) (fun _ _=>rfl)
  have CC:=Gt (M:=M) (n:=3) (c:=3) (fun x h=>qas (hM x h) hx3.size) _ RR (UX I3 Q3 hlt9 hld9) rfl (by simp only[qay,qbn,qc5,qde,qbu];omega);rw[show([(a,l.take k,c),(some ⟨b20,0,none⟩,[⟨key,val,0⟩],1),(EL a c k 3,l.drop k,c - k)]:List SI).flatMap (fun x=>x.2.1)=il by rw[hins];simp]at CC;refine Ai qB CC U ?_;rintro v w4 ⟨a4,c4,rfl,J4,hx4⟩;have hx14:=H.ext.trans hx4;refine Ab (Bc (hx14) (AC U U ?_));refine AU (Ak U (Ab (Bc (hx14) (B1 (Ax (AG (v:=(.slice _ _ _)) U U U ?_))))));exact⟨a4,c4,rfl,J4,hx1.trans hx14⟩
theorem Ajp{w:World}{M:Mut}(hM:∀x,M x->x<w.heap.size){b5 t5:Nat}{ka:Option Addr}{kc:Nat}{key:Byt}{l5:List Value}(h5:w.heap[b5]?=some (Bl t5 (.slice ka key.length kc::l5)))(Rk:Rdx w M ka key){a:Option Addr}{n c:Nat}{l:List It}(I:Its w M a n c l)(hn:n<=100000) :
  Ret prog 149 #[.slice a n c,ptr b5] w fun v w'=>∃a' c',v=.slice a' (KG key l).length c'/\Its w' M a' (KG key l).length c' (KG key l)/\Ext [] w w':=by
 obtain⟨w0,rfl⟩:=qD w;have hnum:=I.num;have hcap:=I.le;have hpl:=Pw l key;obtain⟨k,hk⟩:=qD (CJ l key);obtain⟨kb,hkb⟩:=qD (Fv l key);have hins:KG key l=if kb=true then l.take k++l.drop (k+1)else l:=by unfold KG;rw[hkb,hk]
 obtain⟨il,hil⟩:=qD (KG key l);rw[<-hil]at hins |-;have H:=Ctx.start w0 [];refine A6 (fn:=f149) func149 U [.slice a n c,.pointer (some ⟨b5,0,none⟩)] U ?_;refine Ad (Ak U (qA (Ad (Aj U (Be B4 U ((by rw[Ar h5];rfl)) ?_)))));refine Ai qB (SM I ka kc _ key Rk.1 U) U ?_;rintro v w1 ⟨rfl,hx1⟩;rw[<-hk,<-hkb];have H:=Ctx.start w1 [];refine AQ U (Ah U U (Ah U U (Ac U (An U (qA (Aq (Ad (AA U (BX U ?_)))))))));refine qA (Au _ U ?_ ?_)
 .intro hA;replace hA:=Cz hA;rw[if_neg (by rw[hA];simp)]at hins;refine Ad (Aj U (Ak U (qA (Ax (Ao (AG (v:=(.slice _ _ _)) U U U ?_))))));rw[hins,<-hnum];exact⟨a,c,rfl,I.call hx1,hx1⟩
 .intro hA;replace hA:=C0 hA
  have hlt:k<n:=by
   rw[hkb]at hA;obtain⟨x,hx,-⟩:=Nl hA;have:=(qaq.1 hx).1;omega
  rw[if_pos hA]at hins;refine Ap (Aa (BR [([0,1,2,3,4,5,6],7),([],8),([],9)] (fun z=>Ext [] w1 z) [] mixed (Ext.drew [] w1) ?_));refine AC U U (BF U (B9 U (Hr U Bw Bm U U ?_)));refine BF U (B9 U (Fk U U ?_));refine Gp Bw Bm U U (AU ?_);replace H:=H.drew;refine Cb [.slice a k c,.slice (EL a c (k+1) 3) (n - (k+1)) (c - (k+1))] IL CP Nf H ?_;rintro b25 w3 - H;refine Ab (Bc (H.ext) (AC U U ?_));refine AU ?_;have hx3:=hx1.trans H.ext;have I3:=I.call hx3;have hlt9:(l.take k).length=k:=(by rw[qa0];omega);have hld9:(l.drop (k+1)).length=n - (k+1):=(by rw[qbg];omega)
  have RR:Rd w3 (some ⟨b25,0,none⟩) 1 Oh [(a,l.take k,c),(EL a c (k+1) 3,l.drop (k+1),c - (k+1))]:=Rd.of_bl (r:=[]) (H.get at0) (by simp[Oh,hlt9,hld9]) (fun _ _=>rfl);have CC:=Gt (M:=M) (n:=2) (c:=2) (fun x h=>qas (hM x h) hx3.size) _ RR (Aej I3 hlt9 hld9) rfl (by simp only[qay,qbn,qc5,qde];omega);rw[show([(a,l.take k,c),(EL a c (k+1) 3,l.drop (k+1),c - (k+1))]:List SI).flatMap (fun x=>x.2.1)=il by rw[hins];simp]at CC;refine Ai qB CC U ?_;rintro v w4 ⟨a4,c4,rfl,J4,hx4⟩;have hx14:=H.ext.trans hx4;refine Ab (Bc (hx14) (AC U U ?_));refine AU (Ak U (Ab (Bc (hx14) (B1 (Ax (AG (v:=(.slice _ _ _)) U U U ?_))))));exact⟨a4,c4,rfl,J4,hx1.trans hx14⟩
theorem Grown.keep{M M':Mut}{w w':World}{b:Nat}{o:Obj}(t:Grown M M' w w')(h:w.heap[b]?=some o)(hn:¬M b):w'.heap[b]?=some o:=by
 obtain⟨⟨S,hS,hx⟩,-⟩:=t;rw[hx.block b (Al h) fun h=>hn (hS _ h)];exact h
abbrev Z0:Mut:=fun _=>False
theorem MZ0{M:Mut}:∀x,MZ M Z0 x->M x:=fun _ h=>h.elim id False.elim
theorem Acf{fr:Nat}(hfr:fr<=5000){w:World}{bt bd bp ba:Nat}{A:Dev}{P:List Nat}{F:Mut}(T:Tx w bt bd bp ba fr A P F [])(root:Int)(ka va:Option Addr)(kc vc kn vn:Nat)(key val:Byt)(Rk:Rdx w (TM F ba bt bp []) ka key)(Rv:Rdx w (TM F ba bt bp []) va val)(hkn:key.length=kn)(hvn:val.length=vn)(hkc:kn<=kc)(hvc:vn<=vc){mx:Nat}(hfew:Few A mx)(hmx:mx<=800000000)(hok:(JQ fr A P root key val).1≠99)(hr1: -9223372036854775808<=root:=by omega)(hr2:root<=9223372036854775807:=by omega)(hkl:kn<=100000:=by omega):
  Ret prog 120 #[ptr bt,.int .i64 root,.slice ka kn kc,.slice va vn vc] w fun v w'=>∃F',v=.tuple #[.int .i64 (JQ fr A P root key val).2.1,.int .i64 (JQ fr A P root key val).1]/\Tx w' bt bd bp ba fr (JQ fr A P root key val).2.2.1 (JQ fr A P root key val).2.2.2 F' []/\Grown (TM F ba bt bp []) (TM F' ba bt bp []) w w':=by
 subst hkn hvn;obtain⟨w0,rfl⟩:=qD w;obtain⟨pt,hpt⟩:=qD (JQ fr A P root key val);rw[<-hpt]at hok |-;unfold JQ at hpt;have H:=Ctx.start w0 [];refine A6 (fn:=f120) func120 U [.pointer (some ⟨bt,0,none⟩),.int .i64 root,.slice ka key.length kc,.slice va val.length vc] U ?_;refine Ad (Cn _ (.slice _ _ _) U U H ?_);rintro b6 w - H;refine Cn _ (.slice _ _ _) U U H ?_;rintro b7 w - H;refine Ac U (Ac U (qA (Aq (Ad (Am U (Ae U (Ai qB (QK (T.call H.ext) root) U ?_)))))));rintro v w2 ⟨rfl,rfl⟩;refine Ac U (qA (Ad (Ae U (Ba U U (qA (Au _ U ?_ ?_))))))
 .intro hA;replace hA:=Bu hA;rw[if_pos hA]at hpt;have he:Ib P.length root=1:=by unfold Ib at hA |-;split <;> simp_all
  rw[he];refine Ad (Ae U (Ae U (Ac U (Ac U (qA (Ax (Ao (Ce (v1:=(.int _ _)) (v2:=(.int _ _)) U U U U ?_))))))));exact⟨F,by rw[hpt],by rw[hpt];exact T.call H.ext,.call0 H.ext⟩
 .intro hA;replace hA:=Bv hA;rw[if_neg (by simpa using hA)]at hpt;have hm0:Ib P.length root=0:=by simpa using hA
  have hroot : -1<=root/\root<=4294967296:=by
   have hpl:=T.pg.len;unfold Ib at hm0
   split at hm0
   .cases hm0
   .omega
  refine Ap (Aa (Aq (Ad (AH B4 U H at1 U (AH B4 U H at0 U (Ai qB (Px ka va _ _ kc vc _) U ?_))))));rintro v w2 ⟨rfl,rfl⟩;refine BX U (qA (Au _ U ?_ ?_))
  .intro hB;replace hB:=Cz hB;rw[if_neg (by rw[hB];simp)]at hpt;refine Ad (Ae U (Ac U (Ac U (qA (Ax (Ao (Ce (v1:=(.int _ _)) (v2:=(.int _ _)) U U U U ?_)))))));exact⟨F,by rw[hpt],by rw[hpt];exact T.call H.ext,.call0 H.ext⟩
  .intro hB;replace hB:=C0 hB;rw[if_pos (by simpa using hB)]at hpt;have hx1:=H.ext;have h6:=H.get at1;have h7:=H.get at0;have ho6:=(H.own _ (qai _ (qaf ..))).elim (fun h=>by cases h) id;have ho7:=(H.own _ (qaf ..)).elim (fun h=>by cases h) id;have hM0:=T.mlt;have T1:=T.call hx1;have D:DoOk 145 [ptr b6,ptr b7] (Lo key val) w (MZ (TM F ba bt bp []) Z0):=fun w' M' t hlt a n c l I hn=>Ajo hlt (t.keep h6 fun h=>by have:=hM0 _ (MZ0 _ h);dsimp only at ho6;omega) (t.keep h7 fun h=>by have:=hM0 _ (MZ0 _ h);dsimp only at ho7;omega) (((Rk.call hx1).weak MZ0).turn t) (((Rv.call hx1).weak MZ0).turn t) hkc hvc I hn;have hokt:(DG fr A P root key (Lo key val)).1≠99:=fun h=>hok (by rw[hpt];exact h)
   refine Ap (Aa (Ad (Am U (Ae U (AH B4 U H at1 U (CG [.pointer _,.pointer _] U (Ai qB (XN qB hfr hkl T1 root hroot.1 hroot.2 Z0 (fun x h=>h.elim) D ka kc ((Rk.call hx1).weak MZ0) hfew hmx hokt) U ?_)))))));rintro v w3 ⟨F3,rfl,T3,g3⟩;refine Ah U U (Ah U U (Ac U (Ac U (qA (Ax (Ce (v1:=(.int _ _)) (v2:=(.int _ _)) U U U U ?_))))));exact⟨F3,by rw[hpt],by rw[hpt];exact T3,(Grown.call0 hx1).trans g3⟩
theorem Acg{fr:Nat}(hfr:fr<=5000){w:World}{bt bd bp ba:Nat}{A:Dev}{P:List Nat}{F:Mut}(T:Tx w bt bd bp ba fr A P F [])(root:Int)(ka:Option Addr)(kc kn:Nat)(key:Byt)(Rk:Rdx w (TM F ba bt bp []) ka key)(hkn:key.length=kn){mx:Nat}(hfew:Few A mx)(hmx:mx<=800000000)(hok:(Hg fr A P root key).1≠99)(hr1: -9223372036854775808<=root:=by omega)(hr2:root<=9223372036854775807:=by omega)(hkl:kn<=100000:=by omega):
  Ret prog 121 #[ptr bt,.int .i64 root,.slice ka kn kc] w fun v w'=>∃F',v=.tuple #[.int .i64 (Hg fr A P root key).2.1,.bool (Hg fr A P root key).2.2.1,.int .i64 (Hg fr A P root key).1]/\Tx w' bt bd bp ba fr (Hg fr A P root key).2.2.2.1 (Hg fr A P root key).2.2.2.2 F' []/\Grown (TM F ba bt bp []) (TM F' ba bt bp []) w w':=by
 subst hkn;obtain⟨w0,rfl⟩:=qD w;obtain⟨pt,hpt⟩:=qD (Hg fr A P root key);rw[<-hpt]at hok |-;unfold Hg at hpt;obtain⟨gt,hgt⟩:=qD (Ol A fr P.length root key);rw[<-hgt]at hpt;have H:=Ctx.start w0 [];refine A6 (fn:=f121) func121 U [.pointer (some ⟨bt,0,none⟩),.int .i64 root,.slice ka key.length kc] U ?_;refine Ad (Cn _ (.slice _ _ _) U U H ?_);rintro b5 w - H;refine Ac U (An U (Ac U (qA (Ad (Am U (Ae U (AH B4 U H at0 U ?_)))))));have hx0:=H.ext;refine Ai qB (Ab8 (T.call hx0) hfr root ⟨hr1,hr2⟩ ka kc _ key (Rk.call hx0).1 U hfew) U ?_;rintro v w2 ⟨va,vc,u,rfl,hx17,-,-,-⟩;rw[<-hgt];replace H:=H.call hx17
 refine AQ U (Ah U U (Ah U U (Ah U U (Ak U (An U (Ac U (qA (Aq (Ad (BE (α:=Unit) 132120576 (fun _=>[(26,.bool (decide (gt.1≠0) || decide (gt.2.isSome=false)))]) (fun _ w'=>Ctx w0 [] w' [(b5,Bl 24 [.slice ka key.length kc])]) U ?_ ?_))))))))))
 .refine Ae U (Ba U U (AA U (AR 23 U ?_ ?_)))
  .intro h1;replace h1:=Bu h1;refine Ag U (Ag U (AN U (.bool _) U (Ab ?_)));exact⟨rfl,(),rfl,⟨qab Value.bool (by(rw[qal (show gt.1≠0 from h1)]);cases gt.2 <;> rfl),trivial⟩,H⟩
  .intro h2;replace h2:=Bv h2;refine AA U (BX U (AK U (.bool _) U (Ab ?_)));exact⟨rfl,(),rfl,⟨qab Value.bool (by(rw[qag (show ¬gt.1≠0 from fun h=>h h2)]);cases gt.2 <;> rfl),trivial⟩,H⟩
 rintro - j26 w H;refine Au _ U ?_ ?_
 .intro hA;refine Ad (Ae U (Ae U (Ac U (An U (Ac U (qA (Ax (Ao (CX (v1:=(.int _ _)) (v2:=(.bool _)) (v3:=(.int _ _)) U U U U U ?_)))))))))
  by_cases h0:gt.1=0
  .rw[if_neg (by rw[h0];simp),if_pos (by rw[h0]at hA;simpa using hA)]at hpt;exact⟨F,by rw[hpt,h0],by rw[hpt];exact T.call H.ext,.call0 H.ext⟩
  .rw[if_pos h0]at hpt;exact⟨F,by rw[hpt],by rw[hpt];exact T.call H.ext,.call0 H.ext⟩
 .intro hA
  have hA2:gt.1=0/\¬gt.2.isSome=false:=by
   have h5:=hA;rw[qdz]at h5;exact⟨by simpa using h5.1,qcx h5.2⟩
  rw[if_neg (by rw[hA2.1];simp),if_neg hA2.2]at hpt
  have hroot : -1<=root/\root<=4294967296:=by
   have hpl:=T.pg.len;have h5:=hA2.1
   have hm:Ib P.length root=0:=by
    by_cases hq:Ib P.length root=0
    .exact hq
    .rw[hgt]at h5;unfold Ol at h5;rw[if_pos hq]at h5;cases h5
   unfold Ib at hm
   split at hm
   .cases hm
   .omega
  have hx1:=H.ext;have h5:=H.get at0;have ho5:=(H.own _ (qaf ..)).elim (fun h=>by cases h) id;have hM0:=T.mlt;have T1:=T.call hx1;have D:DoOk 149 [ptr b5] (KG key) w (MZ (TM F ba bt bp []) Z0):=fun w' M' t hlt a n c l I hn=>Ajp hlt (t.keep h5 fun h=>by have:=hM0 _ (MZ0 _ h);dsimp only at ho5;omega) (((Rk.call hx1).weak MZ0).turn t) I hn;have hokt:(DG fr A P root key (KG key)).1≠99:=fun h=>hok (by rw[hpt];exact h);refine Ap (Aa (Ad (Am U (Ae U (AH B4 U H at0 U (CG [.pointer _] U (Ai qB (XN qB hfr hkl T1 root hroot.1 hroot.2 Z0 (fun x h=>h.elim) D ka kc ((Rk.call hx1).weak MZ0) hfew hmx hokt) U ?_)))))));rintro v w3 ⟨F3,rfl,T3,g3⟩;refine AQ U (Ah U U (Ah U U (Ac U (Ac U (qA (Ad (Ae U (Ae U (B6 U U ?_)))))))));refine Ae U (Ac U (An U (Ac U (qA (Ax (CX (v1:=(.int _ _)) (v2:=(.bool _)) (v3:=(.int _ _)) U U U U U ?_))))))
  exact⟨F3,by rw[hpt],by rw[hpt];exact T3,(Grown.call0 hx1).trans g3⟩
abbrev Nd:=Int × Bool × List It
def Jb(f:Int->Int × List Nd):List It->Int × List Nd
 | []=>(0,[])
 |x::l=>if(f (x.page:Int)).1≠0 then f (x.page:Int)else((Jb f l).1,(f (x.page:Int)).2++(Jb f l).2)
def Ff(A:Dev)(fr sz:Nat):Nat->Int->Nat->Int × List Nd
 |0,_,_=>(9,[])
 |n+1,page,d=>match(Dr A fr sz page (d:Int)).2 with
  |none=>((Dr A fr sz page (d:Int)).1,[])
  |some (false,l)=>(0,[(page,false,l)])
  |some (true,l)=>((Jb (fun p=>Ff A fr sz n p (d+1)) l).1,(page,true,l)::(Jb (fun p=>Ff A fr sz n p (d+1)) l).2)
structure JOk(bt bd bp ba fr:Nat)(A:Dev)(P:List Nat)(F Z:Mut)(N l:Nat)(J:List Nd->Mut->World->Prop):Prop where
 lt:∀{v M w},J v M w->∀x,M x->x<w.heap.size
 ext:∀{v M w w'},J v M w->Ext [] w w'->J v M w'
 tx:∀{v M w},J v M w->Tx w bt bd bp ba fr A P F []
 round:∀{v:List Nd} {M:Mut} {w:World} (page:Int) (i:Bool) (a:Option Addr) (n c:Nat) (L:List It),J v M w->v.length<N->Its w (MZ M Z) a n c L->L.length<=65535->(∀x∈L,x.key.length<=505/\x.val.length<=505) -> -9223372036854775808<=page/\page<=9223372036854775807 ->
  Go.GV.YieldAt prog l [.int .i64 page,.agg #[.bool i,.slice a n c]] w fun u w'=>u=.bool true/\∃M',J (v++[(page,i,L)]) M' w'/\Grown M M' w w'
def ZY(bt fr:Nat)(A:Dev)(sz:Nat)(Z:Mut)(N l:Nat)(J:List Nd->Mut->World->Prop)(n:Nat):Prop :=
 ∀{w:World} {M:Mut} {v:List Nd},J v M w->(∀x,Z x->x<w.heap.size)->∀(page:Int) (d:Nat),d+n=17 -> -9223372036854775808<=page->page<=9223372036854775807->v.length+(Ff A fr sz (n+1) page d).2.length<=N ->
  Ret prog 152 #[ptr bt,.int .i64 page,.int .i64 (d:Int),.func (.yield l) #[] #[]] w fun r w'=>r=.tuple #[.bool (decide ((Ff A fr sz (n+1) page d).1=0)),.int .i64 (Ff A fr sz (n+1) page d).1]/\∃M',J (v++(Ff A fr sz (n+1) page d).2) M' w'/\Grown M M' w w'
theorem UY{bt bd bp ba fr:Nat}{A:Dev}{P:List Nat}{F Z:Mut}{N l:Nat}{J:List Nd->Mut->World->Prop}(JO:JOk bt bd bp ba fr A P F Z N l J)(hfr:fr<=5000){mx:Nat}(hfew:Few A mx)(hmx:mx<=1000000000)(n:Nat)(IH:∀n',n=n'+1->ZY bt fr A P.length Z N l J n'):ZY bt fr A P.length Z N l J n:=by
 intro w M v hJ hZ page d hd hp1 hp2 hN;obtain⟨w0,rfl⟩:=qD w;obtain⟨ea,hea⟩:=qD (Ff A fr P.length (n+1) page d);rw[<-hea]at hN |-;rw[Ff]at hea;obtain⟨rt,hrt⟩:=qD (Dr A fr P.length page (d:Int));rw[<-hrt]at hea;refine A6 (fn:=f152) func152 U [.pointer (some ⟨bt,0,none⟩),.int .i64 page,.int .i64 (d:Int),.func (.yield l) #[] #[]] U ?_;refine Ad (An U (Ac U (qA (Ad (Am U (Ae U (Ae U (Ai qB (SS (JO.tx hJ) hfr page (d:Int) ⟨hp1,hp2⟩ hfew hmx) U ?_))))))));rintro v2 w2 ⟨inner,aa,nn,cc,rfl,hx20,hits⟩;rw[<-hrt]at hits;rw[<-hrt];have hJ2:=JO.ext hJ hx20;have H:=Ctx.start w2 [];refine AQ U (Ah U U (Ah U U (Bj Cl H ?_)));rintro b10 w - H;refine Bo Bh U U U (by simp[Bi]) H at0 U ?_;rintro w H;refine Ac U (qA (Aq (Ad (Ae U (Ba U U (AA U (AR 25 U ?_ ?_)))))))
 .intro hA;replace hA:=Bu hA
  have hnone:rt.2=none:=by
   cases h5:rt.2 with
   |none=>rfl
   |some r=>obtain⟨i,l⟩:=r;rw[hrt]at h5;rw[hrt]at hA;exact absurd (FJ h5).1 hA
  rw[hnone]at hea;dsimp only at hea;refine Ag U (Ag U (Ag U (Ag U (Ag U (AN U (.bool _) U (qA (EA U (Ad (Ae U ?_)))))))));refine An U (Ac U (qA (Ax (Ao (Ce (v1:=(.bool _)) (v2:=(.int _ _)) U U U U ?_)))));have hx3:=hx20.trans H.ext;refine⟨by rw[hea,qag hA],M,?_,.call0 hx3⟩;rw[hea]
  simpa using JO.ext hJ hx3
 .intro hA;replace hA:=Bv hA;have hA':rt.1=0:=by simpa using hA
  obtain⟨⟨i,li⟩,hsome⟩:∃r,rt.2=some r:=by
   cases h5:rt.2 with
   |none=>rw[hrt]at h5;rw[hrt]at hA';exact absurd hA' (IW h5)
   |some r=>exact⟨r,rfl⟩
  obtain⟨-,hne,hd16,-,-,hll⟩:=FJ (A:=A) (fr:=fr) (sz:=P.length) (page:=page) (depth:=(d:Int)) (by rw[<-hrt];exact hsome);obtain⟨rfl,I2f,hb⟩:=hits i li hsome;have I2:=I2f.weak (M':=MZ M Z) fun x h=>h.elim (JO.lt hJ x) (hZ x);rw[hsome]at hea;have hnum:=I2.num;obtain⟨O3,g3⟩:=Fo.nil.own (JO.lt hJ2) H;have I3:=(I2.weak (M':=MZ (MY M []) Z) fun x h=>h.elim (fun h => .inl (MY.nil x h)) .inr).turn (g3.or Z);have hJ3:=JO.ext hJ2 H.ext;have hx3:=hx20.trans H.ext
  have hvl:v.length<N:=by
   have:1<=ea.2.length:=by
    rw[hea]
    cases inner with
    |true=>simp
    |false=>simp
   omega
  obtain⟨w3,rfl⟩:=qD w;replace H:=O3.ctx;refine Ee U (.func _ _ _) U ?_;refine Ae U (BN BQ Bh U H at0 U (RO U U (JO.round page inner aa nn cc li hJ3 hvl (I3.weak fun x h=>h.elim (fun h => .inl (.inl h)) .inr) hll (fun x hx=>⟨(hb x hx).1,(hb x hx).2.1⟩) ⟨hp1,hp2⟩) U ?_));rintro _ w4 ⟨rfl,M4,hJ4,g4⟩;obtain⟨O4,gy4⟩:=O3.call g4;have I4:=I3.turn (gy4.or Z);have gg4:=(Grown.call0 hx3).trans g4;replace H:=O4.ctx;refine BX U (AK U (.bool _) U (qA (Bz U (Ap (Aa (Aq (Ad (Af Br U (AH BT U H at0 U (AP Bw U ?_))))))))))
  refine Ae U (qA (AE (B7 144115119356437248 (α:=Nat × List Nd × Mut) (fun s=>[(36,.int .i64 (s.1:Int))]) (fun s w'=>s.1<=nn/\J (v++[(page,inner,li)]++s.2.1) s.2.2 w'/\Fo w' s.2.2 [(b10,NBl inner aa nn cc)]/\Its w' (MZ (MY s.2.2 [(b10,NBl inner aa nn cc)]) Z) aa nn cc li/\Grown M s.2.2 w0 w'/\(inner=false->s.2.1=[])/\(inner=true->Jb (fun p=>Ff A fr P.length n p (d+1)) li=((Jb (fun p=>Ff A fr P.length n p (d+1)) (li.drop s.1)).1,s.2.1++(Jb (fun p=>Ff A fr P.length n p (d+1)) (li.drop s.1)).2))) (fun s=>nn - s.1) (0,[],M4) U ?_ ?_ ?_)))
  .exact⟨rfl,trivial⟩
  .exact⟨qak _,by rw[qa3];exact hJ4,O4,I4,gg4,fun _=>rfl,fun _=>rfl⟩
  .rintro⟨i,vs,M5⟩ j w ⟨hi,hJ5,O5,I5,g5,hvs,hkg⟩;dsimp only at hi hJ5 O5 I5 g5 hvs hkg;dsimp only;obtain⟨ms,R,-,hl,hok⟩:=I5.ex;have hml:ms.length=nn:=by rw[hnum,<-hl,qaj]
   have hb10:=O5.blk (b10,_) (qaa.2 rfl);have H:=Ctx.start w [];refine Ad (Bn U U (qA (Aq (Au _ U ?_ ?_))))
   .intro hB;replace hB:=AV hB;obtain⟨x,hx1⟩:=AO (l:=ms) (i:=i);have hxL:=Im.at hl hx1;have hxb:=hb x.it (qad hxL);obtain⟨wl,rfl⟩:=qD w;refine Ap (Aa (Aq (AE (Ad (AY R Bw Bm U U ?_)))));refine EY _ Ds Bm U U (R.row hx1 U) (Bj C3 H ?_);rintro b13 w - H;refine Bo Bm U U U (by exact Im.oneE _) H at0 U ?_;rintro w H;refine qA (Aq (Ad (Af DD U (Be Gf U ((by rw[Ar (show _=some (NBl inner aa nn cc)from by rw[H.ext.block b10 (Al hb10) (by simp)];exact hb10)];rfl)) ?_))));refine BX U (qA (Au _ U ?_ ?_))
    .intro hC;replace hC:=Cz hC;have hea1:ea=(0,[(page,inner,li)]):=by rw[hea,hC]
     refine B3 (Ay (Adh U (Ay (Ay (Bb (Aa (Ad (An U (Ac U (qA (Ax (Ce (v1:=(.bool _)) (v2:=(.int _ _)) U U U U ?_))))))))))));refine⟨by rw[hea1];rfl,M5,?_,g5.trans (.call0 H.ext)⟩;rw[hea1];have:=JO.ext hJ5 H.ext;rw[hvs hC,qa3]at this;exact this
    .intro hC;replace hC:=C0 hC;replace hea:ea=((Jb (fun p=>Ff A fr P.length n p (d+1)) li).1,(page,inner,li)::(Jb (fun p=>Ff A fr P.length n p (d+1)) li).2):=by rw[hea,hC]
     have hkg:=hkg hC;rw[Ey hxL,Jb]at hkg;obtain⟨n',rfl⟩:∃n',n=n'+1:=⟨n - 1,by omega⟩;obtain⟨f5,hf5⟩:=qD (Ff A fr P.length (n'+1) (x.it.page:Int) (d+1));rw[<-hf5]at hkg
     have hN5:(v++[(page,inner,li)]++vs).length+f5.2.length<=N:=by
      rw[hea,hkg]at hN
      by_cases h0:f5.1≠0
      .rw[if_pos h0]at hN;simp only[qan,qaw,qby]at hN |-;omega
      .rw[if_neg h0]at hN;simp only[qan,qaw,qby]at hN |-;omega
     refine Ap (Aa (Ad (Am U (Af Gg U (AH DW U H at0 U (Ae U (A7 U U ?_)))))));rw[show((d:Int)+1)=((d+1:Nat):Int)by omega];refine Ee U (.func _ _ _) U ?_;have hx6:=H.ext;refine Ai qB (IH n' U (JO.ext hJ5 hx6) (fun x h=>qas (hZ x h) (qav g5.1.size hx6.size)) (x.it.page:Int) (d+1) (by omega) (by omega) (by omega) (by rw[<-hf5];exact hN5)) U ?_;rintro v7 w7 ⟨rfl,M7,hJ7,g7⟩;rw[<-hf5]at hJ7;rw[<-hf5];obtain⟨O6,gy6⟩:=O5.call (.call0 hx6);obtain⟨O7,gy7⟩:=O6.call g7;have I7:=(I5.turn (gy6.or Z)).turn (gy7.or Z);have gg7:=(g5.trans (.call0 hx6)).trans g7;refine AQ U (Ah U U (Ah U U (An U (Ac U (qA (Ad (AA U (BX U (qA ?_)))))))));refine Au _ U ?_ ?_
     .intro hD;replace hD:=Cz hD;have hD':f5.1≠0:=by simpa using hD
      rw[if_pos hD']at hkg;refine Ad (Ae U (An U (Ac U (qA (Ax (AL (Ao (Ao (AL (Ao (Ce (v1:=(.bool _)) (v2:=(.int _ _)) U U U U ?_)))))))))));refine⟨by rw[hea,hkg];dsimp only;rw[qag hD'],M7,?_,gg7⟩;rw[hea,hkg]
      simpa using hJ7
     .intro hD;replace hD:=C0 hD;have hD':f5.1=0:=by simpa using hD
      rw[if_neg (by rw[hD'];simp)]at hkg;refine Ap (AF (Aa (Av (A7 U U ?_))));refine Ae U (qA ?_);exact⟨(i+1,vs++f5.2,M7),rfl,⟨rfl,trivial⟩,⟨by dsimp only;omega,by dsimp only;rw[<-qa1];exact hJ7,O7,I7,gg7,(fun h=>by rw[hC]at h;cases h),fun _=>by dsimp only;rw[hkg,qa1]⟩,by dsimp only;omega⟩
   .intro hB;replace hB:=AW hB;have hii:i=nn:=by omega
    refine B3 (Ay (Ay (Bb (Aa (Ad (An U (Ac U (qA (Ax (Ce (v1:=(.bool _)) (v2:=(.int _ _)) U U U U ?_))))))))))
    cases inner with
    |false =>
     dsimp only at hea;refine⟨by rw[hea];rfl,M5,?_,g5⟩;rw[hea];rw[hvs rfl,qa3]at hJ5;exact hJ5
    |true =>
     dsimp only at hea;have hkg:=hkg rfl;rw[qb7 (by omega),Jb,qa3]at hkg;refine⟨by rw[hea,hkg];rfl,M5,?_,g5⟩;rw[hea,hkg]
     simpa using hJ5
theorem XO{bt bd bp ba fr:Nat}{A:Dev}{P:List Nat}{F Z:Mut}{N l:Nat}{J:List Nd->Mut->World->Prop}(JO:JOk bt bd bp ba fr A P F Z N l J)(hfr:fr<=5000){mx:Nat}(hfew:Few A mx)(hmx:mx<=1000000000):∀n,ZY bt fr A P.length Z N l J n
 |0=>UY JO hfr hfew hmx 0 fun n' h=>by omega
 |n+1=>UY JO hfr hfew hmx (n+1) fun n' h=>by
   obtain rfl:n=n':=by omega
   exact XO JO hfr hfew hmx n
def Ev(A:Dev)(fr sz:Nat)(root:Int):Int × List Nd:=if root = -1 then(0,[])else Ff A fr sz 18 root 0
theorem XP(bt be:Nat)(root:Int)(w:World):Ret prog 124 #[ptr bt,.int .i64 root,ptr be] w fun v w'=>∃b3 b4 b5,v=.func (.func 151) #[] #[ptr b4,ptr b3,ptr b5]/\(∃t,w'.heap[b4]?=some (Bl t [.int .i64 root]))/\(∃t,w'.heap[b3]?=some (Bl t [ptr bt]))/\(∃t,w'.heap[b5]?=some (Bl t [ptr be]))/\w.heap.size<=b4/\w.heap.size<=b3/\w.heap.size<=b5/\Ext [] w w':=by
 obtain⟨w0,rfl,H⟩:=qE w;refine A6 (fn:=f124) func124 U [.pointer (some ⟨bt,0,none⟩),.int .i64 root,.pointer (some ⟨be,0,none⟩)] U ?_;refine Ad (Cn _ (.pointer _) U U H ?_);rintro b3 w - H;refine Cn _ (.int _ _) U U H ?_;rintro b4 w - H;refine Cn _ (.pointer _) U U H ?_;rintro b5 w - H;refine El U .nilFunc U (qA (Ad (CG [.pointer _,.pointer _,.pointer _] U (El U (.func _ _ _) U ?_))));refine qA (Ax (AG (v:=(.func _ _ _)) U U U ?_));have ho:∀x∈[(b5,Bl 179 [ptr be]),(b4,Bl 3 [.int .i64 root]),(b3,Bl 90 [ptr bt])],w0.heap.size<=x.1:=fun x hx=>(H.own x hx).elim (fun h=>by cases h) id
 exact⟨b3,b4,b5,rfl,⟨_,H.get at1⟩,⟨_,H.get at2⟩,⟨_,H.get at0⟩,ho (b4,_) (qai _ (qaf ..)),ho (b3,_) (qai _ (qai _ (qaf ..))),ho (b5,_) (qaf ..),H.ext⟩
theorem UZ{bt bd bp ba fr:Nat}{A:Dev}{P:List Nat}{F Z:Mut}{N l:Nat}{J:List Nd->Mut->World->Prop}(JO:JOk bt bd bp ba fr A P F Z N l J)(hfr:fr<=5000){mx:Nat}(hfew:Few A mx)(hmx:mx<=1000000000){w:World}{M:Mut}(hJ:J [] M w)(hZ:∀x,Z x->x<w.heap.size){b3 b4 b5 be t3 t4 t5 te:Nat}{root:Int}(h4:w.heap[b4]?=some (Bl t4 [.int .i64 root]))(h3:w.heap[b3]?=some (Bl t3 [ptr bt]))(h5:w.heap[b5]?=some (Bl t5 [ptr be]))(he:w.heap[be]?=some (Bl te [.int .i64 0]))(n4:¬M b4)(n3:¬M b3)(n5:¬M b5)(ne:¬M be)(hr1 : -9223372036854775808<=root)(hr2:root<=9223372036854775807)(hN:(Ev A fr P.length root).2.length<=N) :
  Ret prog 151 #[.func (.yield l) #[] #[],ptr b4,ptr b3,ptr b5] w fun _ w'=>∃wx M',J (Ev A fr P.length root).2 M' wx/\Grown M M' w wx/\Ext [be] wx w'/\w'.heap[be]?=some (Bl te [.int .i64 (Ev A fr P.length root).1]):=by
 obtain⟨w0,rfl⟩:=qD w;obtain⟨g,hg⟩:=qD (Ev A fr P.length root);rw[<-hg]at hN |-;unfold Ev at hg;refine A6 (fn:=f151) func151 U [.func (.yield l) #[] #[],.pointer (some ⟨b4,0,none⟩),.pointer (some ⟨b3,0,none⟩),.pointer (some ⟨b5,0,none⟩)] U ?_;have H:=Ctx.start w0 [];refine Ad (Be DW U ((by rw[Ar h4];rfl)) ?_);refine Ba U U (qA (Au _ U ?_ ?_))
 .intro hA;replace hA:=Bu hA;rw[if_neg hA]at hg;have hg':g=Ff A fr P.length (17+1) root 0:=hg;refine Kg [([0,1,2,3],4),([5,6,7,8],9)] (fun z=>z.heap[b5]?=some (Bl t5 [ptr be])/\z.heap[b3]?=some (Bl t3 [ptr bt])/\z.heap[b4]?=some (Bl t4 [.int .i64 root])) [9] mixed (⟨h5,h3,h4⟩) ?_;refine AC U U (BG Aor U (fun _ hx=>(by rw[Ar hx.1];rfl)) ?_);refine BG JK U (fun _ hx=>(by rw[Ar hx.2.1];rfl)) ?_;refine BG DW U (fun _ hx=>(by rw[Ar hx.2.2];rfl)) ?_;refine Na U (.func _ _ _) U ?_;refine AU ?_
  skip
  refine Ai qB (XO JO hfr hfew hmx 17 (JO.ext hJ (Ext.drew [] w0)) hZ root 0 (by omega) hr1 hr2 (by rw[<-hg'];simpa using hN)) U ?_;rintro v w3 ⟨rfl,M3,hJ3,g3⟩;rw[<-hg',qa7]at hJ3;rw[<-hg'];have gg:=(Grown.call0 (Ext.drew [] w0)).trans g3;have H:=Ctx.start1 (gg.keep he ne);refine Ab (Bc (⟨gg.keep h5 n5,gg.keep h3 n3,gg.keep h4 n4⟩) (AC U U ?_));refine Ij U (CA U U (CA U U (Bg U (AU (Bf (.int _ _) Ga U U U H at0 (by decide) ?_)))));rintro w H;refine Ab (De U (B1 (Ih U U ?_)));exact⟨w3,M3,hJ3,gg,H.ext,H.get at0⟩
 .intro hA;replace hA:=Bv hA;rw[if_pos (by simpa using hA)]at hg;refine Ap (Ih U U ?_);exact⟨w0,M,by rw[hg];exact hJ,.call0 (.refl _ _),.refl _ _,by rw[hg];exact he⟩
def iv(x:Int):Value := .int .i64 x
abbrev Jd(l:List Int):List Int:=l.mergeSort fun x y=>decide (x<=y)
theorem Te(full:List Value)(ts:List Int)(h:ts.length<=full.length):(Go.Sort.putCells (Value.int .i64) 0 ts.toArray full.toArray).toList=ts.map iv++full.drop ts.length:=by
 apply qci;intro j
 by_cases hj:j<ts.length
 .rw[qdj (by simpa using hj),qdi];simp[Go.Sort.putCells,hj,show j<full.length by omega,iv]
 .rw[qc8 (by simp;omega),qdi,qcm]
  by_cases h2:j<full.length
  .simp[Go.Sort.putCells,hj,h2,show ts.length+(j - ts.length)=j by omega]
  .rw[qbz (by simp;omega)];simp[Go.Sort.putCells,h2]
theorem Ajq{w:World}{b t c:Nat}{full:List Value}{l:List Int}(hb:w.heap[b]?=some (Bl t full))(hl:full.take l.length=l.map iv)(hsz:l.length<=1000000)(hf:l.length<=full.length:=by omega):
  Ret prog 125 #[.slice (some ⟨b,0,none⟩) l.length c] w fun v w'=>v=.tuple #[]/\w'.heap[b]?=some (Bl t ((Jd l).map iv++full.drop l.length))/\Ext [b] w w':=by
 have hH:=Go.holds_of_blockI (ss:=l) hb (by rw[List.toList_toArray];exact hl);have h:=Go.Proofs.AnyM.slices_Sort_int sortA b 0 c l w hH (Al hb) (by omega);refine CallsIn.mono (callsIn_wide.2 h) ?_;rintro e w' ⟨rfl,n,os,rfl⟩;have g:=Go.grownBy_sortedI (n:=n) (os:=os) (w:=w) (g:=b) (Jd l).toArray;refine⟨_,rfl,rfl,?_,?_⟩
 .rw[Go.heap_sortedI (Jd l).toArray hb];have h1:=Te full (Jd l) (by rw[qcu];exact hf);rw[qcu]at h1;show some (Obj.cells _ t (0,0))=some (Obj.cells _ t (0,0));rw[<-h1]
 .obtain⟨g1,g2,g3,g4,g5⟩:=g;exact⟨g1,g2,g3,g4,fun x hx hn=>g5 x hx (by simpa using fun e=>hn (by simp[e]))⟩
theorem Aek(c:Nat)(w:World):Ret prog 125 #[.slice none 0 c] w fun v w'=>v=.tuple #[]/\w=w':=by
 refine CallsIn.mono (callsIn_wide.2 (Go.Proofs.AnyM.slices_Sort_int_none sortA none c w)) ?_;rintro e w' ⟨rfl,rfl⟩;exact⟨_,rfl,rfl,rfl⟩
structure GJ(w0:World)(bt bd bp ba fr:Nat)(A:Dev)(P:List Nat)(F:Mut)(tL tE s b l:Nat)(lo:Loop)(vals:List Value)(M:Mut)(w:World)(a:Option Addr)(n c:Nat)(full:List Value):Prop where
 M:M=fun x=>x=l\/x∈((b,Bl tL [.slice a n c])::ent a tE full).map (·.1)
 tx:Tx w bt bd bp ba fr A P F []
 loop:w.heap[l]?=some (.loop lo)
 blk:∀y∈(b,Bl tL [.slice a n c])::ent a tE full,w.heap[y.1]?=some y.2/\w0.heap.size<=y.1/\y.1≠l
 nd:((b,Bl tL [.slice a n c])::ent a tE full).Pairwise fun x y=>x.1≠y.1
 os:OS a n c s full vals
section
variable {w0 w wR wE wF:World}{bt bd bp ba fr:Nat}{A:Dev}{P:List Nat}{F M:Mut}{tL tE s b l:Nat}{lo lo2:Loop}{vals vals':List Value}{a a':Option Addr}{n n' c c':Nat}{full full':List Value}
theorem GJ.lt(G:GJ w0 bt bd bp ba fr A P F tL tE s b l lo vals M w a n c full):∀x,M x->x<w.heap.size:=fun x h=>by
 rw[G.M]at h
 rcases h with rfl|h
 .exact Al G.loop
 .obtain⟨y,hy,rfl⟩:=qah.1 h;exact Al (G.blk y hy).1
theorem GJ.ext(G:GJ w0 bt bd bp ba fr A P F tL tE s b l lo vals M w a n c full){w':World}(hx:Ext [] w w'):GJ w0 bt bd bp ba fr A P F tL tE s b l lo vals M w' a n c full :=
 ⟨G.M,G.tx.call hx,by rw[hx.block l (Al G.loop) (by simp)];exact G.loop,fun y hy=>⟨by rw[hx.block y.1 (Al (G.blk y hy).1) (by simp)];exact(G.blk y hy).1,(G.blk y hy).2⟩,G.nd,G.os⟩
theorem GJ.body(G:GJ w0 bt bd bp ba fr A P F tL tE s b l lo vals M w a n c full)(hxR:Ext [l] w wR):Ctx wR (((b,Bl tL [.slice a n c])::ent a tE full).map (·.1)) wR ((b,Bl tL [.slice a n c])::ent a tE full) :=
 Ctx.startL (fun y hy=>by rw[hxR.block y.1 (Al (G.blk y hy).1) (by simpa using(G.blk y hy).2.2)];exact(G.blk y hy).1) G.nd
theorem GJ.next(G:GJ w0 bt bd bp ba fr A P F tL tE s b l lo vals M w a n c full)(h0:∀x,TM F ba bt bp [] x->x<w0.heap.size)(hl0:w0.heap.size<=l)(hxR:Ext [l] w wR)(H:Ctx wR (((b,Bl tL [.slice a n c])::ent a tE full).map (·.1)) wE ((b,Bl tL [.slice a' n' c'])::ent a' tE full'))(hO:OS a' n' c' s full' vals')(hxF:Ext [l] wE wF)(hlF:wF.heap[l]?=some (.loop lo)) :
  GJ w0 bt bd bp ba fr A P F tL tE s b l lo vals' (fun x=>x=l\/x∈((b,Bl tL [.slice a' n' c'])::ent a' tE full').map (·.1)) wF a' n' c' full'/\Grown M (fun x=>x=l\/x∈((b,Bl tL [.slice a' n' c'])::ent a' tE full').map (·.1)) w wF:=by
 have hll:=Al G.loop;have hsR:=hxR.size
 have hnew:∀y∈(b,Bl tL [.slice a' n' c'])::ent a' tE full',w0.heap.size<=y.1/\y.1≠l/\(y.1∈((b,Bl tL [.slice a n c])::ent a tE full).map (·.1)\/w.heap.size<=y.1):=fun y hy=>by
  have hsz:w0.heap.size<=w.heap.size:=by omega
  rcases H.own y hy with h|h
  .obtain⟨z,hz,he⟩:=qah.1 h;exact⟨by rw[<-he];exact(G.blk z hz).2.1,by rw[<-he];exact(G.blk z hz).2.2,.inl h⟩
  .exact⟨by omega,by omega,.inr (by omega)⟩
 have hx:Ext (l::((b,Bl tL [.slice a n c])::ent a tE full).map (·.1)) w wF :=
  ((hxR.mono (fun x h=>by rw[qaa.1 h];exact qaf ..)).trans (H.ext.mono fun x h=>qai _ h)).trans (hxF.mono fun x h=>by rw[qaa.1 h];exact qaf ..)
 refine⟨⟨rfl,G.tx.side hx fun x h hT=>?_,hlF,fun y hy=>⟨?_,(hnew y hy).1,(hnew y hy).2.1⟩,H.nd,hO⟩,⟨⟨_,fun x h=>?_,hx⟩,fun x h=>?_⟩⟩
 .have:=h0 x hT
  rcases qac.1 h with rfl|h
  .omega
  .obtain⟨y,hy,rfl⟩:=qah.1 h;have:=(G.blk y hy).2.1;omega
 .rw[hxF.block y.1 (Al (H.blk y hy)) (by simpa using(hnew y hy).2.1)];exact H.blk y hy
 .rw[G.M]
  rcases qac.1 h with rfl|h
  .exact .inl U
  .exact .inr h
 .rw[G.M]
  rcases h with rfl|h
  .exact .inl (.inl U)
  .obtain⟨y,hy,rfl⟩:=qah.1 h;exact(hnew y hy).2.2.imp .inr id
end
theorem H3{P:Program}{e:Env}{w:World}{fn:Func}{R:Value->World->Prop}{a1 a2:Tmp}{t1 t2:TypeId}{b1 b2:Nat}(hr:fn.results=#[.cell a1 t1,.cell a2 t2])(h1:e.g a1=.pointer (some ⟨b1,0,none⟩))(h2:e.g a2=.pointer (some ⟨b2,0,none⟩))(hg1:DV P t1=some false)(hg2:DV P t2=some false)(h:Marks e.ds w fun w'=>∃v1 v2 x1 x2 l1 l2,w'.heap[b1]?=some (Bl x1 (v1::l1))/\w'.heap[b2]?=some (Bl x2 (v2::l2))/\R (.tuple #[v1,v2]) w'):Abk P fn R .ret e w :=
 Marks.mono (fun w' ⟨v1,v2,x1,x2,l1,l2,hb1,hb2,hR⟩ tmps ht=>by
  have g1:=(ht a1).trans h1;have g2:=(ht a2).trans h2;rw[qbt]at g1 g2;have k1:(loadVar t1 ⟨b1,0,none⟩).run P w'=.ok v1 w':=Hp hg1 (by rw[Ar hb1];rfl);have k2:(loadVar t2 ⟨b2,0,none⟩).run P w'=.ok v2 w':=Hp hg2 (by rw[Ar hb2];rfl)
  exact⟨_,by simp[results,hr,g1,g2,asAddr,k1,k2],hR⟩) h
theorem Lq{w6 w:World}{ids:List Nat}{L':List (Nat × Obj)}(H:Ctx w6 ids w L'){Db:Nat}(hD6:w6.heap[Db]?=some (.deferred (some [])))(hids:Db∉ids){K:World->Prop}{ds:List Deferred}(hds:ds=[{ target := .collected Db,args:=#[] }])(hK:∀wF,Ext [Db] w wF->(∀(b t:Nat) (l:List Value),w.heap[b]?=some (Bl t l)->wF.heap[b]?=some (Bl t l))->K wF):Marks ds w K:=by
 have hD:w.heap[Db]?=some (.deferred (some [])):=by rw[H.ext.block Db (Al hD6) hids];exact hD6
 subst hds;refine⟨Db,rfl,hD,hK _ (Ext.setB w Db _) fun b t l hb=>?_⟩
 rw[(Ext.setB w Db _).block b (Al hb) (by
  rw[qaa];rintro rfl;rw[hD]at hb
  cases hb)]
 exact hb
theorem Ajr{w:World}{a:Option Addr}{n c t:Nat}{full:List Value}{l:List Int}(O:OS a n c 1 full (l.map iv))(hb:∀y∈ent a t full,w.heap[y.1]?=some y.2)(hsz:l.length<=1000000) :
  Ret prog 125 #[.slice a n c] w fun v w'=>v=.tuple #[]/\∃full',(∀y∈ent a t full',w'.heap[y.1]?=some y.2)/\OS a n c 1 full' ((Jd l).map iv)/\Ext ((ent a t full).map (·.1)) w w':=by
 have hn:n=l.length:=O.num
 cases ha:a with
 |none =>
  have h0:=O.none' ha;have h1:=O.le;have hl:l=[]:=qa4 (by omega);subst hl hn ha;refine Ret.mono (Aek c w) ?_;rintro v w' ⟨rfl,rfl⟩;exact⟨rfl,full,(fun y hy=>by cases hy),by simpa[Jd]using O,.refl _ _⟩
 |some p =>
  have hp:=O.zero p ha;subst ha;rw[hp]at hb O |-;have h2:=O.len;have h3:=O.le;have hpre:=O.pre;rw[qcj]at hpre h2;subst hn;refine Ret.mono (Ajq (c:=c) (hb (p.block,_) (qaa.2 U)) hpre hsz) ?_;rintro v w' ⟨rfl,h4,h5⟩;refine⟨rfl,_,fun y hy=>by rw[qaa.1 hy];exact h4,⟨O.zero,O.none',?_,O.le,?_⟩,h5⟩
  .rw[qan,qaj,qcu,qbg];omega
  .rw[qcj,qd8 (by rw[qaj,qcu])]
theorem _root_.Go.GV.Ctx.sorted{w6 w7:World}{S:List Nat}{b5 b4 t:Nat}{o5 o4:Obj}{a:Option Addr}{full full':List Value}(H:Ctx w6 S w6 ((b5,o5)::(b4,o4)::ent a t full))(hf:∀y∈ent a t full',w7.heap[y.1]?=some y.2)(hx:Ext ((ent a t full).map (·.1)) w6 w7)(h4:∀y∈ent a t full,b4≠y.1)(h5:∀y∈ent a t full,b5≠y.1)(hS:S=((b5,o5)::(b4,o4)::ent a t full).map (·.1)):Ctx w6 S w7 ((b5,o5)::(b4,o4)::ent a t full'):=by
 subst hS
 have hid:∀y∈ent a t full',∃z∈ent a t full,z.1=y.1:=fun y hy=>by
  cases a with
  |none=>cases hy
  |some q=>rw[qaa.1 hy];exact⟨_,qaa.2 rfl,rfl⟩
 have hnd:=qbh.1 H.nd;refine⟨hx.mono fun x h=>qai _ (qai _ h),fun y hy=>?_,qbh.2 ⟨fun y hy=>?_,qbh.2 ⟨fun y hy=>?_,?_⟩⟩,fun y hy => .inl ?_⟩
 .rcases qac.1 hy with rfl|hy
  .rw[hx.block b5 (Al (H.get at0)) fun h=>by obtain⟨y,hy,he⟩:=qah.1 h;exact h5 y hy he.symm];exact H.get at0
  .rcases qac.1 hy with rfl|hy
   .rw[hx.block b4 (Al (H.get at1)) fun h=>by obtain⟨y,hy,he⟩:=qah.1 h;exact h4 y hy he.symm];exact H.get at1
   .exact hf y hy
 .rcases qac.1 hy with rfl|hy
  .exact hnd.1 _ (qaf ..)
  .obtain⟨z,hz,he⟩:=hid y hy;rw[<-he];exact h5 z hz
 .obtain⟨z,hz,he⟩:=hid y hy;rw[<-he];exact h4 z hz
 .cases a with
  |none=>exact List.Pairwise.nil
  |some q=>exact qem ..
 .rcases qac.1 hy with rfl|hy
  .exact qaf ..
  .rcases qac.1 hy with rfl|hy
   .exact qai _ (qaf ..)
   .obtain⟨z,hz,he⟩:=hid y hy;rw[<-he];exact qai _ (qai _ (qah.2 ⟨z,hz,rfl⟩))
def Lt(A:Dev)(fr sz:Nat)(root:Int):Int × List Int :=
 if Ib sz root≠0 then(1,[])else if(Ev A fr sz root).1≠0 then((Ev A fr sz root).1,[])else(0,Jd ((Ev A fr sz root).2.map (·.1)))
theorem XQ{fr:Nat}{w:World}{bt bd bp ba:Nat}{A:Dev}{P:List Nat}{F:Mut}(T:Tx w bt bd bp ba fr A P F [])(root:Int){mx:Nat}(hfew:Few A mx)(hmx:mx<=1000000000)(hfr:fr<=5000:=by decide)(hr1: -9223372036854775808<=root:=by omega)(hr2:root<=9223372036854775807:=by omega)(hN:(Ev A fr P.length root).2.length<=100000:=by omega):
  Ret prog 92 #[ptr bt,.int .i64 root] w fun v w'=>∃a c,v=.tuple #[.slice a (Lt A fr P.length root).2.length c,.int .i64 (Lt A fr P.length root).1]/\Rd w' a 1 (fun x:Int=>[.int .i64 x]) (Lt A fr P.length root).2/\((Lt A fr P.length root).2=[]\/w.heap.size<=(adr a).block)/\(Lt A fr P.length root).2.length<=c/\Ext [] w w':=by
 obtain⟨w0,rfl⟩:=qD w;obtain⟨wt,hwt⟩:=qD (Lt A fr P.length root);rw[<-hwt];unfold Lt at hwt;have h0:=T.mlt;have H:=Ctx.start w0 [];refine JI (fn:=f92) func92 U [.pointer (some ⟨bt,0,none⟩),.int .i64 root] U ?_;refine Ad (Bj zc_40 H ?_);rintro b4 w - H;refine Bj Xr H ?_;rintro b5 w - H;refine qA (Aq (Ad (Am U (Ae U (Ai qB (QK (T.call H.ext) root) U ?_)))));rintro v w2 ⟨rfl,rfl⟩;refine Ac U (qA (Ad (Ae U (Ba U U (qA (Au _ U ?_ ?_))))))
 .intro hA;replace hA:=Bu hA;rw[if_pos hA]at hwt;have he:Ib P.length root=1:=by unfold Ib at hA |-;split <;> simp_all
  rw[he];refine Ad (Ae U (Bf (.slice _ _ _) Sq U U U H at1 (by decide) ?_));rintro w H;refine Bf (.int _ _) Ga U U U H at0 (by decide) ?_;rintro w H;refine qA (Ax (Ao (H3 U U U IJ EW ?_)));exact⟨_,_,_,_,_,_,H.get at1,H.get at0,none,0,by rw[hwt];rfl,by rw[hwt];exact Rd.nil,by rw[hwt];exact .inl rfl,by rw[hwt];exact qae _,H.ext⟩
 .intro hA;replace hA:=Bv hA;rw[if_neg (by simpa using hA)]at hwt;obtain⟨ng,hng⟩:=qD (Ev A fr P.length root);rw[<-hng]at hwt hN;refine Ap (Aa (Aq (Ad (Am U (Ae U ?_)))));have hb4w:=H.lt (k:=1) rfl;have hb5w:=H.lt (k:=0) rfl;refine Ai qB (XP bt b5 root _) U ?_;rintro v w3 ⟨x3,x4,x5,rfl,⟨t4,hx4⟩,⟨t3,hx3⟩,⟨t5,hx5⟩,n4,n3,n5,hxn⟩;replace H:=H.call hxn;refine qA (AE (HK U qB ?_));intro fn tmps hts htm Db l w2 hDb hl hx2 hD hrec;obtain⟨lo,hlo,hrec'⟩:∃lo,lo=_/\w2.heap[l]?=some (.loop lo):=⟨_,rfl,hrec⟩;have hw03:=H.ext;have hs03:=hw03.size;have hs32:=hx2.size;have up2:∀{b:Nat} {o:Obj},w3.heap[b]?=some o->w2.heap[b]?=some o:=fun{b o} g=>by rw[hx2.block b (Al g) (by simp)];exact g
  have hb4:=H.get at1;have hb5:=H.get at0;have hb45:=H.ne at1 at0 (by decide);have ho4:w0.heap.size<=b4:=(H.own _ (qai _ (qaf ..))).elim (fun h=>by cases h) id;have ho5:w0.heap.size<=b5:=(H.own _ (qaf ..)).elim (fun h=>by cases h) id;have hl4:=Al hb4;have hl5:=Al hb5;have hxl4:=Al hx4;have hxl3:=Al hx3;have hxl5:=Al hx5;have hN':(Ev A fr P.length root).2.length<=100000:=by rw[<-hng];exact hN
  have JO:JOk bt bd bp ba fr A P F Z0 100000 l (fun v M w=>∃a n c full,GJ w0 bt bd bp ba fr A P F 40 3 1 b4 l lo (v.map fun x=>iv x.1) M w a n c full):=by
   refine⟨fun{v M w} h=>?_,fun{v M w w'} h hx=>?_,fun{v M w} h=>?_,?_⟩
   .obtain⟨a,n,c,full,G⟩:=h;exact G.lt
   .obtain⟨a,n,c,full,G⟩:=h;exact⟨a,n,c,full,G.ext hx⟩
   .obtain⟨a,n,c,full,G⟩:=h;exact G.tx
   .rintro v M w page i a7 n7 c7 L7 ⟨a,n,c,full,G⟩ hv I hL hLb hpg;have hn:n=v.length:=by have:=G.os.num;exact this
    have hloop:=G.loop;subst hlo;refine KW hloop U (II _ (NY hts htm) ?_);refine Av (Ac U (Ab (Lj hloop U ?_)));intro wR lo2 hxR hlR hlo2;have H:=G.body hxR;have O:=G.os;refine AE (Av (AH IJ U H at0 U (Ae U (BJ [.int .i64 page] (.int .i64 page) FB Hv ZF U U U U H ?_))));rintro b21 w - H;refine BO (L:=[_]) FB FB Hv by_3 ZF U U U H O U (by simp[Bi]) ?_;rintro a22 c22 f22 w H O22;refine Bf (.slice _ _ _) Sq U U U H at0 (by(simp;done)) ?_;rintro w H;refine Ab (AF ?_);have H9:=H
    have hlE:w.heap[l]?=some (.loop lo2):=by
     rw[H9.ext.block l (Al hlR) fun h=>?_]
     .exact hlR
     .obtain⟨y,hy,he⟩:=qah.1 h;exact(G.blk y hy).2.2 he
    refine IA hlE hlo2 U U ?_;intro wF hxF hlF;have O23:OS a22 (n+1) c22 1 f22 ((v++[(page,i,L7)]).map fun x=>iv x.1):=by rw[qaz];exact O22
    obtain⟨G9,g9⟩:=G.next h0 (by omega) hxR H9 O23 hxF hlF
    exact⟨rfl,_,⟨a22,n+1,c22,f22,G9⟩,g9⟩
  have hJ0:(fun(v:List Nd) (M:Mut) (w:World)=>∃a n c full,GJ w0 bt bd bp ba fr A P F 40 3 1 b4 l lo (v.map fun x=>iv x.1) M w a n c full) [] (fun x=>x=l\/x∈((b4,Bl 40 [.slice none 0 0])::ent none 3 []).map (·.1)) w2:=by
   refine⟨none,0,0,[],rfl,T.call (hw03.trans hx2),hrec',fun y hy=>?_,qem ..,OS.nil⟩;rw[qaa.1 hy];exact⟨up2 hb4,ho4,by dsimp only;omega⟩
  have hnM:∀x,x≠l->x≠b4->¬(x=l\/x∈((b4,Bl 40 [.slice none 0 0])::ent none 3 []).map (·.1)):=fun x h1 h2 h=>by
   rcases h with h|h
   .exact h1 h
   .exact h2 (by simpa[ent]using h)
  refine Ret.mono (UZ JO hfr hfew hmx hJ0 (fun x h=>h.elim) (up2 hx4) (up2 hx3) (up2 hx5) (up2 hb5) (hnM _ (by omega) (by omega)) (hnM _ (by omega) (by omega)) (hnM _ (by omega) (by omega)) (hnM _ (by omega) (Ne.symm hb45)) hr1 hr2 hN') ?_;rintro v w4 ⟨wx,Mx,⟨a,n,c,full,G⟩,gx,hx5w,he5⟩;rw[<-hng]at G he5;have hloop:=G.loop;have hb5l:b5≠l:=by omega
  have hx1:w4.heap[l]?=some (.loop lo):=by rw[hx5w.block l (Al hloop) (by simpa using fun h=>hb5l h.symm)];exact hloop
  refine⟨_,hx1,by subst hlo;exact(fun h=>by cases h),HS (by rw[hlo]) ?_⟩;have hx6:=Ext.setB w4 l (.loop { lo with state := .exhausted });generalize w4.putObj l (.loop { lo with state := .exhausted })=w6 at hx6 |-
  have hEnt:∀y∈(b4,Bl 40 [.slice a n c])::ent a 3 full,w6.heap[y.1]?=some y.2:=fun y hy=>by
   have h1:=G.blk y hy
   have h2:y.1≠b5:=fun e=>by
    rcases gx.2 y.1 (by rw[G.M];exact .inr (qah.2 ⟨y,hy,rfl⟩))with h|h
    .exact hnM y.1 h1.2.2 (fun e4=>hb45 (e4 ▸ e)) h
    .omega
   rw[hx6.block y.1 (qas (Al h1.1) hx5w.size) (by simpa using h1.2.2),hx5w.block y.1 (Al h1.1) (by simpa using h2)];exact h1.1
  have hb56:w6.heap[b5]?=some (Bl 28 [.int .i64 ng.1]):=by
   rw[hx6.block b5 (Al he5) (by simpa using hb5l)];exact he5
  obtain⟨⟨Sg,hSg,hxg⟩,hgg⟩:=gx;have hsx:=hxg.size;have hs45:=hx5w.size;have hs46:=hx6.size;have hM2:∀x,(x=l\/x∈((b4,Bl 40 [.slice none 0 0])::ent none 3 []).map (·.1))->x=l\/x=b4:=fun x h=>h.imp id fun h=>by simpa[ent]using h
  have E06:Ext [] w0 w6:=(((hw03.trans hx2).then hxg fun x h => .inr (by rcases hM2 x (hSg x h)with h|h <;> omega)).then hx5w fun x h => .inr (by rw[qaa.1 h];exact ho5)).then hx6 fun x h => .inr (by rw[qaa.1 h];omega)
  have hD6:w6.heap[Db]?=some (.deferred (some [])):=by
   rw[hx6.block Db (by have:=Al hD;omega) (by rw[qaa];omega),hx5w.block Db (by have:=Al hD;omega) (by rw[qaa];omega),hxg.block Db (Al hD) fun h=>by rcases hM2 _ (hSg _ h)with h|h <;> omega];exact hD
  have hEne:∀y∈(b4,Bl 40 [.slice a n c])::ent a 3 full,b5≠y.1:=fun y hy e=>by
   have h1:=G.blk y hy
   rcases hgg y.1 (by rw[G.M];exact .inr (qah.2 ⟨y,hy,rfl⟩))with h|h
   .rcases hM2 _ h with h|h
    .exact hb5l (e.trans h)
    .exact hb45 (h ▸ e ▸ U)
   .omega
  have hEge:∀x∈(((b5,Bl 28 [.int .i64 ng.1])::(b4,Bl 40 [.slice a n c])::ent a 3 full).map (·.1)),w0.heap.size<=x/\x≠Db:=fun x h=>by
   obtain⟨y,hy,rfl⟩:=qah.1 h
   rcases qac.1 hy with rfl|hy
   .exact⟨ho5,by dsimp only;omega⟩
   .refine⟨(G.blk y hy).2.1,fun e=>?_⟩;have h1:=hEnt y hy;rw[e,hD6]at h1
    rcases qac.1 hy with rfl|hy
    .cases h1
    .cases ha:a with
     |none=>rw[ha]at hy;cases hy
     |some q=>rw[ha]at hy;rw[qaa.1 hy]at h1;cases h1
  have H:=Ctx.startL (L:=(b5,Bl 28 [.int .i64 ng.1])::(b4,Bl 40 [.slice a n c])::ent a 3 full) (w:=w6) (fun y hy=>by
   rcases qac.1 hy with rfl|hy
   .exact hb56
   .exact hEnt y hy) (qbh.2 ⟨hEne,G.nd⟩)
  have hnn:n=ng.2.length:=by have:=G.os.num;exact this
  have hDn:Db∉(((b5,Bl 28 [.int .i64 ng.1])::(b4,Bl 40 [.slice a n c])::ent a 3 full).map (·.1)):=fun h=>(hEge Db h).2 rfl;refine AF (Aa (Aq (Ad (AH EW U H at0 U (Ba U U (qA (Au _ U ?_ ?_)))))))
  .intro hB;replace hB:=Bu hB;rw[if_pos hB]at hwt;refine BR [([0],1),([],2)] (fun z=>z.heap[b5]?=some (Bl 28 [.int .i64 ng.1])) [2] mixed (H.drew.get at0) (AC U U ?_);refine BG EW U (fun _ hx=>(by rw[Ar hx];rfl)) ?_;refine AU ?_;replace H:=H.drew;refine Bf (.slice _ _ _) Sq U U U H at1 (by(simp;done)) ?_;rintro w H;refine Ab (Bc (H.get at0) (AC U U ?_));refine AU (Bf (.int _ _) Ga U U U H at0 (by(simp;done)) ?_);rintro w H;refine Ab (De U (B1 (Ax (Ao (H3 U U U IJ EW (Lq H hD6 hDn U fun wF hxF hkF=>?_))))));exact⟨_,_,_,_,_,_,hkF _ _ _ (H.get at1),hkF _ _ _ (H.get at0),none,0,by rw[hwt];rfl,by rw[hwt];exact Rd.nil,by rw[hwt];exact .inl rfl,by rw[hwt];exact qae _,(E06.then H.ext fun x h => .inr (hEge x h).1).then hxF fun x h => .inr (by rw[qaa.1 h];omega)⟩
  .intro hB;replace hB:=Bv hB;have hB':ng.1=0:=by simpa using hB
   rw[if_neg (by simpa using hB)]at hwt;have O9:OS a n c 1 full ((ng.2.map (·.1)).map iv):=by rw[qbi];exact G.os
   refine Ap (Aa (Ad (AH IJ U H at1 U (Ai qB (Ajr (t:=3) O9 (fun y hy=>H.blk y (qai _ (qai _ hy))) (by rw[qaj];omega)) U ?_))));rintro v w7 ⟨rfl,full',hf7,O7,hx7⟩;have H7:Ctx w6 _ w7 ((b5,Bl 28 [.int .i64 ng.1])::(b4,Bl 40 [.slice a n c])::ent a 3 full'):=H.sorted hf7 hx7 (fun y hy=>(qbh.1 G.nd).1 y hy) (fun y hy=>hEne y (qai _ hy)) rfl;replace H:=H7;refine qA (Ad (AH IJ U H at1 U (Bf (.slice _ _ _) Sq U U U H at1 (by(simp;done)) ?_)));rintro w H;refine Bf (.int _ _) Ga U U U H at0 (by(simp;done)) ?_;rintro w H;refine qA (Ax ?_);have hs9:(Jd (ng.2.map (·.1))).length=n:=by rw[qcu,qaj,hnn]
   refine H3 U U U IJ EW (Lq H hD6 hDn U fun wF hxF hkF=>?_);refine⟨_,_,_,_,_,_,hkF _ _ _ (H.get at1),hkF _ _ _ (H.get at0),a,c,by rw[hwt,hs9],?_,?_,?_,(E06.then H.ext fun x h => .inr (hEge x h).1).then hxF fun x h => .inr (by rw[qaa.1 h];omega)⟩
   .rw[hwt]
    exact OS.rd1 (t:=3) (f:=iv) O7 fun y hy=>by
     have h1:=H.blk y (qai _ (qai _ hy))
     cases ha:a with
     |none=>rw[ha]at hy;cases hy
     |some q =>
      rw[ha]at hy;rw[qaa.1 hy]at h1 |-;exact hkF _ _ _ h1
   .rw[hwt]
    cases ha:a with
    |none =>
     left;have h8:=O7.none' ha;have h9:=O7.le;exact qa4 (by rw[hs9];omega)
    |some q =>
     right;have h8:=(hEge q.block (by rw[ha];simp[ent])).1;obtain⟨qb,qo,qs⟩:=q;exact h8
   .rw[hwt,hs9];exact O7.le
end Go.Proofs.YtcpgbcabmcbclaaGreatDoor
