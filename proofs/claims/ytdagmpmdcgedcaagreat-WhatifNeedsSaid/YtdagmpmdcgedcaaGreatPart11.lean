/- Part 11 of the proof. -/
import Derived.Test.YtdagmpmdcgedcaaGreatPart10
set_option maxRecDepth 20000
set_option maxHeartbeats 8000000
namespace Go.Proofs.YtdagmpmdcgedcaaGreat
open Go.GV Tryz
attribute [local irreducible] AN W Wq Wt
def Agh(w:World)(rs:List Int)(ds:List Du)(net:Bool)(N:Int)(aE:Option Addr)(nE:Nat)(vI:Value)(code:Int):Prop :=
 (DH rs ds=false/\code=1/\∃aI nI cI,vI=.slice aI nI cI)\/(DH rs ds=true/\code=0/\N=((rs.length+1:Nat):Int)/\nE=(BX rs (opn ds) net).length/\Rd w aE 4 CJ (BX rs (opn ds) net)/\∃aI cI,vI=.slice aI ((opn ds).map Du.id).length cI/\Rd w aI 1 U1 ((opn ds).map Du.id))
theorem RoundRes.uni{w w':World}{rs:List Int}{ds:List Du}{net:Bool}{v:Value}(h:RoundRes w rs ds net v w'):Ext [] w w'/\∃N aE nE cE aI nI cI code,v=.tuple #[Dx N aE nE cE,.slice aI nI cI,.int .i64 code]/\∀(S:List Nat) (w2:World),(∀x∈S,x<w.heap.size)->Ext S w' w2->Agh w2 rs ds net N aE nE (.slice aI nI cI) code:=by
 obtain⟨hx,⟨h1,rfl⟩|⟨h1,aE,nE,cE,vI,rfl,SE,SI⟩⟩:=h
 .exact⟨hx,_,_,_,_,_,_,_,_,rfl,fun _ _ _ _ => .inl ⟨h1,rfl,_,_,_,rfl⟩⟩
 .obtain⟨aE',cE',hE,-,RE,hEn⟩:=SE.ex;obtain⟨aI,cI,rfl,-,RI,hIn⟩:=SI.ex;cases hE;exact⟨hx,_,_,_,_,_,_,_,_,rfl,fun S w2 hS he => .inr ⟨h1,rfl,rfl,rfl,RE.ext' he (fun hn hm=>by have:=hEn hn;have:=hS _ hm;omega),_,_,rfl,RI.ext' he (fun hn hm=>by have:=hIn hn;have:=hS _ hm;omega)⟩⟩
structure NowZ where
 b:Nat
 N:Int
 aE:Option Addr
 nE:Nat
 cE:Nat
 aI:Option Addr
 nI:Nat
 cI:Nat
 code:Int
def NowI(w0:World)(rs:List Int)(ds:List Du)(net:Bool)(b5:Nat)(o5:Obj)(z:NowZ)(w:World):Prop :=
 Ext [] w0 w/\w.heap[b5]?=some o5/\w.heap[z.b]?=some (Bl 51 [.int .i64 z.N,.slice z.aE z.nE z.cE])/\Agh w rs ds net z.N z.aE z.nE (.slice z.aI z.nI z.cI) z.code
def Pn(acs:List Ac)(ds:List Du)(r:Rnd):Bool :=
 DH (acs.map C9) ds && (decide (((acs.length+1:Nat):Int)=r.N) && (decide (BX (acs.map C9) (opn ds) r.cmp=r.es) && decide ((opn ds).map Du.id=r.ids)))
theorem Aqp{bx bd:Nat}{acs:List Ac}{ds:List Du}{nx:Int}(ha:EA acs=0)(hd:ofC ds nx=0){r:Rnd}{q:RSl}(w:World)(A:AcAt w 162 bx acs)(D:DuAt w bd ds)(RA:RAt w r q)(he:r.es.length<=1000000)(hi:r.ids.length<=1000000) :
  Ret prog 183 #[ptr bx,ptr bd,.agg (BD r q).toArray] w fun v w'=>v=.bool (Pn acs ds r)/\Ext [] w w':=by
 obtain⟨w0,rfl,H⟩:=qE w;have hn16:=(Cr.1 ha).1;have hm64:=(Ge.1 hd).1;obtain⟨rs,hrs⟩:=qD (acs.map C9);have hrl:rs.length=acs.length:=by rw[hrs,qak]
 refine A2 (fn:=f183) func183 U [.pointer (some ⟨bx,0,none⟩),.pointer (some ⟨bd,0,none⟩),.agg (BD r q).toArray] U ?_;refine Ad (Bu (BD r q) (.agg _) U U H ?_);rintro b5 w - H;refine Ai U (qA ?_);have hx5:=H.ext;have h5:=H.get at0;obtain⟨w5,rfl⟩:=qD w;refine Eo 2097024 (α:=NowZ) (fun z=>[(7,ptr z.b),(8,.slice z.aI z.nI z.cI),(9,.int .i64 z.code)]) (NowI w0 rs ds r.cmp b5 (Bl 55 (BD r q))) U ?_ ?_
 .skip
  refine PS (.two [0,2,4,5] 1 (.two [] 3 (.two [] 6 (.one [7,8,9,10] 11 (.one [] 12 (.one [] 13 (.one [] 14 .stop)))) 11 (.one [] 6 (.one [7,8,9,10] 12 (.one [] 13 (.one [] 14 .stop))))) 11 (.one [] 3 (.one [] 6 (.one [7,8,9,10] 12 (.one [] 13 (.one [] 14 .stop)))))) 11 (.one [] 1 (.one [] 3 (.one [] 6 (.one [7,8,9,10] 12 (.one [] 13 (.one [] 14 .stop))))))) (fun z=>Ext [] w5 z) Bs (Ext.drew [] w5) (Jq U U U ?_);refine BZ U (BZ U (A1 Y4 U (B5 HI U (fun _ hx=>(by rw[An (hx.to h5 (by simp))];rfl)) ?_)));refine Bb ?_;have E:=Ext.drew [] w5;refine⟨?_,?_⟩
  .skip
   refine Am qB (LR ha _ (A.ext0 (hx5.trans E))) U ?_;rintro v w ⟨hx12,a2,c2,rfl,R2⟩;rw[<-hrs]at R2 |-;replace E:=E.trans hx12;refine Ab (Ck (by exact E) ?_);refine Jq U U U (Bb ?_);refine⟨?_,?_⟩
   .skip
    refine Am qB (JN hd _ (D.ext0 (hx5.trans E))) U ?_;rintro v w ⟨hx14,a3,c3,rfl,R3⟩;replace E:=E.trans hx14;replace R2:=R2.ext0 hx14;refine Ab (Ck (by exact E) ?_);refine Jq U U U (Bb ?_);refine⟨?_,?_⟩
    .skip
     refine Am qB (I5 a2 a3 _ c2 _ c3 rs ds r.cmp _ R2 U R3 U) U ?_;rintro v w hR;obtain⟨hx17,N,aE,nE,cE,aI,nI,cI,code,rfl,hU⟩:=hR.uni;replace E:=E.trans hx17;refine Ab (Ck (by exact E) ?_);refine Cg U U (Ek U (B7 U U (B7 U U (B7 U U (Bb ?_)))));have H:=Ctx.start w [];refine AX OQ H ?_;rintro b7 w - H;refine Ab (Ck (by exact E.trans H.ext) ?_);refine Cg U U (Bb (Bi C2 U U U (by simp[AS]) H at0 U ?_));rintro w H;refine Ab (Ck (by exact E.trans H.ext) ?_);refine Cg U U (Bb (Az U (Ab (Ck (by exact E.trans H.ext) ?_))));refine Cg U U (Bb (Af U (Ab (Ck (by exact E.trans H.ext) ?_))));refine EG (Aa ?_);exact⟨⟨b7,N,aE,nE,cE,aI,nI,cI,code⟩,rfl,⟨rfl,rfl,rfl,trivial⟩,hx5.trans (E.trans H.ext),(E.trans H.ext).to h5 (by simp),H.get at0,hU [] _ (by simp) H.ext⟩
    .skip
     have H:=Ctx.start w [];refine AX OQ H ?_;rintro b7 w - H;have hn7:w5.heap.size<=b7:=qbe E.size ((H.own _ (qaj ..)).elim (fun h=>by cases h) id);replace E:=E.trans H.ext;have hb7:=H.get at0;replace R2:=R2.ext0 H.ext;replace R3:=R3.ext0 H.ext;refine Ab (Ck (by exact E) ?_);refine Cg U U (Bb ?_);have hl7:=Bf hb7;refine Am qB (I5 a2 a3 _ c2 _ c3 rs ds r.cmp _ R2 U R3 U) U ?_;rintro v w hR;obtain⟨hx17,N,aE,nE,cE,aI,nI,cI,code,rfl,hU⟩:=hR.uni;replace E:=E.trans hx17;replace hb7:=hx17.to hb7 (by simp);have H:=Ctx.start1 hb7;refine Ab (Ck (by exact E) ?_);refine Cg U U (Ek U (B7 U U (B7 U U (B7 U U (Bb (Bi C2 U U U (by simp[AS]) H at0 U ?_))))));rintro w H;refine Ab (Ck (by exact E.then H.ext (fun x hx => .inr (by rw[qab.1 hx];exact hn7))) ?_);refine Cg U U ?_
     refine Bb (Az U (Ab (Ck (by exact E.then H.ext (fun x hx => .inr (by rw[qab.1 hx];exact hn7))) ?_)));refine Cg U U ?_;refine Bb (Af U (Ab (Ck (by exact E.then H.ext (fun x hx => .inr (by rw[qab.1 hx];exact hn7))) ?_)));refine EG (Aa ?_);have E2:=E.then H.ext fun x hx => .inr (by rw[qab.1 hx];exact hn7);exact⟨⟨b7,N,aE,nE,cE,aI,nI,cI,code⟩,rfl,⟨rfl,rfl,rfl,trivial⟩,hx5.trans E2,E2.to h5 (by simp),H.get at0,hU [b7] _ (by simpa using hl7) H.ext⟩
   .skip
    have H:=Ctx.start w [];refine AX OQ H ?_;rintro b7 w - H;have hn7:w5.heap.size<=b7:=qbe E.size ((H.own _ (qaj ..)).elim (fun h=>by cases h) id);replace E:=E.trans H.ext;have hb7:=H.get at0;replace R2:=R2.ext0 H.ext;refine Ab (Ck (by exact E) ?_);refine Cg U U (Bb (Am qB (JN hd _ (D.ext0 (hx5.trans E))) U ?_));rintro v w ⟨hx14,a3,c3,rfl,R3⟩;replace E:=E.trans hx14;replace R2:=R2.ext0 hx14;replace hb7:=hx14.to hb7 (by simp);refine Ab (Ck (by exact E) ?_);refine Cg U U (Bb ?_);have hl7:=Bf hb7;refine Am qB (I5 a2 a3 _ c2 _ c3 rs ds r.cmp _ R2 U R3 U) U ?_;rintro v w hR;obtain⟨hx17,N,aE,nE,cE,aI,nI,cI,code,rfl,hU⟩:=hR.uni;replace E:=E.trans hx17;replace hb7:=hx17.to hb7 (by simp);have H:=Ctx.start1 hb7;refine Ab (Ck (by exact E) ?_);refine Cg U U ?_
    refine Ek U (B7 U U (B7 U U (B7 U U (Bb (Bi C2 U U U (by simp[AS]) H at0 U ?_)))));rintro w H;refine Ab (Ck (by exact E.then H.ext (fun x hx => .inr (by rw[qab.1 hx];exact hn7))) ?_);refine Cg U U ?_;refine Bb (Az U (Ab (Ck (by exact E.then H.ext (fun x hx => .inr (by rw[qab.1 hx];exact hn7))) ?_)));refine Cg U U ?_;refine Bb (Af U (Ab (Ck (by exact E.then H.ext (fun x hx => .inr (by rw[qab.1 hx];exact hn7))) ?_)));refine EG (Aa ?_);have E2:=E.then H.ext fun x hx => .inr (by rw[qab.1 hx];exact hn7);exact⟨⟨b7,N,aE,nE,cE,aI,nI,cI,code⟩,rfl,⟨rfl,rfl,rfl,trivial⟩,hx5.trans E2,E2.to h5 (by simp),H.get at0,hU [b7] _ (by simpa using hl7) H.ext⟩
  .skip
   have H:=Ctx.start (World.drew w5) [];refine AX OQ H ?_;rintro b7 w - H;have hn7:w5.heap.size<=b7:=qbe E.size ((H.own _ (qaj ..)).elim (fun h=>by cases h) id);replace E:=E.trans H.ext;have hb7:=H.get at0;refine Ab (Ck (by exact E) ?_);refine Cg U U (Bb (Am qB (LR ha _ (A.ext0 (hx5.trans E))) U ?_));rintro v w ⟨hx12,a2,c2,rfl,R2⟩;rw[<-hrs]at R2 |-;replace E:=E.trans hx12;replace hb7:=hx12.to hb7 (by simp);refine Ab (Ck (by exact E) ?_);refine Cg U U (Bb (Am qB (JN hd _ (D.ext0 (hx5.trans E))) U ?_));rintro v w ⟨hx14,a3,c3,rfl,R3⟩;replace E:=E.trans hx14;replace R2:=R2.ext0 hx14;replace hb7:=hx14.to hb7 (by simp);refine Ab (Ck (by exact E) ?_);refine Cg U U (Bb ?_);have hl7:=Bf hb7;refine Am qB (I5 a2 a3 _ c2 _ c3 rs ds r.cmp _ R2 U R3 U) U ?_;rintro v w hR;obtain⟨hx17,N,aE,nE,cE,aI,nI,cI,code,rfl,hU⟩:=hR.uni
   replace E:=E.trans hx17;replace hb7:=hx17.to hb7 (by simp);have H:=Ctx.start1 hb7;refine Ab (Ck (by exact E) ?_);refine Cg U U (Ek U (B7 U U (B7 U U (B7 U U (Bb (Bi C2 U U U (by simp[AS]) H at0 U ?_))))));rintro w H;refine Ab (Ck (by exact E.then H.ext (fun x hx => .inr (by rw[qab.1 hx];exact hn7))) ?_);refine Cg U U ?_;refine Bb (Az U (Ab (Ck (by exact E.then H.ext (fun x hx => .inr (by rw[qab.1 hx];exact hn7))) ?_)));refine Cg U U ?_;refine Bb (Af U (Ab (Ck (by exact E.then H.ext (fun x hx => .inr (by rw[qab.1 hx];exact hn7))) ?_)));refine EG (Aa ?_);have E2:=E.then H.ext fun x hx => .inr (by rw[qab.1 hx];exact hn7);exact⟨⟨b7,N,aE,nE,cE,aI,nI,cI,code⟩,rfl,⟨rfl,rfl,rfl,trivial⟩,hx5.trans E2,E2.to h5 (by simp),H.get at0,hU [b7] _ (by simpa using hl7) H.ext⟩
 .rintro⟨b7,N,aE,nE,cE,aI,nI,cI,code⟩ j1 w ⟨hx0,h5',hb7,hU⟩;dsimp only at hb7 hU;dsimp only;obtain⟨w1,rfl,H⟩:=qE w;have RA1:=RA.ext0 hx0
  rcases hU with⟨hb,rfl,-⟩|⟨hb,rfl,rfl,rfl,RE,aI',cI',hI,RI⟩
  .skip
   refine Ad (Ae U (Cj U U (Au U (AE 23 U ?_ ?_))))
   .intro g1;replace g1:=AJ g1;exact absurd g1 (by decide)
   .intro g1;replace g1:=AK g1;refine Ag U (Ag U (Ag U (Ag U (Ag U (Ag U (AA U (.bool _) U (Au U (Ag U (Ag U ?_)))))))));refine Ag U (Ag U (Ag U (Ag U (AA U (.bool _) U (Au U (Ag U (Ag U (Ag U (Ag U ?_)))))))));refine AA U (.bool _) U (Ai U (qA (A6 (AD (v:=(.bool _)) U U U ?_))));exact⟨qaa Value.bool (by unfold Pn;rw[<-hrs,hb];simp_all),hx0⟩
  .skip
   cases hI;have hel:(BX rs (opn ds) r.cmp).length<=1000000:=by have:=Hv ds;rw[Iq];split <;> omega
   have hil:((opn ds).map Du.id).length<=1000000:=by have:=Hv ds;rw[qak];omega
   refine Ad (Ae U (Cj U U (Au U (AE 23 U ?_ ?_))))
   .intro h1;replace h1:=AJ h1;refine Ah DW U (Ba B6 U ((by rw[An (H.ext.to hb7 (by simp))];rfl)) ?_);refine Ah Ey U (Ah DW U (Ba B6 U ((by rw[An (H.ext.to h5' (by simp))];rfl)) ?_));refine Cj U U (A8 U (.bool _) U (Au U (AE 31 U ?_ ?_)))
    .intro h2;replace h2:=AJ h2;refine Ah C8 U (Ba DO U ((by rw[An (H.ext.to hb7 (by simp))];rfl)) ?_);refine Ah Ey U (Ah C8 U (Ba DO U ((by rw[An (H.ext.to h5' (by simp))];rfl)) ?_));refine Am qB (Aqm aE q.aE _ cE _ q.cE (BX rs (opn ds) r.cmp) r.es _ (RE.ext0 H.ext) U hel (RA1.E.ext0 H.ext) U he) U ?_;rintro v w ⟨rfl,hx37⟩;replace H:=H.call hx37;refine A8 U (.bool _) U (Au U (AE 39 U ?_ ?_))
     .intro h3;refine Ao U (Ah GN U (Ba KA U ((by rw[An (H.ext.to h5' (by simp))];rfl)) ?_));refine Am qB (Aqn aI q.aI _ cI _ q.cI ((opn ds).map Du.id) r.ids _ (RI.ext0 H.ext) U hil (RA1.I.ext0 H.ext) U hi) U ?_;rintro v w ⟨rfl,hx43⟩;replace H:=H.call hx43;refine A8 U (.bool _) U (Ai U (qA (A6 (AD (v:=(.bool _)) U U U ?_))));exact⟨qaa Value.bool (by unfold Pn;rw[<-hrs,hb,<-hrl];simp_all),hx0.trans H.ext⟩
     .intro h4;refine Ag U (Ag U (Ag U (Ag U (AA U (.bool _) U (Ai U (qA (A6 (AD (v:=(.bool _)) U U U ?_))))))));exact⟨qaa Value.bool (by unfold Pn;rw[<-hrs,hb,<-hrl];simp_all),hx0.trans H.ext⟩
    .intro h5;replace h5:=AK h5;refine Ag U (Ag U (Ag U (Ag U (Ag U (Ag U (AA U (.bool _) U (Au U (Ag U (Ag U ?_)))))))));refine Ag U (Ag U (AA U (.bool _) U (Ai U (qA (A6 (AD (v:=(.bool _)) U U U ?_))))));exact⟨qaa Value.bool (by unfold Pn;rw[<-hrs,hb,<-hrl];simp_all),hx0.trans H.ext⟩
   .intro h6;replace h6:=AK h6;refine Ag U (Ag U (Ag U (Ag U (Ag U (Ag U (AA U (.bool _) U (Au U (Ag U (Ag U ?_)))))))));refine Ag U (Ag U (Ag U (Ag U (AA U (.bool _) U (Au U (Ag U (Ag U (Ag U (Ag U ?_)))))))));refine AA U (.bool _) U (Ai U (qA (A6 (AD (v:=(.bool _)) U U U ?_))));exact⟨qaa Value.bool (by unfold Pn;rw[<-hrs,hb,<-hrl];simp_all),hx0.trans H.ext⟩
theorem Akh{c4 c7 by' bd b n:Nat}{nx:Int}{o:Obj}{ds:List Du}{d:Du}{x:Int}{f f':Nat->Int}(w:World)(h4:w.heap[c4]?=some (Bl 101 [ptr bd]))(h7:w.heap[c7]?=some (Bl 35 [.slice (some ⟨by',0,none⟩) n n]))(hd:w.heap[bd]?=some (Bl 165 (DU b nx)))(H0:Ctx w [by',b] w [(by',Bl 2 (Ce f n)),(b,o)])(hM:Ds .u64 (dm ds) o)(n4:c4∉[by',b])(n7:c7∉[by',b])(nd:bd∉[by',b])(hf:Dn ds d.id=some d)(hh:d.held=false)(hx:0<=x/\x<=d.am)(ham:XF ds)(hfr:0<=d.fr/\d.fr<n)(hto:0<=d.to/\d.to<n)(hfb:∀k,-1152921504606846976<=f k/\f k<=1152921504606846976)(hf':∀k,f' k=f k+(one (d.to.toNat=k) - one (d.fr.toNat=k))*x)(_:n<=1000000:=by omega):
  Ret prog 184 #[.int .u64 d.id,.int .i64 x,ptr c4,ptr c7] w fun v w'=>v=.int .i64 0/\∃o',Ds .u64 (dm (G1 ds d.id x)) o'/\Ctx w [by',b] w' [(by',Bl 2 (Ce f' n)),(b,o')]:=by
 obtain⟨w0,rfl⟩:=qD w;have H:=H0;have hamd:=ham d (IK hf).1;obtain⟨fn,hfn⟩:∃fn:Nat,d.fr=fn:=⟨d.fr.toNat,by omega⟩;obtain⟨tn,htn⟩:∃tn:Nat,d.to=tn:=⟨d.to.toNat,by omega⟩;obtain⟨f1,hf1⟩:=qD (upd f fn (f fn - x));have hof:f1 fn=f fn - x:=by rw[hf1,D0]
 have hon:∀q,q≠fn->f1 q=f q:=fun q hq=>by rw[hf1,EM hq]
 have hst:∀q,f' q=upd f1 tn (f1 tn+x) q:=fun q=>by
  rw[hf',hfn,htn,qa7,qa7]
  by_cases h1:q=tn
  .subst h1;rw[D0,Fj rfl]
   by_cases h2:fn=q
   .subst h2;rw[Fj rfl,hof];omega
   .rw[E4 h2,hon q (Ne.symm h2)];omega
  .rw[EM h1,E4 (Ne.symm h1)]
   by_cases h2:fn=q
   .subst h2;rw[Fj rfl,hof];omega
   .rw[E4 h2,hon q (Ne.symm h2)];omega
 have hb1:=hfb fn;have hb2:=hfb tn
 have hot : -1157425104234217472<=f1 tn/\f1 tn<=1157425104234217472:=by
  by_cases h:tn=fn
  .rw[h,hof];omega
  .rw[hon tn h];omega
 have hbb:=H.ne at0 at1 (by decide);refine A2 (fn:=f184) func184 U [.int .u64 d.id,.int .i64 x,.pointer (some ⟨c4,0,none⟩),.pointer (some ⟨c7,0,none⟩)] U ?_;refine Ad (Af U (qA (Ad (Ba Gk U ((H.old (An h4 _) n4)) ?_))));refine Ae U (Am qB (U7 _ (H.ext.to hd nd) (H.get at1) hM) U ?_);rintro v w ⟨rfl,hx12⟩;replace H:=H.call hx12;rw[show Np ds d.id=d by unfold Np;rw[hf];rfl];refine BN U (AF U U (AF U U (AX DR H ?_)));rintro b7 w - H;refine Bi BC U U U (by exact Dt _) H at0 U ?_;rintro w H;refine Ai U (qA (Ad (Ba Cc U ((H.old (An h7 _) n7)) ?_)));refine Ah Dk U (AG B6 U H at0 U (Bq AR Bt U U ?_));refine Ka fn _ Bm U H at1 (by rw[hfn];simp) U ?_;refine Ae U (B3 U U ?_);refine Bq AR Bt U U ?_
 refine Cl fn (fun q => .int .i64 (f1 q)) (.int _ _) Bt U U U H at1 (by rw[hfn];simp) (by rw[hof]) (fun q _ hq=>by rw[hon q hq]) ?_;rintro w H;refine qA (Ad (Ba Cc U ((H.old (An h7 _) n7)) ?_));refine Ah D7 U (AG B6 U H at0 U (Bq AR Bt U U ?_));refine Ka tn _ Bm U H at1 (by rw[htn];simp) U ?_;refine Ae U (Aw U U ?_);refine Bq AR Bt U U (Cl tn (fun q => .int .i64 (f' q)) (.int _ _) Bt U U U H at1 (by rw[htn];simp) (by rw[hst,D0]) (fun q _ hq=>by rw[hst,EM hq]) ?_);rintro w H;refine qA (Ad (Ba Gk U ((H.old (An h4 _) n4)) ?_));refine Ae U (Ae U ?_);obtain⟨hc0,hS⟩:=Aa9 (p:=(d,x)) ⟨hf,hh,hx.1,hx.2⟩;dsimp only at hc0 hS;have Hp:=H.perm (show List.Perm _ [_,_,_]from(List.Perm.swap _ _ _).trans ((List.Perm.swap _ _ _).cons _))
 refine Am qB (Aj6 (k:=d.id) (x:=x) _ (H.ext.to hd nd) (H.get at2) hM (by intro h;exact nd (by rw[h];simp)) ham) U ?_;rintro v w ⟨rfl,o',hM',H2⟩;rw[hc0];rw[hS]at hM';refine Af U (qA (A6 (AD (v:=(.int _ _)) U U U ?_)));have HB:=Ctx.back (L1:=[_]) (L2:=[_,_]) (Hp.perm (List.Perm.swap _ _ _)) H2;exact⟨rfl,o',hM',(HB.perm (List.Perm.swap _ _ _)).left (L:=[_,_]) (L':=[_])⟩
theorem Ami{α:Type}(A B C p y q1 q2:α)(E:List α):(A::B::C::(E++[p,y,q1,q2])).Perm (y::C::A::B::p::q1::q2::E):=by
 have h1:(A::B::C::(E++[p,y,q1,q2])).Perm (A::B::C::p::y::q1::q2::E):=((qde (l₁:=E) (l₂:=[p,y,q1,q2])).cons C |>.cons B).cons A;have h2:(A::B::C::p::y::q1::q2::E).Perm (y::A::B::C::p::q1::q2::E):=qbu (l₁:=[A,B,C,p]);have h3:(A::B::C::p::q1::q2::E).Perm (C::A::B::p::q1::q2::E):=qbu (l₁:=[A,B]);exact h1.trans (h2.trans (h3.cons y))
theorem Ctx.turnEnt{w0 w w':World}{S:List Nat}{L:List (Nat × Obj)}{a:Option Addr}{t:TypeId}{full full':List Value}(H:Ctx w0 S w (L++ent a t full))(he:Ext ((ent a t full).map (·.1)) w w')(hb:∀x∈ent a t full',w'.heap[x.1]?=some x.2):Ctx w0 S w' (L++ent a t full'):=by
 have H':Ctx w ((ent a t full).map (·.1)) w' (ent a t full'):=⟨he,hb,FM,fun x hx=>by
  cases a with
  |none=>simp[ent]at hx
  |some p =>
   simp only[ent,qab]at hx;subst hx
   exact .inl (by simp[ent])⟩
 exact(Ctx.back (Ctx.comm H) H').comm
theorem CS{w:World}{b:Nat}{t:TypeId}{l:List Value}(h:w.heap[b]?=some (Bl t l))(o:Nat)(l':List Value)(hl:(l.drop o).take l'.length=l'):∀j v,l'[j]?=some v->w.cell? ⟨b,o+j,none⟩=some v:=fun j v hv=>by
 rw[An h];have hj:=Cb hv;rw[<-hl,qb0,if_pos hj,qcb]at hv;exact hv
theorem ROff.or{q:RSl}{r:Rnd}{S T:Nat->Prop}(h:ROff q r S)(k:ROff q r T):ROff q r (fun x=>S x\/T x) :=
 ⟨fun g x=>x.elim (h.I g) (k.I g),fun g x=>x.elim (h.E g) (k.E g),fun g x=>x.elim (h.F g) (k.F g),fun g x=>x.elim (h.P g) (k.P g)⟩
structure ApF(acs:List Ac)(ds:List Du)(r:Rnd):Prop where
 B:Bright (acs.map C9) ds
 N:r.N=(((acs.map C9).length+1:Nat):Int)
 es:r.es=BX (acs.map C9) (opn ds) r.cmp
 ids:r.ids=(opn ds).map Du.id
 pay:PayIn (opn ds) (r.fl.take (opn ds).length)
 len:r.fl.length=r.es.length
 by':∀(k:Nat) (a:Ac),acs[k]?=some a->(r.cmp=true->byK (acs.map C9) (opn ds) r.cmp r.fl k=0) /\ -(C9 a)<=byK (acs.map C9) (opn ds) r.cmp r.fl k/\byK (acs.map C9) (opn ds) r.cmp r.fl k<=4503599627370496
 sum:BQ (byK (acs.map C9) (opn ds) r.cmp r.fl) acs.length=0
 ok:Mn ds ((opn ds).zip (r.fl.take (opn ds).length))
 all:Lu ds ((opn ds).zip (r.fl.take (opn ds).length))=DI ds (r.fl.take (opn ds).length)
theorem Agi{acs:List Ac}{ds:List Du}{nx:Int}{r:Rnd}(_:EA acs=0)(hd:ofC ds nx=0)(hck:Fk r.N r.es r.fl r.pot=true)(hnow:Pn acs ds r=true):ApF acs ds r:=by
 have hm64:=(Ge.1 hd).1;unfold Pn at hnow;simp only[qae,qam]at hnow;obtain⟨h1,h2,h3,h4⟩:=hnow;have hB:=(Hg).1 h1;have hN:r.N=(((acs.map C9).length+1:Nat):Int):=by rw[qak];exact h2.symm
 have hf:=(GF.1 hck).1;rw[hN,<-h3]at hf;obtain⟨f1,f2,f3,f4⟩:=VK (fun x hx=>(CR.1 (hB.may x hx)).1) hB.open'.due hf;have hp:=Akc f1 [] (by rw[qbp];exact Lv hd);rw[qbp]at hp;rw[qak]at f4;exact⟨hB,hN,h3.symm,h4.symm,f1,by rw[f2,h3],fun k a hk=>f3 k _ (by rw[qa1,hk];rfl),f4,hp.1,hp.2⟩
def EU(acs:List Ac)(ds:List Du)(r:Rnd):Int:=if Fk r.N r.es r.fl r.pot=false then 1 else if Pn acs ds r=false then 3 else 0
def Fs(acs:List Ac)(ds:List Du)(r:Rnd):List Ac:=if EU acs ds r=0 then shA acs (tab (byK (acs.map C9) (opn ds) r.cmp r.fl) acs.length)else acs
def Ep(acs:List Ac)(ds:List Du)(r:Rnd):List Du:=if EU acs ds r=0 then DI ds (r.fl.take (opn ds).length)else ds
theorem EV{acs:List Ac}{ds:List Du}{nx:Int}{r:Rnd}(ha:EA acs=0)(hd:ofC ds nx=0)(h:EU acs ds r=0):ApF acs ds r:=by
 unfold EU at h
 cases h1:Fk r.N r.es r.fl r.pot with
 |false=>rw[if_pos h1]at h;simp at h
 |true =>
  rw[if_neg (by rw[h1];decide)]at h
  cases h2:Pn acs ds r with
  |false=>rw[if_pos h2]at h;simp at h
  |true=>exact Agi ha hd h1 h2
theorem JO{acs:List Ac}{ds:List Du}{nx:Int}{r:Rnd}(ha:EA acs=0)(hd:ofC ds nx=0):EA (Fs acs ds r)=0/\ofC (Ep acs ds r) nx=0/\(Fs acs ds r).length=acs.length:=by
 unfold Fs Ep
 by_cases h:EU acs ds r=0
 .rw[if_pos h,if_pos h];have F:=EV ha hd h;exact⟨(Lw ha (fun k a hk=>(F.by' k a hk).2) F.sum).2,Akb F.pay hd,U9⟩
 .rw[if_neg h,if_neg h];exact⟨ha,hd,rfl⟩
abbrev LX(bx:Nat)(a:Option Addr)(n c:Nat)(full:List Value)(bd b:Nat)(nx:Int)(o:Obj):List (Nat × Obj):=(bx,Bl 162 [.slice a n c])::(bd,Bl 165 (DU b nx))::(b,o)::ent a 43 full
structure AP7 where
 i:Nat
 o:Obj
theorem Agj{bx bd b c:Nat}{a:Option Addr}{full:List Value}{o:Obj}{acs:List Ac}{ds:List Du}{nx:Int}{r:Rnd}{q:RSl}(ha:EA acs=0)(hd:ofC ds nx=0)(w:World)(H0:Ctx w ((LX bx a acs.length c full bd b nx o).map (·.1)) w (LX bx a acs.length c full bd b nx o))(O:OS a acs.length c 2 full (acs.flatMap Dm))(hM:Ds .u64 (dm ds) o)(RA:RAt w r q)(hoff:ROff q r (·∈(LX bx a acs.length c full bd b nx o).map (·.1)))(hN:I64 r.N)(he:r.es.length<=1000000)(hi:r.ids.length<=1000000)(hf:r.fl.length<=1000000)(hp:r.pot.length<=1000000) :
  Ret prog 113 #[ptr bx,ptr bd,.agg (BD r q).toArray] w fun v w'=>v=.int .i64 (EU acs ds r)/\∃full' o',OS a acs.length c 2 full' ((Fs acs ds r).flatMap Dm)/\Ds .u64 (dm (Ep acs ds r)) o' /\
   Ctx w ((LX bx a acs.length c full bd b nx o).map (·.1)) w' (LX bx a acs.length c full' bd b nx o'):=by
 obtain⟨w0,rfl,H⟩:=qE w;have hn16:=(Cr.1 ha).1;have hm64:=(Ge.1 hd).1;have hbx:=H0.get at0;have hbd:=H0.get at1;have hb:=H0.get at2;have RAc:Rd w0 a 2 Dm acs:=OS.rd O (fun x hx=>H0.blk x (qai _ (qai _ (qai _ hx)))) (fun _ _=>rfl) (by decide);have A:AcAt w0 162 bx acs:=⟨a,c,hbx,RAc⟩;have D:DuAt w0 bd ds:=⟨b,nx,o,hbd,hb,hM⟩;obtain⟨ck,hck⟩:=qD (Fk r.N r.es r.fl r.pot);obtain⟨nw,hnw⟩:=qD (Pn acs ds r);refine A2 (fn:=f113) func113 U [.pointer (some ⟨bx,0,none⟩),.pointer (some ⟨bd,0,none⟩),.agg (BD r q).toArray] U ?_;refine Ad (Bu [ptr bd] (.pointer _) U U H ?_);rintro b4 w - H;refine Bu (BD r q) (.agg _) U U H ?_;rintro b5 w - H
 refine Af U (qA (Ap (Ax (Ad (B9 (α:=Unit) 520192 (fun _=>[(12,.bool (false))]) (fun _ w'=>Ctx w0 [] w' [(b5,Bl 55 (BD r q)),(b4,Bl 101 [ptr bd])]) U ?_ ?_)))))
 .refine A9 U (C7 OJ U ?_);refine Au U (AE 15 U ?_ ?_)
  .intro h1;refine Ag U (Ag U (A8 U (.bool _) U (Ai U (Ab ?_))));exact⟨rfl,(),rfl,⟨qaa Value.bool (by simp_all),trivial⟩,H⟩
  .intro h2;refine AG Gk U H at1 U (C7 Ju U ?_);refine AA U (.bool _) U (Ai U (Ab ?_));exact⟨rfl,(),rfl,⟨qaa Value.bool (by rfl),trivial⟩,H⟩
 rintro - j12 w H;refine D5 U (Ad (Ah Ey U (Ca _ CG C2 U U ((CS (b:=b5) (t:=55) (l:=BD r q) (H.get at0) 4 [.int .i64 r.N,.slice q.aE r.es.length q.cE] U)) ?_)));refine Ah Gc U (Ca _ SV Nd U U ((CS (b:=b5) (t:=55) (l:=BD r q) (H.get at0) 6 [.slice q.aF r.fl.length q.cF,.slice q.aP r.pot.length q.cP] U)) ?_);refine Am qB (Vx r.N q.aE q.aF q.aP _ q.cE _ q.cF _ q.cP r.es r.fl r.pot _ (RA.E.ext0 H.ext) U hN (RA.F.ext0 H.ext) U (by omega) (RA.P.ext0 H.ext) U (by omega)) U ?_;rintro v w ⟨rfl,hx24⟩;rw[<-hck];replace H:=H.call hx24;refine B1 U (Ai U (qA (Av _ U ?_ ?_)))
 .intro h1;replace h1:=Bv h1;refine Ad (Af U (qA (A6 (A5 (Al (AD (v:=(.int _ _)) U U U ?_))))));have h1':ck=false:=by simpa using h1
  have hC:EU acs ds r=1:=by unfold EU;rw[<-hck,if_pos h1']
  unfold Fs Ep;rw[hC,if_neg (by decide),if_neg (by decide)];exact⟨rfl,full,o,O,hM,H0.call H.ext⟩
 .intro h1;replace h1:=Bw h1;have h1':ck=true:=by simpa using h1
  refine Ad (A9 U (AG Gk U H at1 U (BV Gm Dv U H at0 U (Am qB (Aqp ha hd _ (A.ext0 H.ext) (D.ext0 H.ext) (RA.ext0 H.ext) he hi) U ?_))));rintro v w ⟨rfl,hx30⟩;rw[<-hnw];replace H:=H.call hx30;refine B1 U (Ai U (qA (Av _ U ?_ ?_)))
  .intro h2;replace h2:=Bv h2;refine Ad (Af U (qA (A6 (A5 (Al (AD (v:=(.int _ _)) U U U ?_))))));have h2':nw=false:=by simpa using h2
   have hC:EU acs ds r=3:=by unfold EU;rw[<-hck,h1',if_neg (by decide),<-hnw,if_pos h2']
   unfold Fs Ep;rw[hC,if_neg (by decide),if_neg (by decide)];exact⟨rfl,full,o,O,hM,H0.call H.ext⟩
  .intro h2;replace h2:=Bw h2;have h2':nw=true:=by simpa using h2
   have hC:EU acs ds r=0:=by unfold EU;rw[<-hck,h1',if_neg (by decide),<-hnw,h2',if_neg (by decide)]
   have F:=EV ha hd hC;unfold Fs Ep;rw[hC,if_pos rfl,if_pos rfl];have hSh:=(Lw ha (fun k a hk=>(F.by' k a hk).2) F.sum).1;obtain⟨f,hf0⟩:=qD (fun i=>Ea (grE (((acs.map C9).length+1:Nat):Int) (BX (acs.map C9) (opn ds) r.cmp)) (flE r.fl) i:Nat->Nat->Int);have hfe:byK (acs.map C9) (opn ds) r.cmp r.fl=f (opn ds).length:=by rw[hf0];rfl
   rw[hfe]at hSh |-;have hf00:f 0=fun _=>0:=by rw[hf0];rfl
   obtain⟨m,hm⟩:=qD ((opn ds).length);have hml:m<=64:=by have:=Hv ds;omega
   have hmf:m<=r.fl.length:=by rw[F.len,F.es,Iq];omega
   have hltm:(r.fl.take m).length=m:=by rw[qbm];omega
   have hidl:r.ids.length=m:=by rw[F.ids,qak,hm]
   have hcut:U5 (r.ids.length:Int) r.fl.length=m:=by unfold U5;rw[hidl];omega
   rw[<-hm]at hSh |-;refine Aq (A7 (Aa (Ad (A9 U (Am qB (QK (bd:=bx) a acs.length c acs _ (H.ext.to hbx (by simp)) (RAc.ext0 H.ext) U) U ?_)))));rintro v w F33;obtain⟨a33,n33,c33,f33,rfl,O33,-⟩:=F33.ex;obtain rfl:=O33.numN (fun _ _=>rfl) (by decide);replace H:=H.call F33.ext;refine AU Dz U (F2 AR Bt J9 Eh U U H ?_);rintro b35 w - H;rw[qa7,Ej]at H;rw[qa7];refine AX Ame H ?_;rintro b7 w - H;refine Cz (.slice _ _ _) Ama U U U H at0 (by decide) ?_;rintro w H;refine qA (Ad (Cm [.pointer _,.pointer _] U (Dg U (.func _ _ _) U ?_)));refine qA (Ap (Ad (Ah Ey U (Ca _ CG C2 U U ((CS (b:=b5) (t:=55) (l:=BD r q) (H.get at2) 4 [.int .i64 r.N,.slice q.aE r.es.length q.cE] U)) ?_))))
   refine Ah Gc U (Ah Ho U (AG Cc U H at2 U (Ah GN U (AG KA U H at2 U (AU BA U (Am qB (YZ r.N q.aE q.aF r.es.length q.cE _ q.cF (r.ids.length:Int) r.fl _ (RA.F.ext0 H.ext) U RA.fc hf) U ?_))))));rintro v w F45;rw[hcut]at F45;obtain⟨a45,n45,c45,f45,rfl,O45,hb45⟩:=F45.ex;have hn45:=O45.num;rw[qbm,qce hmf]at hn45;rw[hn45]at O45 |-;refine AU AR U (Ae U (qA (Ax ?_)));have HFp:=(Ctx.callEnt H0 H.ext (fun x hx=>⟨H.blk x hx,(H.own x hx).elim (fun h=>by cases h) id⟩) H.nd).perm (Ami _ _ _ _ _ _ _ _);have HF:=HFp.call F45.ext;have E9:=H.ext.trans F45.ext
   obtain⟨S9,hS9⟩:=qD (((b35,Bl 2 (List.map (fun _=>Value.int .i64 0) (List.range acs.length)))::(b,o)::(bx,Bl 162 [.slice a acs.length c])::(bd,Bl 165 (DU b nx))::(b7,Bl 35 [.slice (some ⟨b35,0,none⟩) acs.length acs.length])::(b5,Bl 55 (BD r q))::(b4,Bl 101 [ptr bd])::ent a 43 full).map (·.1));have RPY:Rd w a45 1 I1 (r.fl.take m):=O45.rd1 fun x hx=>(hb45 x hx).1
   have hPY:r.fl.take m≠[]->(adr a45).block∉S9:=fun hne hm9=>by
    obtain⟨z,rfl⟩:=O45.form (by have:=qbv.2 hne;rw[qbm]at this;omega);have h7:=(hb45 (z,Bl 2 f45) (qab.2 rfl)).2;rw[hS9]at hm9;obtain⟨y,hy,hy2⟩:=qah.1 hm9;have h8:=Bf (HFp.blk y hy);dsimp only at h7;have h9:y.1=z:=hy2;omega
   have RA9:=RA.ext0 E9
   have hoff9:ROff q r (·∈S9):=(hoff.or RA.lt).mono fun x hx=>by
    rw[hS9]at hx;obtain⟨y,hy,rfl⟩:=qah.1 hx;exact HFp.own y hy
   clear HFp;obtain⟨w9,rfl⟩:=qD w;replace HF:Ctx w0 ((LX bx a acs.length c full bd b nx o).map (·.1)) w9 (((b35,Bl 2 (List.map (fun _=>Value.int .i64 0) (List.range acs.length)))::(b,o)::(bx,Bl 162 [.slice a acs.length c])::(bd,Bl 165 (DU b nx))::(b7,Bl 35 [.slice (some ⟨b35,0,none⟩) acs.length acs.length])::(b5,Bl 55 (BD r q))::(b4,Bl 101 [ptr bd])::ent a 43 full)++[]):=by rw[qa4];exact HF
   have H:Ctx w9 S9 w9 ((b35,Bl 2 (List.map (fun _=>Value.int .i64 0) (List.range acs.length)))::(b,o)::(bx,Bl 162 [.slice a acs.length c])::(bd,Bl 165 (DU b nx))::(b7,Bl 35 [.slice (some ⟨b35,0,none⟩) acs.length acs.length])::(b5,Bl 55 (BD r q))::(b4,Bl 101 [ptr bd])::ent a 43 full):=by rw[hS9];exact Ctx.lend HF
   refine Bn 18446603336221199936 (α:=AP7) (fun t=>[(47,.int .i64 (t.i:Int))]) (fun t w'=>t.i<=m/\Ds .u64 (dm (Lu ds (((opn ds).zip (r.fl.take m)).take t.i))) t.o/\Ctx w9 S9 w' ((b35,Bl 2 (Ce (f t.i) acs.length))::(b,t.o)::(bx,Bl 162 [.slice a acs.length c])::(bd,Bl 165 (DU b nx))::(b7,Bl 35 [.slice (some ⟨b35,0,none⟩) acs.length acs.length])::(b5,Bl 55 (BD r q))::(b4,Bl 101 [ptr bd])::ent a 43 full)) (fun t=>m - t.i) ⟨0,o⟩ U ?_ ?_ ?_
   .exact⟨rfl,trivial⟩
   .refine⟨qaf _,hM,?_⟩;dsimp only;rw[hf00];exact H
   .clear H;rintro⟨i,o1⟩ jj w ⟨hi7,hM1,H⟩;dsimp only at hi7 hM1 H;dsimp only;refine Ad (AZ U U (qA (Ap (Av _ U ?_ ?_))))
    .intro h3;replace h3:=AJ h3;obtain⟨d,hdi⟩:=AB (l:=opn ds) (i:=i);obtain⟨x,hxi⟩:=AB (l:=r.fl) (i:=i);have hxt:(r.fl.take m)[i]?=some x:=by rw[qb0,if_pos (by omega)];exact hxi
     have hid:r.ids[i]?=some d.id:=by rw[F.ids,qa1,hdi];rfl
     have hps:((opn ds).zip (r.fl.take m))[i]?=some (d,x):=by rw[qc8];exact⟨hdi,hxt⟩
     have hok:=F.ok;rw[<-hm]at hok;obtain⟨⟨hfd,hheld,hx0,hx1⟩,hnext⟩:=VI hok hps;dsimp only at hfd hheld hx0 hx1 hnext;have ham7:=(Za (Aga hd) hok i).1;have hDI:=F.B.open'.due d (qac hdi);rw[qak]at hDI;have hdm:=C4 hDI.1
     have hfb:∀k,-1152921504606846976<=f i k/\f i k<=1152921504606846976:=fun k=>by
      have:=JF (g:=grE (((acs.map C9).length+1:Nat):Int) (BX (acs.map C9) (opn ds) r.cmp)) (x:=flE r.fl) (c:=4503599627370496) k (k:=i) fun j hj=>by
       obtain⟨d',hd'⟩:=AB (l:=opn ds) (i:=j);obtain⟨x',hx'⟩:=AB (l:=r.fl) (i:=j);have h1:=F.pay.2 j d' x' hd' (by rw[qb0,if_pos (by omega)];exact hx');have h2:=(C4 (F.B.open'.due d' (qac hd')).1).2.2.2.1;show 0<=r.fl.getD j 0/\r.fl.getD j 0<=_;rw[Br hx'];omega
      rw[hf0];dsimp only;omega
     have hfs:∀k,f (i+1) k=f i k+(one (d.to.toNat=k) - one (d.fr.toNat=k))*x:=fun k=>by
      rw[hf0];dsimp only;rw[Gd,QQ (Hu hdi),QR (Hu hdi),show flE r.fl i=x from Br hxi];rfl
     refine Aq (Aa (Ap (Ax (Ad (Ae U (AM RPY AR Bt U U (by omega) ?_))))));refine Ba Bm U (((RPY.ext' H.ext hPY).fld hxt U (j:=0) U)) (Af U (Af U (qA (Ad (De U (.func _ _ _) U ?_)))));refine Ah GN U (AG KA U H at5 U (Ae U (AM RA9.I BA Bx U U (by rfl) ?_)));refine Ba BL U (((RA9.I.ext' H.ext hoff9.I).fld hid U (j:=0) U)) ?_
     refine Ae U (EC U qB (Akh (f:=f i) (f':=f (i+1)) (x:=x) (d:=d) _ (H.get at6) (H.get at4) (H.get at3) (Ctx.lend (L1:=[_,_]) (L2:=_) H) hM1 (fun h=>by simp only[qag,qar,or_false]at h;exact h.elim (H.ne at6 at0 (by decide)) (H.ne at6 at1 (by decide))) (fun h=>by simp only[qag,qar,or_false]at h;exact h.elim (H.ne at4 at0 (by decide)) (H.ne at4 at1 (by decide))) (fun h=>by simp only[qag,qar,or_false]at h;exact h.elim (H.ne at3 at0 (by decide)) (H.ne at3 at1 (by decide))) hfd hheld ⟨hx0,hx1⟩ ham7 ⟨hdm.1.1,hDI.2.1⟩ ⟨hdm.2.1.1,hDI.2.2⟩ hfb hfs) U ?_);rintro v w ⟨rfl,o2,hM2,H2⟩;replace H:=Ctx.back (L1:=[_,_]) (L2:=_) H H2;rw[<-hnext]at hM2;refine Af U (qA (Ad (Ae U (C0 U U (qA (Av _ U ?_ ?_))))))
     .intro h4;replace h4:=CC h4;exact absurd U h4
     .intro h4;replace h4:=CD h4;refine Aq (A7 (Aa (Ay (Aw U U ?_))));refine Ae U (qA ?_);exact⟨⟨i+1,o2⟩,rfl,⟨rfl,trivial⟩,⟨by dsimp only;omega,hM2,H⟩,by dsimp only;omega⟩
    .intro h3;replace h3:=AK h3;obtain rfl:i=m:=by omega
     have hall:=F.all;rw[<-hm]at hall;rw[qcf (by rw[qcx,<-hm,qbm];omega),hall]at hM1;refine Be (Aj (Aj (AH (Aa (Ad (A9 U (AG Cc U H at4 U (Am qB (Aax (bd:=bx) a (some ⟨b35,0,none⟩) c acs.length acs.length full acs (tab (f i) acs.length) _ (H.get at2) O (fun x hx=>⟨H.blk x (qa0 [_,_,_,_,_,_,_] hx),fun h=>(qbb.1 H0.nd).1 x (qai _ (qai _ hx)) h.symm⟩) (CE (H.get at0)) (CY _ _)) U ?_))))))));rintro v w ⟨rfl,full',O',hb',hx66⟩;rw[hSh];refine Af U (qA (A6 (AD (v:=(.int _ _)) U U U ?_)));have HT:=Ctx.turnEnt (L:=[_,_,_,_,_,_,_]) H hx66 hb';rw[hS9]at HT;have HB:=Ctx.back HF HT;rw[qa4]at HB;exact⟨rfl,full',o1,O',hM1,(HB.perm (Ami _ _ _ _ _ _ _ _).symm).left (L':=[_,_,_,_])⟩
def plc(k:Nat)(d:Du):Int:=one (d.to=(k:Int)) - one (d.fr=(k:Int))
theorem JP{p q:Prop}[Decidable p][Decidable q](h:p↔q):one p=one q:=by
 by_cases hp:p
 .rw[Fj hp,Fj (h.1 hp)]
 .rw[E4 hp,E4 (fun hq=>hp (h.2 hq))]
def Lx(acs:List Ac)(ds:List Du)(k:Nat):Int:=(acs.getD k a00).ba+Ch (ds.map fun d=>plc k d*d.am)
theorem Jl{rs:List Int}{os:List Du}{net:Bool}{fl:List Int}{k:Nat}(hos:∀d∈os,0<=d.fr/\0<=d.to)(hl:os.length<=fl.length):byK rs os net fl k=Ch (List.zipWith (fun d x=>plc k d*x) os (fl.take os.length)):=by
 unfold byK Ea;rw[<-V9]
 congr 1
 refine qb2 fun i=>?_
 rcases qap i os.length with hi|hi
 .obtain⟨d,hd⟩:=AB (h:=hi);obtain⟨x,hx⟩:=AB (l:=fl) (i:=i);have he:=Hu (rs:=rs) (net:=net) hd;have h0:=hos d (qac hd);rw[Cd hi,qcw,hd,qb0,if_pos hi,hx,QR he,QQ he];unfold flE;rw[Br hx];have h1:one ((KI d).t.toNat=k)=one (d.to=(k:Int)):=JP ⟨fun h=>by have:d.to.toNat=k:=h;omega,fun h=>by show d.to.toNat=k;omega⟩;have h2:one ((KI d).f.toNat=k)=one (d.fr=(k:Int)):=JP ⟨fun h=>by have:d.fr.toNat=k:=h;omega,fun h=>by show d.fr.toNat=k;omega⟩;rw[h1,h2];rfl
 .rw[qba (by rw[CY];omega),qba (by rw[qck];omega)]
theorem Oj{acs:List Ac}{ds:List Du}{nx:Int}{r:Rnd}(ha:EA acs=0)(hd:ofC ds nx=0)(hC:EU acs ds r=0){k:Nat}{a:Ac}(hk:acs[k]?=some a):(Fs acs ds r)[k]?=some ⟨a.ba+byK (acs.map C9) (opn ds) r.cmp r.fl k,a.re⟩:=by
 have F:=EV ha hd hC;unfold Fs;rw[if_pos hC];exact Zc (Lw ha (fun k a hk=>(F.by' k a hk).2) F.sum).1 hk
theorem Tv{acs:List Ac}{ds:List Du}{net:Bool}{r:Rnd}(hb:DH (acs.map C9) ds=true)(P:PlanR acs ds net r):EU acs ds r=0:=by
 unfold EU Pn;rw[P.chk,hb,P.cmp,P.es,P.ids,P.N];simp
theorem Ns:∀{ds:List Du} {xs:List Int} {e:Du},e∈DI ds xs->∃d∈ds,e.id=d.id
 | [],_,_,h=>by cases h
 |d::ds,[],e,h=>⟨e,h,rfl⟩
 |d::ds,x::xs,e,h=>by
  unfold DI at h
  split at h
  .rcases qag.1 h with rfl|h
   .exact⟨_,qaj ..,rfl⟩
   .obtain⟨d',h1,h2⟩:=Ns h;exact⟨d',qai _ h1,h2⟩
  .split at h
   .obtain⟨d',h1,h2⟩:=Ns h;exact⟨d',qai _ h1,h2⟩
   .rcases qag.1 h with rfl|h
    .exact⟨d,qaj ..,rfl⟩
    .obtain⟨d',h1,h2⟩:=Ns h;exact⟨d',qai _ h1,h2⟩
def MgI(ds left:List Du)(i j:Nat):Prop:=j<=left.length/\∃xs,PayIn (opn (ds.drop i)) xs/\left.drop j=DI (ds.drop i) xs
theorem MgI.start{ds:List Du}{xs:List Int}(h:PayIn (opn ds) xs):MgI ds (DI ds xs) 0 0:=⟨qaf _,xs,h,rfl⟩
theorem Kv{α:Type}{l:List α}{i:Nat}{x:α}(h:l[i]?=some x):l.drop i=x::l.drop (i+1):=by
 obtain⟨h1,rfl⟩:=qbh.1 h;exact qdi h1
theorem Tw{α:Type}{l m:List α}{j:Nat}{x:α}(h:l.drop j=x::m):l[j]?=some x/\l.drop (j+1)=m:=by
 have h1:(l.drop j)[0]?=some x:=by rw[h];rfl
 rw[qcb,qdx]at h1;refine⟨h1,?_⟩;rw[Kv h1]at h;injection h
theorem MgI.step{ds left:List Du}{i j:Nat}{d:Du}(hs:(ds.map (·.id)).Pairwise (·<·))(h:MgI ds left i j)(hd:ds[i]?=some d)(hp:1<=d.am) :
  (∃e,left[j]?=some e/\e.id=d.id/\e.am<=d.am/\1<=e.am/\(d.held=true->e=d)/\MgI ds left (i+1) (j+1)) \/
  (d.held=false/\(∀e,left[j]?=some e->e.id≠d.id)/\MgI ds left (i+1) j):=by
 obtain⟨hj,xs,hP,hl⟩:=h;rw[Kv hd]at hP hl;rw[Ee]at hP
 by_cases hh:d.held=true
 .rw[if_pos hh]at hP
  have hl':left.drop j=d::DI (ds.drop (i+1)) xs:=by
   rw[hl];exact G2 hh _ _
  obtain⟨g1,g2⟩:=Tw hl';exact .inl ⟨d,g1,rfl,qav _,hp,fun _=>rfl,Cb g1,xs,hP,g2⟩
 .rw[if_neg hh]at hP;obtain⟨x,xs,rfl⟩:=PayIn.cons hP;obtain⟨⟨h0,h1⟩,hP⟩:=PayIn.tail hP;rw[G3 hh]at hl
  by_cases hx:d.am=x
  .rw[if_pos hx,qbp]at hl;refine .inr ⟨by simpa using hh,fun e he hid=>?_,hj,xs,hP,hl⟩;have h3:=Kv he;rw[hl]at h3;obtain⟨d',hd',hid'⟩:=Ns (e:=e) (by rw[h3];exact qaj ..);have hs':((ds.drop i).map (·.id)).Pairwise (·<·):=by rw[List.map_drop];exact hs.drop
   rw[Kv hd,qau,qbb]at hs';have:=hs'.1 d'.id (qa8 hd');omega
  .rw[if_neg hx,qcm,qbp]at hl;obtain⟨g1,g2⟩:=Tw hl;exact .inl ⟨_,g1,rfl,by dsimp only;omega,by dsimp only;omega,fun h=>absurd h hh,Cb g1,xs,hP,g2⟩
theorem MgI.ends{ds left:List Du}{j:Nat}(h:MgI ds left ds.length j):j=left.length:=by
 obtain⟨hj,xs,-,hl⟩:=h;rw[List.drop_length]at hl;have:=qaa List.length hl;rw[qcs]at this;have h0:(DI [] xs).length=0:=rfl;omega
theorem Zh{F:Nat->Int}{E:Nat}{s:Nat->Nat}(h1:∀i,i<E->s i<E)(h2:∀i,i<E->s (s i)=i):BQ (fun i=>F (s i)) E=BQ F E:=by
 have e1:BQ (fun i=>F (s i)) E=BQ (fun i=>BQ (fun j=>one (s i=j)*F j) E) E:=CF fun i hi=>(Ip F (h1 i hi)).symm;have e2:=Q3 (fun i j=>one (s i=j)*F j) E E
 have e3:BQ (fun j=>BQ (fun i=>one (s i=j)*F j) E) E=BQ F E:=CF fun j hj=>by
  have:BQ (fun i=>one (s i=j)*F j) E=BQ (fun i=>one (s j=i)*F j) E:=CF fun i hi=>by
   rw[JP (p:=s i=j) (q:=s j=i) ⟨fun h=>by rw[<-h,h2 i hi],fun h=>by rw[<-h,h2 j hj]⟩]
  rw[this];exact Ip (fun _=>F j) (h1 j hj)
 rw[e1,<-e3];exact e2
structure Twin(g g':Gr)(cap cap':Nat->Int)(s p:Nat->Nat):Prop where
 N:g'.N=g.N
 E:g'.E=g.E
 s1:∀i,i<g.E->s i<g.E
 s2:∀i,i<g.E->s (s i)=i
 p1:∀v,v<g.N->p v<g.N
 p2:∀v,v<g.N->p (p v)=v
 f:∀i,i<g.E->g'.f (s i)=p (g.f i)
 t:∀i,i<g.E->g'.t (s i)=p (g.t i)
 co:∀i,i<g.E->g'.co (s i)=g.co i
 cap:∀i,i<g.E->cap' (s i)=cap i
theorem Twin.symm{g g':Gr}{cap cap':Nat->Int}{s p:Nat->Nat}(_:g'.Ok)(hg:g.Ok)(T:Twin g g' cap cap' s p):Twin g' g cap' cap s p :=
 ⟨T.N.symm,T.E.symm,fun i hi=>by rw[T.E]at hi |-;exact T.s1 i hi,fun i hi=>by rw[T.E]at hi;exact T.s2 i hi,
  fun v hv=>by rw[T.N]at hv |-;exact T.p1 v hv,fun v hv=>by rw[T.N]at hv;exact T.p2 v hv,
  fun i hi=>by
   rw[T.E]at hi;have h:=T.f (s i) (T.s1 i hi);rw[T.s2 i hi]at h
   rw[h,T.p2 _ (hg.f _ (T.s1 i hi))],
  fun i hi=>by
   rw[T.E]at hi;have h:=T.t (s i) (T.s1 i hi);rw[T.s2 i hi]at h
   rw[h,T.p2 _ (hg.t _ (T.s1 i hi))],
  fun i hi=>by
   rw[T.E]at hi;have h:=T.co (s i) (T.s1 i hi);rw[T.s2 i hi]at h
   exact h.symm,
  fun i hi=>by
   rw[T.E]at hi;have h:=T.cap (s i) (T.s1 i hi);rw[T.s2 i hi]at h
   exact h.symm⟩
theorem Twin.le{g g':Gr}{cap cap' x x' p':Nat->Int}{q:Nat->Int}{s p:Nat->Nat}(T:Twin g g' cap cap' s p)(hg:g.Ok)(h:Fine g cap x q)(h0:∀v,v<g.N->BP g x v=0)(h':Fine g' cap' x' p')(h0':∀v,v<g'.N->BP g' x' v=0):HS g x<=HS g' x':=by
 have hc:HS g (fun i=>x' (s i))=HS g' x':=by
  unfold HS;rw[T.E,<-Zh (F:=fun i=>x' i*g'.co i) T.s1 T.s2];exact CF fun i hi=>by rw[T.co i hi]
 rw[<-hc];refine Fine.best hg h h0 (fun i hi=>?_) fun v hv=>?_
 .have h1:=h'.in' (s i) (by rw[T.E];exact T.s1 i hi);rw[T.cap i hi]at h1;exact h1
 .have h1:=h0' (p v) (by rw[T.N];exact T.p1 v hv);rw[<-h1];unfold BP Ea;rw[T.E,<-Zh (F:=fun i=>(one (g'.t i=p v) - one (g'.f i=p v))*x' i) T.s1 T.s2];refine CF fun i hi=>?_;have hp:∀u,u<g.N->(u=v↔p u=p v):=fun u hu=>⟨fun h=>by rw[h],fun h=>by rw[<-T.p2 u hu,h,T.p2 v hv]⟩;rw[T.t i hi,T.f i hi,JP (hp _ (hg.t i hi)),JP (hp _ (hg.f i hi))]
theorem Twin.eq{g g':Gr}{cap cap' x x' p':Nat->Int}{q:Nat->Int}{s p:Nat->Nat}(T:Twin g g' cap cap' s p)(hg:g.Ok)(hg':g'.Ok)(h:Fine g cap x q)(h0:∀v,v<g.N->BP g x v=0)(h':Fine g' cap' x' p')(h0':∀v,v<g'.N->BP g' x' v=0):HS g x=HS g' x' :=
 Int.le_antisymm (T.le hg h h0 h' h0') ((T.symm hg' hg).le hg' h' h0' h h0)
def flip(n:Nat)(a b:Du):Du:={ b with id:=a.id,fr:=(n:Int) - 1 - b.fr,to:=(n:Int) - 1 - b.to }
def turnD(n:Nat)(ds:List Du):List Du:=List.zipWith (flip n) ds ds.reverse
def mirE(n:Nat)(e:Ed):Ed:={ e with f:=(n:Int) - 1 - e.f,t:=(n:Int) - 1 - e.t }
def sigN(n m i:Nat):Nat:=if i<m then m - 1 - i else m+(2*(n - 1 - (i - m) / 2)+(i - m) % 2)
def piN(n v:Nat):Nat:=if v<n then n - 1 - v else v
def costR(r:Rnd):Int:=HS (grE r.N r.es) (flE r.fl)
theorem Abe{acs:List Ac}{ds:List Du}{net:Bool}{r:Rnd}(P:PlanR acs ds net r):Cv r.N r.es=true/\Cf r.N r.es r.fl=true/\(∀v,v<r.N.toNat->BP (grE r.N r.es) (flE r.fl) v=0)/\Fine (grE r.N r.es) (CA r.es) (flE r.fl) (FH r.pot):=by
 obtain⟨h1,-,h3⟩:=GF.1 P.chk;obtain⟨h4,h5⟩:=ER h1;exact⟨(Cw h4).2.1,h4,h5,h3⟩
theorem VQ{f g:Nat->Int}{m:Nat}:∀n,m<=n->(∀i,i<m->f i=g i)->(∀i,m<=i->i<n->f i=0)->BQ f n=BQ g m
 |0,h,_,_=>by
  obtain rfl:m=0:=by omega
  rfl
 |n+1,h,h1,h2=>by
  rcases qap n m with h3|h3
  .obtain rfl:m=n+1:=by omega
   exact CF h1
  .show BQ f n+f n=_;rw[VQ n h3 h1 fun i hi hn=>h2 i hi (by omega),h2 n h3 (by omega),qca]
theorem QU{rs:List Int}{os:List Du}{net:Bool}{xs:List Int}(hl:os.length<=xs.length)(v:Nat):∀k,k<=os.length->(∀(i:Nat) (d:Du) (x:Int),i<k->os[i]?=some d->xs[i]?=some x->0<=x/\x<=d.am) ->
  -Ch ((os.map Du.am).take k)<=Ea (grE ((rs.length+1:Nat):Int) (BX rs os net)) (flE xs) k v/\Ea (grE ((rs.length+1:Nat):Int) (BX rs os net)) (flE xs) k v<=Ch ((os.map Du.am).take k)
 |0,_,_=>⟨qav _,qav _⟩
 |k+1,h,hp=>by
  have ih:=QU (rs:=rs) (net:=net) hl v k (by omega) fun i d x hi=>hp i d x (by omega);obtain⟨d,hd⟩:=AB (l:=os) (i:=k);obtain⟨x,hx⟩:=AB (l:=xs) (i:=k);have h1:=hp k d x (by omega) hd hx;have hm:(os.map Du.am)[k]?=some d.am:=by rw[qa1,hd];rfl
  have h2:∀(p q:Prop) [Decidable p] [Decidable q],-x<=(one p - one q)*x/\(one p - one q)*x<=x:=fun p q _ _=>by
   by_cases hp:p <;> by_cases hq:q <;> simp only[one,if_pos,if_neg,hp,hq,not_false_eq_true] <;> omega
  rw[Gd,Iy hm,show flE xs k=x from Br hx];have h3:=h2 ((grE ((rs.length+1:Nat):Int) (BX rs os net)).t k=v) ((grE ((rs.length+1:Nat):Int) (BX rs os net)).f k=v);omega
theorem Aki{rs:List Int}{os:List Du}{net:Bool}{xs:List Int}(hp:PayIn os xs)(v:Nat)(k:Nat)(h:k<=os.length) :
  -Ch ((os.map Du.am).take k)<=Ea (grE ((rs.length+1:Nat):Int) (BX rs os net)) (flE xs) k v/\Ea (grE ((rs.length+1:Nat):Int) (BX rs os net)) (flE xs) k v<=Ch ((os.map Du.am).take k) :=
 QU (qd7 hp.1) v k h fun i d x _=>hp.2 i d x
theorem Ol{xs:List Int}(h:∀x∈xs,0<=x)(k:Nat):Ch (xs.take k)<=Ch xs:=by
 have h1:Ch (xs.take k++xs.drop k)=Ch (xs.take k)+Ch (xs.drop k):=ES _ _;rw[qbn]at h1;have h2:=FX (xs:=xs.drop k) fun x hx=>h x (qc3 hx);omega
def Ly(rs:List Int)(net:Bool)(k:Nat):Int:=if net=true then 0 else rs.getD k 0
def Mo(rs:List Int)(os:List Du)(net:Bool)(xs:List Int)(k:Nat):Int:=Ly rs net k+byK rs os net xs k
structure PermP(rs:List Int)(ds:List Du)(net:Bool)(xs:List Int):Prop where
 B:Bright rs ds
 pay:PayIn (opn ds) xs
 left:∀k,k<rs.length->0<=Mo rs (opn ds) net xs k/\(net=true->Mo rs (opn ds) net xs k=0)
def Er(os:List Du)(xs:List Int)(k:Nat):Int:=BQ (fun i=>(os.getD i d00).we*xs.getD i 0) k
theorem Jm{os:List Du}{xs:List Int}{k:Nat}{d:Du}{x:Int}(hd:os[k]?=some d)(hx:xs[k]?=some x):Er os xs (k+1)=Er os xs k+d.we*x:=by
 show Er os xs k+(os.getD k d00).we*xs.getD k 0=_;rw[Br hd,Br hx]
theorem IM{os:List Du}{xs:List Int}(hp:PayIn os xs)(hos:∀d∈os,0<=d.we/\d.we<=1000):∀k,k<=os.length->0<=Er os xs k/\Er os xs k<=1000*Ch ((os.map Du.am).take k)
 |0,_=>⟨qav _,qav _⟩
 |k+1,h=>by
  have ih:=IM hp hos k (by omega);have hl:=hp.1;obtain⟨d,hd⟩:=AB (l:=os) (i:=k);obtain⟨x,hx⟩:=AB (l:=xs) (i:=k);have h1:=hp.2 k d x hd hx;have hw:=hos d (qac hd);have hm:(os.map Du.am)[k]?=some d.am:=by rw[qa1,hd];rfl
  have h2:0<=d.we*x:=qc7 hw.1 h1.1;have h3:d.we*x<=1000*d.am:=qbj (qey hw.2 h1.1) (qdl h1.2 (by decide));rw[Jm hd hx,Iy hm];omega
def IP(rs:List Int)(os:List Du)(net:Bool)(xs:List Int)(i:Nat):Int :=
 if i<os.length then flE xs i else if(i - os.length) % 2=0 then max 0 (-byK rs os net xs ((i - os.length) / 2))else max 0 (byK rs os net xs ((i - os.length) / 2))
theorem Om{rs:List Int}{os:List Du}{net:Bool}{xs:List Int}{i:Nat}(h:i<os.length):IP rs os net xs i=flE xs i:=if_pos h
theorem VR(rs:List Int)(os:List Du)(net:Bool)(xs:List Int)(k:Nat):IP rs os net xs (os.length+2*k)=max 0 (-byK rs os net xs k):=by
 unfold IP;rw[if_neg (by omega),if_pos (by omega),show(os.length+2*k - os.length) / 2=k by omega]
theorem Tx(rs:List Int)(os:List Du)(net:Bool)(xs:List Int)(k:Nat):IP rs os net xs (os.length+2*k+1)=max 0 (byK rs os net xs k):=by
 unfold IP;rw[if_neg (by omega),if_neg (by omega),show(os.length+2*k+1 - os.length) / 2=k by omega]
theorem Lz{g:Gr}{x y:Nat->Int}(v:Nat):∀k,(∀i,i<k->x i=y i)->Ea g x k v=Ea g y k v
 |0,_=>rfl
 |k+1,h=>by rw[Gd,Gd,Lz v k fun i hi=>h i (by omega),h k (by omega)]
theorem VS{rs:List Int}{os:List Du}{j:Nat}(hj:j<rs.length):∃x,rs[j]?=some x/\(BX rs os false)[os.length+2*j]?=some ⟨rs.length,j,x,0⟩/\(BX rs os false)[os.length+2*j+1]?=some ⟨j,rs.length,4503599627370496,0⟩:=by
 obtain⟨x,hx⟩:=AB (h:=hj);exact⟨x,hx,LQ (Nn hx),by rw[qc2];exact LQ (PA hj)⟩
theorem XL{rs:List Int}{ds:List Du}{net:Bool}{xs:List Int}(P:PermP rs ds net xs):∀v,v<rs.length+1->BP (grE ((rs.length+1:Nat):Int) (BX rs (opn ds) net)) (IP rs (opn ds) net xs) v=0:=by
 have hB:=P.B.right net;have hok:=Kn hB;have hN:(grE ((rs.length+1:Nat):Int) (BX rs (opn ds) net)).N=rs.length+1:=by show((rs.length+1:Nat):Int).toNat=_;omega
 have hE:(grE ((rs.length+1:Nat):Int) (BX rs (opn ds) net)).E=(BX rs (opn ds) net).length:=rfl;have hlen:=Iq rs (opn ds) net
 have hb:∀v,v<rs.length->BP (grE ((rs.length+1:Nat):Int) (BX rs (opn ds) net)) (IP rs (opn ds) net xs) v=0:=fun v hv=>by
  have h0:Ea (grE ((rs.length+1:Nat):Int) (BX rs (opn ds) net)) (IP rs (opn ds) net xs) (opn ds).length v=byK rs (opn ds) net xs v:=Lz v _ fun i hi=>Om hi;unfold BP;rw[hE,hlen]
  cases net with
  |true =>
   rw[if_pos rfl,show(opn ds).length+0=(opn ds).length from rfl,h0];have:=(P.left v hv).2 rfl;unfold Mo Ly at this;rw[if_pos rfl]at this;omega
  |false =>
   rw[if_neg (by decide),QP (n:=rs.length) (fun j hj=>?_) hv rs.length (qan _),if_pos hv,h0,VR,Tx]
   .omega
   .obtain⟨x,-,e1,e2⟩:=VS (os:=opn ds) hj;rw[QQ e1,QR e1,QQ e2,QR e2];dsimp only;omega
 intro v hv
 rcases qap v rs.length with h|h
 .exact hb v h
 .obtain rfl:v=rs.length:=by omega
  have ha:=over_all _ hok (IP rs (opn ds) net xs);rw[hN]at ha;have h2:BQ (BP (grE ((rs.length+1:Nat):Int) (BX rs (opn ds) net)) (IP rs (opn ds) net xs)) rs.length=BQ (fun _=>0) rs.length:=CF hb;have h3:BQ (BP (grE ((rs.length+1:Nat):Int) (BX rs (opn ds) net)) (IP rs (opn ds) net xs)) rs.length+BP (grE ((rs.length+1:Nat):Int) (BX rs (opn ds) net)) (IP rs (opn ds) net xs) rs.length=0:=ha;rw[h2,HQ]at h3;omega
theorem Ty{rs:List Int}{os:List Du}{net:Bool}{i:Nat}(hi:i<(BX rs os net).length):(∃d,os[i]?=some d/\(BX rs os net)[i]?=some (KI d)) \/
  (net=false/\∃k x,k<rs.length/\rs[k]?=some x/\((i=os.length+2*k/\(BX rs os net)[i]?=some ⟨rs.length,k,x,0⟩)\/(i=os.length+2*k+1/\(BX rs os net)[i]?=some ⟨k,rs.length,4503599627370496,0⟩))):=by
 have hlen:=Iq rs os net
 rcases qap i os.length with h|h
 .obtain⟨d,hd⟩:=AB (h:=h);exact .inl ⟨d,hd,Hu hd⟩
 .cases net with
  |true=>rw[hlen,if_pos rfl]at hi;omega
  |false =>
   rw[hlen,if_neg (by decide)]at hi;obtain⟨x,hx,e1,e2⟩:=VS (os:=os) (j:=(i - os.length) / 2) (rs:=rs) (by omega);refine .inr ⟨rfl,(i - os.length) / 2,x,by omega,hx,?_⟩
   by_cases hp:(i - os.length) % 2=0
   .exact .inl ⟨by omega,by rw[show os.length+2*((i - os.length) / 2)=i by omega]at e1;exact e1⟩
   .exact .inr ⟨by omega,by rw[show os.length+2*((i - os.length) / 2)+1=i by omega]at e2;exact e2⟩
theorem Abf{rs:List Int}{ds:List Du}{net:Bool}{xs:List Int}(P:PermP rs ds net xs){i:Nat}(hi:i<(BX rs (opn ds) net).length):0<=IP rs (opn ds) net xs i/\IP rs (opn ds) net xs i<=CA (BX rs (opn ds) net) i:=by
 have htot:=P.B.open'.tot;unfold CA
 rcases Ty hi with⟨d,hd,he⟩|⟨rfl,k,x,hk,hx,⟨rfl,he⟩|⟨rfl,he⟩⟩
 .have hl:=P.pay.1;have hlt:=Cb hd;obtain⟨y,hy⟩:=AB (l:=xs) (i:=i);have:=P.pay.2 i d y hd hy;rw[Om hlt,show flE xs i=y from Br hy,Br he];exact this
 .rw[VR,Br he];have h1:=(P.left k hk).1;have h2:=CR.1 (P.B.may x (qac hx));unfold Mo Ly at h1;rw[if_neg (by decide),Br hx]at h1;show 0<=max 0 _/\max 0 _<=x;omega
 .rw[Tx,Br he];have h1:=(Aki (rs:=rs) (net:=false) P.pay k _ (qan _)).2;rw[qcf (by rw[qak];exact qan _)]at h1;have h2:byK rs (opn ds) false xs k<=4503599627370496:=qbj h1 htot;show 0<=max 0 _/\max 0 _<=(4503599627370496:Int);omega
theorem Pa{rs:List Int}{os:List Du}{net:Bool}{y:Nat->Int}{xs:List Int}(hy:∀i,i<os.length->y i=flE xs i):HS (grE ((rs.length+1:Nat):Int) (BX rs os net)) y = -Er os xs os.length:=by
 have hlen:=Iq rs os net
 have h1:HS (grE ((rs.length+1:Nat):Int) (BX rs os net)) y=BQ (fun i => -((os.getD i d00).we*xs.getD i 0)) os.length:=by
  unfold HS;refine VQ (f:=fun i=>y i*(grE ((rs.length+1:Nat):Int) (BX rs os net)).co i) _ (by show os.length<=(BX rs os net).length;omega) (fun i hi=>?_) fun i hi h2=>?_
  .obtain⟨d,hd⟩:=AB (h:=hi)
   (try dsimp only)
   rw[VJ (Hu hd),Br hd,hy i hi];unfold KI flE;dsimp only;rw[Int.mul_neg,qc6]
  .rcases Ty (rs:=rs) (os:=os) (net:=net) (i:=i) h2 with⟨d,hd,he⟩|⟨hn,k,x,hk,hx,⟨hi2,he⟩|⟨hi2,he⟩⟩
   .have:=Cb hd;omega
   ·(try dsimp only)
    rw[VJ he];exact Int.mul_zero _
   ·(try dsimp only)
    rw[VJ he];exact Int.mul_zero _
 rw[h1,P5];rfl
structure RndF(rs:List Int)(ds:List Du)(net:Bool)(r:Rnd):Prop where
 N:r.N=((rs.length+1:Nat):Int)
 es:r.es=BX rs (opn ds) net
 chk:Fk r.N r.es r.fl r.pot=true
theorem RndF.fine{rs:List Int}{ds:List Du}{net:Bool}{r:Rnd}(P:RndF rs ds net r):Cv r.N r.es=true/\Cf r.N r.es r.fl=true/\(∀v,v<r.N.toNat->BP (grE r.N r.es) (flE r.fl) v=0)/\Fine (grE r.N r.es) (CA r.es) (flE r.fl) (FH r.pot):=by
 obtain⟨h1,-,h3⟩:=GF.1 P.chk;obtain⟨h4,h5⟩:=ER h1;exact⟨(Cw h4).2.1,h4,h5,h3⟩
theorem RndF.best{rs:List Int}{ds:List Du}{net:Bool}{r:Rnd}(P:RndF rs ds net r){xs:List Int}(Q:PermP rs ds net xs):Er (opn ds) xs (opn ds).length<=Er (opn ds) (r.fl) (opn ds).length:=by
 obtain⟨p1,p2,p3,p4⟩:=P.fine;rw[P.N,P.es]at p1 p3 p4;have hN:(grE ((rs.length+1:Nat):Int) (BX rs (opn ds) net)).N=rs.length+1:=by show((rs.length+1:Nat):Int).toNat=_;omega
 have hN2:((rs.length+1:Nat):Int).toNat=rs.length+1:=by omega
 have h:=Fine.best (Kn p1) p4 (fun v hv=>p3 v (by rw[hN]at hv;omega)) (y:=IP rs (opn ds) net xs) (fun i hi=>Abf Q hi) fun v hv=>XL Q v (by rw[hN]at hv;exact hv);rw[Pa (xs:=r.fl) fun i _=>rfl,Pa fun i hi=>Om hi]at h;omega
theorem RndF.perm{rs:List Int}{ds:List Du}{net:Bool}{r:Rnd}(P:RndF rs ds net r)(hB:Bright rs ds):PermP rs ds net (r.fl.take (opn ds).length)/\BQ (byK rs (opn ds) net r.fl) rs.length=0/\(∀(k:Nat) (x:Int),rs[k]?=some x->(net=true->byK rs (opn ds) net r.fl k=0) /\ -x<=byK rs (opn ds) net r.fl k/\byK rs (opn ds) net r.fl k<=4503599627370496):=by
 have hc:=(GF.1 P.chk).1;rw[P.N,P.es]at hc;obtain⟨h1,h2,h3,h4⟩:=VK (fun x hx=>(CR.1 (hB.may x hx)).1) hB.open'.due hc;refine⟨⟨hB,h1,fun k hk=>?_⟩,h4,h3⟩
 have hby:byK rs (opn ds) net (r.fl.take (opn ds).length) k=byK rs (opn ds) net r.fl k:=Lz k _ fun i hi=>by
  unfold flE;rw[qby,qby,qb0,if_pos hi]
 obtain⟨x,hx⟩:=AB (h:=hk);obtain⟨g1,g2,-⟩:=h3 k x hx;unfold Mo Ly;rw[hby]
 cases net with
 |true=>rw[if_pos rfl,g1 rfl];exact⟨by omega,fun _=>by omega⟩
 |false=>rw[if_neg (by decide),Br hx];exact⟨by omega,fun h=>by cases h⟩
theorem XM{os:List Du}{fl:List Int}:∀k,k<=os.length->Er os (fl.take os.length) k=Er os fl k:=fun k hk=>CF fun i hi=>by
 rw[qby (l:=fl.take os.length),qby (l:=fl),qb0,if_pos (by omega)]
def KE:List Du->List Int->List Int->List Int
 | [],_,_=>[]
 |_::_,[],ys=>ys
 |d::os,x::xs,ys=>if d.am=x then x::KE os xs ys else match ys with
  | []=>x::KE os xs []
  |y::ys=>(x+y)::KE os xs ys
def GP:List Du->List Int->List Du
 | [],_=>[]
 |d::ds,[]=>d::ds
 |d::ds,x::xs=>if d.am=x then GP ds xs else{ d with am:=d.am - x }::GP ds xs
theorem L5:∀(ds:List Du) (xs:List Int),opn (DI ds xs)=GP (opn ds) xs
 | [],xs=>by cases xs <;> rfl
 |d::ds,xs=>by
  by_cases hh:d.held=true
  .rw[G2 hh,Ee,Ee,if_pos hh,qbp,qbp,L5 ds xs]
  .cases xs with
   |nil =>
    rw[Oi,Ee,if_neg hh];rfl
   |cons x xs =>
    rw[G3 hh,Ee,if_neg hh]
    by_cases ha:d.am=x
    .rw[if_pos ha,qbp,L5 ds xs];show _=(if d.am=x then _ else _);rw[if_pos ha];rfl
    .rw[if_neg ha];show opn ({ d with am:=d.am - x }::DI ds xs)=(if d.am=x then _ else _);rw[if_neg ha,Ee,if_neg (show ¬({ d with am:=d.am - x }:Du).held=true from hh),L5 ds xs];rfl
theorem QV:∀{os:List Du} {xs ys:List Int},PayIn os xs->PayIn (GP os xs) ys->PayIn os (KE os xs ys)
 | [],_,_,_,_=>⟨rfl,fun i d x h=>by cases h⟩
 |_::_,[],_,h,_=>by cases h.1
 |d::os,x::xs,ys,h,h2=>by
  obtain⟨hx,ht⟩:=h.tail;unfold GP at h2;unfold KE
  split
  .rename_i ha
   rw[if_pos ha]at h2;have ih:=QV ht h2;refine⟨by rw[qa6,qa6,ih.1],fun i e z he hz=>?_⟩
   cases i with
   |zero =>
    simp only[qdw,qbs]at he hz;subst he hz;exact hx
   |succ i=>exact ih.2 i e z he hz
  .rename_i ha
   rw[if_neg ha]at h2
   cases ys with
   |nil=>cases h2.1
   |cons y ys =>
    obtain⟨hy,ht2⟩:=h2.tail;have ih:=QV ht ht2;show PayIn (d::os) ((x+y)::KE os xs ys);refine⟨by rw[qa6,qa6,ih.1],fun i e z he hz=>?_⟩
    cases i with
    |zero =>
     simp only[qdw,qbs]at he hz;subst he hz;dsimp only at hy;omega
    |succ i=>exact ih.2 i e z he hz
theorem Nt{f:Du->Int}(hf:∀(d:Du) (x:Int),f { d with am:=x }=f d):∀{os:List Du} {xs ys:List Int},os.length=xs.length->(GP os xs).length=ys.length ->
  Ch (List.zipWith (fun d x=>f d*x) os (KE os xs ys))=Ch (List.zipWith (fun d x=>f d*x) os xs)+Ch (List.zipWith (fun d x=>f d*x) (GP os xs) ys)
 | [],[],ys,_,_=>by cases ys <;> rfl
 | [],_::_,_,h,_=>by cases h
 |_::_,[],_,h,_=>by cases h
 |d::os,x::xs,ys,h,h2=>by
  have h3:os.length=xs.length:=by simpa using h
  unfold GP at h2 |-;unfold KE
  by_cases ha:d.am=x
  .rw[if_pos ha]at h2;rw[if_pos ha,if_pos ha,qcy,qcy,BJ,BJ,Nt hf h3 h2];omega
  .rw[if_neg ha]at h2
   cases ys with
   |nil=>cases h2
   |cons y ys =>
    have h4:(GP os xs).length=ys.length:=by simpa using h2
    rw[if_neg ha,if_neg ha];show Ch (List.zipWith (fun d x=>f d*x) (d::os) ((x+y)::KE os xs ys))=_;rw[qcy,qcy,qcy,BJ,BJ,BJ,Nt hf h3 h4,show f ({ d with am:=d.am - x }:Du)=f d from hf d _,qdk];omega
theorem Tz{os:List Du}{xs:List Int}:∀k,k<=os.length->os.length<=xs.length->Er os xs k=Ch ((List.zipWith (fun d x=>d.we*x) os xs).take k)
 |0,_,_=>rfl
 |k+1,h,hl=>by
  obtain⟨d,hd⟩:=AB (l:=os) (i:=k);obtain⟨x,hx⟩:=AB (l:=xs) (i:=k);rw[Jm hd hx,Tz k (by omega) hl,Iy (x:=d.we*x) (by rw[qcw,hd,hx])]
theorem Jn{os:List Du}{xs:List Int}(hl:os.length<=xs.length):Er os xs os.length=Ch (List.zipWith (fun d x=>d.we*x) os xs):=by
 rw[Tz _ (qan _) hl,qcf (by rw[qck];omega)]
theorem IQ{f:Du->Int->Int}:∀{os:List Du} {xs:List Int},List.zipWith f os (xs.take os.length)=List.zipWith f os xs
 | [],xs=>by cases xs <;> rfl
 |d::os,[]=>rfl
 |d::os,x::xs=>by
  show f d x::List.zipWith f os (xs.take os.length)=_;rw[IQ];rfl
theorem Nu:∀{ds:List Du} {xs:List Int} {e:Du},e∈DI ds xs->∃d∈ds,e.fr=d.fr/\e.to=d.to/\e.we=d.we
 | [],_,_,h=>by cases h
 |d::ds,[],e,h=>⟨e,h,rfl,rfl,rfl⟩
 |d::ds,x::xs,e,h=>by
  unfold DI at h
  split at h
  .rcases qag.1 h with rfl|h
   .exact⟨_,qaj ..,rfl,rfl,rfl⟩
   .obtain⟨d',h1,h2⟩:=Nu h;exact⟨d',qai _ h1,h2⟩
  .split at h
   .obtain⟨d',h1,h2⟩:=Nu h;exact⟨d',qai _ h1,h2⟩
   .rcases qag.1 h with rfl|h
    .exact⟨_,qaj ..,rfl,rfl,rfl⟩
    .obtain⟨d',h1,h2⟩:=Nu h;exact⟨d',qai _ h1,h2⟩
theorem Zi{acs:List Ac}{ds:List Du}{net:Bool}{r:Rnd}(P:PlanR acs ds net r):RndF (acs.map C9) ds net r :=
 ⟨by rw[P.N,qak],P.es,P.chk⟩
theorem Pb{acs:List Ac}{ds:List Du}{nx:Int}{r:Rnd}(ha:EA acs=0)(hd:ofC ds nx=0)(hC:EU acs ds r=0):Bright ((Fs acs ds r).map C9) (Ep acs ds r):=by
 have F:=EV ha hd hC;obtain⟨h1,h2,h3⟩:=JO (r:=r) ha hd;refine MA h1 h2 fun d hdm=>?_;unfold Ep at hdm;rw[if_pos hC]at hdm;obtain⟨d',h4,h5,h6,-⟩:=Nu hdm;have h7:=(F.B.due d' h4).2;rw[qak]at h7;rw[h3];omega
theorem Abg{acs:List Ac}{ds:List Du}{nx:Int}{net net2:Bool}{r1:Rnd}{ys:List Int}(ha:EA acs=0)(hd:ofC ds nx=0)(hC:EU acs ds r1=0)(P1:PlanR acs ds net r1)(Q2:PermP ((Fs acs ds r1).map C9) (Ep acs ds r1) net2 ys)(hn:net=true->net2=true) :
  ∀y∈ys,y=0:=by
 have F:=EV ha hd hC;have F1:=Zi P1;have B2:=Q2.B;obtain⟨Q1,-,b1⟩:=F1.perm F.B;obtain⟨-,-,hlen⟩:=JO (r:=r1) ha hd;have hD:Ep acs ds r1=DI ds (r1.fl.take (opn ds).length):=by unfold Ep;rw[if_pos hC]
 obtain⟨xs,hxs⟩:=qD (r1.fl.take (opn ds).length);have hO:opn (Ep acs ds r1)=GP (opn ds) xs:=by rw[hD,L5,hxs]
 have p1:PayIn (opn ds) xs:=by rw[hxs];exact Q1.pay
 have p2:PayIn (GP (opn ds) xs) ys:=by rw[<-hO];exact Q2.pay
 have hz:=QV p1 p2;have hos:∀d∈opn ds,0<=d.fr/\0<=d.to:=fun d hdm=>by have:=C4 (F.B.open'.due d hdm).1;omega
 have hos2:∀d∈opn (Ep acs ds r1),0<=d.fr/\0<=d.to:=fun d hdm=>by have:=C4 (B2.open'.due d hdm).1;omega
 have hcmp:r1.cmp=net:=P1.cmp
 have hby:∀k,byK (acs.map C9) (opn ds) net (KE (opn ds) xs ys) k=byK (acs.map C9) (opn ds) net r1.fl k+byK ((Fs acs ds r1).map C9) (opn (Ep acs ds r1)) net2 ys k:=fun k=>by
  have l1:(opn ds).length<=r1.fl.length:=by have:=Q1.pay.1;rw[qbm]at this;omega
  rw[Jl hos (by rw[<-hz.1];exact qan _),Jl hos l1,Jl hos2 (qd7 Q2.pay.1),IQ,IQ (xs:=ys),<-hxs,hO];exact Nt (f:=plc k) (fun _ _=>rfl) p1.1 p2.1
 have hP:PermP (acs.map C9) ds net (KE (opn ds) xs ys):=by
  refine⟨F.B,hz,fun k hk=>?_⟩;rw[qak]at hk;obtain⟨a,hak⟩:=AB (l:=acs) (i:=k) (h:=hk);have hr:(acs.map C9)[k]?=some (C9 a):=by rw[qa1,hak];rfl
  have hg:=Oj ha hd hC hak;rw[hcmp]at hg;have hr2:((Fs acs ds r1).map C9)[k]?=some (C9 ⟨a.ba+byK (acs.map C9) (opn ds) net r1.fl k,a.re⟩):=by rw[qa1,hg];rfl
  obtain⟨c1,c2,-⟩:=b1 k _ hr;obtain⟨q1,q2⟩:=Q2.left k (Cb hr2);unfold Mo Ly at q1 q2;rw[Br hr2]at q1 q2;unfold Mo Ly;rw[hby,Br hr];clear hg hr2;generalize byK ((Fs acs ds r1).map C9) (opn (Ep acs ds r1)) net2 ys k=x2 at q1 q2 |-;generalize byK (acs.map C9) (opn ds) net r1.fl k=x1 at c1 c2 q1 q2 |-;unfold C9 at c2 q1 q2 |-;dsimp only at q1 q2
  cases net with
  |true =>
   have e1:=c1 rfl;have e2:=q2 (hn rfl);rw[if_pos (hn rfl)]at e2;rw[if_pos rfl];exact⟨by omega,fun _=>by omega⟩
  |false =>
   rw[if_neg (by decide)]
   split at q1
   all_goals exact⟨by omega,fun h=>by cases h⟩
 have hbest:=F1.best hP
 have hwz:Er (opn ds) (KE (opn ds) xs ys) (opn ds).length=Er (opn ds) r1.fl (opn ds).length+Ch (List.zipWith (fun d x=>d.we*x) (GP (opn ds) xs) ys):=by
  have l1:(opn ds).length<=r1.fl.length:=by have:=Q1.pay.1;rw[qbm]at this;omega
  rw[Jn (by rw[hz.1];exact qan _),Jn l1,<-IQ (xs:=r1.fl),<-hxs];exact Nt (f:=Du.we) (fun _ _=>rfl) p1.1 p2.1
 rw[hwz]at hbest
 have hnn:∀z∈List.zipWith (fun d x=>d.we*x) (GP (opn ds) xs) ys,0<=z:=fun z hzm=>by
  obtain⟨i,hi⟩:=qbl.1 hzm;rw[qcw]at hi
  cases hdi:(GP (opn ds) xs)[i]? with
  |none=>rw[hdi]at hi;cases hi
  |some d =>
   cases hyi:ys[i]? with
   |none=>rw[hdi,hyi]at hi;cases hi
   |some y =>
    rw[hdi,hyi]at hi;cases hi;have h1:=p2.2 i d y hdi hyi;have h2:=C4 (B2.open'.due d (by rw[hO];exact qac hdi)).1;exact qc7 (by omega) h1.1
 intro y hy;obtain⟨i,hyi⟩:=qbl.1 hy;obtain⟨d,hdi⟩:=AB (l:=GP (opn ds) xs) (i:=i) (h:=by rw[p2.1];exact Cb hyi);have h1:=p2.2 i d y hdi hyi;have h2:=C4 (B2.open'.due d (by rw[hO];exact qac hdi)).1;have h3:d.we*y∈List.zipWith (fun d x=>d.we*x) (GP (opn ds) xs) ys:=qac (i:=i) (by rw[qcw,hdi,hyi]);have h4:=QT hnn _ h3;have h5:d.we*y<=0:=by omega
 rcases qci 0 y with h6|h6
 .have h7:0<d.we*y:=Int.mul_pos (by omega) h6;omega
 .omega
structure Ak where
 kd:Int
 a:Int
 b:Int
 x:Int
 w:Int
 u:Int
 id:Int
structure Ld where
 day:Int
 acs:List Ac
 ds:List Du
 nx:Int
 rn:List Rnd
 no:Int
def Oo(r:Rnd):Bool:=Fk r.N r.es r.fl r.pot && (decide (r.ids.length<=64) && decide (0<=r.day))
structure Ld.Ok(s:Ld):Prop where
 ac:EA s.acs=0
 du:ofC s.ds s.nx=0
 bk:∀d∈s.ds,d.fr<s.acs.length/\d.to<s.acs.length
 day:0<=s.day/\s.day<=9223372036854775807
 kept:s.rn.length<=4/\(s.rn.length:Int)<=s.no/\s.no<=4611686018427387904
 nos:∀(i:Nat) (r:Rnd),s.rn[i]?=some r->r.no=s.no - s.rn.length+1+i
 may:∀r∈s.rn,Oo r=true
def bas(acs:List Ac):List Int:=acs.map Ac.ba
def L6(acs:List Ac)(k:Int)(a:Ac):List Ac:=acs.set k.toNat a
def GG(acs:List Ac)(k x:Int):Int:=if inA acs k=false then 10 else if(decide (0<x) && Db x)=false then 1 else if(EN (bas acs++[x])).2≠0 then 13 else 0
def Fx(acs:List Ac)(k x:Int):List Ac:=if GG acs k x=0 then L6 acs k ⟨(DA acs k).ba+x,(DA acs k).re⟩else acs
def GH(acs:List Ac)(k x:Int):Int:=if inA acs k=false then 10 else if(decide (0<x) && Db x)=false then 1 else if(DA acs k).ba<x then 12 else 0
def Fy(acs:List Ac)(k x:Int):List Ac:=if GH acs k x=0 then L6 acs k ⟨(DA acs k).ba - x,(DA acs k).re⟩else acs
def Nv(acs:List Ac)(k x:Int):Int:=if inA acs k=false then 10 else if Db x=false then 1 else 0
def Ih(acs:List Ac)(k x:Int):List Ac:=if Nv acs k x=0 then L6 acs k ⟨(DA acs k).ba,x⟩else acs
theorem Fa{acs:List Ac}{k:Int}:inA acs k=true↔0<=k/\k<acs.length:=by
 unfold inA;rw[qae,qam,qam]
theorem Gf{acs:List Ac}{k:Int}(h:inA acs k=true):acs[k.toNat]?=some (DA acs k):=by
 have h1:=Fa.1 h;obtain⟨a,ha⟩:=AB (l:=acs) (i:=k.toNat);unfold DA;rw[if_pos h,ha,Br ha]
theorem Nw{xs:List Int}:∀{i:Nat} {x y:Int},xs[i]?=some x->Ch (xs.set i y)=Ch xs - x+y:=by
 induction xs with
 |nil=>intro i x y h;cases h
 |cons z xs ih =>
  intro i x y h
  cases i with
  |zero =>
   simp only[qdw,qbs]at h;subst h;rw[List.set_cons_zero,BJ,BJ];omega
  |succ i =>
   rw[List.set_cons_succ,BJ,BJ,ih (show xs[i]?=some x from h)];omega
theorem Nx(acs:List Ac)(k:Int)(a:Ac):bas (L6 acs k a)=(bas acs).set k.toNat a.ba:=by
 unfold bas L6;rw[List.map_set]
theorem Ny(acs:List Ac)(k:Int)(a:Ac):(L6 acs k a).length=acs.length:=by unfold L6;rw[qb4]
theorem UB{acs:List Ac}{k:Int}{a:Ac}(h:EA acs=0)(hk:inA acs k=true)(hm:Jj a=true)(hs:Ch (bas acs) - (DA acs k).ba+a.ba<=4503599627370496):EA (L6 acs k a)=0:=by
 obtain⟨h1,h2,h3⟩:=Cr.1 h;have h4:=DF.1 h3;have hg:(bas acs)[k.toNat]?=some (DA acs k).ba:=by unfold bas;rw[qa1,Gf hk];rfl
 refine Cr.2 ⟨by rw[Ny];exact h1,fun b hb=>?_,DF.2 ⟨fun x hx=>?_,?_⟩⟩
 .unfold L6 at hb
  rcases qe6 hb with h5|rfl
  .exact h2 b h5
  .exact hm
 .change x∈bas (L6 acs k a)at hx
  rw[Nx]at hx
  rcases qe6 hx with h5|rfl
  .exact h4.1 x h5
  .exact CR.2 (Fq.1 hm).1
 .change Ch (bas (L6 acs k a))<=_
  rw[Nx,Nw hg];exact hs
theorem JQ{acs:List Ac}{k:Int}(h:EA acs=0)(hk:inA acs k=true):(0<=(DA acs k).ba/\(DA acs k).ba<=4503599627370496)/\0<=(DA acs k).re/\(DA acs k).re<=4503599627370496 :=
 Fq.1 ((Cr.1 h).2.1 _ (qac (Gf hk)))
theorem XN{acs:List Ac}(h:EA acs=0):(∀x∈bas acs,Db x=true)/\Ch (bas acs)<=4503599627370496:=DF.1 (Cr.1 h).2.2
theorem Kw(acs:List Ac)(k x:Int):(GG acs k x≠0/\Fx acs k x=acs)\/(GG acs k x=0/\inA acs k=true/\0<x/\Db x=true/\(EN (bas acs++[x])).2=0/\Fx acs k x=L6 acs k ⟨(DA acs k).ba+x,(DA acs k).re⟩):=by
 by_cases h:GG acs k x=0
 .refine .inr ⟨h,?_⟩;have h2:=h;unfold GG at h2
  cases h3:inA acs k with
  |false=>rw[if_pos h3]at h2;cases h2
  |true =>
   rw[if_neg (by rw[h3];decide)]at h2
   cases h4:(decide (0<x) && Db x)with
   |false=>rw[if_pos h4]at h2;cases h2
   |true =>
    rw[if_neg (by rw[h4];decide)]at h2;rw[qae,qam]at h4
    by_cases h5:(EN (bas acs++[x])).2≠0
    .rw[if_pos h5]at h2;cases h2
    .refine⟨rfl,h4.1,h4.2,by omega,?_⟩;unfold Fx;rw[if_pos h]
 .refine .inl ⟨h,?_⟩;unfold Fx;rw[if_neg h]
theorem Zj{acs:List Ac}(h:EA acs=0)(k x:Int):EA (Fx acs k x)=0/\(Fx acs k x).length=acs.length/\Ch (bas (Fx acs k x))=Ch (bas acs)+(if GG acs k x=0 then x else 0):=by
 rcases Kw acs k x with⟨h1,h2⟩|⟨h1,hk,hx,hm,ht,h2⟩
 .rw[h2,if_neg h1];exact⟨h,rfl,by omega⟩
 .have hg:=JQ h hk;have h3:=(DF.1 ht).2;rw[ES,BJ]at h3;have h4:Ch ([]:List Int)=0:=rfl;have hmem:(DA acs k).ba∈bas acs:=qa8 (qac (Gf hk));have h5:=QT (fun y hy=>(CR.1 ((XN h).1 y hy)).1) _ hmem;have hx2:=CR.1 hm;rw[h2,if_pos h1];refine⟨UB h hk (Fq.2 ⟨⟨by dsimp only;omega,by dsimp only;omega⟩,hg.2⟩) (by dsimp only;omega),Ny ..,?_⟩;rw[Nx,Nw (x:=(DA acs k).ba) (by unfold bas;rw[qa1,Gf hk];rfl)];dsimp only;omega
theorem MB(acs:List Ac)(k x:Int):(GH acs k x≠0/\Fy acs k x=acs)\/(GH acs k x=0/\inA acs k=true/\0<x/\Db x=true/\x<=(DA acs k).ba/\Fy acs k x=L6 acs k ⟨(DA acs k).ba - x,(DA acs k).re⟩):=by
 by_cases h:GH acs k x=0
 .refine .inr ⟨h,?_⟩;have h2:=h;unfold GH at h2
  cases h3:inA acs k with
  |false=>rw[if_pos h3]at h2;cases h2
  |true =>
   rw[if_neg (by rw[h3];decide)]at h2
   cases h4:(decide (0<x) && Db x)with
   |false=>rw[if_pos h4]at h2;cases h2
   |true =>
    rw[if_neg (by rw[h4];decide)]at h2;rw[qae,qam]at h4
    by_cases h5:(DA acs k).ba<x
    .rw[if_pos h5]at h2;cases h2
    .refine⟨rfl,h4.1,h4.2,by omega,?_⟩;unfold Fy;rw[if_pos h]
 .refine .inl ⟨h,?_⟩;unfold Fy;rw[if_neg h]
theorem Zk{acs:List Ac}(h:EA acs=0)(k x:Int):EA (Fy acs k x)=0/\(Fy acs k x).length=acs.length/\Ch (bas (Fy acs k x))=Ch (bas acs) - (if GH acs k x=0 then x else 0):=by
 rcases MB acs k x with⟨h1,h2⟩|⟨h1,hk,hx,hm,hle,h2⟩
 .rw[h2,if_neg h1];exact⟨h,rfl,by omega⟩
 .have hg:=JQ h hk;have h3:=(XN h).2;rw[h2,if_pos h1];refine⟨UB h hk (Fq.2 ⟨⟨by dsimp only;omega,by dsimp only;omega⟩,hg.2⟩) (by dsimp only;omega),Ny ..,?_⟩;rw[Nx,Nw (x:=(DA acs k).ba) (by unfold bas;rw[qa1,Gf hk];rfl)];dsimp only;omega
theorem T0(acs:List Ac)(k x:Int):(Nv acs k x≠0/\Ih acs k x=acs)\/(Nv acs k x=0/\inA acs k=true/\Db x=true/\Ih acs k x=L6 acs k ⟨(DA acs k).ba,x⟩):=by
 by_cases h:Nv acs k x=0
 .refine .inr ⟨h,?_⟩;have h2:=h;unfold Nv at h2
  cases h3:inA acs k with
  |false=>rw[if_pos h3]at h2;cases h2
  |true =>
   rw[if_neg (by rw[h3];decide)]at h2
   cases h4:Db x with
   |false=>rw[if_pos h4]at h2;cases h2
   |true =>
    refine⟨rfl,rfl,?_⟩;unfold Ih;rw[if_pos h]
 .refine .inl ⟨h,?_⟩;unfold Ih;rw[if_neg h]
theorem Agk{acs:List Ac}(h:EA acs=0)(k x:Int):EA (Ih acs k x)=0/\(Ih acs k x).length=acs.length/\Ch (bas (Ih acs k x))=Ch (bas acs):=by
 rcases T0 acs k x with⟨h1,h2⟩|⟨h1,hk,hm,h2⟩
 .rw[h2];exact⟨h,rfl,rfl⟩
 .have hg:=JQ h hk;have h3:=(XN h).2;have hx:=CR.1 hm;rw[h2];refine⟨UB h hk (Fq.2 ⟨hg.1,hx⟩) (by dsimp only;omega),Ny ..,?_⟩;rw[Nx,Nw (x:=(DA acs k).ba) (by unfold bas;rw[qa1,Gf hk];rfl)];dsimp only;omega
theorem Agl{acs:List Ac}(h:EA acs=0)(hl:acs.length<16):EA (acs++[a00])=0/\Ch (bas (acs++[a00]))=Ch (bas acs):=by
 obtain⟨h1,h2,h3⟩:=Cr.1 h;have h4:=DF.1 h3
 have h5:Ch ((acs++[a00]).map Ac.ba)=Ch (acs.map Ac.ba):=by
  rw[qax,ES];show Ch (acs.map Ac.ba)+0=_;omega
 refine⟨Cr.2 ⟨by rw[qat,qbx];omega,fun b hb=>?_,DF.2 ⟨fun x hx=>?_,by rw[h5];exact h4.2⟩⟩,h5⟩
 .rcases qbg.1 hb with h6|h6
  .exact h2 b h6
  .rw[qab.1 h6];decide
 .rw[qax]at hx
  rcases qbg.1 hx with h6|h6
  .exact h4.1 x h6
  .rw[qab.1 h6];decide
def Agm(nx fr to x w u:Int):Du:=⟨nx,fr,to,x,w,u,false⟩
def Kx(ds:List Du)(nx fr to x w u:Int):Int:=if mayD (Agm nx fr to x w u)=false then 1 else if 64<=ds.length\/4611686018427387904<=nx then 6 else if(EN (ds.map Du.am++[x])).2≠0 then 13 else 0
def Oq(ds:List Du)(nx fr to x w u:Int):List Du:=if Kx ds nx fr to x w u=0 then ds++[Agm nx fr to x w u]else ds
def QW(ds:List Du)(nx fr to x w u:Int):Int:=if Kx ds nx fr to x w u=0 then nx+1 else nx
def Nz(ds:List Du)(k:Int)(b:Bool):Int:=match Dn ds k with
 |none=>11
 |some d=>if d.held=b then 14 else 0
def Jy(ds:List Du)(k:Int)(b:Bool):List Du:=if Nz ds k b=0 then ds.map fun d=>if d.id=k then{ d with held:=b }else d else ds
def RZ(ds:List Du)(k:Int):Int:=match Dn ds k with
 |none=>11
 |some _=>0
def UC(ds:List Du)(k:Int):List Du:=ds.filter fun d => !decide (d.id=k)
def Ot(ds:List Du)(u:Int):List Du:=ds.filter fun d=>decide (u<=d.un)
theorem D3{ds:List Du}{nx:Int}(h:ofC ds nx=0):ds.length<=64/\(1<=nx/\nx<=4611686018427387904)/\Gu nx 0 ds=true/\Ch (ds.map Du.am)<=4503599627370496:=by
 obtain⟨h1,h2,h3,h4⟩:=Ge.1 h;exact⟨h1,h2,h3,(DF.1 h4).2⟩
theorem LS{nx:Int}:∀{ah:Int} {ds:List Du},Gu nx ah ds=true↔(∀d∈ds,mayD d=true/\ah<d.id/\d.id<nx)/\(ds.map Du.id).Pairwise (·<·)
 |ah,[]=>⟨fun _=>⟨fun _ h=>(by cases h),List.Pairwise.nil⟩,fun _=>rfl⟩
 |ah,x::ds=>by
  simp only[Gu,qae,qam,qau,qbb];rw[LS];constructor
  .rintro⟨⟨h1,h2,h3⟩,h4,h5⟩;refine⟨fun d hd=>?_,fun y hy=>?_,h5⟩
   .rcases qag.1 hd with rfl|hd
    .exact⟨h1,h2,h3⟩
    .obtain⟨g1,g2,g3⟩:=h4 d hd;exact⟨g1,by omega,g3⟩
   .obtain⟨d,hd,rfl⟩:=qah.1 hy;exact(h4 d hd).2.1
  .rintro⟨h1,h2,h3⟩;obtain⟨g1,g2,g3⟩:=h1 x (qaj ..);refine⟨⟨g1,g2,g3⟩,fun d hd=>?_,h3⟩;obtain⟨k1,-,k3⟩:=h1 d (qai _ hd);exact⟨k1,h2 _ (qa8 hd),k3⟩
theorem UD{ds:List Du}{nx:Int}(h1:ds.length<=64)(h2:1<=nx/\nx<=4611686018427387904)(h3:∀d∈ds,mayD d=true/\0<d.id/\d.id<nx)(h4:(ds.map Du.id).Pairwise (·<·))(h5:Ch (ds.map Du.am)<=4503599627370496):ofC ds nx=0:=by
 refine Ge.2 ⟨h1,h2,LS.2 ⟨h3,h4⟩,DF.2 ⟨fun x hx=>?_,h5⟩⟩;obtain⟨d,hd,rfl⟩:=qah.1 hx;have:=C4 (h3 d hd).1;exact CR.2 (by omega)
theorem GQ{ds:List Du}{nx:Int}(h:ofC ds nx=0):(∀d∈ds,mayD d=true/\0<d.id/\d.id<nx)/\(ds.map Du.id).Pairwise (·<·):=LS.1 (D3 h).2.2.1
theorem QX(p:Du->Bool):∀{ds:List Du},(∀d∈ds,0<=d.am)->Ch ((ds.filter p).map Du.am)<=Ch (ds.map Du.am)
 | [],_=>qav _
 |d::ds,h=>by
  have ih:=QX p (ds:=ds) fun e he=>h e (qai _ he);have h0:=h d (qaj ..);rw[qbw]
  split
  .rw[qau,qau,BJ,BJ];omega
  .rw[qau,BJ];omega
theorem TA{ds:List Du}{nx:Int}(h:ofC ds nx=0)(p:Du->Bool):ofC (ds.filter p) nx=0:=by
 obtain⟨h1,h2,-,h4⟩:=D3 h;obtain⟨h5,h6⟩:=GQ h;have h7:(ds.filter p).Sublist ds:=List.filter_sublist;refine UD (qbe h7.length_le h1) h2 (fun d hd=>h5 d (h7.subset hd)) ?_ (qbj (QX p fun d hd=>by have:=C4 (h5 d hd).1;omega) h4);exact h6.sublist (h7.map _)
theorem Aqq{ds:List Du}{nx:Int}(h:ofC ds nx=0)(fr to x w u:Int):ofC (Oq ds nx fr to x w u) (QW ds nx fr to x w u)=0:=by
 unfold Oq QW
 by_cases hC:Kx ds nx fr to x w u=0
 .rw[if_pos hC,if_pos hC];unfold Kx at hC
  cases hm:mayD (Agm nx fr to x w u)with
  |false=>rw[if_pos hm]at hC;cases hC
  |true =>
   rw[if_neg (by rw[hm];decide)]at hC
   by_cases hl:64<=ds.length\/4611686018427387904<=nx
   .rw[if_pos hl]at hC;cases hC
   .rw[if_neg hl]at hC
    by_cases ht:(EN (ds.map Du.am++[x])).2≠0
    .rw[if_pos ht]at hC;cases hC
    .obtain⟨h1,h2,-,h4⟩:=D3 h;obtain⟨h5,h6⟩:=GQ h;have h7:=(DF.1 (show(EN (ds.map Du.am++[x])).2=0 by omega)).2;refine UD (by rw[qat,qbx];omega) (by omega) (fun d hd=>?_) ?_ (by rw[qax];exact h7)
     .rcases qbg.1 hd with h8|h8
      .obtain⟨g1,g2,g3⟩:=h5 d h8;exact⟨g1,g2,by omega⟩
      .rw[qab.1 h8];exact⟨hm,by show 0<nx;omega,by show nx<nx+1;omega⟩
     .rw[qax,qbz];refine⟨h6,List.pairwise_singleton ..,fun y hy z hz=>?_⟩;obtain⟨d,hd,rfl⟩:=qah.1 hy;have hz':z=nx:=by simpa[Agm]using hz
      rw[hz'];exact(h5 d hd).2.2
 .rw[if_neg hC,if_neg hC];exact h
theorem Agn{ds:List Du}{nx:Int}(h:ofC ds nx=0)(k:Int)(b:Bool):ofC (Jy ds k b) nx=0:=by
 unfold Jy
 split
 .obtain⟨h1,h2,-,h4⟩:=D3 h;obtain⟨h5,h6⟩:=GQ h
  have hid:(ds.map fun d=>if d.id=k then{ d with held:=b }else d).map Du.id=ds.map Du.id:=by
   rw[qb8];refine qbi fun d _=>?_;show(if d.id=k then({ d with held:=b }:Du)else d).id=d.id
   split <;> rfl
  have ham:(ds.map fun d=>if d.id=k then{ d with held:=b }else d).map Du.am=ds.map Du.am:=by
   rw[qb8];refine qbi fun d _=>?_;show(if d.id=k then({ d with held:=b }:Du)else d).am=d.am
   split <;> rfl
  refine UD (by rw[qak];exact h1) h2 (fun e he=>?_) (by rw[hid];exact h6) (by rw[ham];exact h4);obtain⟨d,hd,rfl⟩:=qah.1 he;obtain⟨g1,g2,g3⟩:=h5 d hd
  split
  .exact⟨g1,g2,g3⟩
  .exact⟨g1,g2,g3⟩
 .exact h
theorem Ago{ds:List Du}{k:Int}{b:Bool}{n:Nat}(h:∀d∈ds,d.fr<(n:Int)/\d.to<(n:Int)){e:Du}(he:e∈Jy ds k b):e.fr<(n:Int)/\e.to<(n:Int):=by
 unfold Jy at he
 split at he
 .obtain⟨d,hd,rfl⟩:=qah.1 he
  split
  .exact h d hd
  .exact h d hd
 .exact h e he
def Ij(xs:List Int)(k:Nat):Int:=BQ (fun i=>one (0<xs.getD i 0)) k
def IR(rn:List Rnd)(r:Rnd):List Rnd:=(rn++[r]).drop (rn.length - 3)
theorem VT{rn:List Rnd}(h:rn.length<=4)(r:Rnd):(IR rn r).length=min (rn.length+1) 4:=by
 unfold IR;rw[qcs,qat,qbx];omega
theorem Agp{rn:List Rnd}{r x:Rnd}(h:x∈IR rn r):x∈rn\/x=r:=by
 have h1:=qc3 h
 rcases qbg.1 h1 with h2|h2
 .exact .inl h2
 .exact .inr (qab.1 h2)
theorem Abh(rn:List Rnd)(r:Rnd):(IR rn r).getLast? = some r:=by
 unfold IR;rw[List.getLast?_drop,if_neg (by rw[qat,qbx];omega),List.getLast?_append];rfl
def Fu(s:Ld)(r:Rnd):Ld:=⟨s.day,Fs s.acs s.ds r,Ep s.acs s.ds r,s.nx,IR s.rn { r with no:=s.no+1,day:=s.day },s.no+1⟩
theorem MC{s:Ld}(h:s.Ok){net:Bool}{r:Rnd}(P:PlanR s.acs s.ds net r)(hno:s.no<4611686018427387904):EU s.acs s.ds r=0/\(Fu s r).Ok:=by
 have hBr:=MA h.ac h.du h.bk;have hol:=Hv s.ds;have h64:=hBr.m64;have hC:EU s.acs s.ds r=0:=Tv ((Hg).2 hBr) P;obtain⟨h1,h2,h3⟩:=JO (r:=r) h.ac h.du;have hB2:=Pb h.ac h.du hC;obtain⟨k1,k2,k3⟩:=h.kept;have hkl:=VT k1 { r with no:=s.no+1,day:=s.day };refine⟨hC,⟨h1,h2,fun d hd=>?_,h.day,⟨by show(IR _ _).length<=4;omega,by show((IR _ _).length:Int)<=s.no+1;omega,by show s.no+1<=_;omega⟩,fun i x hx=>?_,fun x hx=>?_⟩⟩
 .have:=(hB2.due d hd).2;rw[qak]at this;exact this
 .change (IR s.rn { r with no:=s.no+1,day:=s.day })[i]?=some x at hx
  show x.no=s.no+1 - ((IR s.rn { r with no:=s.no+1,day:=s.day }).length:Nat)+1+i;have hi:=Cb hx;rw[hkl]at hi |-;unfold IR at hx;rw[qcb]at hx
  rcases qap (s.rn.length - 3+i) s.rn.length with h5|h5
  .rw[qb7 h5]at hx;have:=h.nos _ x hx;omega
  .rw[qc4 h5]at hx;have h6:s.rn.length - 3+i - s.rn.length=0:=by omega
   rw[h6]at hx;cases hx;show s.no+1=_;omega
 .rcases Agp hx with h5|rfl
  .exact h.may x h5
  .unfold Oo;dsimp only;have hids:r.ids.length=(opn s.ds).length:=by rw[P.ids,qak]
   rw[P.chk,qal (show r.ids.length<=64 by omega),qal h.day.1];rfl
structure Rp where
 e:Int
 n:List Int
def rp(l:List Int)(e:Int):Rp:=if e=0 then⟨0,l⟩else⟨e,[]⟩
theorem VU{l:List Int}{e:Int}(h:e≠0):rp l e=⟨e,[]⟩:=if_neg h
theorem rp_e(l:List Int)(e:Int):(rp l e).e=e:=by
 unfold rp
 split
 .rename_i h;exact h.symm
 .rfl
def Sa(acs:List Ac)(k:Int):List Int:=[(DA acs k).ba,(DA acs k).re]
def Mp(b:Bool):Int:=if b=true then 1 else 0
def Po(s:Ld)(k:Int):Option Rnd:=if k<=s.no/\s.no - k<s.rn.length then s.rn[(k - (s.no - s.rn.length+1)).toNat]? else none
def GR(r:Rnd)(b:Int):Rp :=
 if b < -1\/(r.es.length:Int)+r.N<=b then⟨1,[]⟩
 else if b = -1 then⟨0,[r.day,Mp r.cmp,r.N,r.es.length,r.ids.length]⟩
 else if(r.es.length:Int)<=b then⟨0,[r.pot.getD (b - r.es.length).toNat 0]⟩
 else⟨0,[(r.es.getD b.toNat e0).f,(r.es.getD b.toNat e0).t,(r.es.getD b.toNat e0).cap,(r.es.getD b.toNat e0).cost,r.fl.getD b.toNat 0,if b<r.ids.length then IntKind.i64.wrap (r.ids.getD b.toNat 0)else 0]⟩
def FI(s:Ld)(a:Ak):Ld :=
 if a.kd=1 then(if s.acs.length<16 then{ s with acs:=s.acs++[a00] }else s)
 else if a.kd=2 then{ s with acs:=Fx s.acs a.a a.x }
 else if a.kd=3 then{ s with acs:=Fy s.acs a.a a.x }
 else if a.kd=4 then{ s with acs:=Ih s.acs a.a a.x }
 else if a.kd=5 then(if(inA s.acs a.a && inA s.acs a.b)=true/\s.day<=a.u then{ s with ds:=Oq s.ds s.nx a.a a.b a.x a.w a.u,nx:=QW s.ds s.nx a.a a.b a.x a.w a.u }else s)
 else if a.kd=6 then{ s with ds:=Jy s.ds a.id true }
 else if a.kd=7 then{ s with ds:=Jy s.ds a.id false }
 else if a.kd=8 then{ s with ds:=UC s.ds a.id }
 else if a.kd=9 then(if s.day<=a.u then{ s with day:=a.u,ds:=Ot s.ds a.u }else s)
 else s
def Gg(s:Ld)(a:Ak):Rp :=
 if a.kd=1 then rp [s.acs.length] (if s.acs.length<16 then 0 else 6)
 else if a.kd=2 then rp (Sa (Fx s.acs a.a a.x) a.a) (GG s.acs a.a a.x)
 else if a.kd=3 then rp (Sa (Fy s.acs a.a a.x) a.a) (GH s.acs a.a a.x)
 else if a.kd=4 then rp (Sa (Ih s.acs a.a a.x) a.a) (Nv s.acs a.a a.x)
 else if a.kd=5 then(if(inA s.acs a.a && inA s.acs a.b)=false then⟨10,[]⟩else if a.u<s.day then⟨1,[]⟩else rp [IntKind.i64.wrap s.nx] (Kx s.ds s.nx a.a a.b a.x a.w a.u))
 else if a.kd=6 then rp [] (Nz s.ds a.id true)
 else if a.kd=7 then rp [] (Nz s.ds a.id false)
 else if a.kd=8 then rp [] (RZ s.ds a.id)
 else if a.kd=9 then(if a.u<s.day then⟨3,[]⟩else⟨0,[((s.ds.length - (Ot s.ds a.u).length:Nat):Int)]⟩)
 else if a.kd=12 then(if inA s.acs a.a=true then⟨0,Sa s.acs a.a⟩else⟨10,[]⟩)
 else if a.kd=13 then(if inA s.acs a.a=true then⟨0,[Lx s.acs s.ds a.a.toNat]⟩else⟨10,[]⟩)
 else if a.kd=14 then(match Dn s.ds a.id with
  |none=>⟨11,[]⟩
  |some d=>⟨0,[d.fr,d.to,d.am,d.we,d.un,Mp d.held]⟩)
 else if a.kd=15 then(match Po s a.id with
  |none=>⟨4,[]⟩
  |some r=>GR r a.b)
 else⟨1,[]⟩
def CI(s:Ld)(a:Ak)(s':Ld)(p:Rp):Prop :=
 if a.kd=10\/a.kd=11 then
  (4611686018427387904<=s.no/\s'=s/\p=⟨6,[]⟩) \/
  (s.no<4611686018427387904/\∃r,PlanR s.acs s.ds (decide (a.kd=11)) r/\s'=Fu s r /\
   p=⟨0,[IntKind.i64.wrap (s.no+1),Er (opn s.ds) r.fl (opn s.ds).length,Ij (r.fl.take (opn s.ds).length) (opn s.ds).length]⟩)
 else s'=FI s a/\p=Gg s a
theorem Ky{s:Ld}(h:s.Ok)(a:Ak)(hu:a.u<=9223372036854775807):(FI s a).Ok:=by
 unfold FI
 split
 .split
  .rename_i hl
   exact⟨(Agl h.ac hl).1,h.du,fun d hd=>by have:=h.bk d hd;show _<((s.acs++[a00]).length:Int)/\_<((s.acs++[a00]).length:Int);rw[qat,qbx];omega,h.day,h.kept,h.nos,h.may⟩
  .exact h
 split
 .obtain⟨h1,h2,-⟩:=Zj h.ac a.a a.x;exact⟨h1,h.du,fun d hd=>by show _<((Fx s.acs a.a a.x).length:Int)/\_<((Fx s.acs a.a a.x).length:Int);rw[h2];exact h.bk d hd,h.day,h.kept,h.nos,h.may⟩
 split
 .obtain⟨h1,h2,-⟩:=Zk h.ac a.a a.x;exact⟨h1,h.du,fun d hd=>by show _<((Fy s.acs a.a a.x).length:Int)/\_<((Fy s.acs a.a a.x).length:Int);rw[h2];exact h.bk d hd,h.day,h.kept,h.nos,h.may⟩
 split
 .obtain⟨h1,h2,-⟩:=Agk h.ac a.a a.x;exact⟨h1,h.du,fun d hd=>by show _<((Ih s.acs a.a a.x).length:Int)/\_<((Ih s.acs a.a a.x).length:Int);rw[h2];exact h.bk d hd,h.day,h.kept,h.nos,h.may⟩
 split
 .split
  .rename_i hb
   refine⟨h.ac,Aqq h.du ..,fun d hd=>?_,h.day,h.kept,h.nos,h.may⟩
   change d∈Oq s.ds s.nx a.a a.b a.x a.w a.u at hd
   unfold Oq at hd
   split at hd
   .rcases qbg.1 hd with h1|h1
    .exact h.bk d h1
    .rw[qab.1 h1];rw[qae]at hb;exact⟨(Fa.1 hb.1.1).2,(Fa.1 hb.1.2).2⟩
   .exact h.bk d hd
  .exact h
 split
 .exact⟨h.ac,Agn h.du ..,fun d hd=>Ago h.bk hd,h.day,h.kept,h.nos,h.may⟩
 split
 .exact⟨h.ac,Agn h.du ..,fun d hd=>Ago h.bk hd,h.day,h.kept,h.nos,h.may⟩
 split
 .exact⟨h.ac,TA h.du _,fun d hd=>h.bk d (qbc.1 hd).1,h.day,h.kept,h.nos,h.may⟩
 split
 .split
  .rename_i hd
   exact⟨h.ac,TA h.du _,fun d hd=>h.bk d (qbc.1 hd).1,⟨qbj h.day.1 hd,hu⟩,h.kept,h.nos,h.may⟩
  .exact h
 .exact h
def fundI(s:Ld)(a:Ak):Int:=(if a.kd=2/\GG s.acs a.a a.x=0 then a.x else 0) - (if a.kd=3/\GH s.acs a.a a.x=0 then a.x else 0)
theorem Dr{ds:List Du}{nx fr to x w u:Int}(h:Kx ds nx fr to x w u≠0):Oq ds nx fr to x w u=ds/\QW ds nx fr to x w u=nx:=by
 unfold Oq QW;rw[if_neg h,if_neg h];exact⟨rfl,rfl⟩
theorem VV{ds:List Du}{k:Int}{b:Bool}(h:Nz ds k b≠0):Jy ds k b=ds:=by
 unfold Jy;rw[if_neg h]
theorem Agq{ds:List Du}{k:Int}(h:RZ ds k≠0):UC ds k=ds:=by
 unfold RZ at h;unfold UC;rw[List.filter_eq_self];intro d hd
 cases hf:Dn ds k with
 |some e=>rw[hf]at h;exact absurd rfl h
 |none =>
  have h1:=List.find?_eq_none.1 hf d hd
  simpa using h1
def newA(kd:Int)(a:Ac)(x:Int):Ac:=if kd=2 then⟨a.ba+x,a.re⟩else if kd=3 then⟨a.ba - x,a.re⟩else⟨a.ba,x⟩
def bankC(kd:Int)(acs:List Ac)(k x:Int):Int:=if kd=2 then GG acs k x else if kd=3 then GH acs k x else Nv acs k x
def bankA(kd:Int)(acs:List Ac)(k x:Int):List Ac:=if kd=2 then Fx acs k x else if kd=3 then Fy acs k x else Ih acs k x
def liteC(kd:Int)(is:Bool)(a:Ac)(x:Int):Int :=
 if is=false then 10
 else if kd=2 then(if(decide (0<x) && Db x)=false then 1 else 0)
 else if kd=3 then(if(decide (0<x) && Db x)=false then 1 else if a.ba<x then 12 else 0)
 else if Db x=false then 1 else 0
abbrev AL(bd:Nat)(x1 x2:Nat × Obj)(a:Option Addr)(n c:Nat)(full:List Value):List (Nat × Obj):=(bd,Bl 162 [.slice a n c])::x1::x2::ent a 43 full
theorem Abi{bd c:Nat}{x1 x2:Nat × Obj}{a:Option Addr}{full:List Value}{acs:List Ac}{S:List Nat}{w0 w:World}(H0:Ctx w0 S w (AL bd x1 x2 a acs.length c full))(O:OS a acs.length c 2 full (acs.flatMap Dm))(hn:acs.length<=1000000:=by omega):
  Ret prog 102 #[ptr bd] w fun v w'=>(16<=acs.length->v=.tuple #[.int .i64 0,.int .i64 6]/\Ctx w0 S w' (AL bd x1 x2 a acs.length c full)) /\
   (acs.length<16->v=.tuple #[.int .i64 (acs.length:Int),.int .i64 0]/\∃a' c' full',OS a' (acs++[a00]).length c' 2 full' ((acs++[a00]).flatMap Dm)/\Ctx w0 S w' (AL bd x1 x2 a' (acs++[a00]).length c' full')):=by
 have H:=H0;refine A2 (fn:=f102) func102 U [.pointer (some ⟨bd,0,none⟩)] U ?_;refine Ad (Af U (Af U (qA (Ap (Ax (Ad (A9 U (C7 OJ U ?_))))))));refine Ai U (qA (Av _ U ?_ ?_))
 .intro h0;cases h0
 .intro h0;refine Ad (A9 U (AP U (Ah Fg U (AG E3 U H at0 U (AU Dz U (Cq U U (Ai U (qA (Av _ U ?_ ?_)))))))))
  .intro h1;replace h1:=AJ h1;refine Ad (Af U (Af U (qA (A6 (A5 (Al (BG (v1:=(.int _ _)) (v2:=(.int _ _)) U U U U ?_)))))));exact⟨fun _=>⟨rfl,H⟩,fun h=>by omega⟩
  .intro h1;replace h1:=AK h1;refine Aq (A7 (Aa (Ad (A9 U (A9 U (AP U (Ah Fg U (AG E3 U H at0 U (Bz [.int .i64 0,.int .i64 0] Al6 JC ?_)))))))));refine Cs _ (.agg _) Dz DP JC U U U U H ?_;rintro b20 w - H;refine C3 (L:=[_,_,_]) Dz Dz DP Alq JC U U U H O U (fun v hv=>by simp at hv;rcases hv with rfl|rfl <;> rfl) ?_;rintro a' c' full' w H O;refine AP U (Ah Fg U (Cz (.slice _ _ _) sz_26 U U U H at0 (by(simp;done)) ?_));rintro w H;refine qA (Ad (A9 U (AP U (Ah Fg U (AG E3 U H at0 U (AU Dz U (B3 U U ?_)))))));refine Af U (Af U (qA (A6 (BG (v1:=(.int _ _)) (v2:=(.int _ _)) U U U U ?_))));refine⟨fun h=>by omega,fun _=>⟨?_,a',c',full',?_,?_⟩⟩
   .rw[show(((acs.length+1:Nat):Int) - 1)=(acs.length:Int)by omega]
   .rw[qb1,qat];exact O
   .rw[qat];exact H
structure Qk where
 e:Int
 fid:FuncId
 cl:List Value
 b:Bool
abbrev Ou(q:Qk):List Value:=[.int .i64 q.e,.func (.func q.fid) #[] q.cl.toArray]
theorem Agr(q:Qk):∀v∈Ou q,AS v=true:=by
 intro v hv
 rcases qag.1 hv with rfl|hv
 .rfl
 .rw[qab.1 hv];rfl
def Pc:List Qk->Int
 | []=>0
 |q::qs=>if q.b=false then q.e else Pc qs
theorem Zl:∀{qs:List Qk} {i:Nat} {q:Qk},qs[i]?=some q->q.b=false->(∀(j:Nat) (p:Qk),j<i->qs[j]?=some p->p.b=true)->Pc qs=q.e
 | [],_,_,h,_,_=>by cases h
 |p::qs,0,q,h,hb,_=>by
  cases h;exact if_pos hb
 |p::qs,i+1,q,h,hb,ha=>by
  unfold Pc;rw[if_neg (by rw[ha 0 p (by omega) rfl];decide)];exact Zl (show qs[i]?=some q from h) hb fun j r hj hr=>ha (j+1) r (by omega) hr
theorem VW:∀{qs:List Qk},(∀q∈qs,q.b=true)->Pc qs=0
 | [],_=>rfl
 |q::qs,h=>by
  unfold Pc;rw[if_neg (by rw[h q (qaj ..)];decide)];exact VW fun p hp=>h p (qai _ hp)
def Jz(acs:List Ac)(k:Int)(qs:List Qk):Int:=if inA acs k=false then 10 else Pc qs
def AcsAt(w w':World)(a:Option Addr)(n c:Nat)(full:List Value)(acs:List Ac):Prop :=
 ∃full',OS a n c 2 full' (acs.flatMap Dm)/\(∀x∈ent a 43 full',w'.heap[x.1]?=some x.2)/\Ext ((ent a 43 full).map (·.1)) w w'
theorem QY{bd c cq:Nat}{a aq:Option Addr}{full:List Value}{acs:List Ac}{qs:List Qk}{k:Int}{fid:FuncId}{cl:List Value}{e:Ac}(w:World)(hd:w.heap[bd]?=some (Bl 162 [.slice a acs.length c]))(O:OS a acs.length c 2 full (acs.flatMap Dm))(hb:∀x∈ent a 43 full,w.heap[x.1]?=some x.2)(Rq:Rd w aq 2 Ou qs)(hql:qs.length<=1000)(hq:∀q∈qs,A0 prog q.fid=true/\q.e≠0/\∀w',Ext [] w w'->Ret prog q.fid q.cl.toArray w' fun v w''=>v=.bool q.b/\Ext [] w' w'')(hfc:A0 prog fid=true)(hdo:∀q w',a=some ⟨q,0,none⟩->inA acs k=true->Pc qs=0->Ext [] w w'->Ret prog fid (Value.pointer (some ⟨q,0+k.toNat*2,none⟩)::cl).toArray w' fun _ w''=>∃full',OS a acs.length c 2 full' ((L6 acs k e).flatMap Dm)/\Ctx w' [q] w'' [(q,Bl 43 full')])(hn:acs.length<=1000000:=by omega):
  Ret prog 167 #[ptr bd,.int .i64 k,.func (.func fid) #[] cl.toArray,.slice aq qs.length cq] w fun v w'=>v=.int .i64 (Jz acs k qs) /\
   AcsAt w w' a acs.length c full (if Jz acs k qs=0 then L6 acs k e else acs):=by
 obtain⟨w1,rfl,H⟩:=qE w;have hsame:∀w',Ext [] w1 w'->AcsAt w1 w' a acs.length c full acs:=fun w' hx=>⟨full,O,fun x hxm=>hx.to (hb x hxm) (by simp),hx.mono (by simp)⟩;unfold Jz;refine A2 (fn:=f167) func167 U [.pointer (some ⟨bd,0,none⟩),.int .i64 k,.func (.func fid) #[] cl.toArray,.slice aq qs.length cq] U ?_;refine Ad (Af U (qA (Ap (Ax (Ad (A9 U (C7 OJ U ?_)))))));refine Ai U (qA (Av _ U ?_ ?_))
 .intro h0;cases h0
 .intro h0;refine Ap (Ad (Ae U (AZ U U (Ai U (qA (Dc 14 U ?_ ?_))))))
  .intro h1;replace h1:=AJ h1
   have hi:inA acs k=false:=by cases h:inA acs k with|false=>rfl|true=>have:=Fa.1 h;omega
   refine Aq (Aa (D4 U (Ad (Af U (qA (A6 (A5 (Al (AD (v:=(.int _ _)) U U U ?_)))))))));rw[if_pos hi,if_neg (by decide)];exact⟨rfl,hsame _ H.ext⟩
  .intro h1;replace h1:=AK h1;refine Ay (Ae U (A9 U (AP U (Ah Fg U (Ba E3 U ((H.old (An hd _) (by simp))) ?_)))));refine AU Dz U (Cq U U (Ai U (qA (Dc 14 U ?_ ?_))))
   .intro h2;replace h2:=AJ h2
    have hi:inA acs k=false:=by cases h:inA acs k with|false=>rfl|true=>have:=Fa.1 h;omega
    refine Ad (Af U (qA (A6 (A5 (Al (AD (v:=(.int _ _)) U U U ?_))))));rw[if_pos hi,if_neg (by decide)];exact⟨rfl,hsame _ H.ext⟩
   .intro h2;replace h2:=AK h2;have hi:inA acs k=true:=Fa.2 (by omega);rw[if_neg (by rw[hi];decide)];refine Aq (A7 (Aa (Ap (Ad (Ao U (AU Qr U (Ae U (qA (Ax (Bn 137371845888 (α:=Nat) (fun i=>[(26,.int .i64 (i:Int))]) (fun i w'=>i<=qs.length/\Ctx w1 [] w' []/\∀(j:Nat) (p:Qk),j<i->qs[j]?=some p->p.b=true) (fun i=>qs.length - i) 0 U ?_ ?_ ?_))))))))))
    .exact⟨rfl,trivial⟩
    .exact⟨qaf _,H,fun j p h=>absurd h (qaw _)⟩
    .clear H;rintro i ji w ⟨hii,H,hbb⟩;refine Ad (AZ U U (qA (Ap (Av _ U ?_ ?_))))
     .intro h3;replace h3:=AJ h3;obtain⟨q,hqi⟩:=AB (l:=qs) (i:=i);obtain⟨hqc,hqe,hqr⟩:=hq q (qac hqi);refine Aq (Aa (Ap (Ax (Ad (AM Rq Qr NT U U (by rfl) ?_)))));refine Ca _ Amv NT U U ((Rq.ext0 H.ext).row hqi U) (AX Ki H ?_);rintro b10 w - H;refine Bi NT U U U (by exact Agr _) H at0 U ?_;rintro w H;refine qA (Ad (Ah Ad5 U (AG Alo U H at0 U (EC U hqc (hqr _ H.ext) U ?_))));rintro v w ⟨rfl,hx32⟩;replace H:=H.call hx32;refine B1 U (qA (Av _ U ?_ ?_))
      .intro h4;replace h4:=Bv h4
       have hqb:q.b=false:=by cases hh:q.b with|false=>rfl|true=>rw[hh]at h4;cases h4
       refine Ad (Ah Ad4 U (AG KX U H at0 U (Af U (qA (A6 (A5 (Al (Al (A5 (Al (AD (v:=(.int _ _)) U U U ?_)))))))))));rw[Zl hqi hqb hbb,if_neg hqe];exact⟨rfl,hsame _ H.ext⟩
      .intro h4;replace h4:=Bw h4
       have hqb:q.b=true:=by cases hh:q.b with|true=>rfl|false=>rw[hh]at h4;cases h4
       refine Aq (A7 (Aa (Ay (Aw U U ?_))));refine Ae U (qA ?_)
       exact⟨i+1,rfl,⟨rfl,trivial⟩,⟨by omega,H.tail,fun j p hj hp=>by
        rcases qap j i with h5|h5
        .exact hbb j p h5 hp
        .obtain rfl:j=i:=by omega
         rw[hqi]at hp;cases hp
         exact hqb⟩,by omega⟩
     .intro h3;replace h3:=AK h3;obtain rfl:i=qs.length:=by omega
      have hC:Pc qs=0:=VW fun p hp=>by
       obtain⟨j,hj⟩:=qdj hp;exact hbb j p (Cb hj) hj
      have hin:=Fa.1 hi;obtain⟨q,hqa⟩:=O.form (by omega);subst hqa;refine Be (Aj (Aj (AH (Aa (Ad (De U (.func _ _ _) U ?_))))));refine A9 U (AP U (Ah Fg U (Ba E3 U ((H.old (An hd _) (by simp))) ?_)));refine Ae U (Bq Dz DP U U ?_);refine EC U hfc (hdo q _ U hi hC H.ext) U ?_;rintro v w ⟨full',O',H2⟩;refine qA (Ad (Af U (qA (A6 (AD (v:=(.int _ _)) U U U ?_)))));rw[hC,if_pos rfl];exact⟨rfl,full',O',fun x hx=>by rw[qab.1 hx];exact H2.get at0,(H.ext.mono (by simp)).trans H2.ext⟩
theorem Ags{bd c:Nat}{a:Option Addr}{acs:List Ac}{k:Int}{f q:Value}(w:World)(hd:w.heap[bd]?=some (Bl 162 [.slice a acs.length c]))(hi:inA acs k=false) :
  Ret prog 167 #[ptr bd,.int .i64 k,f,q] w fun v w'=>v=.int .i64 10/\Ext [] w w':=by
 obtain⟨w1,rfl,H⟩:=qE w;have hi2:¬(0<=k/\k<acs.length):=fun h=>by rw[Fa.2 h]at hi;cases hi
 refine A2 (fn:=f167) func167 U [.pointer (some ⟨bd,0,none⟩),.int .i64 k,f,q] U ?_;refine Ad (Af U (qA (Ap (Ax (Ad (A9 U (C7 OJ U ?_)))))));refine Ai U (qA (Av _ U ?_ ?_))
 .intro h0;cases h0
 .intro h0;refine Ap (Ad (Ae U (AZ U U (Ai U (qA (Dc 14 U ?_ ?_))))))
  .intro h1;replace h1:=AJ h1;refine Aq (Aa (D4 U (Ad (Af U (qA (A6 (A5 (Al (AD (v:=(.int _ _)) U U U ?_)))))))));exact⟨rfl,H.ext⟩
  .intro h1;replace h1:=AK h1;refine Ay (Ae U (A9 U (AP U (Ah Fg U (Ba E3 U ((H.old (An hd _) (by simp))) ?_)))));refine AU Dz U (Cq U U (Ai U (qA (Dc 14 U ?_ ?_))))
   .intro h2;replace h2:=AJ h2;refine Ad (Af U (qA (A6 (A5 (Al (AD (v:=(.int _ _)) U U U ?_))))));exact⟨rfl,H.ext⟩
   .intro h2;replace h2:=AK h2;exact absurd ⟨by omega,by omega⟩ hi2
theorem Agt{bx:Nat}{x:Int}(w:World)(h7:w.heap[bx]?=some (Bl 2 [.int .i64 x])) :
  Ret prog 169 #[ptr bx] w fun v w'=>v=.bool (decide (0<x) && Db x)/\Ext [] w w':=by
 obtain⟨w0,rfl,H⟩:=qE w;refine A2 (fn:=f169) func169 U [.pointer (some ⟨bx,0,none⟩)] U ?_;refine Ad (Ai U (qA (Ad (Ba Bm U ((H.old (An h7 _) (by simp))) ?_))));refine Cp U U (Au U (AE 4 U ?_ ?_))
 .intro h1;replace h1:=AJ h1;refine Ba Bm U ((H.old (An h7 _) (by simp))) (Am qB (Ks x _) U ?_);rintro v w ⟨rfl,rfl⟩;refine A8 U (.bool _) U (Ai U (qA (A6 (AD (v:=(.bool _)) U U U ?_))));exact⟨qaa Value.bool (by rw[qad];simp_all;try omega),H.ext⟩
 .intro h2;replace h2:=AK h2;refine Ag U (Ag U (AA U (.bool _) U (Ai U (qA (A6 (AD (v:=(.bool _)) U U U ?_))))));exact⟨qaa Value.bool (by rw[qad];simp_all;try omega),H.ext⟩
theorem Agu{bx:Nat}{x:Int}(w:World)(h7:w.heap[bx]?=some (Bl 2 [.int .i64 x])) :
  Ret prog 172 #[ptr bx] w fun v w'=>v=.bool (decide (0<x) && Db x)/\Ext [] w w':=by
 obtain⟨w0,rfl,H⟩:=qE w;refine A2 (fn:=f172) func172 U [.pointer (some ⟨bx,0,none⟩)] U ?_;refine Ad (Ai U (qA (Ad (Ba Bm U ((H.old (An h7 _) (by simp))) ?_))));refine Cp U U (Au U (AE 4 U ?_ ?_))
 .intro h1;replace h1:=AJ h1;refine Ba Bm U ((H.old (An h7 _) (by simp))) (Am qB (Ks x _) U ?_);rintro v w ⟨rfl,rfl⟩;refine A8 U (.bool _) U (Ai U (qA (A6 (AD (v:=(.bool _)) U U U ?_))));exact⟨qaa Value.bool (by rw[qad];simp_all;try omega),H.ext⟩
 .intro h2;replace h2:=AK h2;refine Ag U (Ag U (AA U (.bool _) U (Ai U (qA (A6 (AD (v:=(.bool _)) U U U ?_))))));exact⟨qaa Value.bool (by rw[qad];simp_all;try omega),H.ext⟩
theorem Akj{bx:Nat}{x:Int}(w:World)(h7:w.heap[bx]?=some (Bl 2 [.int .i64 x])) :
  Ret prog 175 #[ptr bx] w fun v w'=>v=.bool (Db x)/\Ext [] w w':=by
 obtain⟨w0,rfl,H⟩:=qE w;refine A2 (fn:=f175) func175 U [.pointer (some ⟨bx,0,none⟩)] U ?_;refine Ad (Ai U (qA (Ad (Ba Bm U ((H.old (An h7 _) (by simp))) ?_))));refine Am qB (Ks x _) U ?_;rintro v w ⟨rfl,rfl⟩;refine Ai U (qA (A6 (AD (v:=(.bool _)) U U U ?_)));exact⟨rfl,H.ext⟩
theorem Agv{q j bx:Nat}{ba x:Int}{full:List Value}(w:World)(h9:w.heap[q]?=some (Bl 43 full))(hf:full[j]?=some (.int .i64 ba))(h7:w.heap[bx]?=some (Bl 2 [.int .i64 x]))(hne:bx≠q)(hb:0<=ba/\ba<=4503599627370496)(hx:0<=x/\x<=4503599627370496) :
  Ret prog 168 #[.pointer (some ⟨q,j,none⟩),ptr bx] w fun _ w'=>Ctx w [q] w' [(q,Bl 43 (full.set (j+0) (.int .i64 (ba+x))))]:=by
 obtain⟨w0,rfl⟩:=qD w;have H:=Ctx.start1 h9;have hn:bx∉[q]:=by rw[qab];exact hne
 have hj:=Cb hf;refine A2 (fn:=f168) func168 U [.pointer (some ⟨q,j,none⟩),.pointer (some ⟨bx,0,none⟩)] U ?_;refine ET [([0,1,2,3,4,5],6),([7],8)] (fun z=>z.heap[q]?=some (Bl 43 full)/\z.heap[bx]?=some (Bl 2 [.int .i64 x])) [8] Bs (⟨H.drew.get at0,H.drew.ext.to h7 hn⟩) ?_;refine AO U U (BZ U (Bp U (A1 Ex U (B5 Bm U (fun _ hx=>(by rw[An hx.1];exact hf)) ?_))));refine B5 Bm U (fun _ hx=>(by rw[An hx.2];rfl)) ?_;refine E6 U U (Bb ?_);replace H:=H.drew;refine AP U (Ab (BR (⟨H.get at0,H.ext.to h7 hn⟩) (AO U U ?_)));refine A1 Ex U (Bb (Cz (.int _ _) Bt U U U H at0 (by omega) ?_));rintro w H;refine Ab (BH U (BK (Dd U U ?_)));exact H
theorem Agw{q j bx:Nat}{ba x:Int}{full:List Value}(w:World)(h9:w.heap[q]?=some (Bl 43 full))(hf:full[j]?=some (.int .i64 ba))(h7:w.heap[bx]?=some (Bl 2 [.int .i64 x]))(hne:bx≠q)(hb:0<=ba/\ba<=4503599627370496)(hx:0<=x/\x<=4503599627370496) :
  Ret prog 171 #[.pointer (some ⟨q,j,none⟩),ptr bx] w fun _ w'=>Ctx w [q] w' [(q,Bl 43 (full.set (j+0) (.int .i64 (ba - x))))]:=by
 obtain⟨w0,rfl⟩:=qD w;have H:=Ctx.start1 h9;have hn:bx∉[q]:=by rw[qab];exact hne
 have hj:=Cb hf;refine A2 (fn:=f171) func171 U [.pointer (some ⟨q,j,none⟩),.pointer (some ⟨bx,0,none⟩)] U ?_;refine ET [([0,1,2,3,4,5],6),([7],8)] (fun z=>z.heap[q]?=some (Bl 43 full)/\z.heap[bx]?=some (Bl 2 [.int .i64 x])) [8] Bs (⟨H.drew.get at0,H.drew.ext.to h7 hn⟩) ?_;refine AO U U (BZ U (Bp U (A1 Ex U (B5 Bm U (fun _ hx=>(by rw[An hx.1];exact hf)) ?_))));refine B5 Bm U (fun _ hx=>(by rw[An hx.2];rfl)) ?_;refine EO U U (Bb ?_);replace H:=H.drew;refine AP U (Ab (BR (⟨H.get at0,H.ext.to h7 hn⟩) (AO U U ?_)));refine A1 Ex U (Bb (Cz (.int _ _) Bt U U U H at0 (by omega) ?_));rintro w H;refine Ab (BH U (BK (Dd U U ?_)));exact H
theorem Akk{q j bx:Nat}{x:Int}{full:List Value}(w:World)(h9:w.heap[q]?=some (Bl 43 full))(hj:j+1<full.length)(h7:w.heap[bx]?=some (Bl 2 [.int .i64 x]))(hne:bx≠q) :
  Ret prog 174 #[.pointer (some ⟨q,j,none⟩),ptr bx] w fun _ w'=>Ctx w [q] w' [(q,Bl 43 (full.set (j+1) (.int .i64 x)))]:=by
 obtain⟨w0,rfl⟩:=qD w;have H:=Ctx.start1 h9;have hn:bx∉[q]:=by rw[qab];exact hne
 refine A2 (fn:=f174) func174 U [.pointer (some ⟨q,j,none⟩),.pointer (some ⟨bx,0,none⟩)] U ?_;refine Ay (A9 U (Ba Bm U ((H.old (An h7 _) hn)) ?_));refine AP U (Ah Hn U (Cz (.int _ _) Bt U U U H at0 (by omega) ?_));rintro w H;refine Ab (Dd U U ?_);exact H
theorem Agx{bx b3 b4 bd c:Nat}{a:Option Addr}{acs:List Ac}{k x:Int}(w:World)(h7:w.heap[bx]?=some (Bl 2 [.int .i64 x]))(h3:w.heap[b3]?=some (Bl 99 [ptr bd]))(h4:w.heap[b4]?=some (Bl 3 [.int .i64 k]))(hd:w.heap[bd]?=some (Bl 162 [.slice a acs.length c]))(R:Rd w a 2 Dm acs)(hi:inA acs k=true) :
  Ret prog 173 #[ptr bx,ptr b3,ptr b4] w fun v w'=>v=.bool (decide (x<=(DA acs k).ba))/\Ext [] w w':=by
 obtain⟨w0,rfl,H⟩:=qE w;have hin:=Fa.1 hi;have hg:=Gf hi;refine A2 (fn:=f173) func173 U [.pointer (some ⟨bx,0,none⟩),.pointer (some ⟨b3,0,none⟩),.pointer (some ⟨b4,0,none⟩)] U ?_;refine Ad (Ai U (qA (CN (fun x=>x=_) Bs U ?_)));refine BF Bm U (by rintro _ rfl;exact((H.drew.old (An h7 _) (by simp)))) ?_;refine BF Jf U (by rintro _ rfl;exact((H.drew.old (An h3 _) (by simp)))) ?_;refine Bh U (A3 Fg U (BF E3 U (by rintro _ rfl;exact((H.drew.old (An hd _) (by simp)))) ?_));refine BF B6 U (by rintro _ rfl;exact((H.drew.old (An h4 _) (by simp)))) ?_;refine Bo R Dz DP U U (by rfl) ?_;refine A3 Ex U (BF Bm U (by rintro _ rfl;exact(((R.ext0 H.drew.ext).fld hg rfl (j:=0) rfl))) ?_);refine PX U U (J6 U U (BM ?_));rintro _ rfl;replace H:=H.drew
 refine A6 (AD (v:=(.bool _)) U U U ?_);exact⟨rfl,H.ext⟩
theorem Agy{bx b3 bd c:Nat}{a:Option Addr}{acs:List Ac}{x:Int}(w:World)(h3:w.heap[b3]?=some (Bl 99 [ptr bd]))(h7:w.heap[bx]?=some (Bl 2 [.int .i64 x]))(hd:w.heap[bd]?=some (Bl 162 [.slice a acs.length c]))(R:Rd w a 2 Dm acs)(hn:acs.length<=1000:=by omega):
  Ret prog 170 #[ptr b3,ptr bx] w fun v w'=>v=.bool (decide ((EN (bas acs++[x])).2=0))/\Ext [] w w':=by
 obtain⟨w0,rfl,H⟩:=qE w;obtain⟨tt,htt⟩:=qD (EN (bas acs++[x]));rw[<-htt];refine A2 (fn:=f170) func170 U [.pointer (some ⟨b3,0,none⟩),.pointer (some ⟨bx,0,none⟩)] U ?_;refine Ad (Ai U (qA (Amm (.two [0,2] 1 (.one [] 3 (.one [] 4 (.one [] 5 (.one [6,7,8] 9 (.one [] 10 .stop))))) 3 (.one [] 1 (.one [] 4 (.one [] 5 (.one [6,7,8] 9 (.one [] 10 .stop)))))) (fun z=>Ext [] w0 z) Bs (Ext.drew [] w0) ?_)));refine Jq U U U ?_;refine B5 Jf U (fun _ hx=>(by rw[An (hx.to h3 (by simp))];rfl)) ?_;refine B5 Bm U (fun _ hx=>(by rw[An (hx.to h7 (by simp))];rfl)) ?_;refine Bb ?_;replace H:=H.drew;refine⟨?_,?_⟩
 .skip
  refine Am qB (Ji a acs.length c acs _ (H.ext.to hd (by simp)) (R.ext0 H.ext) U) U ?_;rintro v w F;obtain⟨a3,n3,c3,f3,rfl,O3,hb3⟩:=F.ex;have hl3:=O3.llen;rw[qak,qak]at hl3;replace H:=H.callEnt F.ext hb3 FM;refine Ab (Ck (H.ext) (Cg U U ?_));refine Bb (Cs _ (.int _ _) AR Bt Eh U U U U H ?_);rintro b9 w - H;refine Ab (Ck (H.ext) (Cg U U ?_));refine Bb (C3 (L:=[]) AR AR Bt J9 Eh U U U H O3 U (by simp[AS]) ?_);rintro a' c' full' w H O;refine Ab (Ck (H.ext) (Cg U U ?_));refine Bb (Am qB (LP a' (n3+1) c' (bas acs++[x]) _ (OS.rd1 (f:=CQ) (t:=2) (xs:=bas acs++[x]) (by rw[qax];exact O) (fun x hx=>H.blk x (qa0 [] hx))) (by unfold bas;rw[qat,qak];show acs.length+1=_;omega)) U ?_);rintro v w ⟨rfl,rfl⟩;rw[<-htt]
  refine Ab (Ck (H.ext) (Cg U U ?_));refine Ek U (B7 U U (B7 U U (Bb (Af U (Ab (Ck (H.ext) (Cg U U ?_)))))));refine Bb (Af U (Ab (Ck (H.ext) (EG ?_))));refine Ad (Ae U (Cj U U (Ai U (qA (A6 (AD (v:=(.bool _)) U U U ?_))))));exact⟨rfl,H.ext⟩
 .skip
  refine Cs _ (.int _ _) AR Bt Eh U U U U H ?_;rintro b9 w - H;refine Ab (Ck (H.ext) (Cg U U ?_));refine Bb (Am qB (Ji a acs.length c acs _ (H.ext.to hd (by simp)) (R.ext0 H.ext) U) U ?_);rintro v w F;obtain⟨a3,n3,c3,f3,rfl,O3,hb3⟩:=F.ex;have hl3:=O3.llen;rw[qak,qak]at hl3;replace H:=H.callEnt F.ext hb3 FM;refine Ab (Ck (H.ext) (Cg U U ?_));refine Bb (C3 (L:=[]) AR AR Bt J9 Eh U U U H O3 U (by simp[AS]) ?_);rintro a' c' full' w H O;refine Ab (Ck (H.ext) (Cg U U ?_));refine Bb (Am qB (LP a' (n3+1) c' (bas acs++[x]) _ (OS.rd1 (f:=CQ) (t:=2) (xs:=bas acs++[x]) (by rw[qax];exact O) (fun x hx=>H.blk x (qa0 [] hx))) (by unfold bas;rw[qat,qak];show acs.length+1=_;omega)) U ?_);rintro v w ⟨rfl,rfl⟩;rw[<-htt]
  refine Ab (Ck (H.ext) (Cg U U ?_));refine Ek U (B7 U U (B7 U U (Bb (Af U (Ab (Ck (H.ext) (Cg U U ?_)))))));refine Bb (Af U (Ab (Ck (H.ext) (EG ?_))));refine Ad (Ae U (Cj U U (Ai U (qA (A6 (AD (v:=(.bool _)) U U U ?_))))));exact⟨rfl,H.ext⟩
end Go.Proofs.YtdagmpmdcgedcaaGreat
