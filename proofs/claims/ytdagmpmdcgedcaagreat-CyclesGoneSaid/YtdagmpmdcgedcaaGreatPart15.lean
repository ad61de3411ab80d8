/- Part 15 of the proof. The last text: CyclesGone: for every input the law answers true, and turns nothing. -/
import Derived.Test.YtdagmpmdcgedcaaGreatPart14
set_option maxRecDepth 20000
set_option maxHeartbeats 8000000
namespace Go.Proofs.YtdagmpmdcgedcaaGreat
open Go.GV Go.Proofs.Tryz
attribute [local irreducible] AN W Wq Wt
structure CgS where
 i:Nat
 m:Lm
 s:Ld
 T:Nat->Prop
abbrev W0(ds:List Du):List Int:=(List.range 16).map (Cy.netB ds)
theorem TN{ds:List Du}{w w':World}{v:Value}(h:Cy.NetsPost 16 ds w v w')(ho:Cy.netsE 16 ds=0):∃a c full,v=.tuple #[.slice a 16 c,.int .i64 0]/\OS a 16 c 1 full ((W0 ds).map CQ)/\Ext [] w w'/\∀x∈ent a 2 full,w'.heap[x.1]?=some x.2/\w.heap.size<=x.1:=by
 obtain⟨s,rfl,F⟩:=Cy.nets_is h ho;obtain⟨a,n,c,full,rfl,O,hb⟩:=F.ex;have hn:n=16:=by have:=O.num;rw[this];rfl
 subst hn;refine⟨a,c,full,rfl,?_,F.ext,hb⟩;rw[qb8];exact O
theorem Sc(a:Option Addr)(c:Nat)(ks:List Ak)(w:World)(R:Rd w a 7 Ci ks)(hin:∀k∈ks,AkIn k):Ret prog 14 #[.slice a ks.length c] w fun v w'=>v=.bool true/\Ext [] w w':=by
 obtain⟨w0,rfl,H⟩:=qE w;refine A2 (fn:=f14) func14 U [.slice a ks.length c] U (Ad (Ai U (qA (Ap (Ad (Ao U (AU HK U (Cp U U (qA (Av _ U ?_ ?_))))))))))
 .intro h1;replace h1:=AJ h1;refine Ad (Am qB (Cy.works_ok _) U ?_);rintro v w ⟨rfl,hx17⟩;replace H:=H.call hx17;refine Ai U (qA (A6 (Al (AD (v:=(.bool _)) U U U ?_))));exact⟨rfl,H.ext⟩
 .intro h1;replace h1:=AK h1;refine Aq (Aa (Ad (Am qB (LU _) U ?_)));rintro v w ⟨m0,rfl,H0,I0⟩;obtain⟨bl,hb0⟩:∃b,m0.bl=b:=⟨_,rfl⟩;have L:Led bl w0 w [] m0 s00 (fun x=>x∈Di m0 s00):=⟨H0,I0,hb0⟩;rw[hb0];clear H0 I0 hb0 H;refine BE U (qA (Ap (Ad (Af U (qA (Ax (Bn 2146959376 (α:=CgS) (fun z=>[(4,.int .i64 (z.i:Int))]) (fun z w'=>z.i<=ks.length/\z.s.no<=z.i/\Led bl w0 w' [] z.m z.s z.T) (fun z=>ks.length - z.i) ⟨0,m0,s00,fun x=>x∈Di m0 s00⟩ U ?_ ?_ ?_)))))))
  .exact⟨rfl,trivial⟩
  .exact⟨qaf _,qav _,L⟩
  .clear L;rintro⟨i,m,s,T⟩ j w ⟨hi,hno,L⟩;dsimp only at hi hno L;dsimp only;obtain⟨w1,rfl,H⟩:=qE w;refine Ap (Ad (Ae U (Ao U (AU HK U (AZ U U (qA (Av _ U ?_ ?_)))))))
   .intro h2;replace h2:=AJ h2;obtain⟨k,hk⟩:=AB (l:=ks) (i:=i);have hkin:=hin k (qac hk);refine Aq (Aa (Ap (Ax (Ay (A9 U (Ao U (Ae U (AM (R.ext0 L.H.ext) HK Ii U U (by rfl) ?_))))))));refine Ca _ OH Ii U U (((R.ext0 L.H.ext).row hk U)) (Am qB (Ef (k:=k) L hkin) U ?_);rintro v w ⟨a1,n1,c1,f1,p,s',m',T',rfl,OP,hst,L3,g,hxD⟩;refine Ab (A7 (Aa (Ay (Ae U (Aw U U ?_)))));refine Af U (qA ?_);have hno':=UI hst;exact⟨⟨i+1,m',s',T'⟩,rfl,⟨rfl,trivial⟩,⟨by dsimp only;omega,by dsimp only;omega,L3.drop⟩,by dsimp only;omega⟩
   .intro h2;replace h2:=AK h2;have hok:=L.I.ok;have h64:=(D3 hok.du).1;have hnn:0<=s.no/\s.no<=60:=by have:=hok.kept;omega
    refine Be (Aj (Aj (AH (Aa (Ad (A9 U (Am qB (Ft L) U ?_)))))));rintro v w ⟨hx32,z1,rfl,Z1,-⟩;replace L:=L.call hx32;clear H;obtain⟨w2,rfl,H⟩:=qE w;refine AX KC H ?_;rintro b5 w - H;refine Bi FC U U U (by exact(by simp[AS])) H at0 U ?_;rintro w H;refine qA (Ad (Ah EI U (AG Gj U H at0 U (Am qB (Cy.nets_ok 16 z1.aD z1.cD s.ds _ (Z1.D.ext0 H.ext) (by omega)) U ?_))));rintro v w hN;obtain⟨aN,cN,fN,rfl,ON,hxN,hbN⟩:=TN hN (Cy.ok_nets hok);replace H:=H.callEnt hxN hbN FM;refine BN U (AF U U (AF U U (Az U (Af U (qA (Ad (A9 U (Bz (Ci (ak 11 0 0 0 0 0 0)) FA EW ?_))))))))
    replace L:=L.next H
    refine Am qB (Ef (k:=ak 11 0 0 0 0 0 0) L (Gw)) U ?_;clear L H;rintro v w ⟨a1,n1,c1,f1,p1,s1,m1,T1,rfl,OP1,hst1,L,-,-⟩;obtain⟨r,P1,rfl,rfl⟩:=Rc hok hst1 (.inr rfl);obtain⟨w3,rfl,H⟩:=qE w;refine AX Gq H ?_;rintro b8 w - H;refine Bi Eu U U U (by exact(by simp[AS])) H at0 U ?_;rintro w H;refine qA ?_;have hok1:=(MC hok P1 (by omega)).2;have RN:Rd w3 aN 1 Cy.I64 (W0 s.ds):=OS.rd1 (f:=CQ) (t:=2) ON fun x hx=>L.H.blk x (qao _ (by simp[hx]));replace RN:=RN.ext0 H.ext;replace L:=L.drop.call H.ext;have hb8:=H.get at0;refine Ad (A9 U (Am qB (Ft L) U ?_));rintro v w ⟨hx43,z2,rfl,Z2,-⟩;replace hb8:=hx43.to hb8 (by simp);clear H;obtain⟨w4,rfl,H⟩:=qE w;refine AX KC H ?_;rintro b9 w - H;refine Bi FC U U U (by exact(by simp[AS])) H at0 U ?_;rintro w H
    refine qA (Ad (Ah EI U (AG Gj U H at0 U (Am qB (Cy.nets_ok 16 z2.aD z2.cD (Fu s r).ds _ (Z2.D.ext0 H.ext) (by have:=(D3 hok1.du).1;omega)) U ?_))));rintro v w hN;obtain⟨aM,cM,fM,rfl,OM,hxM,hbM⟩:=TN hN (Cy.ok_nets hok1);replace H:=H.callEnt hxM hbM FM;refine BN U (AF U U (AF U U (Az U (Af U (qA (Ap ?_))))));have RM:Rd w aM 1 Cy.I64 (W0 (Fu s r).ds):=OS.rd1 (f:=CQ) (t:=2) OM fun x hx=>H.blk x (by simp[hx]);have hE4:=H.ext;have hb9:w.heap[b9]?=some (Bl 32 (stC (Fu s r) z2)):=H.get at0;clear H;obtain⟨w5,rfl,H⟩:=qE w;refine Ad (Ah Hm U (Ba KX U ((by rw[An ((hE4.trans H.ext).to hb8 (by simp))];rfl)) ?_));refine C0 U U (qA (D5 U (Aq (Aa (Ad (Ah EI U (Ba Gj U ((by rw[An (H.ext.to hb9 (by simp))];rfl)) ?_)))))))
    refine Am qB (Cy.find_ok z2.aD z2.cD (Fu s r).ds _ (Z2.D.ext0 (hE4.trans H.ext)) (by have:=(D3 hok1.du).1;omega)) U ?_;rintro v w hF
    rcases hF with⟨-,sF,rF,hrF,-,-⟩|⟨rfl,hx66,-⟩
    .exact(Cy.gone hok P1 (by omega) hrF).elim
    replace H:=H.call hx66;refine BN U (AF U U (AF U U (Az U (Ai U (qA (Ad (Ae U (Cj U U (Au U ?_)))))))));refine Ae U (Cj U U (A8 U (.bool _) U (Au U (Au U (B1 U (A8 U (.bool _) U (Au U (Ao U (Ao U ?_)))))))));refine Am qB (Cy.amounts_ok aN aM cN cM (W0 s.ds) (W0 (Fu s r).ds) _ (RN.ext0 ((hx43.trans hE4).trans H.ext)) (RM.ext0 H.ext) (show(W0 s.ds).length<=9223372036854775807 by rw[qak,qez];decide)) U ?_;rintro v w ⟨rfl,hx82⟩;replace H:=H.call hx82;rw[qal (show W0 s.ds=W0 (Fu s r).ds from qbi fun b _=>(Cy.gone_net hok P1 (by omega) b).symm)];refine A8 U (.bool _) U (Au U (Am qB (Cy.works_ok _) U ?_));rintro v w ⟨rfl,hx85⟩;replace H:=H.call hx85;refine A8 U (.bool _) U (Ai U (qA (A6 (AD (v:=(.bool _)) U U U ?_))));exact⟨rfl,L.H.ext.trans ((hx43.trans hE4).trans H.ext)⟩
open Go.GV Go.Proofs.Tryz Go.ChangeShapes Go.WideShapes Go.RowKit
set_option maxRecDepth 100000 in
theorem N8(os:Os)(started:os.Started)(H:Type)(enc:TypeId × Value->H) :
  ReturnsInHanded {} checked os 14 .any (Rows.cyclesGoneSpec.pre6 enc prog f14 Rows.cyclesGoneRow.domain false) (Rows.cyclesGoneSpec.post enc prog f14 false true false false):=by
 refine returnsInHanded_of_change (C:=checked) own started (by kernel_rfl) func14
  (ChangeSpec.witness6 (enc:=enc) (C:=checked) false ⟨#[],#[.slice none 0 0],[]⟩ 8 (by kernel_rfl) (by kernel_rfl) (by kernel_rfl) (by kernel_rfl)) ?_
 intro W base args ds gs before hval0 hW hcnd _;have hval:∀(j:Nat) t v,Tryz.f14.params[j]?=some t->args[j]?=some v->Value.okWide prog W .any base t v:=hval0;have hW':=hW;obtain⟨p,q,hA0,hV,rfl,hfz,hnd⟩:=hW;have hA:DataW.TrodAll enc prog W 0 (fun _=>true) true Tryz.f14.params.toList args.toList ds p:=hA0;rw[params14]at hA hval;obtain⟨v0,vs0,d0,ds0,p0,q0,hargs,rfl,rfl,h0,r0⟩:=trodAll_cons hA;obtain⟨rfl,rfl,rfl⟩:=trodAll_nil r0;obtain rfl:args=#[v0]:=by cases args;simp_all
 obtain⟨a0,c0,l0,rfl,R0,H0⟩:=PF (hval 0 _ v0 rfl rfl) h0;refine(Sc a0 c0 l0 W R0 H0).calls.mono ?_;rintro e W' ⟨v,rfl,rfl,hx⟩;exact⟨_,rfl,MW PE U U underlying4 (fun ds h=>match ds,h with | [_],_=>rfl) hW' hx⟩
theorem Sd:jn1 prog 14 f14 Rows.cyclesGoneSpec Rows.cyclesGoneRow=true:=by kernel_rfl
theorem Se:jn2 prog 14 f14 Rows.cyclesGoneSpec Rows.cyclesGoneRow=true:=by kernel_rfl
theorem Sf:jn3 prog 14 f14 Rows.cyclesGoneSpec Rows.cyclesGoneRow=true:=by kernel_rfl
theorem Sg:jn4 prog 14 f14 Rows.cyclesGoneSpec Rows.cyclesGoneRow=true:=by kernel_rfl
theorem Sh:jn5 prog 14 f14 Rows.cyclesGoneSpec Rows.cyclesGoneRow=true:=by kernel_rfl
theorem Si:joinedFacts prog 14 f14 Rows.cyclesGoneSpec Rows.cyclesGoneRow=true:=LF Sd Se Sf Sg Sh
theorem cyclesGone_holds:Rows.CyclesGoneSaid :=
 OpenClaim.holds_of_wide 14 f14 rfl rfl rfl rfl rfl rfl rfl ⟨rfl,rfl,rfl,rfl,rfl⟩ rfl rfl rfl rfl rfl (by kernel_rfl) func14 Si
  (qbd (by kernel_rfl)) (by unfold Func.isWrapper;rw[if_neg (qbk (by kernel_rfl))];exact⟨rfl,rfl⟩)
  (fun os started H enc _=>N8 os started H enc)
#print axioms cyclesGone_holds
end Go.Proofs.YtdagmpmdcgedcaaGreat
