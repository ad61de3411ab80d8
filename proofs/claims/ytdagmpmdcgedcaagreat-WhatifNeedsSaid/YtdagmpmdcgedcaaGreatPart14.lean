/- Part 14 of the proof. The last text: WhatifNeeds: for every input the law answers true, and turns nothing. -/
import Derived.Test.YtdagmpmdcgedcaaGreatPart13
set_option maxRecDepth 20000
set_option maxHeartbeats 8000000
namespace Go.Proofs.YtdagmpmdcgedcaaGreat
open Go.GV Go.Proofs.Tryz
attribute [local irreducible] AN W Wq Wt
structure ArZ where
 i:Nat
 arch:List Value
theorem Ak9{s:Ld}(hok:s.Ok)(a:Option Addr)(c:Nat)(qs:List RSl)(w:World)(R:Rd w a 8 Wd (s.rn.zip qs))(hq:qs.length=s.rn.length)(K:∀x∈s.rn.zip qs,RAt w x.1 x.2) :
  Ret prog 80 #[.slice a s.rn.length c,.int .u64 s.no] w fun v w'=>∃b arch,v=.tuple #[ptr b,.int .i64 0]/\Ctx w [] w' [(b,Bl 168 arch)]/\arch.length=34/\arch[32]?=some (.int .u64 s.rn.length)/\arch[33]?=some (.int .u64 s.no) /\
   ∀r∈s.rn,∃q,(∀j v,(BD r q)[j]?=some v->arch[(r.no % 4).toNat*8+j]?=some v)/\RAt w' r q/\ROff q r (fun x=>x<w.heap.size\/x=b):=by
 obtain⟨w0,rfl,H⟩:=qE w;obtain⟨hk4,hkn,hkm⟩:=hok.kept;have hzl:(s.rn.zip qs).length=s.rn.length:=by rw[qcx];omega
 refine A2 (fn:=f80) func80 U [.slice a s.rn.length c,.int .u64 s.no] U (Ad (BE U (Af U (qA (Ad (Ao U (AU KZ U (E0 U NY FD ?_))))))));refine Af U (qA (Ap (Ax (Ad (Ae U (Cp U U (Ai U (qA (Av _ U ?_ ?_)))))))))
 .intro h1;replace h1:=AJ h1;omega
 .intro h1;replace h1:=AK h1;refine Ap (Ad (Ae U (Cp U U (Ai U (qA (Dc 16 U ?_ ?_))))))
  .intro h2;replace h2:=AJ h2;omega
  .intro h2;replace h2:=AK h2;refine Ay (Ae U (Ae U (AZ U U (Ai U (qA (Dc 16 U ?_ ?_))))))
   .intro h3;replace h3:=AJ h3;omega
   .intro h3;replace h3:=AK h3;refine Aq (A7 (Aa (Ad (Bz Pe Aea Aek ?_))));refine Bu Pe (.agg _) U U H ?_;rintro b w - H;refine BE U (qA (Ap (Ad (Ao U (AU KZ U (Ae U (qA (Ax (Bn 1125899839734576 (α:=ArZ) (fun t=>[(26,.int .i64 (t.i:Int))]) (fun t w'=>t.i<=s.rn.length/\t.arch.length=34/\t.arch[32]?=some (.int .u64 t.i)/\(∀(j:Nat) (r:Rnd),j<t.i->s.rn[j]?=some r->∃q,(∀l v,(BD r q)[l]?=some v->t.arch[(r.no % 4).toNat*8+l]?=some v)/\RAt w' r q/\ROff q r (fun x=>x<w0.heap.size\/x=b))/\Ctx w0 [] w' [(b,Bl 168 t.arch)]) (fun t=>s.rn.length - t.i) ⟨0,Pe⟩ U ?_ ?_ ?_)))))))))
    .exact⟨rfl,trivial⟩
    .exact⟨qaf _,rfl,rfl,fun j r h=>absurd h (qaw _),H⟩
    .clear H;rintro⟨i,arch⟩ j w ⟨hi,hal,han,hK,HR⟩;dsimp only at hi hal han hK HR;dsimp only;obtain⟨w1,rfl⟩:=qD w;have H:=Ctx.start1 (HR.get at0);have hbl1:=Bf (HR.get at0);have hs01:=HR.size;refine Ad (AZ U U (qA (Ap (Av _ U ?_ ?_))))
     .intro h4;replace h4:=AJ h4;obtain⟨r,hr⟩:=AB (l:=s.rn) (i:=i);obtain⟨q,hqi⟩:=AB (l:=qs) (i:=i);have hx:(s.rn.zip qs)[i]?=some (r,q):=qc8.2 ⟨hr,hqi⟩;have RA:=(K _ (qac hx)).ext0 HR.ext;have hoffb:ROff q r (·∈[b]):=(K _ (qac hx)).lt.mono fun x hm=>by rw[qab.1 hm];exact(HR.own _ (qaj ..)).elim (fun h=>by cases h) id
      have hrn:=hok.nos i r hr;have hmay:=hok.may r (qac hr);have hB:=PD hmay;refine Aq (Aa (Ap (Ax (Ad (Ae U (AM (R.ext0 HR.ext) KZ Dv U U (by omega) ?_))))));refine Ca _ Gm Dv U U (((R.ext0 HR.ext).row hx U)) (AX GA H ?_);rintro b9 w - H;refine Af U (Bi Dv U U U (by exact(by simp[AS])) H at0 U ?_);rintro w H;refine qA (Ap (Ad (B9 (α:=Unit) 70366596694016 (fun _=>[(45,.bool (false))]) (fun _ w'=>Ctx w1 [b] w' [(b9,Bl 55 (BD r q)),(b,Bl 168 arch)]) U ?_ ?_)))
      .refine BV Gm Dv U H at0 U (Am qB (Zr r q _ (RA.ext H.ext hoffb) hB) U ?_);rintro v w ⟨rfl,hx32⟩;rw[hmay];replace H:=H.call hx32;refine B1 U (Au U (AE 34 U ?_ ?_))
       .intro h1;replace h1:=Bv h1;refine Ag U (Ag U (Ag U (Ag U (Ag U (Ag U (Ag U (Ag U (Ag U (Ag U ?_)))))))));refine A8 U (.bool _) U (Ab ?_);exact⟨rfl,(),rfl,⟨qaa Value.bool (by contradiction),trivial⟩,H⟩
       .intro h2;replace h2:=Bw h2;refine Ah Io U (AG BL U H at0 U (Ae U (Ae U (Mv U U U ?_))));refine EE U U (Ae U (E0 U NY FD ?_));refine EE U U (C0 U U (AA U (.bool _) U (Ab ?_)));exact⟨rfl,(),rfl,⟨qaa Value.bool (by(rw[hrn];simp)),trivial⟩,H⟩
      rintro - j45 w H;refine D5 U (Aq (Aa (Ay (A9 U (BV Gm Dv U H at0 U ?_)))));have hlb:=Bf (H.get at1);have hsw:=H.size;refine Am qB (Zt (n:=i) r q _ (RA.ext H.ext hoffb) hB (H.get at1) hal han (by omega) (by omega)) U ?_;rintro v w ⟨q',H2,RA',hoff⟩;refine Ab (A7 (Aa (Ay (Aw U U ?_))));refine Ae U (qA ?_);have HX:=(Ctx.back (L1:=[(b,Bl 168 arch)]) (L2:=[]) H.tail.app_nil H2).nil_app;refine⟨⟨i+1,JR arch i r q'⟩,rfl,⟨rfl,trivial⟩,⟨by dsimp only;omega,by dsimp only;rw[Zu];exact hal,by dsimp only;rw[Amk hal,show min (i+1) 4=i+1 by omega],fun l r2 hl hr2=>?_,(Ctx.back (L1:=[(b,Bl 168 arch)]) (L2:=[]) HR.app_nil HX).nil_app⟩,by dsimp only;omega⟩;dsimp only at hl |-
      rcases qap l i with h5|h5
      .obtain⟨q2,g1,g2,g3⟩:=hK l r2 h5 hr2;have hrn2:=hok.nos l r2 hr2;have g4:ROff q2 r2 (·∈[b]):=g3.mono fun x hm => .inr (qab.1 hm);exact⟨q2,fun l' v' hv=>Zv _ (by omega) hv (g1 l' v' hv),g2.ext HX.ext g4,g3⟩
      .obtain rfl:l=i:=by omega
       rw[hr]at hr2;cases hr2;exact⟨q',fun l' v' hv=>Ahj hal _ hv,RA',hoff.mono fun x hx=>hx.elim (fun h=>by omega) fun h=>by rw[h];exact hlb⟩
     .intro h4;replace h4:=AK h4;obtain rfl:i=s.rn.length:=by omega
      refine Be (Aj (Aj (AH (Aa (Ad (A9 U (Ae U (AP U (Ah FV U (Cz (.int _ _) Bx U U U H at0 (by(simp;omega)) ?_))))))))));rintro w H;refine qA (Ad (A9 U (BE U (Af U (qA (A6 (BG (v1:=(.pointer _)) (v2:=(.int _ _)) U U U U ?_)))))));refine⟨b,_,rfl,(Ctx.back (L1:=[(b,Bl 168 arch)]) (L2:=[]) HR.app_nil H).nil_app,?_,?_,?_,fun r hr=>?_⟩
      .rw[qb4];exact hal
      .rw[qbo (by decide)];exact han
      .rw[qc1 (by rw[hal];decide)]
      .obtain⟨l,hl⟩:=qbl.1 hr;obtain⟨q,g1,g2,g3⟩:=hK l r (Cb hl) hl;have h3:0<=r.no % 4/\r.no % 4<4:=⟨qdb _ (by decide),qdc _ (by decide)⟩;refine⟨q,fun l' v' hv=>?_,g2.ext H.ext (g3.mono fun x hm => .inr (qab.1 hm)),g3⟩;have hl8:l'<8:=Cb hv;rw[qbo (by omega)];exact g1 l' v' hv
theorem Ara{s:Ld}(hok:s.Ok)(hdy:∀r∈s.rn,r.day<=s.day)(z:StZ)(w:World)(Z:StAt w s z) :
  Ret prog 30 #[.agg (stC s z).toArray] w fun v w'=>∃m,v=.tuple #[ptr m.bl,.int .i64 0]/\Ctx w [] w' (LL m s)/\LdIn w' m s (fun x=>x∈Di m s\/x<w.heap.size):=by
 obtain⟨w0,rfl,H⟩:=qE w;have h16:=(Cr.1 hok.ac).1;obtain⟨h64,hnx,-,-⟩:=D3 hok.du;have hkn:=GQ hok.du;have h4:=hok.kept.1;refine A2 (fn:=f30) func30 U [.agg (stC s z).toArray] U (Ad (Bu (stC s z) (.agg _) U U H ?_));rintro b1 w - H;refine BE U (Af U (qA (Ad (Ah El U (AG E3 U H at0 U (Am qB (Aqh z.aA _ z.cA s.acs _ (Z.A.ext0 H.ext) U) U ?_))))));rintro v w ⟨pA,rfl,-,hA,hx16⟩;obtain⟨ba,aA,cA,fA,rfl,hba,OA,hbA,hbaw⟩:=hA hok.ac;replace H:Ctx w0 [] w ((b1,Bl 32 (stC s z))::((ba,Bl 162 [.slice aA s.acs.length cA])::ent aA 43 fA)):=H.callEnt (E:=(ba,Bl 162 [.slice aA s.acs.length cA])::ent aA 43 fA) hx16 (fun x hx=>(qag.1 hx).elim (fun h=>by rw[h];exact⟨hba,hbaw⟩) fun h=>⟨(hbA x h).1,(hbA x h).2.1⟩) (qbb.2 ⟨fun x hx=>Ne.symm (hbA x hx).2.2,FM⟩)
 refine BN U (AF U U (AF U U (BE U (Af U (qA (Ap (Ad (Ae U (C0 U U ?_)))))))));refine qA (Av _ U ?_ ?_)
 .intro h1;replace h1:=CC h1;exact absurd hok.ac h1
 .intro h1;replace h1:=CD h1;refine Aq (Aa (Ad (Ah EI U (AG Gj U H at0 U (Ah Ai0 U (AG BL U H at0 U (Am qB (Afq z.aD _ z.cD s.ds s.nx _ (Z.D.ext0 H.ext) U (fun d hd=>by have:=(hkn.1 d hd).2;omega)) U ?_)))))));rintro v w ⟨pD,rfl,-,hD,hx27⟩;obtain⟨bd,b,o,rfl,hbd,hb,hM,hbdw,hbw,hne⟩:=hD hok.du;replace H:=H.callEnt (E:=[(bd,Bl 165 (DU b s.nx)),(b,o)]) hx27 (fun x hx=>by simp only[qag,qar,or_false]at hx;rcases hx with rfl|rfl;exact⟨hbd,hbdw⟩;exact⟨hb,hbw⟩) (by simpa using hne);refine BN U (AF U U (AF U U (BE U (Af U (qA (Ap (Ad (Ae U (C0 U U ?_)))))))));refine qA (Av _ U ?_ ?_)
  .intro h2;replace h2:=CC h2;exact absurd hok.du h2
  .intro h2;replace h2:=CD h2;refine Aq (Aa (Ad (Ah Na U (AG Vo U H at0 U (Ah Ai1 U (AG BL U H at0 U ?_))))));have hsz:=H.size;have hlt:∀x∈(((b1,Bl 32 (stC s z))::((ba,Bl 162 [.slice aA s.acs.length cA])::ent aA 43 fA))++[(bd,Bl 165 (DU b s.nx)),(b,o)]),x.1<w.heap.size:=fun x hx=>Bf (H.blk x hx);refine Am qB (Ak9 hok z.aR z.cR z.qs _ (Z.R.ext0 H.ext) Z.n (fun x hx=>(Z.K x hx).ext0 H.ext)) U ?_;rintro v w ⟨br,arch,rfl,HA,hal,han,hno,hK⟩;replace H:=Ctx.back (L1:=[]) (L2:=((b1,Bl 32 (stC s z))::((ba,Bl 162 [.slice aA s.acs.length cA])::ent aA 43 fA))++[(bd,Bl 165 (DU b s.nx)),(b,o)]) H HA;refine BN U (AF U U (AF U U (BE U (Af U (qA (Ap (Ad (Ae U (C0 U U ?_)))))))));refine qA (Av _ U ?_ ?_)
   .intro h3;replace h3:=CC h3;exact absurd U h3
   .intro h3;replace h3:=CD h3;have hb1:=H.get at1;have H4:=H;obtain⟨w4,rfl⟩:=qD w;clear H;have H:=Ctx.start w4 [];refine Aq (Aa (Ad (A9 U (A9 U (A9 U (Ah Uk U (Ba Bm U ((by rw[An (H.ext.to hb1 (by simp))];rfl)) ?_)))))));refine Bz [ptr ba,ptr bd,ptr br,.int .i64 s.day] Ad7 Aeg (Bu [ptr ba,ptr bd,ptr br,.int .i64 s.day] (.agg _) U U H ?_);rintro bl w - H;refine BE U (qA (Ap (Ad (Ah EI U (Ba Gj U ((by rw[An (H.ext.to hb1 (by simp))];rfl)) ?_)))));refine AU BT U (Ae U (qA (Ax ?_)));have hblw:w4.heap.size<=bl:=(H.own _ (qaj ..)).elim (fun h=>by cases h) id;have hblh:=H.get at0;have E45:=H.ext;have HH:=Ctx.back (L1:=[]) (L2:=(br,Bl 168 arch)::(((b1,Bl 32 (stC s z))::((ba,Bl 162 [.slice aA s.acs.length cA])::ent aA 43 fA))++[(bd,Bl 165 (DU b s.nx)),(b,o)])) H4 H
    have H1:=(HH.perm (qbu (l₁:=[_,_]))).tail;have HL:Ctx w0 [] w (LL ⟨bl,ba,bd,br,b,aA,cA,fA,o,arch⟩ s):=H1.perm (List.Perm.cons _ (List.Perm.cons _ (List.Perm.cons _ (qde (l₂:=[_,_])))));have hb1':=E45.to hb1 (by simp);have hba1:=HL.get at2;have RA1:Rd w aA 2 Dm s.acs:=OS.rd (t:=43) OA (fun y hy=>HL.blk y (qa0 [_,_,_,_,_] hy)) (fun _ _=>rfl) (by decide);clear H H1 HH;obtain⟨w5,rfl,H⟩:=qE w;refine Bn 2361165227036313125900 (α:=Nat) (fun i=>[(54,.int .i64 (i:Int))]) (fun i w'=>i<=s.ds.length/\Ctx w5 [] w' []) (fun i=>s.ds.length - i) 0 U ?_ ?_ ?_
    .exact⟨rfl,trivial⟩
    .exact⟨qaf _,H⟩
    .clear H;rintro i j w ⟨hi,H⟩;refine Ad (AZ U U (qA (Ap (Av _ U ?_ ?_))))
     .intro h5;replace h5:=AJ h5;obtain⟨d,hd⟩:=AB (l:=s.ds) (i:=i);have hdb:=hok.bk d (qac hd);have hdm:=C4 (hkn.1 d (qac hd)).1;have hif:inA s.acs d.fr=true:=Fa.2 ⟨by omega,hdb.1⟩;have hit:inA s.acs d.to=true:=Fa.2 ⟨by omega,hdb.2⟩;refine Aq (Aa (Ap (Ax (Ad (AM (Z.D.ext0 (HL.ext.trans H.ext)) BT BC U U (by rfl) ?_)))));refine Ca _ EF BC U U (((Z.D.ext0 (HL.ext.trans H.ext)).row hd U)) (AX DR H ?_);rintro b10 w - H;refine Bi BC U U U (by exact Dt _) H at0 U ?_;rintro w H;refine qA ?_;replace H:Ctx w5 [] w [(b10,Bl 67 (CM d))]:=H;refine Ad (B9 (α:=Unit) 1180303390341259591680 (fun _=>[(69,.bool (false))]) (fun _ w'=>Ctx w5 [] w' [(b10,Bl 67 (CM d))]) U ?_ ?_)
      .refine A9 U (Ah Dk U (AG B6 U H at0 U (Am qB (N3 d.fr _ (H.ext.to hblh (by simp)) (H.ext.to hba1 (by simp)) (RA1.ext0 H.ext)) U ?_)));rintro v w ⟨rfl,hx61⟩;rw[hif];replace H:=H.call hx61;refine B1 U (Au U (AE 63 U ?_ ?_))
       .intro h1;replace h1:=Bv h1;refine Ag U (Ag U (Ag U (Ag U (Ag U (A8 U (.bool _) U (Ab ?_))))));exact⟨rfl,(),rfl,⟨qaa Value.bool (by contradiction),trivial⟩,H⟩
       .intro h2;replace h2:=Bw h2;refine A9 U (Ah D7 U (AG B6 U H at0 U (Am qB (N3 d.to _ (H.ext.to hblh (by simp)) (H.ext.to hba1 (by simp)) (RA1.ext0 H.ext)) U ?_)));rintro v w ⟨rfl,hx67⟩;rw[hit];replace H:=H.call hx67;refine B1 U (AA U (.bool _) U (Ab ?_));exact⟨rfl,(),rfl,⟨qaa Value.bool (by rfl),trivial⟩,H⟩
      rintro - j69 w H;refine D5 U (Aq (A7 (Aa (Ay (Aw U U ?_)))));refine Ae U (qA ?_);exact⟨i+1,rfl,⟨rfl,trivial⟩,⟨by omega,H.tail⟩,by omega⟩
     .intro h5;replace h5:=AK h5;refine Be (Aj (Aj (AH (Aa (Ap (Ad (Ah Na U (Ba Vo U ((by rw[An (H.ext.to hb1' (by simp))];rfl)) ?_))))))));refine AU KZ U (Ae U (qA (Ax (Bn 19323923647902588214448140 (α:=Nat) (fun i=>[(74,.int .i64 (i:Int))]) (fun i w'=>i<=s.rn.length/\Ctx w5 [] w' []) (fun i=>s.rn.length - i) 0 U ?_ ?_ ?_))))
      .exact⟨rfl,trivial⟩
      .exact⟨qaf _,H⟩
      .clear H;rintro q j2 w ⟨hq,H⟩;have hzl:(s.rn.zip z.qs).length=s.rn.length:=by rw[qcx,Z.n,qd4]
       refine Ad (AZ U U (qA (Ap (Av _ U ?_ ?_))))
       .intro h6;replace h6:=AJ h6;obtain⟨r,hr⟩:=AB (l:=s.rn) (i:=q);obtain⟨qq,hqq⟩:=AB (l:=z.qs) (i:=q) (h:=by rw[Z.n];omega);have hx:(s.rn.zip z.qs)[q]?=some (r,qq):=qc8.2 ⟨hr,hqq⟩;have hrd:=hdy r (qac hr);refine Aq (Aa (Ap (Ax (Ad (AM (Z.R.ext0 (HL.ext.trans H.ext)) KZ Dv U U (by omega) ?_)))));refine Ca _ Gm Dv U U (((Z.R.ext0 (HL.ext.trans H.ext)).row hx U)) (AX GA H ?_);rintro b12 w - H;refine Bi Dv U U U (by exact(by simp[AS])) H at0 U ?_;rintro w H;refine qA ?_;replace H:Ctx w5 [] w [(b12,Bl 55 (BD r qq))]:=H;refine Ad (Ah Pz U (AG Bm U H at0 U (Ah Uk U (Ba Bm U ((by rw[An (H.ext.to hb1' (by simp))];rfl)) ?_))));refine Cp U U (qA (Av _ U ?_ ?_))
        .intro h7;replace h7:=AJ h7;omega
        .intro h7;replace h7:=AK h7;refine Aq (A7 (Aa (Ay (Aw U U ?_))));refine Ae U (qA ?_);exact⟨q+1,rfl,⟨rfl,trivial⟩,⟨by omega,H.tail⟩,by omega⟩
       .intro h6;replace h6:=AK h6;have hday:=hok.day;refine Be (Aj (Aj (AH (Aa (Ap (Ad (Ah Uk U (Ba Bm U ((by rw[An (H.ext.to hb1' (by simp))];rfl)) ?_))))))));refine AZ U U (qA (Av _ U ?_ ?_))
        .intro h7;replace h7:=AJ h7;omega
        .intro h7;replace h7:=AK h7;refine Aq (Aa (Ad (A9 U (BE U (Af U (qA (A6 (BG (v1:=(.pointer _)) (v2:=(.int _ _)) U U U U ?_))))))));have HF:=HL.call H.ext;refine⟨⟨bl,ba,bd,br,b,aA,cA,fA,o,arch⟩,rfl,HF,OA,hM,hok,hal,han,hno,fun r hr=>?_,fun x hx => .inl hx,fun x hx=>?_⟩
         .obtain⟨qq,g1,g2,g3⟩:=hK r hr;refine⟨qq,g1,(g2.ext0 E45).ext0 H.ext,(g3.or g2.lt).mono fun x hx=>?_⟩
          rcases hx with hx|hx
          .obtain⟨y,hy,rfl⟩:=qah.1 hx;simp only[qag]at hy
           rcases hy with rfl|rfl|rfl|rfl|rfl|hy
           .exact .inr hblw
           .exact .inl (.inr U)
           .exact .inl (.inl (hlt _ (by simp)))
           .exact .inl (.inl (hlt _ (by simp)))
           .exact .inl (.inl (hlt _ (by simp)))
           .exact .inl (.inl (hlt y (by simp[hy])))
          .exact .inl (.inl (qa3 hx hsz))
         .rcases hx with hx|hx
          .obtain⟨y,hy,rfl⟩:=qah.1 hx;exact Bf (HF.blk y hy)
          .exact qa3 hx HF.size
def Jo(ds:List Du)(k i:Nat):Int:=Ch ((ds.take i).map fun d=>if d.fr=(k:Int)/\d.held=false then d.am else 0)
def Jp(acs:List Ac)(ds:List Du)(k:Nat):Int:=max ((acs.getD k a00).re - (acs.getD k a00).ba+Jo ds k ds.length) 0
def JS(acs:List Ac)(k:Int):Int:=if inA acs k=true then 0 else 10
def JT(acs:List Ac)(ds:List Du)(k:Int):Int:=if inA acs k=true then Jp acs ds k.toNat else 0
theorem Oz{ds:List Du}{k i:Nat}{d:Du}(h:ds[i]?=some d):Jo ds k (i+1)=Jo ds k i+(if d.fr=(k:Int)/\d.held=false then d.am else 0):=by
 unfold Jo;rw[JM h,ES,BJ,show Ch ([]:List Int)=0 from rfl,qca]
theorem JU{ds:List Du}{k:Nat}(ham:∀d∈ds,0<=d.am/\d.am<=4503599627370496):∀i,i<=ds.length->0<=Jo ds k i/\Jo ds k i<=4503599627370496*(i:Int)
 |0,_=>⟨qav _,qav _⟩
 |i+1,h=>by
  have ih:=JU (k:=k) ham i (by omega);obtain⟨d,hd⟩:=AB (l:=ds) (i:=i);have h1:=ham d (qac hd);rw[Oz hd]
  split <;> omega
theorem NA{v0 v3 v4 v5 v6:Value}(a b:Option Addr)(c e:Nat)(acs:List Ac)(ds:List Du)(k:Int)(w:World)(R:Rd w a 2 Dm acs)(R':Rd w b 7 CM ds)(hb:∀x∈acs,(0<=x.ba/\x.ba<=4503599627370496)/\0<=x.re/\x.re<=4503599627370496)(ham:∀d∈ds,0<=d.am/\d.am<=4503599627370496)(ho:AS v0=true/\AS v3=true/\AS v4=true/\AS v5=true/\AS v6=true)(_h1:acs.length<=1000000:=by omega)(h2:ds.length<=100:=by omega):
  Ret prog 38 #[.agg #[v0,.slice a acs.length c,.slice b ds.length e,v3,v4,v5,v6],.int .i64 k] w fun v w'=>v=.tuple #[.int .i64 (JT acs ds k),.int .i64 (JS acs k)]/\Ext [] w w':=by
 obtain⟨w0,rfl,H⟩:=qE w;obtain⟨o0,o3,o4,o5,o6⟩:=ho;refine A2 (fn:=f38) func38 U [.agg #[v0,.slice a acs.length c,.slice b ds.length e,v3,v4,v5,v6],.int .i64 k] U (Ad (Bu [v0,.slice a acs.length c,.slice b ds.length e,v3,v4,v5,v6] (.agg _) U U H ?_));rintro b2 w - H;refine Af U (Af U (qA (Ap (Ad (B9 (α:=Unit) 261632 (fun _=>[(17,.bool (!(inA acs k)))]) (fun _ w'=>Ctx w0 [] w' [(b2,Bl 32 [v0,.slice a acs.length c,.slice b ds.length e,v3,v4,v5,v6])]) U ?_ ?_)))))
 .refine Ae U (AZ U U (Au U (AE 11 U ?_ ?_)))
  .intro h1;replace h1:=AJ h1;refine Ag U (Ag U (Ag U (Ag U (Ag U (A8 U (.bool _) U (Ab ?_))))));exact⟨rfl,(),rfl,⟨qaa Value.bool (by unfold inA;rw[qad];simp;omega),trivial⟩,H⟩
  .intro h2;replace h2:=AK h2;refine Ae U (Ah El U (AG E3 U H at0 U (AU Dz U (Cq U U (AA U (.bool _) U (Ab ?_))))));exact⟨rfl,(),rfl,⟨qaa Value.bool (by unfold inA;rw[qad];simp;omega),trivial⟩,H⟩
 rintro - j17 w H;refine Av _ U ?_ ?_
 .intro h3;replace h3:=Bv h3;have hf:inA acs k=false:=by simpa using h3
  refine Ad (Af U (Af U (qA (A6 (Al (BG (v1:=(.int _ _)) (v2:=(.int _ _)) U U U U ?_))))));refine⟨?_,H.ext⟩;unfold JT JS;rw[hf];rfl
 .intro h3;replace h3:=Bw h3;have hf:inA acs k=true:=by simpa using h3
  have hki:=Fa.1 hf;have hka:((k.toNat:Nat):Int)=k:=by omega
  obtain⟨x,hx⟩:=AB (l:=acs) (i:=k.toNat);have hxb:=hb x (qac hx);have hb2:=H.get at0;refine Aq (Aa (CN (fun x=>x=_) Bs U ?_));refine A3 El U (BS E3 U (by rintro _ rfl;exact H.drew) at0 U ?_);refine AY U (Bo R Dz DP U U (by rfl) ?_);refine A3 Hn U (BF Bm U (by rintro _ rfl;exact(((R.ext0 H.drew.ext).fld hx rfl (j:=1) rfl))) ?_);refine A3 El U (BS E3 U (by rintro _ rfl;exact H.drew) at0 U ?_);refine AY U (Bo R Dz DP U U (by rfl) ?_);refine A3 Ex U (BF Bm U (by rintro _ rfl;exact(((R.ext0 H.drew.ext).fld hx rfl (j:=0) rfl))) ?_);refine Dp U U (C6 U (BM ?_));rintro _ rfl;replace H:=H.drew;refine Ap (Ad (Ah EI U (AG Gj U H at0 U (AU BT U (Ae U (qA (Ax ?_)))))));obtain⟨w1,hw1⟩:=qD w.drew;rw[<-hw1]at H |-;have H8:=H
  clear H;have H:=Ctx.start w1 [];refine Bn 4503582447501632 (α:=Nat) (fun i=>[(6,.int .i64 (x.re - x.ba+Jo ds k.toNat i)),(34,.int .i64 (i:Int))]) (fun i w'=>i<=ds.length/\Ctx w1 [] w' []) (fun i=>ds.length - i) 0 U ?_ ?_ ?_
  .exact⟨by rw[show Jo ds k.toNat 0=0 from rfl,qca];rfl,rfl,trivial⟩
  .exact⟨qaf _,H⟩
  .clear H;rintro i j w ⟨hi,H⟩;refine Ad (AZ U U (qA (Ap (Av _ U ?_ ?_))))
   .intro h4;replace h4:=AJ h4;obtain⟨d,hd⟩:=AB (l:=ds) (i:=i);have hst:=Oz (k:=k.toNat) hd;rw[hka]at hst;have hs1:=JU (k:=k.toNat) ham i hi;have hs2:=JU (k:=k.toNat) ham (i+1) (by omega);have hda:=ham d (qac hd);refine Aq (Aa (Ap (Ax (Ad (AM (R'.ext0 (H8.ext.trans H.ext)) BT BC U U (by rfl) ?_)))));refine Ca _ EF BC U U (((R'.ext0 (H8.ext.trans H.ext)).row hd U)) (AX DR H ?_);rintro b8 w - H;refine Bi BC U U U (by exact Dt _) H at0 U ?_;rintro w H;refine qA ?_;replace H:Ctx w1 [] w [(b8,Bl 67 (CM d))]:=H;refine Ad (B9 (α:=Unit) 140462610448384 (fun _=>[(46,.bool ((decide (d.fr=k) && !d.held)))]) (fun _ w'=>Ctx w1 [] w' [(b8,Bl 67 (CM d))]) U ?_ ?_)
    .refine Ah Dk U (AG B6 U H at0 U (Ae U (Cj U U (Au U (AE 42 U ?_ ?_)))))
     .intro h3;replace h3:=AJ h3;refine Ah F6 U (AG HI U H at0 U (B1 U (A8 U (.bool _) U (Ab ?_))));exact⟨rfl,(),rfl,⟨qaa Value.bool (by(simp_all;done)),trivial⟩,H⟩
     .intro h4;replace h4:=AK h4;refine Ag U (Ag U (Ag U (AA U (.bool _) U (Ab ?_))));exact⟨rfl,(),rfl,⟨qaa Value.bool (by(simp_all;done)),trivial⟩,H⟩
    rintro - j46 w H;refine Av _ U ?_ ?_
    .intro h5;have h5':d.fr=k/\d.held=false:=by simpa using h5
     rw[if_pos h5']at hst;refine Ay (Ae U (Ah Dl U (AG Bm U H at0 U (Aw U U ?_))));refine Af U (Ab (A7 (Aa (Ay (Aw U U ?_)))));refine Ae U (qA ?_);exact⟨i+1,rfl,⟨qaa (Value.int .i64) (by rw[hst];omega),rfl,trivial⟩,⟨by omega,H.tail⟩,by omega⟩
    .intro h5;have h5':¬(d.fr=k/\d.held=false):=fun hh=>by rw[hh.1,hh.2]at h5;simp at h5
     rw[if_neg h5',qca]at hst;refine Aq (A7 (Aa (Ay (Aw U U ?_))));refine Ae U (qA ?_);exact⟨i+1,rfl,⟨qaa (Value.int .i64) (by rw[hst]),rfl,trivial⟩,⟨by omega,H.tail⟩,by omega⟩
   .intro h4;replace h4:=AK h4;obtain rfl:i=ds.length:=by omega
    refine Be (Aj (Aj (AH (Aa (Ad (Ae U (Jc U U ?_)))))));refine Af U (Af U (qA (A6 (BG (v1:=(.int _ _)) (v2:=(.int _ _)) U U U U ?_))));refine⟨?_,H8.ext.trans H.ext⟩;unfold JT JS Jp;rw[if_pos hf,if_pos hf,Br hx]
theorem TO{v0 v3 v4 v5 v6:Value}(a b:Option Addr)(c e:Nat)(acs:List Ac)(ds:List Du)(k:Int)(w:World)(R:Rd w a 2 Dm acs)(R':Rd w b 7 CM ds)(hb:∀x∈acs,(0<=x.ba/\x.ba<=4503599627370496)/\0<=x.re/\x.re<=4503599627370496)(ham:∀d∈ds,0<=d.am/\d.am<=4503599627370496)(ho:AS v0=true/\AS v3=true/\AS v4=true/\AS v5=true/\AS v6=true)(_h1:acs.length<=1000000:=by omega)(h2:ds.length<=100:=by omega):
  Ret prog 39 #[.agg #[v0,.slice a acs.length c,.slice b ds.length e,v3,v4,v5,v6],.int .i64 k] w fun v w'=>v=.tuple #[.int .i64 (JT acs ds k),.int .i64 (JS acs k)]/\Ext [] w w':=by
 obtain⟨w0,rfl,H⟩:=qE w;obtain⟨o0,o3,o4,o5,o6⟩:=ho;refine A2 (fn:=f39) func39 U [.agg #[v0,.slice a acs.length c,.slice b ds.length e,v3,v4,v5,v6],.int .i64 k] U (Ad (Bu [v0,.slice a acs.length c,.slice b ds.length e,v3,v4,v5,v6] (.agg _) U U H ?_));rintro b2 w - H;refine Af U (Af U (qA (Ap (Ad (B9 (α:=Unit) 130816 (fun _=>[(16,.bool (!(inA acs k)))]) (fun _ w'=>Ctx w0 [] w' [(b2,Bl 32 [v0,.slice a acs.length c,.slice b ds.length e,v3,v4,v5,v6])]) U ?_ ?_)))))
 .refine Ae U (AZ U U (Au U (AE 10 U ?_ ?_)))
  .intro h1;replace h1:=AJ h1;refine Ag U (Ag U (Ag U (Ag U (Ag U (A8 U (.bool _) U (Ab ?_))))));exact⟨rfl,(),rfl,⟨qaa Value.bool (by unfold inA;rw[qad];simp;omega),trivial⟩,H⟩
  .intro h2;replace h2:=AK h2;refine Ae U (Ah El U (AG E3 U H at0 U (AU Dz U (Cq U U (AA U (.bool _) U (Ab ?_))))));exact⟨rfl,(),rfl,⟨qaa Value.bool (by unfold inA;rw[qad];simp;omega),trivial⟩,H⟩
 rintro - j16 w H;refine Av _ U ?_ ?_
 .intro h3;replace h3:=Bv h3;have hf:inA acs k=false:=by simpa using h3
  refine Ad (Af U (Af U (qA (A6 (Al (BG (v1:=(.int _ _)) (v2:=(.int _ _)) U U U U ?_))))));refine⟨?_,H.ext⟩;unfold JT JS;rw[hf];rfl
 .intro h3;replace h3:=Bw h3;have hf:inA acs k=true:=by simpa using h3
  have hki:=Fa.1 hf;have hka:((k.toNat:Nat):Int)=k:=by omega
  obtain⟨x,hx⟩:=AB (l:=acs) (i:=k.toNat);have hxb:=hb x (qac hx);have hb2:=H.get at0;refine Aq (Aa (CN (fun x=>x=_) Bs U ?_));refine A3 El U (BS E3 U (by rintro _ rfl;exact H.drew) at0 U ?_);refine AY U (Bo R Dz DP U U (by rfl) ?_);refine A3 Hn U (BF Bm U (by rintro _ rfl;exact(((R.ext0 H.drew.ext).fld hx rfl (j:=1) rfl))) ?_);refine A3 El U (BS E3 U (by rintro _ rfl;exact H.drew) at0 U ?_);refine AY U (Bo R Dz DP U U (by rfl) ?_);refine A3 Ex U (BF Bm U (by rintro _ rfl;exact(((R.ext0 H.drew.ext).fld hx rfl (j:=0) rfl))) ?_);refine Dp U U (C6 U (BM ?_));rintro _ rfl;replace H:=H.drew;refine Ap (Ad (Af U (qA (Ax ?_))));obtain⟨w1,hw1⟩:=qD w.drew
  replace hb2:w1.heap[b2]?=some (Bl 32 [v0,.slice a acs.length c,.slice b ds.length e,v3,v4,v5,v6]):=by rw[hw1];exact hb2
  rw[<-hw1]at H |-;have H8:=H;clear H;have H:=Ctx.start w1 [];refine Bn 4611686017353646272 (α:=Nat) (fun i=>[(6,.int .i64 (x.re - x.ba+Jo ds k.toNat i)),(7,.int .i64 (i:Int))]) (fun i w'=>i<=ds.length/\Ctx w1 [] w' []) (fun i=>ds.length - i) 0 U ?_ ?_ ?_
  .exact⟨by rw[show Jo ds k.toNat 0=0 from rfl,qca];rfl,rfl,trivial⟩
  .exact⟨qaf _,H⟩
  .clear H;rintro i j w ⟨hi,H⟩;refine Ap (Ad (Ae U (Ah EI U (Ba Gj U ((by rw[An (H.ext.to hb2 (by simp))];rfl)) ?_))));refine AU BT U (AZ U U (qA (Av _ U ?_ ?_)))
   .intro h4;replace h4:=AJ h4;obtain⟨d,hd⟩:=AB (l:=ds) (i:=i);have hst:=Oz (k:=k.toNat) hd;rw[hka]at hst;have hs1:=JU (k:=k.toNat) ham i hi;have hs2:=JU (k:=k.toNat) ham (i+1) (by omega);have hda:=ham d (qac hd);refine Aq (Aa (Ap (Ax (Ad (B9 (α:=Unit) 18014261070528512 (fun _=>[(53,.bool ((decide (d.fr=k) && !d.held)))]) (fun _ w'=>Ctx w1 [] w' []) U ?_ ?_)))))
    .refine Ah EI U (Ba Gj U ((by rw[An (H.ext.to hb2 (by simp))];rfl)) ?_);refine Ae U (AM (R'.ext0 (H8.ext.trans H.ext)) BT BC U U (by rfl) ?_);refine Ah Dk U (Ba B6 U (((R'.ext0 (H8.ext.trans H.ext)).fld hd U (j:=1) U)) ?_);refine Ae U (Cj U U (Au U (AE 45 U ?_ ?_)))
     .intro h3;replace h3:=AJ h3;refine Ah EI U (Ba Gj U ((by rw[An (H.ext.to hb2 (by simp))];rfl)) ?_);refine Ae U (AM (R'.ext0 (H8.ext.trans H.ext)) BT BC U U (by rfl) ?_);refine Ah F6 U (Ba HI U (((R'.ext0 (H8.ext.trans H.ext)).fld hd U (j:=6) U)) ?_);refine B1 U (A8 U (.bool _) U (Ab ?_));exact⟨rfl,(),rfl,⟨qaa Value.bool (by(simp_all;done)),trivial⟩,H⟩
     .intro h4;replace h4:=AK h4;refine Ag U (Ag U (Ag U (Ag U (Ag U (Ag U (Ag U (AA U (.bool _) U (Ab ?_))))))));exact⟨rfl,(),rfl,⟨qaa Value.bool (by(simp_all;done)),trivial⟩,H⟩
    rintro - j53 w H;refine Av _ U ?_ ?_
    .intro h5;have h5':d.fr=k/\d.held=false:=by simpa using h5
     rw[if_pos h5']at hst;refine Ay (Ae U (Ah EI U (Ba Gj U ((by rw[An (H.ext.to hb2 (by simp))];rfl)) ?_)));refine Ae U (AM (R'.ext0 (H8.ext.trans H.ext)) BT BC U U (by rfl) ?_);refine Ah Dl U (Ba Bm U (((R'.ext0 (H8.ext.trans H.ext)).fld hd U (j:=3) U)) ?_);refine Aw U U (Af U (Ab (A7 (Aa (Ay (Ae U (Aw U U ?_)))))));refine Af U (qA ?_);exact⟨i+1,rfl,⟨qaa (Value.int .i64) (by rw[hst];omega),rfl,trivial⟩,⟨by omega,H⟩,by omega⟩
    .intro h5;have h5':¬(d.fr=k/\d.held=false):=fun hh=>by rw[hh.1,hh.2]at h5;simp at h5
     rw[if_neg h5',qca]at hst;refine Aq (A7 (Aa (Ay (Ae U (Aw U U ?_)))));refine Af U (qA ?_);exact⟨i+1,rfl,⟨qaa (Value.int .i64) (by rw[hst]),rfl,trivial⟩,⟨by omega,H⟩,by omega⟩
   .intro h4;replace h4:=AK h4;obtain rfl:i=ds.length:=by omega
    refine Be (Aj (Aj (AH (Aa (Ad (Ae U (Jc U U ?_)))))));refine Af U (Af U (qA (A6 (BG (v1:=(.int _ _)) (v2:=(.int _ _)) U U U U ?_))));refine⟨?_,H8.ext.trans H.ext⟩;unfold JT JS Jp;rw[if_pos hf,if_pos hf,Br hx]
end Go.Proofs.YtdagmpmdcgedcaaGreat
namespace Go.GV
open Go
section
variable {P:Program}{e:Env}{w w0:World}{S:List Nat}{L:List (Nat × Obj)}{fn:Func}{R:Value->World->Prop}
theorem Ala{a s1 s3:Tmp}{t t2:TypeId}{b k s:Nat}{l:List Value}{v1 v3:Value}(hr:fn.results=#[.tmp s1,.cell a t,.tmp s3])(hd:e.ds=[])(h1:e.g s1=v1)(ha:e.g a=.pointer (some ⟨b,0,none⟩))(hag:DC P t=some true)(hs:Cx P t=some s)(H:Ctx w0 S w L)(hk:L[k]?=some (b,Bl t2 l))(hl:l.length=s)(h3:e.g s3=v3)(h:R (.tuple #[v1,.agg l.toArray,v3]) w):ND P fn R .ret e w :=
 ⟨hd,fun tmps ht=>by
  have hv:=Ga hag hs hl (fun j v hv=>show w.cell? ⟨b,0+j,none⟩=some v by rw[An (H.get hk),qa2];exact hv);have g1:=(ht a).trans ha;have g2:=(ht s1).trans h1;have g3:=(ht s3).trans h3;rw[qa5]at g1 g2 g3
  exact⟨.tuple #[v1,.agg l.toArray,v3],by simp[results,hr,g1,g2,g3,asAddr,hv],h⟩⟩
end
end Go.GV
namespace Go.Proofs.YtdagmpmdcgedcaaGreat
open Go.GV Go.Proofs.Tryz
attribute [local irreducible] AN W Wq Wt
def K5:Ld->List Ak->Ld->List Int->Prop
 |s,[],s',cs=>s'=s/\cs=[]
 |s,k::ks,s',cs=>∃s1 p cs',CI s k s1 p/\K5 s1 ks s' cs'/\cs=p.e::cs'
theorem Rl{k:Ak}{s1 s2:Ld}{p:Rp}:∀{ks:List Ak} {s:Ld} {cs:List Int},K5 s ks s1 cs->CI s1 k s2 p->K5 s (ks++[k]) s2 (cs++[p.e])
 | [],s,cs,h,h2=>by
  obtain⟨rfl,rfl⟩:=h;exact⟨s2,p,[],h2,⟨rfl,rfl⟩,rfl⟩
 |k1::ks,s,cs,h,h2=>by
  obtain⟨s3,p3,cs',h3,h4,rfl⟩:=h;exact⟨s3,p3,cs'++[p.e],h3,Rl h4 h2,rfl⟩
def DyOk(s:Ld):Prop:=∀r∈s.rn,r.day<=s.day
theorem LdIn.less{w:World}{m:Lm}{s:Ld}{T T':Nat->Prop}(I:LdIn w m s T)(ho:∀x∈Di m s,T' x)(hT:∀x,T' x->T x):LdIn w m s T' where
 O:=I.O
 M:=I.M
 ok:=I.ok
 len:=I.len
 n:=I.n
 no:=I.no
 kept:=fun r hr=>by
  obtain⟨q,g1,g2,g3⟩:=I.kept r hr;exact⟨q,g1,g2,g3.mono hT⟩
 own:=ho
 low:=fun x hx=>I.low x (hT x hx)
theorem Z7{f:FuncId}{caps:Array Value}{blx:Nat}{w0 w:World}{B:List (Nat × Obj)}{m:Lm}{s:Ld}{T:Nat->Prop}{Q:World->Prop}(L:Led blx w0 w B m s T)(hdy:DyOk s)(hf:A0 prog f=true)(hc:∀(w1:World) (m1:Lm),Ctx w [] w1 (LL m1 s)->LdIn w1 m1 s (fun x=>x∈Di m1 s\/x<w.heap.size)->Ret prog f (ptr m1.bl::caps.toList).toArray w1 fun _ w2=>Q w2) :
  Ret prog 87 #[ptr blx,.func (.func f) #[] caps] w fun v w'=>v=.int .i64 0/\Q w':=by
 obtain⟨w1,rfl,H⟩:=qE w;refine A2 (fn:=f87) func87 U [.pointer (some ⟨blx,0,none⟩),.func (.func f) #[] caps] U ?_;refine Ad (Af U (qA (Ap (Ad (A9 U (C7 Y6 U ?_))))));refine qA (Av _ U ?_ ?_)
 .intro h1;cases h1
 .intro h1;refine Aq (Aa (Ad (A9 U (Am qB (Ft L) U ?_))));rintro v w ⟨hx11,z,rfl,Z,-⟩;refine Am qB (Ara L.I.ok hdy z _ Z) U ?_;rintro v w ⟨m1,rfl,HC,I1⟩;have hsz11:=hx11.size;replace HC:=(Ctx.back (L1:=[]) (L2:=[]) (H.call hx11) HC).nil_app;replace I1:=I1.less (T':=fun x=>x∈Di m1 s\/x<w1.heap.size) (fun x hx => .inl hx) (fun x hx=>hx.imp_right fun h=>qa3 h hsz11);refine BN U (AF U U (AF U U (BE U (Af U (qA (Ap (Ad (Ae U (Cj U U ?_)))))))));refine qA (Av _ U ?_ ?_)
  .intro h2;replace h2:=AJ h2;refine Ay (De U (.func _ _ _) U ?_);refine A9 U (EC U hf (hc _ m1 HC I1) U ?_);rintro v w hQ;refine qA (Ad (Ae U (Af U (qA (A6 (AD (v:=(.int _ _)) U U U ?_))))));exact⟨rfl,hQ⟩
  .intro h2;replace h2:=AK h2;exact absurd U h2
theorem Alb{bl b3 b5:Nat}{wT w:World}{m:Lm}{s:Ld}{T:Nat->Prop}{k:Ak}(hk:AkIn k)(L:Led bl wT w [(b5,Bl 37 [.int .i64 0,.slice none 0 0]),(b3,Bl 40 (Ci k))] m s T) :
  Ret prog 89 #[ptr bl,ptr b3,ptr b5] w fun _ w'=>Ext [] wT w'/\∃s' p v1,CI s k s' p/\w'.heap[b5]?=some (Bl 37 [.int .i64 p.e,v1]):=by
 obtain⟨w1,rfl,H⟩:=qE w;have h3:=L.H.blk (b3,Bl 40 (Ci k)) (qao _ (by simp));refine A2 (fn:=f89) func89 U [.pointer (some ⟨bl,0,none⟩),.pointer (some ⟨b3,0,none⟩),.pointer (some ⟨b5,0,none⟩)] U ?_;refine Ay (A9 U (Ca _ OH Ii U U ((CS (b:=b3) (t:=40) (l:=Ci k) h3 0 (Ci k) U)) ?_));refine Am qB (Ef (k:=k) L hk) U ?_;rintro v w ⟨a1,n1,c1,f1,p,s',m',T',rfl,OP,hst,L3,g,hxD⟩;have h5:=L3.H.blk (b5,Bl 37 [.int .i64 0,.slice none 0 0]) (qao _ (by simp));have hb5:=(L3.H.own (b5,Bl 37 [.int .i64 0,.slice none 0 0]) (qao _ (by simp))).elim (fun h=>by cases h) id;have hE:=L3.H.ext;clear H;have H:=Ctx.start1 h5;refine Bi Eu U U U (by simp[AS]) H at0 U ?_;rintro w H;refine Ab (Dd U U ?_)
 exact⟨hE.then H.ext (fun x hx => .inr (by rw[qab.1 hx];exact hb5)),s',p,_,hst,H.get at0⟩
theorem Arb{blx:Nat}{w0 w:World}{B:List (Nat × Obj)}{m:Lm}{s:Ld}{T:Nat->Prop}{k:Ak}(hk:AkIn k)(L:Led blx w0 w B m s T)(hdy:DyOk s) :
  Ret prog 36 #[ptr blx,.agg (Ci k).toArray] w fun v w'=>Ext [] w w'/\∃s' p,CI s k s' p/\v=.int .i64 p.e:=by
 obtain⟨w1,rfl,H⟩:=qE w;refine A2 (fn:=f36) func36 U [.pointer (some ⟨blx,0,none⟩),.agg (Ci k).toArray] U ?_;refine Ad (Bu (Ci k) (.agg _) U U H ?_);rintro b3 w - H;refine Af U (qA (Ad (AX Gq H ?_)));rintro b5 w - H;refine qA (Ap (Ad (A9 U (Cm [.pointer _,.pointer _] U (Am qB (Z7 (caps:=#[ptr b3,ptr b5]) (Q:=fun w'=>Ext [] w1 w'/\∃s' p v1,CI s k s' p/\w'.heap[b5]?=some (Bl 37 [.int .i64 p.e,v1])) (L.next H) hdy qB (fun w2 m2 HC I2=>Alb hk ⟨(Ctx.back (L1:=[]) (L2:=[_,_]) H HC).comm,I2,rfl⟩)) U ?_)))));rintro v w ⟨rfl,hx9,s',p,v1,hst,h5⟩;clear H;obtain⟨w3,rfl,H⟩:=qE w;refine Af U (qA (Ad (Ae U (C0 U U (qA (Av _ U ?_ ?_))))))
 .intro h1;replace h1:=CC h1;exact absurd U h1
 .intro h1;replace h1:=CD h1;refine Aq (Aa (Ad (Ah Hm U (Ba KX U ((by rw[An (H.ext.to h5 (by simp))];rfl)) ?_))));refine Af U (qA (A6 (AD (v:=(.int _ _)) U U U ?_)));exact⟨hx9.trans H.ext,s',p,hst,rfl⟩
abbrev RpX:=Int × Option Addr × Nat × Nat
abbrev W5(x:RpX):List Value:=[.int .i64 x.1,.slice x.2.1 x.2.2.1 x.2.2.2]
structure TrZ where
 i:Nat
 a:Option Addr
 c:Nat
 f:List Value
 xs:List RpX
 m:Lm
 s:Ld
 T:Nat->Prop
abbrev eR(a:Option Addr)(f:List Value):List (Nat × Obj):=ent a 37 f
theorem Arc{x:Nat × Obj}{y:Nat × Obj}{E R:List (Nat × Obj)}(h:∀z∈y::(E++R),x.1≠z.1):x.1∉E.map (fun x=>x.1):=fun hm=>by
 obtain⟨z,hz,hzx⟩:=qah.1 hm;exact h z (qai _ (qao _ hz)) hzx.symm
theorem Alc{x:Nat × Obj}{E R:List (Nat × Obj)}(h:∀z∈E++R,x.1≠z.1):x.1∉E.map (fun x=>x.1):=fun hm=>by
 obtain⟨z,hz,hzx⟩:=qah.1 hm;exact h z (qao _ hz) hzx.symm
theorem Ald{bl b3 b5 b7 b8 c:Nat}{a:Option Addr}{ks:List Ak}{wT w:World}{m:Lm}{s:Ld}{T:Nat->Prop}(L:Led bl wT w [(b7,Bl 80 [.slice none 0 0]),(b8,Bl 32 (stC Mb Mc)),(b5,Bl 32 (stC Mb Mc)),(b3,Bl 22 [.slice a ks.length c])] m s T)(hT7:T b7)(R:Rd wT a 7 Ci ks)(hin:∀k∈ks,AkIn k)(hk1:ks.length<=1000) :
  Ret prog 88 #[ptr bl,ptr b3,ptr b7,ptr b8] w fun _ w'=>Ext [] wT w'/\∃s' xs aR cR z,K5 s ks s' (xs.map fun x:RpX=>x.1)/\xs.length=ks.length/\w'.heap[b7]?=some (Bl 80 [.slice aR ks.length cR])/\w'.heap[b8]?=some (Bl 32 (stC s' z))/\Rd w' aR 2 W5 xs/\StAt w' s' z/\w'.heap[b5]?=some (Bl 32 (stC Mb Mc))/\(xs≠[]->(adr aR).block≠b5)/\StOff s' z (fun x=>x=b5):=by
 obtain⟨w0,rfl,H⟩:=qE w;have h30:=L.H.blk (b3,Bl 22 [.slice a ks.length c]) (qao _ (by simp));refine A2 (fn:=f88) func88 U [.pointer (some ⟨bl,0,none⟩),.pointer (some ⟨b3,0,none⟩),.pointer (some ⟨b7,0,none⟩),.pointer (some ⟨b8,0,none⟩)] U ?_;refine Ap (Ad (Ba Aln U ((by rw[An h30];rfl)) ?_));refine AU HK U (Ae U (qA (Ax ?_)));clear H;refine Bn 1048128 (α:=TrZ) (fun z=>[(9,.int .i64 (z.i:Int))]) (fun z w'=>(z.i<=ks.length/\z.xs.length=z.i)/\K5 s (ks.take z.i) z.s (z.xs.map fun x:RpX=>x.1)/\OS z.a z.i z.c 2 z.f (z.xs.flatMap W5)/\Led bl wT w' ((b7,Bl 80 [.slice z.a z.i z.c])::(eR z.a z.f++[(b8,Bl 32 (stC Mb Mc)),(b5,Bl 32 (stC Mb Mc)),(b3,Bl 22 [.slice a ks.length c])])) z.m z.s z.T/\z.T b7/\∀x∈eR z.a z.f,z.T x.1) (fun z=>ks.length - z.i) ⟨0,none,0,[],[],m,s,T⟩ U ?_ ?_ ?_
 .exact⟨rfl,trivial⟩
 .exact⟨⟨qaf _,rfl⟩,⟨rfl,rfl⟩,OS.nil,L,hT7,fun x hx=>by cases hx⟩
 .clear L hT7;rintro⟨i,aR,cR,fR,xs,m1,s1,T1⟩ j w ⟨⟨hi,hxl⟩,hS,OR,L,hT7,hTR⟩;dsimp only at hi hxl hS OR L hT7 hTR;dsimp only;obtain⟨w1,rfl,H⟩:=qE w;have h7:=L.H.blk (b7,Bl 80 [.slice aR i cR]) (qao _ (by simp));refine Ad (AZ U U (qA (Ap (Av _ U ?_ ?_))))
  .intro h1;replace h1:=AJ h1;obtain⟨k,hk⟩:=AB (l:=ks) (i:=i);have hkin:=hin k (qac hk);refine Aq (Aa (Ap (Ax (Ad (AM (R.ext0 (L.H.ext.trans H.ext)) HK Ii U U (by rfl) ?_)))));refine Ca _ OH Ii U U (((R.ext0 (L.H.ext.trans H.ext)).row hk U)) (AX EW H ?_);rintro b6 w - H;refine Bi Ii U U U (by exact(by simp[AS])) H at0 U ?_;rintro w H;refine qA (ET [([0,1,2],3),([],4),([],5),([],6)] (fun z=>z.heap[b7]?=some (Bl 80 [.slice aR i cR])/\z.heap[b6]?=some (Bl 40 (Ci k))) [6] Bs (⟨H.drew.ext.to h7 (by simp),H.drew.get at0⟩) ?_);refine AO U U (B5 Alp U (fun _ hx=>(by rw[An hx.1];rfl)) ?_);refine BZ U (GX _ OH Ii U U (fun _ hx=>(CS (b:=b6) (t:=40) (l:=Ci k) hx.2 0 (Ci k) rfl)) ?_);refine Bb ?_;replace H:=H.drew
   have L1:=L.next H
   refine Am qB (Ef (k:=k) L1 hkin) U ?_;rintro v w ⟨a1,n1,c1,f1,p,s2,m2,T2,rfl,OP,hst,L2,g,hxD⟩;have h72:=L2.H.blk (b7,Bl 80 [.slice aR i cR]) (qao _ (by simp));have h62:=L2.H.blk (b6,Bl 40 (Ci k)) (qao _ (by simp));have hnd:=L2.H.nd;have HB:=L2.H;simp only[qa9,qcm,qbp]at HB;replace HB:=HB.right;have hn6:b6∉(eR aR fR).map (fun x=>x.1):=(Arc (qbb.1 HB.nd).1);replace HB:=HB.tail;have hn7:b7∉(eR aR fR).map (fun x=>x.1):=(Alc (qbb.1 HB.nd).1);obtain⟨w2,rfl⟩:=qD w;clear H;have H:=Ctx.in' (B:=[_]) (L:=eR aR fR) HB;refine Ab (BR (⟨h72,h62⟩) (AO U U ?_));refine Bb (Cs _ (.agg _) OI Eu Gq U U U U H ?_);rintro b17 w - H;refine Ab (BR (⟨H.ext.to h72 hn7,H.ext.to h62 hn6⟩) (AO U U ?_))
   refine Bb (C3 (L:=[]) OI OI Eu by_37 Gq U U U H OR U (by simp[AS]) ?_);rintro aR' cR' fR' w H OR';have HX:Ctx w2 ((eR aR fR).map fun x=>x.1) w (eR aR' fR'):=H;have HB3:=Ctx.mid (B:=[_]) (L:=eR aR fR) HB HX;obtain⟨w3,rfl⟩:=qD w;clear H;have H:=Ctx.start1 (HB3.get at0);refine Ab (BR (⟨HB3.get at0,HX.ext.to h62 hn6⟩) (AO U U ?_));refine Bb (Cz (.slice _ _ _) sz_80 U U U H at0 (by(simp;done)) ?_);rintro w H;refine Ab (BH U (BK (A7 (Aa (Ay (Aw U U ?_))))));refine Ae U (qA ?_)
   have hT2R:∀x∈(eR aR fR).map (fun x=>x.1),T2 x:=fun x hx=>by
    obtain⟨y,hy,rfl⟩:=qah.1 hx;exact g.1 _ (hTR y hy)
   have g2:Grows T2 (fun x=>T2 x\/x∈(eR aR' fR').map (fun x=>x.1)) w2:=⟨fun x hx => .inl hx,fun x hx=>hx.elim .inl fun h=>by
    obtain⟨y,hy,rfl⟩:=qah.1 h
    exact(HX.own y hy).imp_left (hT2R _)⟩
   have I3:LdIn w3 m2 s2 (fun x=>T2 x\/x∈(eR aR' fR').map (fun x=>x.1)):=L2.I.grow HX.ext (fun x hx => .inl (hT2R x hx)) g2 fun x hx=>hx.elim (fun h=>qa3 (L2.I.low x h) HX.size) fun h=>by
    obtain⟨y,hy,rfl⟩:=qah.1 h;exact Bf (HX.blk y hy)
   have I4:=I3.grow H.ext (fun x hx => .inl (.inl (by rw[qab.1 hx];exact g.1 _ hT7))) (Grows.refl _ _) fun x hx=>qa3 (I3.low x hx) H.size
   have HN:Ctx wT [] w (((b7,Bl 80 [.slice aR' (i+1) cR'])::(eR aR' fR'++[(b8,Bl 32 (stC Mb Mc)),(b5,Bl 32 (stC Mb Mc)),(b3,Bl 22 [.slice a ks.length c])]))++LL m2 s2):=by
    simp only[qcm,qa9,qbp];exact Ctx.back (L1:=[_]) HB3 H
   refine⟨⟨i+1,aR',cR',fR',xs++[(p.e,a1,n1,c1)],m2,s2,fun x=>T2 x\/x∈(eR aR' fR').map (fun x=>x.1)⟩,rfl,⟨rfl,trivial⟩,⟨⟨by dsimp only;omega,by dsimp only;rw[qat,qbx,hxl]⟩,?_,?_,⟨HN,I4,L2.e⟩,.inl (g.1 _ hT7),fun x hx => .inr (qa8 (f:=fun x:Nat × Obj=>x.1) hx)⟩,by dsimp only;omega⟩
   .dsimp only;rw[qbt,hk,qax];exact Rl hS hst
   .dsimp only;rw[qb1,qe8];exact OR'
  .intro h1;replace h1:=AK h1;obtain rfl:i=ks.length:=by omega
   have h8:=L.H.blk (b8,Bl 32 (stC Mb Mc)) (qao _ (by simp));have hnd:=qbb.1 L.H.left.nd;have h78:b7≠b8:=hnd.1 (b8,Bl 32 (stC Mb Mc)) (by simp);have h58:b5≠b8:=Ne.symm ((qbb.1 (qbz.1 hnd.2).2.1).1 (b5,Bl 32 (stC Mb Mc)) (by simp));have h5:=L.H.blk (b5,Bl 32 (stC Mb Mc)) (qao _ (by simp));have hR8:∀x∈eR aR fR,x.1≠b8:=fun x hx=>(qbz.1 hnd.2).2.2 x hx (b8,Bl 32 (stC Mb Mc)) (by simp);have hR5:∀x∈eR aR fR,x.1≠b5:=fun x hx=>(qbz.1 hnd.2).2.2 x hx (b5,Bl 32 (stC Mb Mc)) (by simp);have hb8:=(L.H.own (b8,Bl 32 (stC Mb Mc)) (qao _ (by simp))).elim (fun h=>by cases h) id;refine Be (Aj (Aj (AH (Aa (Ay (A9 U (Am qB (Ft L) U ?_)))))));rintro v w ⟨hx21,z,rfl,Z,O⟩;clear H;obtain⟨w3,rfl⟩:=qD w;have H:=Ctx.start1 (hx21.to h8 (by simp))
   refine Bi FC U U U (by exact(by simp[AS])) H at0 U ?_;rintro w H;refine Ab (Dd U U ?_);have hb8l:=Bf h8;rw[qbf]at hS;refine⟨(L.H.ext.trans hx21).then H.ext (fun x hx => .inr (by rw[qab.1 hx];exact hb8)),s1,xs,aR,cR,z,hS,hxl,H.ext.to (hx21.to h7 (by simp)) (by rw[qab];exact h78),H.get at0,OS.rd (t:=37) OR (fun x hx=>H.ext.to (hx21.to (L.H.blk x (qao _ (qai _ (qao _ hx)))) (by simp)) (by rw[qab];exact hR8 x hx)) (fun _ _=>rfl) (by decide),Z.ext H.ext (O.mono fun x hx=>by rw[qab.1 hx];exact hb8l),H.ext.to (hx21.to h5 (by simp)) (by rw[qab];exact h58),fun hne=>?_,O.mono fun x hx=>by rw[hx];exact Bf h5⟩;obtain⟨b,rfl⟩:=OR.form (by have:=qbv.2 hne;omega);exact hR5 (b,_) (List.mem_singleton_self _)
abbrev stC0:List Value:=stC Mb Mc
theorem Aib{blx:Nat}{w0 w:World}{B:List (Nat × Obj)}{m:Lm}{s:Ld}{T:Nat->Prop}{a:Option Addr}{c:Nat}{ks:List Ak}(L:Led blx w0 w B m s T)(hdy:DyOk s)(R:Rd w a 7 Ci ks)(hin:∀k∈ks,AkIn k)(hk1:ks.length<=1000) :
  Ret prog 35 #[ptr blx,.slice a ks.length c] w fun v w'=>Ext [] w w'/\∃s' xs aR cR z,K5 s ks s' (xs.map fun x:RpX=>x.1)/\xs.length=ks.length/\v=.tuple #[.slice aR ks.length cR,.agg (stC s' z).toArray,.int .i64 0]/\Rd w' aR 2 W5 xs/\StAt w' s' z:=by
 obtain⟨w1,rfl,H⟩:=qE w;refine A2 (fn:=f35) func35 U [.pointer (some ⟨blx,0,none⟩),.slice a ks.length c] U ?_;refine Ad (Bu _ (.slice _ _ _) U U H ?_);rintro b3 w - H;refine Az U (AX KC H ?_);rintro b5 w - H;refine Af U (qA (Ap (Ad (B9 (α:=Unit) 130048 (fun _=>[(16,.bool (decide (1000<ks.length)))]) (fun _ w'=>Ctx w1 [] w' [(b5,Bl 32 stC0),(b3,Bl 22 [.slice a ks.length c])]) U ?_ ?_))))
 .refine A9 U (ZO U Y6 U ?_);refine Au U (AE 12 U ?_ ?_)
  .intro h1;refine AG Aln U H at1 U (AU HK U (Cp U U (A8 U (.bool _) U (Ab ?_))));exact⟨rfl,(),rfl,⟨qaa Value.bool (by(simp;omega)),trivial⟩,H⟩
  .intro h2;refine Ag U (Ag U (Ag U (AA U (.bool _) U (Ab ?_))));exact⟨rfl,(),rfl,⟨qaa Value.bool (by(simp;omega)),trivial⟩,H⟩
 rintro - j16 w H;refine Av _ U ?_ ?_
 .intro h1;exact absurd (qbd h1) (by omega)
 .intro h1;refine Aq (Aa (Ad (AX zc_80 H ?_)));rintro b7 w - H;refine qA (Ad (AX KC H ?_));rintro b8 w - H;refine qA (Ad (A9 U (Cm [.pointer _,.pointer _,.pointer _] U (Am qB (Z7 (caps:=#[ptr b3,ptr b7,ptr b8]) (Q:=fun w'=>Ext [] w1 w'/\∃s' xs aR cR z,K5 s ks s' (xs.map fun x:RpX=>x.1)/\xs.length=ks.length/\w'.heap[b7]?=some (Bl 80 [.slice aR ks.length cR])/\w'.heap[b8]?=some (Bl 32 (stC s' z))/\Rd w' aR 2 W5 xs/\StAt w' s' z/\w'.heap[b5]?=some (Bl 32 (stC Mb Mc))/\(xs≠[]->(adr aR).block≠b5)/\StOff s' z (fun x=>x=b5)) (L.next H) hdy qB (fun w2 m2 HC I2=>Ald ⟨((Ctx.back (L1:=[]) (L2:=[_,_,_,_]) H HC).comm).perm (List.Perm.swap _ _ _),I2,rfl⟩ (.inr (Bf (H.get at1))) R hin hk1)) U ?_))));rintro v w ⟨rfl,hx20,s',xs,aR,cR,z,hst,hxl,h7,h8,RR,Z,h5,hR5,hZ5⟩
  have hb5:=(H.own _ (qai _ (qai _ (qaj ..)))).elim (fun h=>by cases h) id;have hn7:b7≠b5:=((qbb.1 (qbb.1 H.nd).2).1 _ (qaj ..));have hn8:b8≠b5:=((qbb.1 H.nd).1 _ (qai _ (qaj ..)));clear H;obtain⟨w3,rfl⟩:=qD w;have H:=Ctx.start1 h5;refine Af U (qA (C1 [([0,1,2,3],4),([],5)] (fun z=>z=World.drew w3) [4,5] Bs (rfl) ?_));refine AO U U ?_;refine B5 Alp U (fun _ hx=>(by subst hx;rw[An (show(World.drew w3).heap[b7]?=_ from h7)];rfl)) ?_;refine GX _ MX FC U U (fun _ hx=>(by subst hx;exact CS (b:=b8) (t:=32) (l:=stC s' z) (show(World.drew w3).heap[b8]?=_ from h8) 0 (stC s' z) rfl)) ?_;refine Bg U (E7 U (Bb ?_));replace H:=H.drew;refine Bi FC U U U (by simp[AS]) H at0 U ?_;rintro w H
  refine Ab (BH U (AO U U ?_));refine Bb (Af U (Ab (BH U (BK (A6 (Ala U U (show _=(.slice _ _ _)from rfl) U MX FC H at0 U (show _=(.int _ _)from rfl) ?_))))));exact⟨hx20.then H.ext (fun x hx => .inr (by rw[qab.1 hx];exact hb5)),s',xs,aR,cR,z,hst,hxl,rfl,Rd.ext' RR H.ext (fun h=>by rw[qab];exact hR5 h),Z.ext H.ext (hZ5.mono fun x hx=>qab.1 hx)⟩
def FstR(cs:List Int)(e:Int)(v:Value):Prop:=(∃n:Nat,v=.tuple #[.int .i64 (n:Int),.bool true]/\cs[n]?=some e/\∀j:Nat,j<n->cs[j]? ≠ some e)\/(v=.tuple #[.int .i64 0,.bool false]/\∀j:Nat,cs[j]? ≠ some e)
theorem Aic{blx:Nat}{w0 w:World}{B:List (Nat × Obj)}{m:Lm}{s:Ld}{T:Nat->Prop}{a:Option Addr}{c:Nat}{ks:List Ak}(e:Int)(L:Led blx w0 w B m s T)(hdy:DyOk s)(R:Rd w a 7 Ci ks)(hin:∀k∈ks,AkIn k)(hk1:ks.length<=1000:=by decide):
  Ret prog 37 #[ptr blx,.slice a ks.length c,.int .i64 e] w fun v w'=>Ext [] w w'/\∃s' cs,K5 s ks s' cs/\FstR cs e v:=by
 obtain⟨w1,rfl,H⟩:=qE w;refine A2 (fn:=f37) func37 U [.pointer (some ⟨blx,0,none⟩),.slice a ks.length c,.int .i64 e] U ?_;refine Ad (Af U (Ai U (qA (Ad (A9 U (Ao U (Am qB (Aib L hdy R hin hk1) U ?_)))))));rintro v w ⟨hx16,s',xs,aR,cR,z,hst,hxl,rfl,RR,-⟩;rw[<-hxl];clear H;obtain⟨w3,rfl,H⟩:=qE w;refine BN U (AF U U (AF U U (AF U U (AX KC H ?_))));rintro b9 w - H;refine Az U (Bi FC U U U (by simp[AS]) H at0 U ?_);rintro w H;refine Af U (qA (Ap (Ad (Ae U (C0 U U (qA (Av _ U ?_ ?_)))))))
 .intro h1;replace h1:=CC h1;exact absurd U h1
 .intro h1;replace h1:=CD h1;refine Aq (Aa (Ap (Ad (Ao U (AU OI U (Ae U (qA (Ax ?_))))))));replace hx16:=hx16.trans H.ext;replace RR:=RR.ext0 H.ext;clear H;obtain⟨w4,rfl,H⟩:=qE w;refine Bn 34342967488 (α:=Nat) (fun i=>[(24,.int .i64 (i:Int))]) (fun i w'=>(i<=xs.length/\∀j:Nat,j<i->(xs.map fun x:RpX=>x.1)[j]? ≠ some e)/\Ctx w4 [] w' []) (fun i=>xs.length - i) 0 U ?_ ?_ ?_
  .exact⟨rfl,trivial⟩
  .exact⟨⟨qaf _,fun j h=>absurd h (qaw _)⟩,H⟩
  .clear H;rintro i j w ⟨⟨hi,hno⟩,H⟩;refine Ad (AZ U U (qA (Ap (Av _ U ?_ ?_))))
   .intro h2;replace h2:=AJ h2;obtain⟨x,hx⟩:=AB (l:=xs) (i:=i);have hxe:(xs.map fun x:RpX=>x.1)[i]?=some x.1:=by rw[qa1,hx];rfl
    refine Aq (Aa (Ap (Ax (Ad (Ae U (AM (RR.ext0 H.ext) OI Eu U U (by rfl) ?_))))));refine Ca _ Mj Eu U U (((RR.ext0 H.ext).row hx U)) (AX Gq H ?_);rintro b12 w - H;refine Af U (Bi Eu U U U (by exact(by simp[AS])) H at0 U ?_);rintro w H;refine qA ?_;replace H:Ctx w4 [] w [(b12,Bl 37 (W5 x))]:=H;refine Ad (Ah Hm U (AG KX U H at0 U (Ae U (Cj U U (qA (Av _ U ?_ ?_))))))
    .intro h3;replace h3:=AJ h3;refine Ad (Ae U (Af U (Ai U (qA (A6 (A5 (Al (Al (A5 (Al (BG (v1:=(.int _ _)) (v2:=(.bool _)) U U U U ?_)))))))))));exact⟨hx16.trans H.ext,s',_,hst,Or.inl ⟨i,rfl,by rw[hxe,h3],hno⟩⟩
    .intro h3;replace h3:=AK h3;refine Aq (A7 (Aa (Ay (Aw U U ?_))));refine Ae U (qA ?_);refine⟨i+1,rfl,⟨rfl,trivial⟩,⟨⟨by omega,fun j hj=>?_⟩,H.tail⟩,by omega⟩
     rcases qd8.1 hj with h|rfl
     .exact hno j h
     .rw[hxe];exact fun hh=>h3 (qaq hh)
   .intro h2;replace h2:=AK h2;obtain rfl:i=xs.length:=by omega
    refine Be (Aj (Aj (AH (Aa (Ad (Af U (Ai U (qA (A6 (BG (v1:=(.int _ _)) (v2:=(.bool _)) U U U U ?_))))))))));refine⟨hx16.trans H.ext,s',_,hst,Or.inr ⟨rfl,fun j=>?_⟩⟩
    by_cases hj:j<xs.length
    .exact hno j hj
    .rw[qba (by rw[qak];omega)];exact fun h=>by cases h
end Go.Proofs.YtdagmpmdcgedcaaGreat
namespace Go.GV
open Go
def Aid(P:Program)(t:TypeId)(i:Nat):Option Nat :=
 match P.underlying t with
 |some (.struct fs)=>match fs[i]? with
  |some f=>match DC P f.type with
   |some false=>some f.offset
   |_=>none
  |none=>none
 |_=>none
section
variable {P:Program}{r:Option Nat}{ops rest:List Oper}{Q:Exit->Env->World->Prop}{e:Env}{w:World}{dst:Option Tmp}{ty:TypeId}{pos:String}{af:Array Edge}{g:Option (Nat × Bool)}
theorem TP{t:TypeId}{x:Operand}{i off:Nat}{cs:Array Value}{v:Value}(hg:Bc ⟨dst,.field t x i,ty,pos,af,g⟩ ops e=true)(hx:ev e x=.agg cs)(hv:cs[off]?=some v)(h:AN P r ops Q rest (put e dst v) w)(hf:Aid P t i=some off:=by kernel_rfl):AN P r ops Q (⟨dst,.field t x i,ty,pos,af,g⟩::rest) e w:=by
 unfold Aid at hf
 split at hf
 .rename_i fs hu
  split at hf
  .rename_i f hf1
   split at hf
   .rename_i ha
    injection hf with hf
    subst hf;exact BU hg U (by simp[execOp,hx,Instr.field,Bj hu,hf1,asAgg,part,NF ha,hv]) h
   .cases hf
  .cases hf
 .cases hf
end
end Go.GV
namespace Go.Proofs.YtdagmpmdcgedcaaGreat
open Go.GV Go.Proofs.Tryz
attribute [local irreducible] AN W Wq Wt
abbrev yS:Ld:=⟨0,yA0,yD0,2,[],0⟩
abbrev yK:List Ak:=[ak 3 0 0 2 0 0 0,ak 3 0 0 6 0 0 0]
theorem Aml:∀k∈yK,AkIn k:=fun k hk=>by
 simp only[qag,qar,or_false]at hk
 rcases hk with rfl|rfl
 .exact Gw
 .exact Gw
theorem Z9{s':Ld}{cs:List Int}(h:K5 yS yK s' cs):s'=⟨0,[⟨3,0⟩,⟨0,0⟩],yD0,2,[],0⟩/\cs=[0,12]:=by
 obtain⟨s1,p1,c1,h1,⟨s2,p2,c2,h2,⟨rfl,rfl⟩,rfl⟩,rfl⟩:=h;obtain⟨rfl,rfl⟩:s1=⟨0,[⟨3,0⟩,⟨0,0⟩],yD0,2,[],0⟩/\p1=⟨0,[3,0]⟩:=DS h1;obtain⟨rfl,rfl⟩:s'=⟨0,[⟨3,0⟩,⟨0,0⟩],yD0,2,[],0⟩/\p2=⟨12,[]⟩:=DS h2;exact⟨rfl,rfl⟩
theorem y_can{s':Ld}{p:Rp}(h:CI yS (ak 3 0 0 6 0 0 0) s' p):p.e=12:=by
 obtain⟨rfl,rfl⟩:s'=yS/\p=⟨12,[]⟩:=DS h;rfl
theorem y_fst{v:Value}(h:FstR [0,12] 12 v):v=.tuple #[.int .i64 1,.bool true]:=by
 rcases h with⟨n,rfl,h1,h2⟩|⟨-,h2⟩
 .match n,h1,h2 with
  |0,h1,_=>exact absurd h1 (by decide)
  |1,_,_=>rfl
  |n+2,_,h2=>exact absurd rfl (h2 1 (by omega))
 .exact absurd U (h2 1)
theorem y_two{xs:List RpX}(h:(xs.map fun x:RpX=>x.1)=[0,12]):∃p q,xs=[(0,p),(12,q)]:=by
 match xs,h with
 | [(a,p),(b,q)],h =>
  simp only[qau,qb3,qcu,and_true]at h;obtain⟨rfl,rfl⟩:=h;exact⟨p,q,rfl⟩
theorem G5(w:World):Ret prog 34 #[] w fun v w'=>v=.bool true/\Ext [] w w':=by
 obtain⟨w0,rfl⟩:=qD w;refine A2 (fn:=f34) func34 U [] U (Ad (Ai U (qA (Ad (Am qB (LU _) U ?_)))));rintro v w ⟨m0,rfl,H0,I0⟩;obtain⟨bl,hb0⟩:∃b,m0.bl=b:=⟨_,rfl⟩;have L:Led bl w0 w [] m0 s00 (fun x=>x∈Di m0 s00):=⟨H0,I0,hb0⟩;rw[hb0];clear H0 I0 hb0;obtain⟨w1,rfl,H⟩:=qE w;refine BE U (qA (Ad (A9 U (Bz (Ci (ak 1 0 0 0 0 0 0)) FA EW ?_))));replace L:=(L.next H).drop;refine Am qB (Ef (k:=ak 1 0 0 0 0 0 0) L (Gw)) U ?_;clear L H;rintro v w ⟨a1,n1,c1,f1,p1,s1,m1,T1,rfl,-,hst1,L,-,-⟩;replace L:=L.drop;obtain⟨rfl,rfl⟩:s1=⟨0,[⟨0,0⟩],[],1,[],0⟩/\p1=⟨0,[0]⟩:=DS hst1;clear hst1;obtain⟨w2,rfl,H⟩:=qE w;refine qA (Ad (A9 U (Bz (Ci (ak 1 0 0 0 0 0 0)) FA EW ?_)));replace L:=(L.next H).drop
 refine Am qB (Ef (k:=ak 1 0 0 0 0 0 0) L (Gw)) U ?_;clear L H;rintro v w ⟨a2,n2,c2,f2,p2,s2,m2,T2,rfl,-,hst2,L,-,-⟩;replace L:=L.drop;obtain⟨rfl,rfl⟩:s2=⟨0,[⟨0,0⟩,⟨0,0⟩],[],1,[],0⟩/\p2=⟨0,[1]⟩:=DS hst2;clear hst2;obtain⟨w3,rfl,H⟩:=qE w;refine qA (Ad (A9 U (Bz (Ci (ak 2 0 0 5 0 0 0)) FA EW ?_)));replace L:=(L.next H).drop;refine Am qB (Ef (k:=ak 2 0 0 5 0 0 0) L (Gw)) U ?_;clear L H;rintro v w ⟨a3,n3,c3,f3,p3,s3,m3,T3,rfl,-,hst3,L,-,-⟩;replace L:=L.drop;obtain⟨rfl,rfl⟩:s3=⟨0,yA0,[],1,[],0⟩/\p3=⟨0,[5,0]⟩:=DS hst3;clear hst3;obtain⟨w4,rfl,H⟩:=qE w;refine qA (Ad (A9 U (Bz (Ci (ak 5 0 1 9 2 3 0)) FA EW ?_)));replace L:=(L.next H).drop;refine Am qB (Ef (k:=ak 5 0 1 9 2 3 0) L (Gw)) U ?_;clear L H
 rintro v w ⟨a4,n4,c4,f4,p4,s4,m4,T4,rfl,-,hst4,L,-,-⟩;replace L:=L.drop;obtain⟨rfl,rfl⟩:s4=⟨0,yA0,yD0,2,[],0⟩/\p4=⟨0,[1]⟩:=DS hst4;clear hst4;obtain⟨w5,rfl,H⟩:=qE w;refine qA (Ad (A9 U ?_));replace L:=(L.next H).drop;refine Am qB (Ft L) U ?_;clear H;rintro v w ⟨hx24,z1,rfl,Z1,-⟩;replace L:=L.call hx24;obtain⟨w6,rfl,H⟩:=qE w;refine Am qB (NA _ _ _ _ yA0 yD0 0 _ Z1.A Z1.D (_h1:=by decide) (h2:=by decide) (by decide) (by decide) ⟨rfl,rfl,rfl,rfl,rfl⟩) U ?_;rintro v w ⟨rfl,hx25⟩;rw[show JT yA0 yD0 0=4 by decide,show JS yA0 0=0 by decide];replace H:=H.call hx25;refine BN U (AF U U (AF U U (Af U (Af U (qA (Ad (A9 U (Bz (Ci (ak 3 0 0 2 0 0 0)) FA EW ?_))))))));refine Bz (Ci (ak 3 0 0 6 0 0 0)) FA EW ?_
 refine Dq (yK.flatMap Ci) HK Ii EW H ?_;rintro y1 w - H;replace L:=(L.next H).drop;refine Am qB (Aib (ks:=yK) L (fun r hr=>by cases hr) (Rd.of_bl (r:=[]) (H.get at0) U (by decide)) Aml (by decide)) U ?_;clear H;rintro v w ⟨hx33,s',xs,aR,cR,z2,hst,-,rfl,RR,Z2⟩;rw[show yK.length=2 from rfl];obtain⟨rfl,hxs⟩:=Z9 hst;obtain⟨p1,p2,rfl⟩:=y_two hxs;clear hst hxs;replace L:=L.call hx33;obtain⟨w7,rfl,H⟩:=qE w;refine BN U (AF U U (AF U U (AF U U (AX KC H ?_))));rintro b5 w - H;refine Az U (Bi FC U U U (by exact(by simp[AS])) H at0 U ?_);rintro w H;refine Af U (qA (Ad (A9 U (Bz (Ci (ak 3 0 0 2 0 0 0)) FA EW ?_))));refine Bz (Ci (ak 3 0 0 6 0 0 0)) FA EW (Dq (yK.flatMap Ci) HK Ii EW H ?_);rintro y2 w - H
 refine Am qB (Aic (ks:=yK) 12 (L.next H) (fun r hr=>by cases hr) (Rd.of_bl (r:=[]) (H.get at0) U (by decide)) Aml) U ?_;rintro v w ⟨hx42,s2',cs,hst,hv⟩;obtain⟨-,rfl⟩:=Z9 hst;obtain rfl:=y_fst hv;clear hst hv;replace H:=H.call hx42;refine BN U (AF U U (AF U U (Af U (Ai U (qA (Ad (Ae U (Cj U U (Au U ?_)))))))));refine Ae U (Cj U U (A8 U (.bool _) U (Au U (Ae U (Cj U U (A8 U (.bool _) U (Au U (Ao U (AU OI U ?_)))))))));refine Cj U U (A8 U (.bool _) U (Au U (Ao U (AM (RR.ext0 H.ext) OI Eu U U (by rfl) ?_))));refine Ah Hm U (Ba KX U (((RR.ext0 H.ext).fld (i:=0) (j:=0) U U U)) ?_);refine Cj U U (A8 U (.bool _) U (Au U (Ao U (AM (RR.ext0 H.ext) OI Eu U U (by rfl) ?_))));refine Ah Hm U (Ba KX U (((RR.ext0 H.ext).fld (i:=1) (j:=0) U U U)) ?_)
 refine Cj U U (A8 U (.bool _) U (Au U (Ah El U (AG E3 U H at1 U (AU Dz U (Cj U U (A8 U (.bool _) U (Au U (Ah El U ?_)))))))));refine AG E3 U H at1 U (AM (i:=0) (n:=2) (Z2.A.ext0 H.ext) Dz DP U U (h0:=by decide) (h1:=by decide) U ?_);refine Ah Ex U (Ba Bm U (((Z2.A.ext0 H.ext).fld (i:=0) (j:=0) U U U)) ?_);refine Cj U U (A8 U (.bool _) U (Au U (Ae U (Cj U U (A8 U (.bool _) U (Au U (Au U (A8 U (.bool _) U (Au U ?_)))))))));refine A9 U (Bz (Ci (ak 3 0 0 6 0 0 0)) FA EW ?_);refine Am qB (Arb (k:=ak 3 0 0 6 0 0 0) (Gw) (L.next H) (fun r hr=>by cases hr)) U ?_;rintro v w ⟨hx98,s3',p3,hst,rfl⟩;rw[y_can hst];clear hst;replace H:=H.call hx98;refine Cj U U (A8 U (.bool _) U (Au U (A9 U (Am qB (Ft (L.next H)) U ?_))));rintro v w ⟨hx103,z3,rfl,Z3,-⟩;replace H:=H.call hx103
 refine TP (off:=1) (v := .slice z3.aA 2 z3.cA) U U U (AM (i:=0) (n:=2) Z3.A Dz DP U U (h0:=by decide) (h1:=by decide) U ?_);refine Ah Ex U (Ba Bm U ((Z3.A.fld (i:=0) (j:=0) U U U)) ?_);refine Cj U U (A8 U (.bool _) U (Ai U (qA (A6 (AD (v:=(.bool _)) U U U ?_)))));exact⟨rfl,L.H.ext.trans H.ext⟩
open Go.GV Go.Proofs.Tryz Go.ChangeShapes Go.WideShapes
def NdS(w:World)(X:List Value):Prop:=∃(v0 v3 v4 v5 v6:Value) (aA aD:Option Addr) (cA cD:Nat) (acs:List Ac) (ds:List Du),X=[v0,.slice aA acs.length cA,.slice aD ds.length cD,v3,v4,v5,v6]/\Rd w aA 2 Dm acs/\Rd w aD 7 CM ds/\acs.length<=20/\ds.length<=80 /\
 (∀x∈acs,(0<=x.ba/\x.ba<=4503599627370496)/\0<=x.re/\x.re<=4503599627370496)/\(∀d∈ds,0<=d.am/\d.am<=4503599627370496)/\(AS v0=true/\AS v3=true/\AS v4=true/\AS v5=true/\AS v6=true)
theorem NdS.ext0{w w':World}{X:List Value}(h:NdS w X)(hx:Ext [] w w'):NdS w' X:=by
 obtain⟨v0,v3,v4,v5,v6,aA,aD,cA,cD,acs,ds,h1,h2,h3,h4⟩:=h;exact⟨v0,v3,v4,v5,v6,aA,aD,cA,cD,acs,ds,h1,h2.ext0 hx,h3.ext0 hx,h4⟩
def encX(X:List Value):List Value:=X
structure NeZ where
 i:Nat
 m:Lm
 s:Ld
 T:Nat->Prop
theorem Rm{v0 v3 v4 v5 v6:Value}(a:Option Addr)(c:Nat)(ks:List Ak)(aA aD:Option Addr)(cA cD:Nat)(acs:List Ac)(ds:List Du)(k:Int)(w:World)(R:Rd w a 7 Ci ks)(hin:∀k∈ks,AkIn k)(RA:Rd w aA 2 Dm acs)(RD:Rd w aD 7 CM ds)(ho:AS v0=true/\AS v3=true/\AS v4=true/\AS v5=true/\AS v6=true) :
  Ret prog 11 #[.slice a ks.length c,.agg #[v0,.slice aA acs.length cA,.slice aD ds.length cD,v3,v4,v5,v6],.int .i64 k] w fun v w'=>v=.bool true/\Ext [] w w':=by
 obtain⟨w0,rfl,H⟩:=qE w;obtain⟨o0,o3,o4,o5,o6⟩:=ho;refine A2 (fn:=f11) func11 U [.slice a ks.length c,.agg #[v0,.slice aA acs.length cA,.slice aD ds.length cD,v3,v4,v5,v6],.int .i64 k] U (Ad (Bu [v0,.slice aA acs.length cA,.slice aD ds.length cD,v3,v4,v5,v6] (.agg _) U U H ?_));rintro b4 w - H;refine Ai U (qA (Ap (Ad (B9 (α:=Unit) 137434759168 (fun _=>[(36,.bool (((decide ((ks.length:Int)>80) || decide ((acs.length:Int)>20)) || decide ((ds.length:Int)>80))))]) (fun _ w'=>Ctx w0 [] w' [(b4,Bl 32 [v0,.slice aA acs.length cA,.slice aD ds.length cD,v3,v4,v5,v6])]) U ?_ ?_))))
 .refine Ao U (AU HK U (Cp U U (Au U (AE 25 U ?_ ?_))))
  .intro h1;replace h1:=AJ h1;refine Ag U (Ag U (Ag U (Ag U (A8 U (.bool _) U (Au U (Ag U (Ag U (Ag U (Ag U ?_)))))))));refine A8 U (.bool _) U (Ab ?_);exact⟨rfl,(),rfl,⟨qaa Value.bool (by(rw[qad];simp only[qb6,qam,true_iff]at *;omega)),trivial⟩,H⟩
  .intro h2;replace h2:=AK h2;refine Ah El U (AG E3 U H at0 U (AU Dz U (Cp U U (AA U (.bool _) U (Au U (AE 31 U ?_ ?_))))))
   .intro h3;replace h3:=AJ h3;refine Ag U (Ag U (Ag U (Ag U (A8 U (.bool _) U (Ab ?_)))));exact⟨rfl,(),rfl,⟨qaa Value.bool (by(rw[qad];simp only[qb6,qam,true_iff]at *;omega)),trivial⟩,H⟩
   .intro h4;replace h4:=AK h4;refine Ah EI U (AG Gj U H at0 U (AU BT U (Cp U U (AA U (.bool _) U (Ab ?_)))));exact⟨rfl,(),rfl,⟨qaa Value.bool (by(rw[qad];simp only[qb6,qam]at *;omega)),trivial⟩,H⟩
 rintro - j36 w H;refine Av _ U ?_ ?_
 .intro h1;refine Ad (Am qB (G5 _) U ?_);rintro v w ⟨rfl,hx37⟩;replace H:=H.call hx37;refine Ai U (qA (A6 (Al (AD (v:=(.bool _)) U U U ?_))));exact⟨rfl,H.ext⟩
 .intro h1;have h1':¬(((ks.length:Int)>80\/(acs.length:Int)>20)\/(ds.length:Int)>80):=by simpa using h1
  refine Aq (Aa (Ap (Ad (Af U (qA (Ax (Bn 1208925819614354296799424 (α:=Nat) (fun i=>[(7,.int .i64 (i:Int))]) (fun i w'=>(i<=acs.length/\∀(j:Nat) (x:Ac),j<i->acs[j]?=some x->(0<=x.ba/\x.ba<=4503599627370496)/\0<=x.re/\x.re<=4503599627370496)/\Ctx w0 [] w' [(b4,Bl 32 [v0,.slice aA acs.length cA,.slice aD ds.length cD,v3,v4,v5,v6])]) (fun i=>acs.length - i) 0 U ?_ ?_ ?_)))))))
  .exact⟨rfl,trivial⟩
  .exact⟨⟨qaf _,fun j x h=>absurd h (qaw _)⟩,H⟩
  .clear H;rintro i j1 w ⟨⟨hi,hbd⟩,H⟩;refine Ap (Ad (Ae U (Ah El U (AG E3 U H at0 U (AU Dz U (AZ U U (qA (Av _ U ?_ ?_))))))))
   .intro h2;replace h2:=AJ h2;obtain⟨x,hx⟩:=AB (l:=acs) (i:=i);refine Aq (Aa (Ap (Ax (Ad (B9 (α:=Unit) 604462909772130215264256 (fun _=>[(78,.bool ((((decide (x.ba<0) || decide (x.ba>4503599627370496)) || decide (x.re<0)) || decide (x.re>4503599627370496))))]) (fun _ w'=>Ctx w0 [] w' [(b4,Bl 32 [v0,.slice aA acs.length cA,.slice aD ds.length cD,v3,v4,v5,v6])]) U ?_ ?_)))))
    .refine Ah El U (AG E3 U H at0 U (Ae U (AM (RA.ext0 H.ext) Dz DP U U (by rfl) ?_)));refine Ah Ex U (Ba Bm U (((RA.ext0 H.ext).fld hx U (j:=0) U)) ?_);refine AZ U U (Au U (AE 52 U ?_ ?_))
     .intro h5;replace h5:=AJ h5;refine Ag U (Ag U (Ag U (Ag U (Ag U (Ag U (Ag U (A8 U (.bool _) U (Au U (Ag U ?_)))))))));refine Ag U (Ag U (Ag U (Ag U (Ag U (Ag U (A8 U (.bool _) U (Au U (Ag U (Ag U ?_)))))))));refine Ag U (Ag U (Ag U (Ag U (Ag U (A8 U (.bool _) U (Ab ?_))))));exact⟨rfl,(),rfl,⟨qaa Value.bool (by(rw[qad];simp only[qb6,qam,true_iff]at *;omega)),trivial⟩,H⟩
     .intro h6;replace h6:=AK h6;refine Ah El U (AG E3 U H at0 U (Ae U (AM (RA.ext0 H.ext) Dz DP U U (by rfl) ?_)));refine Ah Ex U (Ba Bm U (((RA.ext0 H.ext).fld hx U (j:=0) U)) ?_);refine Cp U U (AA U (.bool _) U (Au U (AE 61 U ?_ ?_)))
      .intro h7;replace h7:=AJ h7;refine Ag U (Ag U (Ag U (Ag U (Ag U (Ag U (Ag U (A8 U (.bool _) U (Au U (Ag U ?_)))))))));refine Ag U (Ag U (Ag U (Ag U (Ag U (Ag U (A8 U (.bool _) U (Ab ?_)))))));exact⟨rfl,(),rfl,⟨qaa Value.bool (by(rw[qad];simp only[qb6,qam,true_iff]at *;omega)),trivial⟩,H⟩
      .intro h8;replace h8:=AK h8;refine Ah El U (AG E3 U H at0 U (Ae U (AM (RA.ext0 H.ext) Dz DP U U (by rfl) ?_)));refine Ah Hn U (Ba Bm U (((RA.ext0 H.ext).fld hx U (j:=1) U)) ?_);refine AZ U U (AA U (.bool _) U (Au U (AE 70 U ?_ ?_)))
       .intro h9;replace h9:=AJ h9;refine Ag U (Ag U (Ag U (Ag U (Ag U (Ag U (Ag U (A8 U (.bool _) U (Ab ?_))))))));exact⟨rfl,(),rfl,⟨qaa Value.bool (by(rw[qad];simp only[qb6,qam,true_iff]at *;omega)),trivial⟩,H⟩
       .intro h10;replace h10:=AK h10;refine Ah El U (AG E3 U H at0 U (Ae U (AM (RA.ext0 H.ext) Dz DP U U (by rfl) ?_)));refine Ah Hn U (Ba Bm U (((RA.ext0 H.ext).fld hx U (j:=1) U)) ?_);refine Cp U U (AA U (.bool _) U (Ab ?_));exact⟨rfl,(),rfl,⟨qaa Value.bool (by(rw[qad];simp only[qb6,qam]at *;omega)),trivial⟩,H⟩
    rintro - j78 w H;refine Av _ U ?_ ?_
    .intro h3;refine Ad (Am qB (G5 _) U ?_);rintro v w ⟨rfl,hx79⟩;replace H:=H.call hx79;refine Ai U (qA (A6 (A5 (Al (Al (A5 (Al (AD (v:=(.bool _)) U U U ?_))))))));exact⟨rfl,H.ext⟩
    .intro h3;have h3':¬(((x.ba<0\/x.ba>4503599627370496)\/x.re<0)\/x.re>4503599627370496):=by simpa using h3
     refine Aq (A7 (Aa (Ay (Ae U (Aw U U ?_)))));refine Af U (qA ?_);refine⟨i+1,rfl,⟨rfl,trivial⟩,⟨⟨by omega,fun j y hj hy=>?_⟩,H⟩,by omega⟩
     rcases qd8.1 hj with h|rfl
     .exact hbd j y h hy
     .rw[hx]at hy;cases hy;omega
   .intro h2;replace h2:=AK h2;obtain rfl:i=acs.length:=by omega
    have hab:∀x∈acs,(0<=x.ba/\x.ba<=4503599627370496)/\0<=x.re/\x.re<=4503599627370496:=fun x hx=>by
     obtain⟨j,hj⟩:=qbl.1 hx;exact hbd j x (Cb hj) hj
    refine Be (Aj (Aj (AH (Aa (Ap (Ad (Af U (qA (Ax (Bn 20282408394725850809318076580160 (α:=Nat) (fun i=>[(8,.int .i64 (i:Int))]) (fun i w'=>(i<=ds.length/\∀(j:Nat) (x:Du),j<i->ds[j]?=some x->0<=x.am/\x.am<=4503599627370496)/\Ctx w0 [] w' [(b4,Bl 32 [v0,.slice aA acs.length cA,.slice aD ds.length cD,v3,v4,v5,v6])]) (fun i=>ds.length - i) 0 U ?_ ?_ ?_))))))))))
    .exact⟨rfl,trivial⟩
    .exact⟨⟨qaf _,fun j x h=>absurd h (qaw _)⟩,H⟩
    .clear H hi hbd;rintro i j2 w ⟨⟨hi,hbd⟩,H⟩;refine Ap (Ad (Ae U (Ah EI U (AG Gj U H at0 U (AU BT U (AZ U U (qA (Av _ U ?_ ?_))))))))
     .intro h3;replace h3:=AJ h3;obtain⟨x,hx⟩:=AB (l:=ds) (i:=i);refine Aq (Aa (Ap (Ax (Ad (B9 (α:=Unit) 10141050059320924539439263252480 (fun _=>[(102,.bool ((decide (x.am<0) || decide (x.am>4503599627370496))))]) (fun _ w'=>Ctx w0 [] w' [(b4,Bl 32 [v0,.slice aA acs.length cA,.slice aD ds.length cD,v3,v4,v5,v6])]) U ?_ ?_)))))
      .refine Ah EI U (AG Gj U H at0 U (Ae U (AM (RD.ext0 H.ext) BT BC U U (by rfl) ?_)));refine Ah Dl U (Ba Bm U (((RD.ext0 H.ext).fld hx U (j:=3) U)) ?_);refine AZ U U (Au U (AE 94 U ?_ ?_))
       .intro h11;replace h11:=AJ h11;refine Ag U (Ag U (Ag U (Ag U (Ag U (Ag U (Ag U (A8 U (.bool _) U (Ab ?_))))))));exact⟨rfl,(),rfl,⟨qaa Value.bool (by(rw[qad];simp only[qb6,qam,true_iff]at *;omega)),trivial⟩,H⟩
       .intro h12;replace h12:=AK h12;refine Ah EI U (AG Gj U H at0 U (Ae U (AM (RD.ext0 H.ext) BT BC U U (by rfl) ?_)));refine Ah Dl U (Ba Bm U (((RD.ext0 H.ext).fld hx U (j:=3) U)) ?_);refine Cp U U (AA U (.bool _) U (Ab ?_));exact⟨rfl,(),rfl,⟨qaa Value.bool (by(rw[qad];simp only[qb6,qam]at *;omega)),trivial⟩,H⟩
      rintro - j102 w H;refine Av _ U ?_ ?_
      .intro h4;refine Ad (Am qB (G5 _) U ?_);rintro v w ⟨rfl,hx103⟩;replace H:=H.call hx103;refine Ai U (qA (A6 (A5 (Al (Al (A5 (Al (AD (v:=(.bool _)) U U U ?_))))))));exact⟨rfl,H.ext⟩
      .intro h4;have h4':¬(x.am<0\/x.am>4503599627370496):=by simpa using h4
       refine Aq (A7 (Aa (Ay (Ae U (Aw U U ?_)))));refine Af U (qA ?_);refine⟨i+1,rfl,⟨rfl,trivial⟩,⟨⟨by omega,fun j y hj hy=>?_⟩,H⟩,by omega⟩
       rcases qd8.1 hj with h|rfl
       .exact hbd j y h hy
       .rw[hx]at hy;cases hy;omega
     .intro h3;replace h3:=AK h3;obtain rfl:i=ds.length:=by omega
      have ham:∀x∈ds,0<=x.am/\x.am<=4503599627370496:=fun x hx=>by
       obtain⟨j,hj⟩:=qbl.1 hx;exact hbd j x (Cb hj) hj
      refine Be (Aj (Aj (AH (Aa (Ad ?_)))));have hb4:=H.get at0;replace R:=R.ext0 H.ext;replace RA:=RA.ext0 H.ext;replace RD:=RD.ext0 H.ext;have hE0:=H.ext;clear H;obtain⟨w1,rfl⟩:=qD w;refine Am qB (LU _) U ?_;rintro v w ⟨m0,rfl,H0,I0⟩;obtain⟨bl,hb0⟩:∃b,m0.bl=b:=⟨_,rfl⟩;have L:Led bl w1 w [] m0 s00 (fun x=>x∈Di m0 s00):=⟨H0,I0,hb0⟩;rw[hb0];clear H0 I0 hb0;refine BE U (qA (Ap (Ad (Af U (qA (Ax (Bn 166112934653907180772127988032472064 (α:=NeZ) (fun z=>[(10,.int .i64 (z.i:Int))]) (fun z w'=>z.i<=ks.length/\Led bl w1 w' [] z.m z.s z.T) (fun z=>ks.length - z.i) ⟨0,m0,s00,fun x=>x∈Di m0 s00⟩ U ?_ ?_ ?_)))))))
      .exact⟨rfl,trivial⟩
      .exact⟨qaf _,L⟩
      .clear L hi hbd;rintro⟨i,m,s,T⟩ j w ⟨hi,L⟩;dsimp only at hi L;dsimp only;obtain⟨w2,rfl,H⟩:=qE w;refine Ap (Ad (Ae U (Ao U (AU HK U (AZ U U (qA (Av _ U ?_ ?_)))))))
       .intro h4;replace h4:=AJ h4;obtain⟨kq,hk⟩:=AB (l:=ks) (i:=i);have hkin:=hin kq (qac hk);refine Aq (Aa (Ap (Ax (Ay (A9 U (Ao U (Ae U (AM (R.ext0 L.H.ext) HK Ii U U (by rfl) ?_))))))));refine Ca _ OH Ii U U (((R.ext0 L.H.ext).row hk U)) (Am qB (Ef (k:=kq) L hkin) U ?_);rintro v w ⟨a1,n1,c1,f1,p,s',m',T',rfl,OP,hst,L3,g,hxD⟩;refine Ab (A7 (Aa (Ay (Ae U (Aw U U ?_)))));refine Af U (qA ?_);exact⟨⟨i+1,m',s',T'⟩,rfl,⟨rfl,trivial⟩,⟨by dsimp only;omega,L3.drop⟩,by dsimp only;omega⟩
       .intro h4;replace h4:=AK h4;have hok:=L.I.ok;have h64:=(D3 hok.du).1;have h16:=(Cr.1 hok.ac).1;have hE2:=hE0.trans L.H.ext;have hb42:=L.H.ext.to hb4 (by simp);replace RA:=RA.ext0 L.H.ext;replace RD:=RD.ext0 L.H.ext;have N2:NdS w2 [v0,.slice aA acs.length cA,.slice aD ds.length cD,v3,v4,v5,v6]:=⟨v0,v3,v4,v5,v6,aA,aD,cA,cD,acs,ds,rfl,RA,RD,by omega,by omega,hab,ham,o0,o3,o4,o5,o6⟩;refine Be (Aj (Aj (AH (Aa (C1 [([0,2],1),([],3),([],4)] (fun z=>Ext [] w2 z) [] Bs (H.drew.ext) ?_)))));refine AO U U ?_;refine BZ U (GX _ MX FC U U (fun _ hx=>(CS (b:=b4) (t:=32) (l:=[v0,.slice aA acs.length cA,.slice aD ds.length cD,v3,v4,v5,v6]) (hx.to hb42 (by simp)) 0 [v0,.slice aA acs.length cA,.slice aD ds.length cD,v3,v4,v5,v6] rfl)) ?_);refine Bb ?_;replace H:=H.drew;refine Am qB (Ft (L.call H.ext)) U ?_;rintro v w ⟨hx118,z1,rfl,Z1,-⟩;replace H:=H.call hx118
        have N1:NdS w (stC s z1):=⟨_,_,_,_,_,z1.aA,z1.aD,z1.cA,z1.cD,s.acs,s.ds,rfl,Z1.A,Z1.D,by omega,by omega,fun x hx=>Fq.1 ((Cr.1 hok.ac).2.1 x hx),Aga hok.du,rfl,rfl,rfl,rfl,rfl⟩;replace N2:=N2.ext0 H.ext;refine Ab (BR (H.ext) (AO U U ?_));refine Bb ?_;obtain⟨w3,rfl⟩:=qD w;refine Dq (stC s z1++[v0,.slice aA acs.length cA,.slice aD ds.length cD,v3,v4,v5,v6]) SY FC KC (Ctx.start w3 []) ?_;rintro y w - H17;replace N1:=N1.ext0 H17.ext;replace N2:=N2.ext0 H17.ext;have hy:=H17.get at0;replace H:=H.call H17.ext;refine Ab (BR (H.ext) (AO U U ?_));refine Bb (Az U (Ab (BR (H.ext) (BK (Ap (Ad (Af U (qA (Ax ?_)))))))));have hE3:=hE2.trans H.ext;have RX:Rd w (some ⟨y,0,none⟩) 7 encX [stC s z1,[v0,.slice aA acs.length cA,.slice aD ds.length cD,v3,v4,v5,v6]]:=Rd.of_bl (r:=[]) hy rfl (by simp[encX]);clear H H17
        obtain⟨w4,rfl,H⟩:=qE w;refine Bn 196159429230833773867209963483669743757390993518944579648 (α:=Nat) (fun i=>[(12,.int .i64 (i:Int))]) (fun i w'=>i<=2/\Ctx w4 [] w' []) (fun i=>2 - i) 0 U ?_ ?_ ?_
        .exact⟨rfl,trivial⟩
        .exact⟨qaf _,H⟩
        .clear H hi;rintro i j6 w ⟨hi,H⟩;refine Ap (Ad (Ae U (AZ U U (qA (Av _ U ?_ ?_)))))
         .intro h5;replace h5:=AJ h5;obtain⟨X,hX⟩:=AB (l:=[stC s z1,[v0,.slice aA acs.length cA,.slice aD ds.length cD,v3,v4,v5,v6]]) (i:=i) (h:=by simp only[qa6,List.length_nil];omega)
          have NX:NdS w4 X:=by
           rcases qag.1 (qac hX)with rfl|h
           .exact N1
           .rw[qab.1 h];exact N2
          obtain⟨u0,u3,u4,u5,u6,bA,bD,dA,dD,acs1,ds1,rfl,XA,XD,x20,x80,xab,xam,xo⟩:=NX;refine Aq (Aa (Ap (Ax (Ap (Ad (Af U (qA (Ax (Bn 2923003274619270540542252357499644213382894313536 (α:=Nat) (fun q=>[(13,.int .i64 ((q:Int) - 1))]) (fun q w'=>q<=acs1.length+2/\Ctx w4 [] w' []) (fun q=>acs1.length+2 - q) 0 U ?_ ?_ ?_)))))))))
          .exact⟨rfl,trivial⟩
          .exact⟨qaf _,H⟩
          .clear H;rintro q j8 w ⟨hq,H⟩;refine Ap (Ad (Ae U (Ao U (Ae U (AM (RX.ext0 H.ext) SY FC U U (by rfl) ?_)))));refine Ah El U (Ba E3 U (((RX.ext0 H.ext).fld hX U (j:=1) U)) ?_);refine AU Dz U (Ib U U (qA (Av _ U ?_ ?_)))
           .intro h6;replace h6:=AJ h6;refine Aq (Aa (Ap (Ax (Ad (Ao U (Ae U (AM (RX.ext0 H.ext) SY FC U U (by rfl) ?_)))))));refine Ca _ MX FC U U (((RX.ext0 H.ext).row hX U)) (Ae U (Am qB (NA bA bD dA dD acs1 ds1 ((q:Int) - 1) _ (XA.ext0 H.ext) (XD.ext0 H.ext) xab xam xo) U ?_));rintro v w ⟨rfl,hx141⟩;replace H:=H.call hx141;refine BN U (AF U U (AF U U (Af U (Af U (qA (Ad (Ao U (Ae U (AM (RX.ext0 H.ext) SY FC U U (by rfl) ?_)))))))));refine Ca _ MX FC U U (((RX.ext0 H.ext).row hX U)) (Ae U (Am qB (TO bA bD dA dD acs1 ds1 ((q:Int) - 1) _ (XA.ext0 H.ext) (XD.ext0 H.ext) xab xam xo) U ?_));rintro v w ⟨rfl,hx150⟩;replace H:=H.call hx150;refine BN U (AF U U (AF U U (Af U (Af U (qA (Ad (Ae U (Ae U (C0 U U ?_)))))))))
            rw[show(!decide (JT acs1 ds1 ((q:Int) - 1)=JT acs1 ds1 ((q:Int) - 1)))=false by simp];refine Au U (Ae U (Ae U (C0 U U ?_)));rw[show(!decide (JS acs1 ((q:Int) - 1)=JS acs1 ((q:Int) - 1)))=false by simp];refine AA U (.bool _) U (qA (D5 U (Aq (A7 (Aa (Ay (Ae U (Aw U U ?_))))))));refine Af U (qA ?_);exact⟨q+1,rfl,⟨qaa (Value.int .i64) (by omega),trivial⟩,⟨by omega,H⟩,by omega⟩
           .intro h6;replace h6:=AK h6;refine Be (Aj (Aj (AH (Aa (Ad (Ao U (Ae U (AM (RX.ext0 H.ext) SY FC U U (by rfl) ?_))))))));refine Ca _ MX FC U U (((RX.ext0 H.ext).row hX U)) (Ae U (Am qB (NA bA bD dA dD acs1 ds1 k _ (XA.ext0 H.ext) (XD.ext0 H.ext) xab xam xo) U ?_));rintro v w ⟨rfl,hx167⟩;replace H:=H.call hx167;refine BN U (AF U U (AF U U (Af U (Af U (qA (Ad (Ao U (Ae U (AM (RX.ext0 H.ext) SY FC U U (by rfl) ?_)))))))));refine Ca _ MX FC U U (((RX.ext0 H.ext).row hX U)) (Ae U (Am qB (TO bA bD dA dD acs1 ds1 k _ (XA.ext0 H.ext) (XD.ext0 H.ext) xab xam xo) U ?_));rintro v w ⟨rfl,hx176⟩;replace H:=H.call hx176;refine BN U (AF U U (AF U U (Af U (Af U (qA (Ad (Ae U (Ae U (C0 U U ?_)))))))))
            rw[show(!decide (JT acs1 ds1 k=JT acs1 ds1 k))=false by simp];refine Au U (Ae U (Ae U (C0 U U ?_)));rw[show(!decide (JS acs1 k=JS acs1 k))=false by simp];refine AA U (.bool _) U (qA (D5 U (Aq (A7 (Aa (Ay (Ae U (Aw U U ?_))))))));refine Af U (qA ?_);exact⟨i+1,rfl,⟨rfl,trivial⟩,⟨by omega,H⟩,by omega⟩
         .intro h5;replace h5:=AK h5;refine Be (Aj (Aj (AH (Aa (Ad (Am qB (G5 _) U ?_))))));rintro v w ⟨rfl,hx187⟩;replace H:=H.call hx187;refine Ai U (qA (A6 (AD (v:=(.bool _)) U U U ?_)));exact⟨rfl,hE3.trans H.ext⟩
section
variable {H:Type}{enc:TypeId × Value->H}{w:World}{base:Nat}{spare:Nat->Bool}{held:Bool}
theorem Aie:∃fs,Tryz.prog.underlying 32=some (.struct fs)/\(List.range 7).map (fun i=>fs[i]?.map fun f=>(f.type,f.offset))=[some (2,0),some (26,1),some (27,2),some (28,3),some (29,4),some (28,5),some (30,6)]:=⟨_,underlying32,by kernel_rfl⟩
theorem Ale:Tryz.prog.cellsOf 32=7:=by kernel_rfl
theorem st1:Tryz.prog.cellsOf 26=1:=by kernel_rfl
theorem st2:Tryz.prog.cellsOf 27=1:=by kernel_rfl
theorem st4:Tryz.prog.cellsOf 29=1:=by kernel_rfl
theorem st6:Tryz.prog.cellsOf 30=1:=by kernel_rfl
theorem Yi:Tryz.prog.cellsOf 340=4:=by kernel_rfl
set_option maxRecDepth 100000 in
theorem st_of{b:Nat}{v:Value}{d:DataW H}{ps:List MemPlace}(hv:Value.okWide prog w .any b 32 v)(h:DataW.Trod enc prog w base spare held 32 v d ps) :
  ∃(v0 v3 v4 v5 v6:Value) (aA:Option Addr) (cA:Nat) (acs:List Ac) (aD:Option Addr) (cD:Nat) (ds:List Du),v=.agg #[v0,.slice aA acs.length cA,.slice aD ds.length cD,v3,v4,v5,v6]/\Rd w aA 2 Dm acs/\Rd w aD 7 CM ds /\
   (AS v0=true/\AS v3=true/\AS v4=true/\AS v5=true/\AS v6=true):=by
 obtain⟨fs,ht,hf⟩:=Aie;obtain⟨cs,rfl,_⟩:=okWide_struct ht hv;obtain⟨fuel,hf2⟩:=h;have h:DataW.trod enc prog w base spare held fuel 32 cs.toList=some (d,ps):=by simpa[Value.cells]using hf2
 have hl:=LG ht h;rw[Ale]at hl;simp only[List.range,List.range.loop,qau,qb3,qcu,and_true]at hf;obtain⟨f0,f1,f2,f3,f4,f5,f6⟩:=hf;obtain⟨y0,h0,-⟩:=EH ht h 0 0 f0 underlying2;obtain⟨aA,cA,acs,hA,RA,-⟩:=Kz ht h 1 1 f1 underlying26 st1 Zw Aq2;obtain⟨aD,cD,ds,hD,RD,-⟩:=Kz ht h 2 2 f2 underlying27 st2 Zx Aq3;obtain⟨y3,h3,-⟩:=EH ht h 3 3 f3 underlying28;obtain⟨aR,cR,lR,hR,-⟩:=Kz (encd:=fun x:List Value=>x) (Good:=fun _=>True) ht h 4 4 f4 underlying29 st4 Aht (fun _ cs _ _=>⟨cs,rfl,trivial⟩);obtain⟨y5,h5,-⟩:=EH ht h 5 5 f5 underlying28;obtain⟨aQ,cQ,lQ,hQ,-⟩:=Kz (encd:=fun x:List Value=>x) (Good:=fun _=>True) ht h 6 6 f6 underlying30 st6 Yi (fun _ cs _ _=>⟨cs,rfl,trivial⟩)
 refine⟨.int .i64 y0,.int .u64 y3,.slice aR lR.length cR,.int .u64 y5,.slice aQ lQ.length cQ,aA,cA,acs,aD,cD,ds,?_,RA,RD,rfl,rfl,rfl,rfl,rfl⟩;obtain⟨l,rfl⟩:∃l:List Value,cs=l.toArray:=⟨cs.toList,rfl⟩
 match l,hl with
 | [_,_,_,_,_,_,_],_ =>
  simp at h0 hA hD h3 hR h5 hQ;simp[h0,hA,hD,h3,hR,h5,hQ]
end
open Go.GV Go.Proofs.Tryz Go.ChangeShapes Go.WideShapes Go.RowKit
set_option maxRecDepth 100000 in
theorem MH(os:Os)(started:os.Started)(H:Type)(enc:TypeId × Value->H) :
  ReturnsInHanded {} checked os 11 .any (Rows.whatifNeedsSpec.pre6 enc prog f11 Rows.whatifNeedsRow.domain false) (Rows.whatifNeedsSpec.post enc prog f11 false true false false):=by
 refine returnsInHanded_of_change (C:=checked) own started (by kernel_rfl) func11
  (ChangeSpec.witness6 (enc:=enc) (C:=checked) false ⟨#[],#[.slice none 0 0,.agg #[.int .i64 0,.slice none 0 0,.slice none 0 0,.int .u64 0,.slice none 0 0,.int .u64 0,.slice none 0 0],.int .i64 0],[]⟩ 8 (by kernel_rfl) (by kernel_rfl) (by kernel_rfl) (by kernel_rfl)) ?_
 intro W base args ds gs before hval0 hW hcnd _;have hval:∀(j:Nat) t v,Tryz.f11.params[j]?=some t->args[j]?=some v->Value.okWide prog W .any base t v:=hval0;have hW':=hW;obtain⟨p,q,hA0,hV,rfl,hfz,hnd⟩:=hW;have hA:DataW.TrodAll enc prog W 0 (fun _=>true) true Tryz.f11.params.toList args.toList ds p:=hA0;rw[params11]at hA hval;obtain⟨v0,vs0,d0,ds0,p0,q0,hargs,rfl,rfl,h0,r0⟩:=trodAll_cons hA;obtain⟨v1,vs1,d1,ds1,p1,q1,rfl,rfl,rfl,h1,r1⟩:=trodAll_cons r0;obtain⟨v2,vs2,d2,ds2,p2,q2,rfl,rfl,rfl,h2,r2⟩:=trodAll_cons r1;obtain⟨rfl,rfl,rfl⟩:=trodAll_nil r2;obtain rfl:args=#[v0,v1,v2]:=by cases args;simp_all
 obtain⟨a0,c0,l0,rfl,R0,H0⟩:=PF (hval 0 _ v0 rfl rfl) h0;obtain⟨_,_,_,_,_,sa1,sc1,sl1,ta1,tc1,tl1,rfl,RA1,RD1,ho1⟩:=st_of (hval 1 _ v1 rfl rfl) h1;obtain⟨k2,rfl,rfl,rfl,hg2⟩:=open_int underlying3 (hval 2 _ v2 rfl rfl) h2;have hb2 : -9223372036854775808<=k2/\k2<=9223372036854775807:=NO hg2;refine(Rm a0 c0 l0 sa1 ta1 sc1 tc1 sl1 tl1 k2 W R0 H0 RA1 RD1 ho1).calls.mono ?_;rintro e W' ⟨v,rfl,rfl,hx⟩;exact⟨_,rfl,MW PE U U underlying4 (fun ds h=>match ds,h with | [_,_,_],_=>rfl) hW' hx⟩
theorem Ru:jn1 prog 11 f11 Rows.whatifNeedsSpec Rows.whatifNeedsRow=true:=by kernel_rfl
theorem Rv:jn2 prog 11 f11 Rows.whatifNeedsSpec Rows.whatifNeedsRow=true:=by kernel_rfl
theorem Rx:jn3 prog 11 f11 Rows.whatifNeedsSpec Rows.whatifNeedsRow=true:=by kernel_rfl
theorem Rz:jn4 prog 11 f11 Rows.whatifNeedsSpec Rows.whatifNeedsRow=true:=by kernel_rfl
theorem R9:jn5 prog 11 f11 Rows.whatifNeedsSpec Rows.whatifNeedsRow=true:=by kernel_rfl
theorem RB:joinedFacts prog 11 f11 Rows.whatifNeedsSpec Rows.whatifNeedsRow=true:=LF Ru Rv Rx Rz R9
theorem whatifNeeds_holds:Rows.WhatifNeedsSaid :=
 OpenClaim.holds_of_wide 11 f11 rfl rfl rfl rfl rfl rfl rfl ⟨rfl,rfl,rfl,rfl,rfl⟩ rfl rfl rfl rfl rfl (by kernel_rfl) func11 RB
  (qbd (by kernel_rfl)) (by unfold Func.isWrapper;rw[if_neg (qbk (by kernel_rfl))];exact⟨rfl,rfl⟩)
  (fun os started H enc _=>MH os started H enc)
#print axioms whatifNeeds_holds
end Go.Proofs.YtdagmpmdcgedcaaGreat
