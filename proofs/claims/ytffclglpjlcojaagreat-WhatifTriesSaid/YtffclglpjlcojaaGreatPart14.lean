/- Part 14 of the proof. The last text: WhatifTries: for every input the law answers true, and turns nothing. -/
import Derived.Test.YtffclglpjlcojaaGreatPart13
set_option maxRecDepth 20000
set_option maxHeartbeats 8000000
namespace Go.Proofs.YtffclglpjlcojaaGreat
open Go.GV Go.Proofs.Tryz
attribute [local irreducible] AG W Wq Wt
structure ArZ where
 i:Nat
 arch:List Value
theorem Ago{s:Ld}(hok:s.Ok)(a:Option Addr)(c:Nat)(qs:List RSl)(w:World)(R:Rd w a 8 PK (s.rn.zip qs))(hq:qs.length=s.rn.length)(K:∀x∈s.rn.zip qs,RAt w x.1 x.2) :
  Ret prog 68 #[.slice a s.rn.length c,.int .u64 s.no] w fun v w'=>∃b arch,v=.tuple #[ptr b,.int .i64 0]/\Ctx w [] w' [(b,Bl 135 arch)]/\arch.length=34/\arch[32]?=some (.int .u64 s.rn.length)/\arch[33]?=some (.int .u64 s.no) /\
   ∀r∈s.rn,∃q,(∀j v,(B0 r q)[j]?=some v->arch[(r.no % 4).toNat*8+j]?=some v)/\RAt w' r q/\ROff q r (fun x=>x<w.heap.size\/x=b):=by
 obtain⟨w0,rfl,H⟩:=qE w;obtain⟨hk4,hkn,hkm⟩:=hok.kept;have hzl:(s.rn.zip qs).length=s.rn.length:=by rw[qco];omega
 refine Ay (fn:=f68) func68 U [.slice a s.rn.length c,.int .u64 s.no] U (Ad (B1 U (Ae U (qA (Ad (A2 U (Ba Je U (DX U Ph Fk ?_))))))));refine Ae U (qA (Ao (A1 (Ad (Af U (CD U U (Ai U (qA (An _ U ?_ ?_)))))))))
 .intro h1;replace h1:=AM h1;omega
 .intro h1;replace h1:=AN h1;refine Ao (Ad (Af U (CD U U (Ai U (qA (Db 16 U ?_ ?_))))))
  .intro h2;replace h2:=AM h2;omega
  .intro h2;replace h2:=AN h2;refine A0 (Af U (Af U (Bm U U (Ai U (qA (Db 16 U ?_ ?_))))))
   .intro h3;replace h3:=AM h3;omega
   .intro h3;replace h3:=AN h3;refine Aq (A8 (Aa (Ad (Bx NG Aad Aal ?_))));refine Br NG (.agg _) U U H ?_;rintro b w - H;refine B1 U (qA (Ao (Ad (A2 U (Ba Je U (Af U (qA (A1 (Bt 1125899839734576 (α:=ArZ) (fun t=>[(26,.int .i64 (t.i:Int))]) (fun t w'=>t.i<=s.rn.length/\t.arch.length=34/\t.arch[32]?=some (.int .u64 t.i)/\(∀(j:Nat) (r:Rnd),j<t.i->s.rn[j]?=some r->∃q,(∀l v,(B0 r q)[l]?=some v->t.arch[(r.no % 4).toNat*8+l]?=some v)/\RAt w' r q/\ROff q r (fun x=>x<w0.heap.size\/x=b))/\Ctx w0 [] w' [(b,Bl 135 t.arch)]) (fun t=>s.rn.length - t.i) ⟨0,NG⟩ U ?_ ?_ ?_)))))))))
    .exact⟨rfl,trivial⟩
    .exact⟨qaj _,rfl,rfl,fun j r h=>absurd h (qa7 _),H⟩
    .clear H;rintro⟨i,arch⟩ j w ⟨hi,hal,han,hK,HR⟩;dsimp only at hi hal han hK HR;dsimp only;obtain⟨w1,rfl⟩:=qD w;have H:=Ctx.start1 (HR.get at0);have hbl1:=AY (HR.get at0);have hs01:=HR.size;refine Ad (Bm U U (qA (Ao (An _ U ?_ ?_))))
     .intro h4;replace h4:=AM h4;obtain⟨r,hr⟩:=AA (l:=s.rn) (i:=i);obtain⟨q,hqi⟩:=AA (l:=qs) (i:=i);have hx:(s.rn.zip qs)[i]?=some (r,q):=qcz.2 ⟨hr,hqi⟩;have RA:=(K _ (qac hx)).ext0 HR.ext;have hoffb:ROff q r (·∈[b]):=(K _ (qac hx)).lt.mono fun x hm=>by rw[qab.1 hm];exact(HR.own _ (qai ..)).elim (fun h=>by cases h) id
      have hrn:=hok.nos i r hr;have hmay:=hok.may r (qac hr);have hB:=Od hmay;refine Aq (Aa (Ao (A1 (Ad (Af U (Be (R.ext0 HR.ext) Je C1 U U (by omega) ?_))))));refine BQ _ E7 C1 U U (((R.ext0 HR.ext).row hx U)) (AU Fi H ?_);rintro b9 w - H;refine Ae U (Bj C1 U U U (by exact(by simp[AZ])) H at0 U ?_);rintro w H;refine qA (Ao (Ad (BV (α:=Unit) 70366596694016 (fun _=>[(45,.bool (false))]) (fun _ w'=>Ctx w1 [b] w' [(b9,Bl 127 (B0 r q)),(b,Bl 135 arch)]) U ?_ ?_)))
      .refine Cj E7 C1 U H at0 U (Al qB (Xi r q _ (RA.ext H.ext hoffb) hB) U ?_);rintro v w ⟨rfl,hx32⟩;rw[hmay];replace H:=H.call hx32;refine BE U (Aw U (AK 34 U ?_ ?_))
       .intro h1;replace h1:=B7 h1;refine Ag U (Ag U (Ag U (Ag U (Ag U (Ag U (Ag U (Ag U (Ag U (Ag U ?_)))))))));refine A6 U (.bool _) U (Ab ?_);exact⟨rfl,(),rfl,⟨qaa Value.bool (by contradiction),trivial⟩,H⟩
       .intro h2;replace h2:=B9 h2;refine Ah Ih U (AB Bz U H at0 U (Af U (Af U (L7 U U U ?_))));refine Ee U U (Af U (DX U Ph Fk ?_));refine Ee U U (Cv U U (A9 U (.bool _) U (Ab ?_)));exact⟨rfl,(),rfl,⟨qaa Value.bool (by(rw[hrn];simp)),trivial⟩,H⟩
      rintro - j45 w H;refine F2 U (Aq (Aa (A0 (Ax U (Cj E7 C1 U H at0 U ?_)))));have hlb:=AY (H.get at1);have hsw:=H.size;refine Al qB (Xk (n:=i) r q _ (RA.ext H.ext hoffb) hB (H.get at1) hal han (by omega) (by omega)) U ?_;rintro v w ⟨q',H2,RA',hoff⟩;refine Ab (A8 (Aa (A0 (Az U U ?_))));refine Af U (qA ?_);have HX:=(Ctx.back (L1:=[(b,Bl 135 arch)]) (L2:=[]) H.tail.app_nil H2).nil_app;refine⟨⟨i+1,Jw arch i r q'⟩,rfl,⟨rfl,trivial⟩,⟨by dsimp only;omega,by dsimp only;rw[Xl];exact hal,by dsimp only;rw[Ahw hal,show min (i+1) 4=i+1 by omega],fun l r2 hl hr2=>?_,(Ctx.back (L1:=[(b,Bl 135 arch)]) (L2:=[]) HR.app_nil HX).nil_app⟩,by dsimp only;omega⟩;dsimp only at hl |-
      rcases qap l i with h5|h5
      .obtain⟨q2,g1,g2,g3⟩:=hK l r2 h5 hr2;have hrn2:=hok.nos l r2 hr2;have g4:ROff q2 r2 (·∈[b]):=g3.mono fun x hm => .inr (qab.1 hm);exact⟨q2,fun l' v' hv=>Xm _ (by omega) hv (g1 l' v' hv),g2.ext HX.ext g4,g3⟩
      .obtain rfl:l=i:=by omega
       rw[hr]at hr2;cases hr2;exact⟨q',fun l' v' hv=>Ads hal _ hv,RA',hoff.mono fun x hx=>hx.elim (fun h=>by omega) fun h=>by rw[h];exact hlb⟩
     .intro h4;replace h4:=AN h4;obtain rfl:i=s.rn.length:=by omega
      refine Bp (Am (Am (AO (Aa (Ad (Ax U (Af U (AE U (Ah Fu U (Ct (.int _ _) Bo U U U H at0 (by(simp;omega)) ?_))))))))));rintro w H;refine qA (Ad (Ax U (B1 U (Ae U (qA (A7 (BR (v1:=(.pointer _)) (v2:=(.int _ _)) U U U U ?_)))))));refine⟨b,_,rfl,(Ctx.back (L1:=[(b,Bl 135 arch)]) (L2:=[]) HR.app_nil H).nil_app,?_,?_,?_,fun r hr=>?_⟩
      .rw[qb6];exact hal
      .rw[qbo (by decide)];exact han
      .rw[qc1 (by rw[hal];decide)]
      .obtain⟨l,hl⟩:=qbs.1 hr;obtain⟨q,g1,g2,g3⟩:=hK l r (C0 hl) hl;have h3:0<=r.no % 4/\r.no % 4<4:=⟨qc4 _ (by decide),qc5 _ (by decide)⟩;refine⟨q,fun l' v' hv=>?_,g2.ext H.ext (g3.mono fun x hm => .inr (qab.1 hm)),g3⟩;have hl8:l'<8:=C0 hv;rw[qbo (by omega)];exact g1 l' v' hv
theorem Ad4{s:Ld}(hok:s.Ok)(hdy:∀r∈s.rn,r.day<=s.day)(z:StZ)(w:World)(Z:StAt w s z) :
  Ret prog 23 #[.agg (stC s z).toArray] w fun v w'=>∃m,v=.tuple #[ptr m.bl,.int .i64 0]/\Ctx w [] w' (LL m s)/\LdIn w' m s (fun x=>x∈CT m s\/x<w.heap.size):=by
 obtain⟨w0,rfl,H⟩:=qE w;have h16:=(Co.1 hok.ac).1;obtain⟨h64,hnx,-,-⟩:=Fb hok.du;have hkn:=GS hok.du;have h4:=hok.kept.1;refine Ay (fn:=f23) func23 U [.agg (stC s z).toArray] U (Ad (Br (stC s z) (.agg _) U U H ?_));rintro b1 w - H;refine B1 U (Ae U (qA (Ad (Ah IE U (AB Gi U H at0 U (Al qB (Ak8 z.aA _ z.cA s.acs _ (Z.A.ext0 H.ext) U) U ?_))))));rintro v w ⟨pA,rfl,-,hA,hx16⟩;obtain⟨ba,aA,cA,fA,rfl,hba,OA,hbA,hbaw⟩:=hA hok.ac;replace H:Ctx w0 [] w ((b1,Bl 42 (stC s z))::((ba,Bl 129 [.slice aA s.acs.length cA])::ent aA 108 fA)):=H.callEnt (E:=(ba,Bl 129 [.slice aA s.acs.length cA])::ent aA 108 fA) hx16 (fun x hx=>(qae.1 hx).elim (fun h=>by rw[h];exact⟨hba,hbaw⟩) fun h=>⟨(hbA x h).1,(hbA x h).2.1⟩) (qbf.2 ⟨fun x hx=>Ne.symm (hbA x hx).2.2,FY⟩)
 refine Cb U (AJ U U (AJ U U (B1 U (Ae U (qA (Ao (Ad (Af U (Cv U U ?_)))))))));refine qA (An _ U ?_ ?_)
 .intro h1;replace h1:=Cy h1;exact absurd hok.ac h1
 .intro h1;replace h1:=Cz h1;refine Aq (Aa (Ad (Ah Ms U (AB Q8 U H at0 U (Ah Si U (AB Bz U H at0 U (Al qB (Abw z.aD _ z.cD s.ds s.nx _ (Z.D.ext0 H.ext) U (fun d hd=>by have:=(hkn.1 d hd).2;omega)) U ?_)))))));rintro v w ⟨pD,rfl,-,hD,hx27⟩;obtain⟨bd,b,o,rfl,hbd,hb,hM,hbdw,hbw,hne⟩:=hD hok.du;replace H:=H.callEnt (E:=[(bd,Bl 132 (DU b s.nx)),(b,o)]) hx27 (fun x hx=>by simp only[qae,qaq,or_false]at hx;rcases hx with rfl|rfl;exact⟨hbd,hbdw⟩;exact⟨hb,hbw⟩) (by simpa using hne);refine Cb U (AJ U U (AJ U U (B1 U (Ae U (qA (Ao (Ad (Af U (Cv U U ?_)))))))));refine qA (An _ U ?_ ?_)
  .intro h2;replace h2:=Cy h2;exact absurd hok.du h2
  .intro h2;replace h2:=Cz h2;refine Aq (Aa (Ad (Ah NV U (AB Wl U H at0 U (Ah Sj U (AB Bz U H at0 U ?_))))));have hsz:=H.size;have hlt:∀x∈(((b1,Bl 42 (stC s z))::((ba,Bl 129 [.slice aA s.acs.length cA])::ent aA 108 fA))++[(bd,Bl 132 (DU b s.nx)),(b,o)]),x.1<w.heap.size:=fun x hx=>AY (H.blk x hx);refine Al qB (Ago hok z.aR z.cR z.qs _ (Z.R.ext0 H.ext) Z.n (fun x hx=>(Z.K x hx).ext0 H.ext)) U ?_;rintro v w ⟨br,arch,rfl,HA,hal,han,hno,hK⟩;replace H:=Ctx.back (L1:=[]) (L2:=((b1,Bl 42 (stC s z))::((ba,Bl 129 [.slice aA s.acs.length cA])::ent aA 108 fA))++[(bd,Bl 132 (DU b s.nx)),(b,o)]) H HA;refine Cb U (AJ U U (AJ U U (B1 U (Ae U (qA (Ao (Ad (Af U (Cv U U ?_)))))))));refine qA (An _ U ?_ ?_)
   .intro h3;replace h3:=Cy h3;exact absurd U h3
   .intro h3;replace h3:=Cz h3;have hb1:=H.get at1;have H4:=H;obtain⟨w4,rfl⟩:=qD w;clear H;have H:=Ctx.start w4 [];refine Aq (Aa (Ad (Ax U (Ax U (Ax U (Ah Mr U (Bc Bw U ((by rw[Aj (H.ext.to hb1 (by simp))];rfl)) ?_)))))));refine Bx [ptr ba,ptr bd,ptr br,.int .i64 s.day] Ahj Aho (Br [ptr ba,ptr bd,ptr br,.int .i64 s.day] (.agg _) U U H ?_);rintro bl w - H;refine B1 U (qA (Ao (Ad (Ah Ms U (Bc Q8 U ((by rw[Aj (H.ext.to hb1 (by simp))];rfl)) ?_)))));refine Ba Dh U (Af U (qA (A1 ?_)));have hblw:w4.heap.size<=bl:=(H.own _ (qai ..)).elim (fun h=>by cases h) id;have hblh:=H.get at0;have E45:=H.ext;have HH:=Ctx.back (L1:=[]) (L2:=(br,Bl 135 arch)::(((b1,Bl 42 (stC s z))::((ba,Bl 129 [.slice aA s.acs.length cA])::ent aA 108 fA))++[(bd,Bl 132 (DU b s.nx)),(b,o)])) H4 H
    have H1:=(HH.perm (qbq (l₁:=[_,_]))).tail;have HL:Ctx w0 [] w (LL ⟨bl,ba,bd,br,b,aA,cA,fA,o,arch⟩ s):=H1.perm (List.Perm.cons _ (List.Perm.cons _ (List.Perm.cons _ (qcv (l₂:=[_,_])))));have hb1':=E45.to hb1 (by simp);have hba1:=HL.get at2;have RA1:Rd w aA 2 CQ s.acs:=OS.rd (t:=108) OA (fun y hy=>HL.blk y (qal [_,_,_,_,_] hy)) (fun _ _=>rfl) (by decide);clear H H1 HH;obtain⟨w5,rfl,H⟩:=qE w;refine Bt 2361165227036313125900 (α:=Nat) (fun i=>[(54,.int .i64 (i:Int))]) (fun i w'=>i<=s.ds.length/\Ctx w5 [] w' []) (fun i=>s.ds.length - i) 0 U ?_ ?_ ?_
    .exact⟨rfl,trivial⟩
    .exact⟨qaj _,H⟩
    .clear H;rintro i j w ⟨hi,H⟩;refine Ad (Bm U U (qA (Ao (An _ U ?_ ?_))))
     .intro h5;replace h5:=AM h5;obtain⟨d,hd⟩:=AA (l:=s.ds) (i:=i);have hdb:=hok.bk d (qac hd);have hdm:=DA (hkn.1 d (qac hd)).1;have hif:inA s.acs d.fr=true:=E6.2 ⟨by omega,hdb.1⟩;have hit:inA s.acs d.to=true:=E6.2 ⟨by omega,hdb.2⟩;refine Aq (Aa (Ao (A1 (Ad (Be (Z.D.ext0 (HL.ext.trans H.ext)) Dh BO U U (by rfl) ?_)))));refine BQ _ DT BO U U (((Z.D.ext0 (HL.ext.trans H.ext)).row hd U)) (AU D4 H ?_);rintro b10 w - H;refine Bj BO U U U (by exact CW _) H at0 U ?_;rintro w H;refine qA ?_;replace H:Ctx w5 [] w [(b10,Bl 118 (CS d))]:=H;refine Ad (BV (α:=Unit) 1180303390341259591680 (fun _=>[(69,.bool (false))]) (fun _ w'=>Ctx w5 [] w' [(b10,Bl 118 (CS d))]) U ?_ ?_)
      .refine Ax U (Ah Gw U (AB Cd U H at0 U (Al qB (MH d.fr _ (H.ext.to hblh (by simp)) (H.ext.to hba1 (by simp)) (RA1.ext0 H.ext)) U ?_)));rintro v w ⟨rfl,hx61⟩;rw[hif];replace H:=H.call hx61;refine BE U (Aw U (AK 63 U ?_ ?_))
       .intro h1;replace h1:=B7 h1;refine Ag U (Ag U (Ag U (Ag U (Ag U (A6 U (.bool _) U (Ab ?_))))));exact⟨rfl,(),rfl,⟨qaa Value.bool (by contradiction),trivial⟩,H⟩
       .intro h2;replace h2:=B9 h2;refine Ax U (Ah He U (AB Cd U H at0 U (Al qB (MH d.to _ (H.ext.to hblh (by simp)) (H.ext.to hba1 (by simp)) (RA1.ext0 H.ext)) U ?_)));rintro v w ⟨rfl,hx67⟩;rw[hit];replace H:=H.call hx67;refine BE U (A9 U (.bool _) U (Ab ?_));exact⟨rfl,(),rfl,⟨qaa Value.bool (by rfl),trivial⟩,H⟩
      rintro - j69 w H;refine F2 U (Aq (A8 (Aa (A0 (Az U U ?_)))));refine Af U (qA ?_);exact⟨i+1,rfl,⟨rfl,trivial⟩,⟨by omega,H.tail⟩,by omega⟩
     .intro h5;replace h5:=AN h5;refine Bp (Am (Am (AO (Aa (Ao (Ad (Ah NV U (Bc Wl U ((by rw[Aj (H.ext.to hb1' (by simp))];rfl)) ?_))))))));refine Ba Je U (Af U (qA (A1 (Bt 19323923647902588214448140 (α:=Nat) (fun i=>[(74,.int .i64 (i:Int))]) (fun i w'=>i<=s.rn.length/\Ctx w5 [] w' []) (fun i=>s.rn.length - i) 0 U ?_ ?_ ?_))))
      .exact⟨rfl,trivial⟩
      .exact⟨qaj _,H⟩
      .clear H;rintro q j2 w ⟨hq,H⟩;have hzl:(s.rn.zip z.qs).length=s.rn.length:=by rw[qco,Z.n,Nat.min_self]
       refine Ad (Bm U U (qA (Ao (An _ U ?_ ?_))))
       .intro h6;replace h6:=AM h6;obtain⟨r,hr⟩:=AA (l:=s.rn) (i:=q);obtain⟨qq,hqq⟩:=AA (l:=z.qs) (i:=q) (h:=by rw[Z.n];omega);have hx:(s.rn.zip z.qs)[q]?=some (r,qq):=qcz.2 ⟨hr,hqq⟩;have hrd:=hdy r (qac hr);refine Aq (Aa (Ao (A1 (Ad (Be (Z.R.ext0 (HL.ext.trans H.ext)) Je C1 U U (by omega) ?_)))));refine BQ _ E7 C1 U U (((Z.R.ext0 (HL.ext.trans H.ext)).row hx U)) (AU Fi H ?_);rintro b12 w - H;refine Bj C1 U U U (by exact(by simp[AZ])) H at0 U ?_;rintro w H;refine qA ?_;replace H:Ctx w5 [] w [(b12,Bl 127 (B0 r qq))]:=H;refine Ad (Ah Jh U (AB Bw U H at0 U (Ah Mr U (Bc Bw U ((by rw[Aj (H.ext.to hb1' (by simp))];rfl)) ?_))));refine CD U U (qA (An _ U ?_ ?_))
        .intro h7;replace h7:=AM h7;omega
        .intro h7;replace h7:=AN h7;refine Aq (A8 (Aa (A0 (Az U U ?_))));refine Af U (qA ?_);exact⟨q+1,rfl,⟨rfl,trivial⟩,⟨by omega,H.tail⟩,by omega⟩
       .intro h6;replace h6:=AN h6;have hday:=hok.day;refine Bp (Am (Am (AO (Aa (Ao (Ad (Ah Mr U (Bc Bw U ((by rw[Aj (H.ext.to hb1' (by simp))];rfl)) ?_))))))));refine Bm U U (qA (An _ U ?_ ?_))
        .intro h7;replace h7:=AM h7;omega
        .intro h7;replace h7:=AN h7;refine Aq (Aa (Ad (Ax U (B1 U (Ae U (qA (A7 (BR (v1:=(.pointer _)) (v2:=(.int _ _)) U U U U ?_))))))));have HF:=HL.call H.ext;refine⟨⟨bl,ba,bd,br,b,aA,cA,fA,o,arch⟩,rfl,HF,OA,hM,hok,hal,han,hno,fun r hr=>?_,fun x hx => .inl hx,fun x hx=>?_⟩
         .obtain⟨qq,g1,g2,g3⟩:=hK r hr;refine⟨qq,g1,(g2.ext0 E45).ext0 H.ext,(g3.or g2.lt).mono fun x hx=>?_⟩
          rcases hx with hx|hx
          .obtain⟨y,hy,rfl⟩:=qag.1 hx;simp only[qae]at hy
           rcases hy with rfl|rfl|rfl|rfl|rfl|hy
           .exact .inr hblw
           .exact .inl (.inr U)
           .exact .inl (.inl (hlt _ (by simp)))
           .exact .inl (.inl (hlt _ (by simp)))
           .exact .inl (.inl (hlt _ (by simp)))
           .exact .inl (.inl (hlt y (by simp[hy])))
          .exact .inl (.inl (qaw hx hsz))
         .rcases hx with hx|hx
          .obtain⟨y,hy,rfl⟩:=qag.1 hx;exact AY (HF.blk y hy)
          .exact qaw hx HF.size
end Go.Proofs.YtffclglpjlcojaaGreat
namespace Go.GV
open Go
section
variable {P:Program}{e:Env}{w w0:World}{S:List Nat}{L:List (Nat × Obj)}{fn:Func}{R:Value->World->Prop}
theorem Agp{a s1 s3:Tmp}{t t2:TypeId}{b k s:Nat}{l:List Value}{v1 v3:Value}(hr:fn.results=#[.tmp s1,.cell a t,.tmp s3])(hd:e.ds=[])(h1:e.g s1=v1)(ha:e.g a=.pointer (some ⟨b,0,none⟩))(hag:Dt P t=some true)(hs:Ci P t=some s)(H:Ctx w0 S w L)(hk:L[k]?=some (b,Bl t2 l))(hl:l.length=s)(h3:e.g s3=v3)(h:R (.tuple #[v1,.agg l.toArray,v3]) w):MQ P fn R .ret e w :=
 ⟨hd,fun tmps ht=>by
  have hv:=F5 hag hs hl (fun j v hv=>show w.cell? ⟨b,0+j,none⟩=some v by rw[Aj (H.get hk),qa4];exact hv);have g1:=(ht a).trans ha;have g2:=(ht s1).trans h1;have g3:=(ht s3).trans h3;rw[qa2]at g1 g2 g3
  exact⟨.tuple #[v1,.agg l.toArray,v3],by simp[results,hr,g1,g2,g3,asAddr,hv],h⟩⟩
end
end Go.GV
namespace Go.Proofs.YtffclglpjlcojaaGreat
open Go.GV Go.Proofs.Tryz
attribute [local irreducible] AG W Wq Wt
def Gc:Ld->List Ak->Ld->List Rp->Prop
 |s,[],s',ps=>s'=s/\ps=[]
 |s,k::ks,s',ps=>∃s1 p ps',Cr s k s1 p/\Gc s1 ks s' ps'/\ps=p::ps'
theorem PU{k:Ak}{s1 s2:Ld}{p:Rp}:∀{ks:List Ak} {s:Ld} {ps:List Rp},Gc s ks s1 ps->Cr s1 k s2 p->Gc s (ks++[k]) s2 (ps++[p])
 | [],s,ps,h,h2=>by
  obtain⟨rfl,rfl⟩:=h;exact⟨s2,p,[],h2,⟨rfl,rfl⟩,rfl⟩
 |k1::ks,s,ps,h,h2=>by
  obtain⟨s3,p3,ps',h3,h4,rfl⟩:=h;exact⟨s3,p3,ps'++[p],h3,PU h4 h2,rfl⟩
theorem RC:∀{ks:List Ak} {s s':Ld} {ps:List Rp},Gc s ks s' ps->ps.length=ks.length
 | [],_,_,_,h=>by rw[h.2];rfl
 |k::ks,_,_,_,h=>by
  obtain⟨_,_,ps',_,h4,rfl⟩:=h;rw[qa8,qa8,RC h4]
def UC(s:Ld):Prop:=∀r∈s.rn,r.day<=s.day
theorem Ta{s s':Ld}{k:Ak}{p:Rp}(h:Cr s k s' p)(hd:UC s):UC s':=by
 unfold Cr at h
 split at h
 .rcases h with⟨-,rfl,-⟩|⟨-,r,-,rfl,-⟩
  .exact hd
  .intro x hx
   rcases Uv hx with hx|rfl
   .exact hd x hx
   .exact qax _
 .rw[h.1];intro x hx;unfold Et at hx |-
  by_cases hk9:k.kd=9
  .rw[if_neg (by omega),if_neg (by omega),if_neg (by omega),if_neg (by omega),if_neg (by omega),if_neg (by omega),if_neg (by omega),if_neg (by omega),if_pos hk9]at hx |-
   split at hx
   .rename_i hu
    rw[if_pos hu];exact qbg (hd x hx) hu
   .rename_i hu
    rw[if_neg hu];exact hd x hx
  .have hrn:(Et s k).rn=s.rn/\(Et s k).day=s.day:=by
    unfold Et
    repeat (first|exact⟨rfl,rfl⟩|(exfalso;omega)|split)
   unfold Et at hrn;rw[hrn.1]at hx;rw[hrn.2];exact hd x hx
theorem LdIn.less{w:World}{m:Lm}{s:Ld}{T T':Nat->Prop}(I:LdIn w m s T)(ho:∀x∈CT m s,T' x)(hT:∀x,T' x->T x):LdIn w m s T' where
 O:=I.O
 M:=I.M
 ok:=I.ok
 len:=I.len
 n:=I.n
 no:=I.no
 kept:=fun r hr=>by
  obtain⟨q,g1,g2,g3⟩:=I.kept r hr;exact⟨q,g1,g2,g3.mono hT⟩
 own:=ho
 low:=fun x hx=>I.low x (hT x hx)
theorem Xq{f:FuncId}{caps:Array Value}{blx:Nat}{w0 w:World}{B:List (Nat × Obj)}{m:Lm}{s:Ld}{T:Nat->Prop}{Q:World->Prop}(L:Led blx w0 w B m s T)(hdy:UC s)(hf:Au prog f=true)(hc:∀(w1:World) (m1:Lm),Ctx w [] w1 (LL m1 s)->LdIn w1 m1 s (fun x=>x∈CT m1 s\/x<w.heap.size)->Ret prog f (ptr m1.bl::caps.toList).toArray w1 fun _ w2=>Q w2) :
  Ret prog 63 #[ptr blx,.func (.func f) #[] caps] w fun v w'=>v=.int .i64 0/\Q w':=by
 obtain⟨w1,rfl,H⟩:=qE w;refine Ay (fn:=f63) func63 U [.pointer (some ⟨blx,0,none⟩),.func (.func f) #[] caps] U ?_;refine Ad (Ae U (qA (Ao (Ad (Ax U (Cu Wv U ?_))))));refine qA (An _ U ?_ ?_)
 .intro h1;cases h1
 .intro h1;refine Aq (Aa (Ad (Ax U (Al qB (Fg L) U ?_))));rintro v w ⟨hx11,z,rfl,Z,-⟩;refine Al qB (Ad4 L.I.ok hdy z _ Z) U ?_;rintro v w ⟨m1,rfl,HC,I1⟩;have hsz11:=hx11.size;replace HC:=(Ctx.back (L1:=[]) (L2:=[]) (H.call hx11) HC).nil_app;replace I1:=I1.less (T':=fun x=>x∈CT m1 s\/x<w1.heap.size) (fun x hx => .inl hx) (fun x hx=>hx.imp_right fun h=>qaw h hsz11);refine Cb U (AJ U U (AJ U U (B1 U (Ae U (qA (Ao (Ad (Af U (BP U U ?_)))))))));refine qA (An _ U ?_ ?_)
  .intro h2;replace h2:=AM h2;refine A0 (CU (.func _ _ _) U ?_);refine Ax U (FI U hf (hc _ m1 HC I1) U ?_);rintro v w hQ;refine qA (Ad (Af U (Ae U (qA (A7 (AD (v:=(.int _ _)) U U U ?_))))));exact⟨rfl,hQ⟩
  .intro h2;replace h2:=AN h2;exact absurd U h2
theorem Agq{bl b3 b5:Nat}{wT w:World}{m:Lm}{s:Ld}{T:Nat->Prop}{k:Ak}(hk:AkIn k)(L:Led bl wT w [(b5,Bl 33 [.int .i64 0,.slice none 0 0]),(b3,Bl 25 (BA k))] m s T) :
  Ret prog 65 #[ptr bl,ptr b3,ptr b5] w fun _ w'=>Ext [] wT w'/\∃s' p v1,Cr s k s' p/\w'.heap[b5]?=some (Bl 33 [.int .i64 p.e,v1]):=by
 obtain⟨w1,rfl,H⟩:=qE w;have h3:=L.H.blk (b3,Bl 25 (BA k)) (qao _ (by simp));refine Ay (fn:=f65) func65 U [.pointer (some ⟨bl,0,none⟩),.pointer (some ⟨b3,0,none⟩),.pointer (some ⟨b5,0,none⟩)] U ?_;refine A0 (Ax U (BQ _ Ic EJ U U ((Ca (b:=b3) (t:=25) (l:=BA k) h3 0 (BA k) U)) ?_));refine Al qB (F1 (k:=k) L hk) U ?_;rintro v w ⟨a1,n1,c1,f1,p,s',m',T',rfl,OP,hst,L3,g,hxD⟩;have h5:=L3.H.blk (b5,Bl 33 [.int .i64 0,.slice none 0 0]) (qao _ (by simp));have hb5:=(L3.H.own (b5,Bl 33 [.int .i64 0,.slice none 0 0]) (qao _ (by simp))).elim (fun h=>by cases h) id;have hE:=L3.H.ext;clear H;have H:=Ctx.start1 h5;refine Bj Dy U U U (by simp[AZ]) H at0 U ?_;rintro w H;refine Ab (CO U U ?_)
 exact⟨hE.then H.ext (fun x hx => .inr (by rw[qab.1 hx];exact hb5)),s',p,_,hst,H.get at0⟩
theorem Ad5{blx:Nat}{w0 w:World}{B:List (Nat × Obj)}{m:Lm}{s:Ld}{T:Nat->Prop}{k:Ak}(hk:AkIn k)(L:Led blx w0 w B m s T)(hdy:UC s) :
  Ret prog 22 #[ptr blx,.agg (BA k).toArray] w fun v w'=>Ext [] w w'/\∃s' p,Cr s k s' p/\v=.int .i64 p.e:=by
 obtain⟨w1,rfl,H⟩:=qE w;refine Ay (fn:=f22) func22 U [.pointer (some ⟨blx,0,none⟩),.agg (BA k).toArray] U ?_;refine Ad (Br (BA k) (.agg _) U U H ?_);rintro b3 w - H;refine Ae U (qA (Ad (AU Gk H ?_)));rintro b5 w - H;refine qA (Ao (Ad (Ax U (Cf [.pointer _,.pointer _] U (Al qB (Xq (caps:=#[ptr b3,ptr b5]) (Q:=fun w'=>Ext [] w1 w'/\∃s' p v1,Cr s k s' p/\w'.heap[b5]?=some (Bl 33 [.int .i64 p.e,v1])) (L.next H) hdy qB (fun w2 m2 HC I2=>Agq hk ⟨(Ctx.back (L1:=[]) (L2:=[_,_]) H HC).comm,I2,rfl⟩)) U ?_)))));rintro v w ⟨rfl,hx9,s',p,v1,hst,h5⟩;clear H;obtain⟨w3,rfl,H⟩:=qE w;refine Ae U (qA (Ad (Af U (Cv U U (qA (An _ U ?_ ?_))))))
 .intro h1;replace h1:=Cy h1;exact absurd U h1
 .intro h1;replace h1:=Cz h1;refine Aq (Aa (Ad (Ah EB U (Bc Hd U ((by rw[Aj (H.ext.to h5 (by simp))];rfl)) ?_))));refine Ae U (qA (A7 (AD (v:=(.int _ _)) U U U ?_)));exact⟨hx9.trans H.ext,s',p,hst,rfl⟩
abbrev RpX:=Int × Option Addr × Nat × Nat
abbrev RG(x:RpX):List Value:=[.int .i64 x.1,.slice x.2.1 x.2.2.1 x.2.2.2]
structure TrZ where
 i:Nat
 a:Option Addr
 c:Nat
 f:List Value
 xs:List RpX
 ps:List Rp
 m:Lm
 s:Ld
 T:Nat->Prop
abbrev eR(a:Option Addr)(f:List Value):List (Nat × Obj):=ent a 33 f
def RpAt(w:World)(x:RpX)(p:Rp):Prop:=x.1=p.e/\x.2.2.1=p.n.length/\Rd w x.2.1 1 I1 p.n
structure RpsAt(w:World)(xs:List RpX)(ps:List Rp)(S:Nat->Prop):Prop where
 len:xs.length=ps.length
 k:∀(i:Nat) (x:RpX) (p:Rp),xs[i]?=some x->ps[i]?=some p->RpAt w x p/\(p.n≠[]->¬S (adr x.2.1).block)
theorem RpsAt.nil{w:World}{S:Nat->Prop}:RpsAt w [] [] S:=⟨rfl,fun i x p h=>by cases h⟩
theorem RpsAt.mono{w:World}{xs:List RpX}{ps:List Rp}{S S':Nat->Prop}(h:RpsAt w xs ps S)(hs:∀x,S' x->S x):RpsAt w xs ps S' :=
 ⟨h.len,fun i x p h1 h2=>⟨(h.k i x p h1 h2).1,fun g g2=>(h.k i x p h1 h2).2 g (hs _ g2)⟩⟩
theorem RpsAt.ext{w w':World}{xs:List RpX}{ps:List Rp}{S:Nat->Prop}{L:List Nat}(h:RpsAt w xs ps S)(he:Ext L w w')(hL:∀x∈L,S x):RpsAt w' xs ps S :=
 ⟨h.len,fun i x p h1 h2=>⟨⟨(h.k i x p h1 h2).1.1,(h.k i x p h1 h2).1.2.1,(h.k i x p h1 h2).1.2.2.ext' he fun g g2=>(h.k i x p h1 h2).2 g (hL _ g2)⟩,(h.k i x p h1 h2).2⟩⟩
theorem RpsAt.ext0{w w':World}{xs:List RpX}{ps:List Rp}{S:Nat->Prop}(h:RpsAt w xs ps S)(he:Ext [] w w'):RpsAt w' xs ps S:=h.ext he fun x hx=>by cases hx
theorem RpsAt.or{w:World}{xs:List RpX}{ps:List Rp}{S:Nat->Prop}(h:RpsAt w xs ps S):RpsAt w xs ps (fun x=>S x\/w.heap.size<=x) :=
 ⟨h.len,fun i x p h1 h2=>⟨(h.k i x p h1 h2).1,fun g g2=>g2.elim ((h.k i x p h1 h2).2 g) (qck.2 ((h.k i x p h1 h2).1.2.2.lt' (fun _ _=>rfl) (by decide) g))⟩⟩
theorem RpsAt.snoc{w:World}{xs:List RpX}{ps:List Rp}{S:Nat->Prop}{x:RpX}{p:Rp}(h:RpsAt w xs ps S)(h1:RpAt w x p)(h2:p.n≠[]->¬S (adr x.2.1).block):RpsAt w (xs++[x]) (ps++[p]) S:=by
 refine⟨by rw[qat,qat,h.len];rfl,fun i y q hy hq=>?_⟩;have hl:=h.len
 by_cases hi:i<xs.length
 .rw[qcb hi]at hy;rw[qcb (by omega)]at hq;exact h.k i y q hy hq
 .have hi2:i<(xs++[x]).length:=(qbc.1 hy).1;rw[qat,qb4]at hi2;obtain rfl:i=xs.length:=by omega
  rw[qcf (qan _),qdw]at hy;rw[hl,qcf (qan _),qdw]at hq;obtain rfl:x=y:=qam hy;obtain rfl:p=q:=qam hq;exact⟨h1,h2⟩
theorem RpsAt.codes{w:World}{xs:List RpX}{ps:List Rp}{S:Nat->Prop}(h:RpsAt w xs ps S):(xs.map fun x:RpX=>x.1)=ps.map Rp.e:=by
 refine qb0 fun i=>?_;rw[qa1,qa1];have hl:=h.len
 by_cases hi:i<xs.length
 .obtain⟨x,hx⟩:=AA (l:=xs) (i:=i) (h:=hi);obtain⟨p,hp⟩:=AA (l:=ps) (i:=i);rw[hx,hp];exact qaa some (h.k i x p hx hp).1.1
 .rw[qa9 (by omega),qa9 (by omega)];rfl
theorem Agr{bl N:Nat}{w0 w:World}{B:List (Nat × Obj)}{m:Lm}{s:Ld}{T:Nat->Prop}{k:Ak}{xs:List RpX}{ps:List Rp}(L:Led bl w0 w B m s T)(hin:AkIn k)(RP:RpsAt w xs ps (fun x=>T x\/x<N))(hN:N<=w.heap.size) :
  Ret prog 9 #[ptr bl,.agg (BA k).toArray] w fun v w'=>∃a n c full p s' m' T',v=.agg #[.int .i64 p.e,.slice a n c]/\OS a n c 1 full (p.n.map Dj)/\Cr s k s' p/\Led bl w0 w' (ent a 2 full++B) m' s' T'/\Grows T T' w/\Ext (CT m s) w w'/\RpsAt w' (xs++[(p.e,a,n,c)]) (ps++[p]) (fun x=>T' x\/x<N):=by
 refine Ret.mono (Xn L hin) ?_;rintro v w' ⟨a,n,c,full,p,s',m',T',rfl,O,hst,L2,g,hx,hnw⟩
 have hlow:∀x,T x->x∉(ent a 2 full).map fun x=>x.1:=fun x ht hm=>by
  obtain⟨y,hy,rfl⟩:=qag.1 hm;exact absurd (L.I.low _ ht) (Nat.not_lt.2 (hnw y hy))
 have g2:Grows T (fun x=>T' x/\x∉(ent a 2 full).map fun x=>x.1) w:=⟨fun x h=>⟨g.1 x h,hlow x h⟩,fun x h=>g.2 x h.1⟩
 have I2:LdIn w' m' s' (fun x=>T' x/\x∉(ent a 2 full).map fun x=>x.1):=L2.I.less (fun x hx=>⟨L2.I.own x hx,fun hm=>by
  obtain⟨y,hy,rfl⟩:=qag.1 hm
  exact(L2.notin (b:=y.1) (o:=y.2) (qao _ hy)).1 hx⟩) fun x h=>h.1
 have R1:Rd w' a 1 I1 p.n:=O.rd1 (t:=2) fun x hx=>L2.H.blk x (qao _ (qao _ hx));have hn:n=p.n.length:=O.num;have RP1:=(RP.or.mono (S':=fun x=>(T' x/\x∉(ent a 2 full).map fun x=>x.1)\/x<N) fun x h=>h.elim (fun h=>(g2.2 x h).imp_left .inl) fun h => .inl (.inr h)).ext hx fun x hm => .inl (g2.1 x (L.I.own x hm));refine⟨a,n,c,full,p,s',m',_,rfl,O,hst,⟨L2.H,I2,L2.e⟩,g2,hx,RP1.snoc ⟨rfl,hn,R1⟩ fun hne h=>?_⟩;obtain⟨b,rfl⟩:=O.form (by have:=qbn.2 hne;omega)
 rcases h with h|h
 .exact h.2 (qef _)
 .exact absurd (hnw _ (qef _)) (qck.2 (qaw h hN))
theorem Alu{x:Nat × Obj}{y:Nat × Obj}{E R:List (Nat × Obj)}(h:∀z∈y::(E++R),x.1≠z.1):x.1∉E.map (fun x=>x.1):=fun hm=>by
 obtain⟨z,hz,hzx⟩:=qag.1 hm;exact h z (qah _ (qao _ hz)) hzx.symm
theorem Ags{x:Nat × Obj}{E R:List (Nat × Obj)}(h:∀z∈E++R,x.1≠z.1):x.1∉E.map (fun x=>x.1):=fun hm=>by
 obtain⟨z,hz,hzx⟩:=qag.1 hm;exact h z (qao _ hz) hzx.symm
theorem Agt{bl b3 b5 b7 b8 c:Nat}{a:Option Addr}{ks:List Ak}{wT w:World}{m:Lm}{s:Ld}{T:Nat->Prop}(L:Led bl wT w [(b7,Bl 56 [.slice none 0 0]),(b8,Bl 42 (stC KI KL)),(b5,Bl 42 (stC KI KL)),(b3,Bl 22 [.slice a ks.length c])] m s T)(hT7:T b7)(R:Rd wT a 7 BA ks)(hin:∀k∈ks,AkIn k)(hk1:ks.length<=1000) :
  Ret prog 64 #[ptr bl,ptr b3,ptr b7,ptr b8] w fun _ w'=>Ext [] wT w'/\∃s' xs ps aR cR z,Gc s ks s' ps/\xs.length=ks.length/\w'.heap[b7]?=some (Bl 56 [.slice aR ks.length cR])/\w'.heap[b8]?=some (Bl 42 (stC s' z))/\Rd w' aR 2 RG xs/\StAt w' s' z/\w'.heap[b5]?=some (Bl 42 (stC KI KL))/\(xs≠[]->(adr aR).block≠b5/\wT.heap.size<=(adr aR).block)/\StOff s' z (fun x=>x<w.heap.size)/\RpsAt w' xs ps (fun x=>x<w.heap.size):=by
 obtain⟨w0,rfl,H⟩:=qE w;have h8w:=AY (L.H.blk (b8,Bl 42 (stC KI KL)) (qao _ (by simp)));have h30:=L.H.blk (b3,Bl 22 [.slice a ks.length c]) (qao _ (by simp));refine Ay (fn:=f64) func64 U [.pointer (some ⟨bl,0,none⟩),.pointer (some ⟨b3,0,none⟩),.pointer (some ⟨b7,0,none⟩),.pointer (some ⟨b8,0,none⟩)] U ?_;refine Ao (Ad (Bc Ag2 U ((by rw[Aj h30];rfl)) ?_));refine Ba Gj U (Af U (qA (A1 ?_)));have hs0:=H.size;clear H
 refine Bt 1048128 (α:=TrZ) (fun z=>[(9,.int .i64 (z.i:Int))]) (fun z w'=>(z.i<=ks.length/\z.xs.length=z.i)/\(Gc s (ks.take z.i) z.s z.ps/\w0.heap.size<=w'.heap.size/\RpsAt w' z.xs z.ps (fun x=>z.T x\/x<w0.heap.size))/\OS z.a z.i z.c 2 z.f (z.xs.flatMap RG)/\Led bl wT w' ((b7,Bl 56 [.slice z.a z.i z.c])::(eR z.a z.f++[(b8,Bl 42 (stC KI KL)),(b5,Bl 42 (stC KI KL)),(b3,Bl 22 [.slice a ks.length c])])) z.m z.s z.T/\z.T b7/\∀x∈eR z.a z.f,z.T x.1) (fun z=>ks.length - z.i) ⟨0,none,0,[],[],[],m,s,T⟩ U ?_ ?_ ?_
 .exact⟨rfl,trivial⟩
 .exact⟨⟨qaj _,rfl⟩,⟨⟨rfl,rfl⟩,hs0,RpsAt.nil⟩,OS.nil,L,hT7,fun x hx=>by cases hx⟩
 .clear L hT7 hs0;rintro⟨i,aR,cR,fR,xs,ps,m1,s1,T1⟩ j w ⟨⟨hi,hxl⟩,⟨hS,hsz0,RP⟩,OR,L,hT7,hTR⟩;dsimp only at hi hxl hS RP OR L hT7 hTR;dsimp only;obtain⟨w1,rfl,H⟩:=qE w;have h7:=L.H.blk (b7,Bl 56 [.slice aR i cR]) (qao _ (by simp));refine Ad (Bm U U (qA (Ao (An _ U ?_ ?_))))
  .intro h1;replace h1:=AM h1;obtain⟨k,hk⟩:=AA (l:=ks) (i:=i);have hkin:=hin k (qac hk);refine Aq (Aa (Ao (A1 (Ad (Be (R.ext0 (L.H.ext.trans H.ext)) Gj EJ U U (by rfl) ?_)))));refine BQ _ Ic EJ U U (((R.ext0 (L.H.ext.trans H.ext)).row hk U)) (AU FA H ?_);rintro b6 w - H;refine Bj EJ U U U (by exact(by simp[AZ])) H at0 U ?_;rintro w H;refine qA (Fh [([0,1,2],3),([],4),([],5),([],6)] (fun z=>z.heap[b7]?=some (Bl 56 [.slice aR i cR])/\z.heap[b6]?=some (Bl 25 (BA k))) [6] Bq (⟨H.drew.ext.to h7 (by simp),H.drew.get at0⟩) ?_);refine AH U U (B3 Ag4 U (fun _ hx=>(by rw[Aj hx.1];rfl)) ?_);refine BF U (Gh _ Ic EJ U U (fun _ hx=>(Ca (b:=b6) (t:=25) (l:=BA k) hx.2 0 (BA k) rfl)) ?_);refine AR ?_;replace H:=H.drew
   have L1:=L.next H
   refine Al qB (Agr (k:=k) L1 hkin (RP.ext0 H.ext) (qa0 hsz0 H.size)) U ?_;have hsz1:=H.size;rintro v w ⟨a1,n1,c1,f1,p,s2,m2,T2,rfl,OP,hst,L2,g,hxD,RP2⟩;replace hsz1:=qa0 hsz0 (qa0 hsz1 hxD.size);have h72:=L2.H.blk (b7,Bl 56 [.slice aR i cR]) (qao _ (by simp));have h62:=L2.H.blk (b6,Bl 25 (BA k)) (qao _ (by simp));have hnd:=L2.H.nd;have HB:=L2.H;simp only[qaz,qcx,qb9]at HB;replace HB:=HB.right;have hn6:b6∉(eR aR fR).map (fun x=>x.1):=(Alu (qbf.1 HB.nd).1);replace HB:=HB.tail;have hn7:b7∉(eR aR fR).map (fun x=>x.1):=(Ags (qbf.1 HB.nd).1);obtain⟨w2,rfl⟩:=qD w;clear H;have H:=Ctx.in' (B:=[_]) (L:=eR aR fR) HB;refine Ab (BM (⟨h72,h62⟩) (AH U U ?_));refine AR (Cs _ (.agg _) Lr Dy Gk U U U U H ?_);rintro b17 w - H
   refine Ab (BM (⟨H.ext.to h72 hn7,H.ext.to h62 hn6⟩) (AH U U ?_));refine AR (CI (L:=[]) Lr Lr Dy by_33 Gk U U U H OR U (by simp[AZ]) ?_);rintro aR' cR' fR' w H OR';have HX:Ctx w2 ((eR aR fR).map fun x=>x.1) w (eR aR' fR'):=H;have HB3:=Ctx.mid (B:=[_]) (L:=eR aR fR) HB HX;obtain⟨w3,rfl⟩:=qD w;clear H;have H:=Ctx.start1 (HB3.get at0);refine Ab (BM (⟨HB3.get at0,HX.ext.to h62 hn6⟩) (AH U U ?_));refine AR (Ct (.slice _ _ _) sz_56 U U U H at0 (by(simp;done)) ?_);rintro w H;refine Ab (B5 U (BG (A8 (Aa (A0 (Az U U ?_))))));refine Af U (qA ?_)
   have hT2R:∀x∈(eR aR fR).map (fun x=>x.1),T2 x:=fun x hx=>by
    obtain⟨y,hy,rfl⟩:=qag.1 hx;exact g.1 _ (hTR y hy)
   have g2:Grows T2 (fun x=>T2 x\/x∈(eR aR' fR').map (fun x=>x.1)) w2:=⟨fun x hx => .inl hx,fun x hx=>hx.elim .inl fun h=>by
    obtain⟨y,hy,rfl⟩:=qag.1 h
    exact(HX.own y hy).imp_left (hT2R _)⟩
   have I3:LdIn w3 m2 s2 (fun x=>T2 x\/x∈(eR aR' fR').map (fun x=>x.1)):=L2.I.grow HX.ext (fun x hx => .inl (hT2R x hx)) g2 fun x hx=>hx.elim (fun h=>qaw (L2.I.low x h) HX.size) fun h=>by
    obtain⟨y,hy,rfl⟩:=qag.1 h;exact AY (HX.blk y hy)
   have I4:=I3.grow H.ext (fun x hx => .inl (.inl (by rw[qab.1 hx];exact g.1 _ hT7))) (Grows.refl _ _) fun x hx=>qaw (I3.low x hx) H.size
   have HN:Ctx wT [] w (((b7,Bl 56 [.slice aR' (i+1) cR'])::(eR aR' fR'++[(b8,Bl 42 (stC KI KL)),(b5,Bl 42 (stC KI KL)),(b3,Bl 22 [.slice a ks.length c])]))++LL m2 s2):=by
    simp only[qcx,qaz,qb9];exact Ctx.back (L1:=[_]) HB3 H
   have RP4:RpsAt w (xs++[(p.e,a1,n1,c1)]) (ps++[p]) (fun x=>(T2 x\/x∈(eR aR' fR').map (fun x=>x.1))\/x<w0.heap.size) :=
    ((RP2.or.mono (S':=fun x=>(T2 x\/x∈(eR aR' fR').map (fun x=>x.1))\/x<w0.heap.size) fun x hx=>hx.elim (fun h=>(g2.2 x h).imp_left .inl) fun h => .inl (.inr h)).ext HX.ext fun x hx => .inl (.inl (hT2R x hx))).ext H.ext fun x hx => .inl (.inl (by rw[qab.1 hx];exact g.1 _ hT7))
   refine⟨⟨i+1,aR',cR',fR',xs++[(p.e,a1,n1,c1)],ps++[p],m2,s2,fun x=>T2 x\/x∈(eR aR' fR').map (fun x=>x.1)⟩,rfl,⟨rfl,trivial⟩,⟨⟨by dsimp only;omega,by dsimp only;rw[qat,qb4,hxl]⟩,⟨?_,qa0 hsz1 (qa0 HX.size H.size),RP4⟩,?_,⟨HN,I4,L2.e⟩,.inl (g.1 _ hT7),fun x hx => .inr (qa5 (f:=fun x:Nat × Obj=>x.1) hx)⟩,by dsimp only;omega⟩
   .dsimp only;rw[qbw,hk];exact PU hS hst
   .dsimp only;rw[qb1,List.flatMap_singleton];exact OR'
  .intro h1;replace h1:=AN h1;obtain rfl:i=ks.length:=by omega
   have h8:=L.H.blk (b8,Bl 42 (stC KI KL)) (qao _ (by simp));have hnd:=qbf.1 L.H.left.nd;have h78:b7≠b8:=hnd.1 (b8,Bl 42 (stC KI KL)) (by simp);have h58:b5≠b8:=Ne.symm ((qbf.1 (qbu.1 hnd.2).2.1).1 (b5,Bl 42 (stC KI KL)) (by simp));have h5:=L.H.blk (b5,Bl 42 (stC KI KL)) (qao _ (by simp));have hR8:∀x∈eR aR fR,x.1≠b8:=fun x hx=>(qbu.1 hnd.2).2.2 x hx (b8,Bl 42 (stC KI KL)) (by simp);have hR5:∀x∈eR aR fR,x.1≠b5:=fun x hx=>(qbu.1 hnd.2).2.2 x hx (b5,Bl 42 (stC KI KL)) (by simp);have hb8:=(L.H.own (b8,Bl 42 (stC KI KL)) (qao _ (by simp))).elim (fun h=>by cases h) id;refine Bp (Am (Am (AO (Aa (A0 (Ax U (Al qB (Fg L) U ?_)))))));rintro v w ⟨hx21,z,rfl,Z,O⟩;clear H;obtain⟨w3,rfl⟩:=qD w;have H:=Ctx.start1 (hx21.to h8 (by simp))
   refine Bj IF U U U (by exact(by simp[AZ])) H at0 U ?_;rintro w H;refine Ab (CO U U ?_);have hb8l:=AY h8;rw[qbj]at hS;have RP5:=(RP.ext0 hx21).ext H.ext fun x hx => .inr (by rw[qab.1 hx];exact h8w);refine⟨(L.H.ext.trans hx21).then H.ext (fun x hx => .inr (by rw[qab.1 hx];exact hb8)),s1,xs,ps,aR,cR,z,hS,hxl,H.ext.to (hx21.to h7 (by simp)) (by rw[qab];exact h78),H.get at0,OS.rd (t:=33) OR (fun x hx=>H.ext.to (hx21.to (L.H.blk x (qao _ (qah _ (qao _ hx)))) (by simp)) (by rw[qab];exact hR8 x hx)) (fun _ _=>rfl) (by decide),Z.ext H.ext (O.mono fun x hx=>by rw[qab.1 hx];exact hb8l),H.ext.to (hx21.to h5 (by simp)) (by rw[qab];exact h58),fun hne=>?_,O.mono fun x hx=>qaw hx hsz0,RP5.mono fun x hx => .inr hx⟩
   obtain⟨b,rfl⟩:=OR.form (by have:=qbn.2 hne;omega);exact⟨hR5 (b,_) (qef _),(L.H.own (b,_) (qao _ (qah _ (qao _ (qef _))))).elim (fun h=>by cases h) id⟩
abbrev stC0:List Value:=stC KI KL
theorem VW{blx:Nat}{w0 w:World}{B:List (Nat × Obj)}{m:Lm}{s:Ld}{T:Nat->Prop}{a:Option Addr}{c:Nat}{ks:List Ak}(L:Led blx w0 w B m s T)(hdy:UC s)(R:Rd w a 7 BA ks)(hin:∀k∈ks,AkIn k)(hk1:ks.length<=1000) :
  Ret prog 21 #[ptr blx,.slice a ks.length c] w fun v w'=>Ext [] w w'/\∃s' xs ps aR cR z,Gc s ks s' ps/\xs.length=ks.length/\v=.tuple #[.slice aR ks.length cR,.agg (stC s' z).toArray,.int .i64 0]/\Rd w' aR 2 RG xs/\StAt w' s' z/\RpsAt w' xs ps (fun x=>x<w.heap.size)/\StOff s' z (fun x=>x<w.heap.size)/\(xs≠[]->w.heap.size<=(adr aR).block):=by
 obtain⟨w1,rfl,H⟩:=qE w;refine Ay (fn:=f21) func21 U [.pointer (some ⟨blx,0,none⟩),.slice a ks.length c] U ?_;refine Ad (Br _ (.slice _ _ _) U U H ?_);rintro b3 w - H;refine A4 U (AU N2 H ?_);rintro b5 w - H;refine Ae U (qA (Ao (Ad (BV (α:=Unit) 130048 (fun _=>[(16,.bool (decide (1000<ks.length)))]) (fun _ w'=>Ctx w1 [] w' [(b5,Bl 42 stC0),(b3,Bl 22 [.slice a ks.length c])]) U ?_ ?_))))
 .refine Ax U (XA U Wv U ?_);refine Aw U (AK 12 U ?_ ?_)
  .intro h1;refine AB Ag2 U H at1 U (Ba Gj U (CD U U (A6 U (.bool _) U (Ab ?_))));exact⟨rfl,(),rfl,⟨qaa Value.bool (by(simp;omega)),trivial⟩,H⟩
  .intro h2;refine Ag U (Ag U (Ag U (A9 U (.bool _) U (Ab ?_))));exact⟨rfl,(),rfl,⟨qaa Value.bool (by(simp;omega)),trivial⟩,H⟩
 rintro - j16 w H;refine An _ U ?_ ?_
 .intro h1;exact absurd (qba h1) (by omega)
 .intro h1;refine Aq (Aa (Ad (AU zc_56 H ?_)));rintro b7 w - H;refine qA (Ad (AU N2 H ?_));rintro b8 w - H
  refine qA (Ad (Ax U (Cf [.pointer _,.pointer _,.pointer _] U (Al qB (Xq (caps:=#[ptr b3,ptr b7,ptr b8]) (Q:=fun w'=>Ext [] w1 w'/\∃s' xs ps aR cR z,Gc s ks s' ps/\xs.length=ks.length/\w'.heap[b7]?=some (Bl 56 [.slice aR ks.length cR])/\w'.heap[b8]?=some (Bl 42 (stC s' z))/\Rd w' aR 2 RG xs/\StAt w' s' z/\w'.heap[b5]?=some (Bl 42 (stC KI KL))/\(xs≠[]->(adr aR).block≠b5/\w1.heap.size<=(adr aR).block)/\StOff s' z (fun x=>x<w1.heap.size\/x=b5)/\RpsAt w' xs ps (fun x=>x<w1.heap.size\/x=b5)) (L.next H) hdy qB (fun w2 m2 HC I2=>Ret.mono (Agt ⟨((Ctx.back (L1:=[]) (L2:=[_,_,_,_]) H HC).comm).perm (List.Perm.swap _ _ _),I2,rfl⟩ (.inr (AY (H.get at1))) R hin hk1) fun v w' ⟨q1,s',xs,ps,aR,cR,z,q2,q3,q4,q5,q6,q7,q8,q9,q10,q11⟩=>⟨q1,s',xs,ps,aR,cR,z,q2,q3,q4,q5,q6,q7,q8,q9,q10.mono (fun x hx=>hx.elim (fun h=>qaw h (qa0 H.size HC.size)) fun h=>by rw[h];exact qaw (AY (H.get at2)) HC.size),q11.mono (fun x hx=>hx.elim (fun h=>qaw h (qa0 H.size HC.size)) fun h=>by rw[h];exact qaw (AY (H.get at2)) HC.size)⟩)) U ?_))))
  rintro v w ⟨rfl,hx20,s',xs,ps,aR,cR,z,hst,hxl,h7,h8,RR,Z,h5,hR5,hZ5,RP⟩;have hb5:=(H.own _ (qah _ (qah _ (qai ..)))).elim (fun h=>by cases h) id;have hn7:b7≠b5:=((qbf.1 (qbf.1 H.nd).2).1 _ (qai ..));have hn8:b8≠b5:=((qbf.1 H.nd).1 _ (qah _ (qai ..)));clear H;obtain⟨w3,rfl⟩:=qD w;have H:=Ctx.start1 h5;refine Ae U (qA (Cq [([0,1,2,3],4),([],5)] (fun z=>z=World.drew w3) [4,5] Bq (rfl) ?_));refine AH U U ?_;refine B3 Ag4 U (fun _ hx=>(by subst hx;rw[Aj (show(World.drew w3).heap[b7]?=_ from h7)];rfl)) ?_;refine Gh _ OY IF U U (fun _ hx=>(by subst hx;exact Ca (b:=b8) (t:=42) (l:=stC s' z) (show(World.drew w3).heap[b8]?=_ from h8) 0 (stC s' z) rfl)) ?_;refine Bd U (Ea U (AR ?_));replace H:=H.drew
  refine Bj IF U U U (by simp[AZ]) H at0 U ?_;rintro w H;refine Ab (B5 U (AH U U ?_));refine AR (Ae U (Ab (B5 U (BG (A7 (Agp U U (show _=(.slice _ _ _)from rfl) U OY IF H at0 U (show _=(.int _ _)from rfl) ?_))))));exact⟨hx20.then H.ext (fun x hx => .inr (by rw[qab.1 hx];exact hb5)),s',xs,ps,aR,cR,z,hst,hxl,rfl,Rd.ext' RR H.ext (fun h=>by rw[qab];exact(hR5 h).1),Z.ext H.ext (hZ5.mono fun x hx => .inr (qab.1 hx)),(RP.ext H.ext fun x hx => .inr (qab.1 hx)).mono (fun x hx => .inl hx),hZ5.mono (fun x hx => .inl hx),fun h=>(hR5 h).2⟩
def FstR(cs:List Int)(e:Int)(v:Value):Prop:=(∃n:Nat,v=.tuple #[.int .i64 (n:Int),.bool true]/\cs[n]?=some e/\∀j:Nat,j<n->cs[j]? ≠ some e)\/(v=.tuple #[.int .i64 0,.bool false]/\∀j:Nat,cs[j]? ≠ some e)
theorem UD{blx:Nat}{w0 w:World}{B:List (Nat × Obj)}{m:Lm}{s:Ld}{T:Nat->Prop}{a:Option Addr}{c:Nat}{ks:List Ak}(e:Int)(L:Led blx w0 w B m s T)(hdy:UC s)(R:Rd w a 7 BA ks)(hin:∀k∈ks,AkIn k)(hk1:ks.length<=1000) :
  Ret prog 24 #[ptr blx,.slice a ks.length c,.int .i64 e] w fun v w'=>Ext [] w w'/\∃s' ps,Gc s ks s' ps/\FstR (ps.map Rp.e) e v:=by
 obtain⟨w1,rfl,H⟩:=qE w;refine Ay (fn:=f24) func24 U [.pointer (some ⟨blx,0,none⟩),.slice a ks.length c,.int .i64 e] U ?_;refine Ad (Ae U (Ai U (qA (Ad (Ax U (A2 U (Al qB (VW L hdy R hin hk1) U ?_)))))));rintro v w ⟨hx16,s',xs,ps,aR,cR,z,hst,hxl,rfl,RR,-,RP,-,-⟩;rw[<-hxl];have hcd:=RP.codes;clear RP;clear H;obtain⟨w3,rfl,H⟩:=qE w;refine Cb U (AJ U U (AJ U U (AJ U U (AU N2 H ?_))));rintro b9 w - H;refine A4 U (Bj IF U U U (by simp[AZ]) H at0 U ?_);rintro w H;refine Ae U (qA (Ao (Ad (Af U (Cv U U (qA (An _ U ?_ ?_)))))))
 .intro h1;replace h1:=Cy h1;exact absurd U h1
 .intro h1;replace h1:=Cz h1;refine Aq (Aa (Ao (Ad (A2 U (Ba Lr U (Af U (qA (A1 ?_))))))));replace hx16:=hx16.trans H.ext;replace RR:=RR.ext0 H.ext;clear H;obtain⟨w4,rfl,H⟩:=qE w;refine Bt 34342967488 (α:=Nat) (fun i=>[(24,.int .i64 (i:Int))]) (fun i w'=>(i<=xs.length/\∀j:Nat,j<i->(xs.map fun x:RpX=>x.1)[j]? ≠ some e)/\Ctx w4 [] w' []) (fun i=>xs.length - i) 0 U ?_ ?_ ?_
  .exact⟨rfl,trivial⟩
  .exact⟨⟨qaj _,fun j h=>absurd h (qa7 _)⟩,H⟩
  .clear H;rintro i j w ⟨⟨hi,hno⟩,H⟩;refine Ad (Bm U U (qA (Ao (An _ U ?_ ?_))))
   .intro h2;replace h2:=AM h2;obtain⟨x,hx⟩:=AA (l:=xs) (i:=i);have hxe:(xs.map fun x:RpX=>x.1)[i]?=some x.1:=by rw[qa1,hx];rfl
    refine Aq (Aa (Ao (A1 (Ad (Af U (Be (RR.ext0 H.ext) Lr Dy U U (by rfl) ?_))))));refine BQ _ Hw Dy U U (((RR.ext0 H.ext).row hx U)) (AU Gk H ?_);rintro b12 w - H;refine Ae U (Bj Dy U U U (by exact(by simp[AZ])) H at0 U ?_);rintro w H;refine qA ?_;replace H:Ctx w4 [] w [(b12,Bl 33 (RG x))]:=H;refine Ad (Ah EB U (AB Hd U H at0 U (Af U (BP U U (qA (An _ U ?_ ?_))))))
    .intro h3;replace h3:=AM h3;refine Ad (Af U (Ae U (Ai U (qA (A7 (AF (Av (Av (AF (Av (BR (v1:=(.int _ _)) (v2:=(.bool _)) U U U U ?_)))))))))));exact⟨hx16.trans H.ext,s',ps,hst,by rw[<-hcd];exact Or.inl ⟨i,rfl,by rw[hxe,h3],hno⟩⟩
    .intro h3;replace h3:=AN h3;refine Aq (A8 (Aa (A0 (Az U U ?_))));refine Af U (qA ?_);refine⟨i+1,rfl,⟨rfl,trivial⟩,⟨⟨by omega,fun j hj=>?_⟩,H.tail⟩,by omega⟩
     rcases Nat.lt_succ_iff_lt_or_eq.1 hj with h|rfl
     .exact hno j h
     .rw[hxe];exact fun hh=>h3 (qam hh)
   .intro h2;replace h2:=AN h2;obtain rfl:i=xs.length:=by omega
    refine Bp (Am (Am (AO (Aa (Ad (Ae U (Ai U (qA (A7 (BR (v1:=(.int _ _)) (v2:=(.bool _)) U U U U ?_))))))))));refine⟨hx16.trans H.ext,s',ps,hst,?_⟩;rw[<-hcd];refine Or.inr ⟨rfl,fun j=>?_⟩
    by_cases hj:j<xs.length
    .exact hno j hj
    .rw[qa9 (by rw[qak];omega)];exact fun h=>by cases h
def NH(ds:List Du)(k i:Nat):Int:=Cw ((ds.take i).map fun d=>if d.fr=(k:Int)/\d.held=false then d.am else 0)
def Ahx(acs:List Ac)(ds:List Du)(k:Nat):Int:=max ((acs.getD k a00).re - (acs.getD k a00).ba+NH ds k ds.length) 0
def Xr(acs:List Ac)(k:Int):Int:=if inA acs k=true then 0 else 10
def Xs(acs:List Ac)(ds:List Du)(k:Int):Int:=if inA acs k=true then Ahx acs ds k.toNat else 0
theorem RJ{ds:List Du}{k i:Nat}{d:Du}(h:ds[i]?=some d):NH ds k (i+1)=NH ds k i+(if d.fr=(k:Int)/\d.held=false then d.am else 0):=by
 unfold NH;rw[KA h,EL,Cg,show Cw ([]:List Int)=0 from rfl,qc2]
theorem PV{ds:List Du}{k:Nat}(ham:∀d∈ds,0<=d.am/\d.am<=4503599627370496):∀i,i<=ds.length->0<=NH ds k i/\NH ds k i<=4503599627370496*(i:Int)
 |0,_=>⟨qax _,qax _⟩
 |i+1,h=>by
  have ih:=PV (k:=k) ham i (by omega);obtain⟨d,hd⟩:=AA (l:=ds) (i:=i);have h1:=ham d (qac hd);rw[RJ hd]
  split <;> omega
theorem Ad6{v0 v3 v4 v5 v6:Value}(a b:Option Addr)(c e:Nat)(acs:List Ac)(ds:List Du)(k:Int)(w:World)(R:Rd w a 2 CQ acs)(R':Rd w b 7 CS ds)(ho:AZ v0=true/\AZ v3=true/\AZ v4=true/\AZ v5=true/\AZ v6=true)(h1:acs.length<=1000000:=by decide)(h2:ds.length<=100:=by decide)(hb:∀x∈acs,(0<=x.ba/\x.ba<=4503599627370496)/\0<=x.re/\x.re<=4503599627370496:=by decide)(ham:∀d∈ds,0<=d.am/\d.am<=4503599627370496:=by decide):
  Ret prog 62 #[.agg #[v0,.slice a acs.length c,.slice b ds.length e,v3,v4,v5,v6],.int .i64 k] w fun v w'=>v=.tuple #[.int .i64 (Xs acs ds k),.int .i64 (Xr acs k)]/\Ext [] w w':=by
 obtain⟨w0,rfl,H⟩:=qE w;obtain⟨o0,o3,o4,o5,o6⟩:=ho;refine Ay (fn:=f62) func62 U [.agg #[v0,.slice a acs.length c,.slice b ds.length e,v3,v4,v5,v6],.int .i64 k] U (Ad (Br [v0,.slice a acs.length c,.slice b ds.length e,v3,v4,v5,v6] (.agg _) U U H ?_));rintro b2 w - H;refine Ae U (Ae U (qA (Ao (Ad (BV (α:=Unit) 261632 (fun _=>[(17,.bool (!(inA acs k)))]) (fun _ w'=>Ctx w0 [] w' [(b2,Bl 42 [v0,.slice a acs.length c,.slice b ds.length e,v3,v4,v5,v6])]) U ?_ ?_)))))
 .refine Af U (Bm U U (Aw U (AK 11 U ?_ ?_)))
  .intro h1;replace h1:=AM h1;refine Ag U (Ag U (Ag U (Ag U (Ag U (A6 U (.bool _) U (Ab ?_))))));exact⟨rfl,(),rfl,⟨qaa Value.bool (by unfold inA;rw[qad];simp;omega),trivial⟩,H⟩
  .intro h2;replace h2:=AN h2;refine Af U (Ah IE U (AB Gi U H at0 U (Ba DE U (CG U U (A9 U (.bool _) U (Ab ?_))))));exact⟨rfl,(),rfl,⟨qaa Value.bool (by unfold inA;rw[qad];simp;omega),trivial⟩,H⟩
 rintro - j17 w H;refine An _ U ?_ ?_
 .intro h3;replace h3:=B7 h3;have hf:inA acs k=false:=by simpa using h3
  refine Ad (Ae U (Ae U (qA (A7 (Av (BR (v1:=(.int _ _)) (v2:=(.int _ _)) U U U U ?_))))));refine⟨?_,H.ext⟩;unfold Xs Xr;rw[hf];rfl
 .intro h3;replace h3:=B9 h3;have hf:inA acs k=true:=by simpa using h3
  have hki:=E6.1 hf;have hka:((k.toNat:Nat):Int)=k:=by omega
  obtain⟨x,hx⟩:=AA (l:=acs) (i:=k.toNat);have hxb:=hb x (qac hx);have hb2:=H.get at0;refine Aq (Aa (Dw (fun x=>x=_) Bq U ?_));refine A5 IE U (Cc Gi U (by rintro _ rfl;exact H.drew) at0 U ?_);refine AX U (BH R DE Da U U (by rfl) ?_);refine A5 Jf U (BX Bw U (by rintro _ rfl;exact(((R.ext0 H.drew.ext).fld hx rfl (j:=1) rfl))) ?_);refine A5 IE U (Cc Gi U (by rintro _ rfl;exact H.drew) at0 U ?_);refine AX U (BH R DE Da U U (by rfl) ?_);refine A5 Ef U (BX Bw U (by rintro _ rfl;exact(((R.ext0 H.drew.ext).fld hx rfl (j:=0) rfl))) ?_);refine DY U U (Dp U (BT ?_));rintro _ rfl;replace H:=H.drew;refine Ao (Ad (Ah Ms U (AB Q8 U H at0 U (Ba Dh U (Af U (qA (A1 ?_)))))));obtain⟨w1,hw1⟩:=qD w.drew;rw[<-hw1]at H |-;have H8:=H
  clear H;have H:=Ctx.start w1 [];refine Bt 4503582447501632 (α:=Nat) (fun i=>[(6,.int .i64 (x.re - x.ba+NH ds k.toNat i)),(34,.int .i64 (i:Int))]) (fun i w'=>i<=ds.length/\Ctx w1 [] w' []) (fun i=>ds.length - i) 0 U ?_ ?_ ?_
  .exact⟨by rw[show NH ds k.toNat 0=0 from rfl,qc2];rfl,rfl,trivial⟩
  .exact⟨qaj _,H⟩
  .clear H;rintro i j w ⟨hi,H⟩;refine Ad (Bm U U (qA (Ao (An _ U ?_ ?_))))
   .intro h4;replace h4:=AM h4;obtain⟨d,hd⟩:=AA (l:=ds) (i:=i);have hst:=RJ (k:=k.toNat) hd;rw[hka]at hst;have hs1:=PV (k:=k.toNat) ham i hi;have hs2:=PV (k:=k.toNat) ham (i+1) (by omega);have hda:=ham d (qac hd);refine Aq (Aa (Ao (A1 (Ad (Be (R'.ext0 (H8.ext.trans H.ext)) Dh BO U U (by rfl) ?_)))));refine BQ _ DT BO U U (((R'.ext0 (H8.ext.trans H.ext)).row hd U)) (AU D4 H ?_);rintro b8 w - H;refine Bj BO U U U (by exact CW _) H at0 U ?_;rintro w H;refine qA ?_;replace H:Ctx w1 [] w [(b8,Bl 118 (CS d))]:=H;refine Ad (BV (α:=Unit) 140462610448384 (fun _=>[(46,.bool ((decide (d.fr=k) && !d.held)))]) (fun _ w'=>Ctx w1 [] w' [(b8,Bl 118 (CS d))]) U ?_ ?_)
    .refine Ah Gw U (AB Cd U H at0 U (Af U (BP U U (Aw U (AK 42 U ?_ ?_)))))
     .intro h3;replace h3:=AM h3;refine Ah Jg U (AB Kl U H at0 U (BE U (A6 U (.bool _) U (Ab ?_))));exact⟨rfl,(),rfl,⟨qaa Value.bool (by(simp_all;done)),trivial⟩,H⟩
     .intro h4;replace h4:=AN h4;refine Ag U (Ag U (Ag U (A9 U (.bool _) U (Ab ?_))));exact⟨rfl,(),rfl,⟨qaa Value.bool (by(simp_all;done)),trivial⟩,H⟩
    rintro - j46 w H;refine An _ U ?_ ?_
    .intro h5;have h5':d.fr=k/\d.held=false:=by simpa using h5
     rw[if_pos h5']at hst;refine A0 (Af U (Ah Ez U (AB Bw U H at0 U (Az U U ?_))));refine Ae U (Ab (A8 (Aa (A0 (Az U U ?_)))));refine Af U (qA ?_);exact⟨i+1,rfl,⟨qaa (Value.int .i64) (by rw[hst];omega),rfl,trivial⟩,⟨by omega,H.tail⟩,by omega⟩
    .intro h5;have h5':¬(d.fr=k/\d.held=false):=fun hh=>by rw[hh.1,hh.2]at h5;simp at h5
     rw[if_neg h5',qc2]at hst;refine Aq (A8 (Aa (A0 (Az U U ?_))));refine Af U (qA ?_);exact⟨i+1,rfl,⟨qaa (Value.int .i64) (by rw[hst]),rfl,trivial⟩,⟨by omega,H.tail⟩,by omega⟩
   .intro h4;replace h4:=AN h4;obtain rfl:i=ds.length:=by omega
    refine Bp (Am (Am (AO (Aa (Ad (Af U (KQ U U U ?_)))))));refine Ae U (Ae U (qA (A7 (BR (v1:=(.int _ _)) (v2:=(.int _ _)) U U U U ?_))));refine⟨?_,H8.ext.trans H.ext⟩;unfold Xs Xr Ahx;rw[if_pos hf,if_pos hf,Bs hx]
end Go.Proofs.YtffclglpjlcojaaGreat
namespace Go.GV
open Go
def Ad7(P:Program)(t:TypeId)(i:Nat):Option Nat :=
 match P.underlying t with
 |some (.struct fs)=>match fs[i]? with
  |some f=>match Dt P f.type with
   |some false=>some f.offset
   |_=>none
  |none=>none
 |_=>none
section
variable {P:Program}{r:Option Nat}{ops rest:List Oper}{Q:Exit->Env->World->Prop}{e:Env}{w:World}{dst:Option Tmp}{ty:TypeId}{pos:String}{af:Array Edge}{g:Option (Nat × Bool)}
theorem YT{t:TypeId}{x:Operand}{i off:Nat}{cs:Array Value}{v:Value}(hg:AS ⟨dst,.field t x i,ty,pos,af,g⟩ ops e=true)(hx:ev e x=.agg cs)(hv:cs[off]?=some v)(h:AG P r ops Q rest (put e dst v) w)(hf:Ad7 P t i=some off:=by kernel_rfl):AG P r ops Q (⟨dst,.field t x i,ty,pos,af,g⟩::rest) e w:=by
 unfold Ad7 at hf
 split at hf
 .rename_i fs hu
  split at hf
  .rename_i f hf1
   split at hf
   .rename_i ha
    injection hf with hf
    subst hf;exact BK hg U (by simp[execOp,hx,Instr.field,Bf hu,hf1,asAgg,part,MT ha,hv]) h
   .cases hf
  .cases hf
 .cases hf
end
end Go.GV
namespace Go.Proofs.YtffclglpjlcojaaGreat
open Go.GV Go.Proofs.Tryz
attribute [local irreducible] AG W Wq Wt
abbrev yS:Ld:=⟨0,yA0,yD0,2,[],0⟩
abbrev yK:List Ak:=[ak 3 0 0 2 0 0 0,ak 3 0 0 6 0 0 0]
theorem Ahy:∀k∈yK,AkIn k:=fun k hk=>by
 simp only[qae,qaq,or_false]at hk
 rcases hk with rfl|rfl
 .exact Hz
 .exact Hz
theorem Xt{s':Ld}{cs:List Rp}(h:Gc yS yK s' cs):s'=⟨0,[⟨3,0⟩,⟨0,0⟩],yD0,2,[],0⟩/\cs.map Rp.e=[0,12]:=by
 obtain⟨s1,p1,c1,h1,⟨s2,p2,c2,h2,⟨rfl,rfl⟩,rfl⟩,rfl⟩:=h;obtain⟨rfl,rfl⟩:s1=⟨0,[⟨3,0⟩,⟨0,0⟩],yD0,2,[],0⟩/\p1=⟨0,[3,0]⟩:=Dl h1;obtain⟨rfl,rfl⟩:s'=⟨0,[⟨3,0⟩,⟨0,0⟩],yD0,2,[],0⟩/\p2=⟨12,[]⟩:=Dl h2;exact⟨rfl,rfl⟩
theorem y_can{s':Ld}{p:Rp}(h:Cr yS (ak 3 0 0 6 0 0 0) s' p):p.e=12:=by
 obtain⟨rfl,rfl⟩:s'=yS/\p=⟨12,[]⟩:=Dl h;rfl
theorem y_fst{v:Value}(h:FstR [0,12] 12 v):v=.tuple #[.int .i64 1,.bool true]:=by
 rcases h with⟨n,rfl,h1,h2⟩|⟨-,h2⟩
 .match n,h1,h2 with
  |0,h1,_=>exact absurd h1 (by decide)
  |1,_,_=>rfl
  |n+2,_,h2=>exact absurd rfl (h2 1 (by omega))
 .exact absurd U (h2 1)
theorem y_two{xs:List RpX}(h:(xs.map fun x:RpX=>x.1)=[0,12]):∃p q,xs=[(0,p),(12,q)]:=by
 match xs,h with
 | [(a,p),(b,q)],h =>
  simp only[qav,qca,qdb,and_true]at h;obtain⟨rfl,rfl⟩:=h;exact⟨p,q,rfl⟩
theorem PW(w:World):Ret prog 20 #[] w fun v w'=>v=.bool true/\Ext [] w w':=by
 obtain⟨w0,rfl⟩:=qD w;refine Ay (fn:=f20) func20 U [] U (Ad (Ai U (qA (Ad (Al qB (MK _) U ?_)))));rintro v w ⟨m0,rfl,H0,I0⟩;obtain⟨bl,hb0⟩:∃b,m0.bl=b:=⟨_,rfl⟩;have L:Led bl w0 w [] m0 s00 (fun x=>x∈CT m0 s00):=⟨H0,I0,hb0⟩;rw[hb0];clear H0 I0 hb0;obtain⟨w1,rfl,H⟩:=qE w;refine B1 U (qA (Ad (Ax U (Bx (BA (ak 1 0 0 0 0 0 0)) G5 FA ?_))));replace L:=(L.next H).drop;refine Al qB (F1 (k:=ak 1 0 0 0 0 0 0) L (Hz)) U ?_;clear L H;rintro v w ⟨a1,n1,c1,f1,p1,s1,m1,T1,rfl,-,hst1,L,-,-⟩;replace L:=L.drop;obtain⟨rfl,rfl⟩:s1=⟨0,[⟨0,0⟩],[],1,[],0⟩/\p1=⟨0,[0]⟩:=Dl hst1;clear hst1;obtain⟨w2,rfl,H⟩:=qE w;refine qA (Ad (Ax U (Bx (BA (ak 1 0 0 0 0 0 0)) G5 FA ?_)));replace L:=(L.next H).drop
 refine Al qB (F1 (k:=ak 1 0 0 0 0 0 0) L (Hz)) U ?_;clear L H;rintro v w ⟨a2,n2,c2,f2,p2,s2,m2,T2,rfl,-,hst2,L,-,-⟩;replace L:=L.drop;obtain⟨rfl,rfl⟩:s2=⟨0,[⟨0,0⟩,⟨0,0⟩],[],1,[],0⟩/\p2=⟨0,[1]⟩:=Dl hst2;clear hst2;obtain⟨w3,rfl,H⟩:=qE w;refine qA (Ad (Ax U (Bx (BA (ak 2 0 0 5 0 0 0)) G5 FA ?_)));replace L:=(L.next H).drop;refine Al qB (F1 (k:=ak 2 0 0 5 0 0 0) L (Hz)) U ?_;clear L H;rintro v w ⟨a3,n3,c3,f3,p3,s3,m3,T3,rfl,-,hst3,L,-,-⟩;replace L:=L.drop;obtain⟨rfl,rfl⟩:s3=⟨0,yA0,[],1,[],0⟩/\p3=⟨0,[5,0]⟩:=Dl hst3;clear hst3;obtain⟨w4,rfl,H⟩:=qE w;refine qA (Ad (Ax U (Bx (BA (ak 5 0 1 9 2 3 0)) G5 FA ?_)));replace L:=(L.next H).drop;refine Al qB (F1 (k:=ak 5 0 1 9 2 3 0) L (Hz)) U ?_;clear L H
 rintro v w ⟨a4,n4,c4,f4,p4,s4,m4,T4,rfl,-,hst4,L,-,-⟩;replace L:=L.drop;obtain⟨rfl,rfl⟩:s4=⟨0,yA0,yD0,2,[],0⟩/\p4=⟨0,[1]⟩:=Dl hst4;clear hst4;obtain⟨w5,rfl,H⟩:=qE w;refine qA (Ad (Ax U ?_));replace L:=(L.next H).drop;refine Al qB (Fg L) U ?_;clear H;rintro v w ⟨hx24,z1,rfl,Z1,-⟩;replace L:=L.call hx24;obtain⟨w6,rfl,H⟩:=qE w;refine Al qB (Ad6 _ _ _ _ yA0 yD0 0 _ Z1.A Z1.D ⟨rfl,rfl,rfl,rfl,rfl⟩) U ?_;rintro v w ⟨rfl,hx25⟩;rw[show Xs yA0 yD0 0=4 by decide,show Xr yA0 0=0 by decide];replace H:=H.call hx25;refine Cb U (AJ U U (AJ U U (Ae U (Ae U (qA (Ad (Ax U (Bx (BA (ak 3 0 0 2 0 0 0)) G5 FA ?_))))))));refine Bx (BA (ak 3 0 0 6 0 0 0)) G5 FA ?_
 refine D0 (yK.flatMap BA) Gj EJ FA H ?_;rintro y1 w - H;replace L:=(L.next H).drop;refine Al qB (VW (ks:=yK) L (fun r hr=>by cases hr) (Rd.of_bl (r:=[]) (H.get at0) U (by decide)) Ahy (by decide)) U ?_;clear H;rintro v w ⟨hx33,s',xs,ps,aR,cR,z2,hst,-,rfl,RR,Z2,RP,-,-⟩;rw[show yK.length=2 from rfl];obtain⟨rfl,hxs⟩:=Xt hst;obtain⟨p1,p2,rfl⟩:=y_two (RP.codes.trans hxs);clear hst hxs RP;replace L:=L.call hx33;obtain⟨w7,rfl,H⟩:=qE w;refine Cb U (AJ U U (AJ U U (AJ U U (AU N2 H ?_))));rintro b5 w - H;refine A4 U (Bj IF U U U (by exact(by simp[AZ])) H at0 U ?_);rintro w H;refine Ae U (qA (Ad (Ax U (Bx (BA (ak 3 0 0 2 0 0 0)) G5 FA ?_))));refine Bx (BA (ak 3 0 0 6 0 0 0)) G5 FA ?_
 refine D0 (yK.flatMap BA) Gj EJ FA H ?_;rintro y2 w - H;refine Al qB (UD (ks:=yK) 12 (L.next H) (fun r hr=>by cases hr) (Rd.of_bl (r:=[]) (H.get at0) U (by decide)) Ahy (by decide)) U ?_;rintro v w ⟨hx42,s2',cs,hst,hv⟩;obtain⟨-,hcs⟩:=Xt hst;rw[hcs]at hv;obtain rfl:=y_fst hv;clear hst hv hcs;replace H:=H.call hx42;refine Cb U (AJ U U (AJ U U (Ae U (Ai U (qA (Ad (Af U (BP U U (Aw U ?_)))))))));refine Af U (BP U U (A6 U (.bool _) U (Aw U (Af U (BP U U (A6 U (.bool _) U (Aw U (A2 U (Ba Lr U ?_)))))))));refine BP U U (A6 U (.bool _) U (Aw U (A2 U (Be (RR.ext0 H.ext) Lr Dy U U (by rfl) ?_))));refine Ah EB U (Bc Hd U (((RR.ext0 H.ext).fld (i:=0) (j:=0) U U U)) ?_)
 refine BP U U (A6 U (.bool _) U (Aw U (A2 U (Be (RR.ext0 H.ext) Lr Dy U U (by rfl) ?_))));refine Ah EB U (Bc Hd U (((RR.ext0 H.ext).fld (i:=1) (j:=0) U U U)) ?_);refine BP U U (A6 U (.bool _) U (Aw U (Ah IE U (AB Gi U H at1 U (Ba DE U (BP U U (A6 U (.bool _) U (Aw U (Ah IE U ?_)))))))));refine AB Gi U H at1 U (Be (i:=0) (n:=2) (Z2.A.ext0 H.ext) DE Da U U (h0:=by decide) (h1:=by decide) U ?_);refine Ah Ef U (Bc Bw U (((Z2.A.ext0 H.ext).fld (i:=0) (j:=0) U U U)) ?_);refine BP U U (A6 U (.bool _) U (Aw U (Af U (BP U U (A6 U (.bool _) U (Aw U (Aw U (A6 U (.bool _) U (Aw U ?_)))))))));refine Ax U (Bx (BA (ak 3 0 0 6 0 0 0)) G5 FA ?_);refine Al qB (Ad5 (k:=ak 3 0 0 6 0 0 0) (Hz) (L.next H) (fun r hr=>by cases hr)) U ?_;rintro v w ⟨hx98,s3',p3,hst,rfl⟩;rw[y_can hst];clear hst
 replace H:=H.call hx98;refine BP U U (A6 U (.bool _) U (Aw U (Ax U (Al qB (Fg (L.next H)) U ?_))));rintro v w ⟨hx103,z3,rfl,Z3,-⟩;replace H:=H.call hx103;refine YT (off:=1) (v := .slice z3.aA 2 z3.cA) U U U (Be (i:=0) (n:=2) Z3.A DE Da U U (h0:=by decide) (h1:=by decide) U ?_);refine Ah Ef U (Bc Bw U ((Z3.A.fld (i:=0) (j:=0) U U U)) ?_);refine BP U U (A6 U (.bool _) U (Ai U (qA (A7 (AD (v:=(.bool _)) U U U ?_)))));exact⟨rfl,L.H.ext.trans H.ext⟩
structure TwZ where
 i:Nat
 m:Lm
 s:Ld
 T:Nat->Prop
abbrev kdN(net:Bool):Int:=if net=true then 11 else 10
theorem Hn{l:List Int}{e:Int}(he:0<=e/\e<=255)(hl:l.length<=29):(0<=(rp l e).e/\(rp l e).e<=255)/\(rp l e).n.length<=29:=by
 unfold rp
 split
 .exact⟨by dsimp only;omega,hl⟩
 .exact⟨he,by dsimp only;rw[qd2];omega⟩
def LS(p:Rp):Prop:=(0<=p.e/\p.e<=255)/\p.n.length<=29
theorem Dm{c:Prop}[Decidable c]{p q:Rp}(h1:LS p)(h2:LS q):LS (if c then p else q):=by
 split
 .exact h1
 .exact h2
theorem IM{l:List Int}(h:l.length<=29):LS ⟨0,l⟩:=⟨⟨qax 0,(by decide:(0:Int)<=255)⟩,h⟩
theorem GU{e:Int}(h:0<=e/\e<=255:=by decide):LS ⟨e,[]⟩:=⟨h,(by decide:0<=29)⟩
def MO(e:Int):Prop:=0<=e/\e<=255
theorem F9{c:Prop}[Decidable c]{p q:Int}(h1:MO p)(h2:MO q):MO (if c then p else q):=by
 split
 .exact h1
 .exact h2
theorem Eu{e:Int}(h:0<=e/\e<=255:=by decide):MO e:=h
theorem UE(ds:List Du)(k:Int)(b:Bool):MO (HS ds k b):=by
 unfold HS
 cases C6 ds k with
 |none=>exact(Eu:MO 11)
 |some d=>exact F9 Eu Eu
theorem Ad8(ds:List Du)(k:Int):MO (NN ds k):=by
 unfold NN
 cases C6 ds k with
 |none=>exact(Eu:MO 11)
 |some d=>exact(Eu:MO 0)
theorem VX{s s':Ld}{k:Ak}{p:Rp}(h:Cr s k s' p):(0<=p.e/\p.e<=255)/\p.n.length<=29:=by
 by_cases hk:k.kd=10\/k.kd=11
 .unfold Cr at h;rw[if_pos hk]at h
  rcases h with⟨-,-,rfl⟩|⟨-,r,-,-,rfl⟩
  .exact GU
  .exact IM (by decide:3<=29)
 .obtain⟨-,rfl⟩:=Dl h (hk:=hk);show LS (ET s k);unfold ET;refine Dm (Hn (F9 Eu Eu) (by decide:1<=29)) ?_;refine Dm (Hn (by unfold Gs;exact F9 Eu (F9 Eu (F9 Eu Eu))) (by decide:2<=29)) ?_;refine Dm (Hn (by unfold FD;exact F9 Eu (F9 Eu (F9 Eu Eu))) (by decide:2<=29)) ?_;refine Dm (Hn (by unfold Lk;exact F9 Eu (F9 Eu Eu)) (by decide:2<=29)) ?_;refine Dm (Dm (GU) (Dm (GU) (Hn (by unfold Jt;exact F9 Eu (F9 Eu (F9 Eu Eu))) (by decide:1<=29)))) ?_;refine Dm (Hn (UE _ _ _) (by decide:0<=29)) (Dm (Hn (UE _ _ _) (by decide:0<=29)) ?_);refine Dm (Hn (Ad8 _ _) (by decide:0<=29)) (Dm (Dm (GU) (IM (by decide:1<=29))) ?_);refine Dm (Dm (IM (by decide:2<=29)) (GU)) (Dm (Dm (IM (by decide:1<=29)) (GU)) ?_);refine Dm ?_ (Dm ?_ (GU))
  .cases C6 s.ds k.id with
   |none=>exact GU
   |some d=>exact IM (by decide:6<=29)
  .cases SR s k.id with
   |none=>exact GU
   |some r =>
    show LS (JO r k.b);unfold JO;exact Dm (GU) (Dm (IM (by decide:5<=29)) (Dm (IM (by decide:1<=29)) (IM (by decide:6<=29))))
theorem Alv{P:Program}{ops rest:List Oper}{e:Env}{dst:Option Tmp}{ty:TypeId}{pos:String}{af:Array Edge}{g:Option (Nat × Bool)}{C:World->Prop}{K:Env->Prop}{t t2:TypeId}{x y:Operand}{a b:Bool}(ht:P.underlying t=some .bool)(hg:AS ⟨dst,.binOp .eql t x y t2,ty,pos,af,g⟩ ops e=true)(hx:ev e x=.bool a)(hy:ev e y=.bool b)(h:Wt P ops C K rest (put e dst (.bool (a == b)))) :
  Wt P ops C K (⟨dst,.binOp .eql t x y t2,ty,pos,af,g⟩::rest) e:=by
 refine E8 hg (fun w _=>?_) h;have hq:eqGuard .eql t x y (.bool a) (.bool b)=pure ():=rfl;have he:∀d w,(Op.equalIn (d+1) t (.bool a) (.bool b)).run P w=.ok (a == b) w:=fun d w=>by simp[Op.equalIn,Bf ht]
 simp only[execOp,hx,hy,hq,Sem.run_bind,Sem.run_pure,Result.andThen_ok,binOp,Op.equal,Op.maxDepth,he 9999]
structure TriK(w:World)(T:Nat->Prop)(s0 sE:Ld)(z0 zE:StZ)(aR:Option Addr)(xs:List RpX)(ps:List Rp):Prop where
 Z0:StAt w s0 z0
 O0:StOff s0 z0 T
 ZE:StAt w sE zE
 OE:StOff sE zE T
 RR:Rd w aR 2 RG xs
 OR:xs≠[]->¬T (adr aR).block
 RP:RpsAt w xs ps T
section
variable {w w':World}{T T':Nat->Prop}{s0 sE:Ld}{z0 zE:StZ}{aR:Option Addr}{xs:List RpX}{ps:List Rp}
theorem TriK.turn{S:List Nat}(h:TriK w T s0 sE z0 zE aR xs ps)(he:Ext S w w')(hS:∀x∈S,T x)(g:Grows T T' w):TriK w' T' s0 sE z0 zE aR xs ps where
 Z0:=h.Z0.ext he (h.O0.mono hS)
 O0:=h.O0.grows h.Z0 g
 ZE:=h.ZE.ext he (h.OE.mono hS)
 OE:=h.OE.grows h.ZE g
 RR:=h.RR.ext' he fun hn hx=>h.OR hn (hS _ hx)
 OR:=fun hn ht=>(g.2 _ ht).elim (h.OR hn) (qck.2 (h.RR.lt' (fun _ _=>rfl) (by decide) hn))
 RP:=(h.RP.or.mono g.2).ext he fun x hx=>g.1 x (hS x hx)
theorem TriK.ext0(h:TriK w T s0 sE z0 zE aR xs ps)(he:Ext [] w w'):TriK w' T s0 sE z0 zE aR xs ps:=h.turn he (fun x hx=>by cases hx) (Grows.refl _ _)
end
def YU(cs:List Int)(i:Nat)(f:Int):Prop:=(f = -1/\∀j:Nat,j<i->cs[j]? ≠ some 12)\/∃n:Nat,n<i/\f=n/\cs[n]?=some 12/\∀j:Nat,j<n->cs[j]? ≠ some 12
theorem Agu{cs:List Int}{i:Nat}{f:Int}(h:YU cs i f)(hc:cs[i]?=some 12)(hf:f<0):YU cs (i+1) (i:Int):=by
 rcases h with⟨-,h⟩|⟨n,-,rfl,-⟩
 .exact .inr ⟨i,Nat.lt_succ_self _,rfl,hc,h⟩
 .omega
theorem Alw{cs:List Int}{i:Nat}{f:Int}(h:YU cs i f)(hc:¬(cs[i]?=some 12/\f<0)):YU cs (i+1) f:=by
 rcases h with⟨rfl,h⟩|⟨n,hn,h⟩
 .refine .inl ⟨rfl,fun j hj=>?_⟩
  rcases Nat.lt_succ_iff_lt_or_eq.1 hj with h2|rfl
  .exact h j h2
  .exact fun h3=>hc ⟨h3,by decide⟩
 .exact .inr ⟨n,Nat.lt_succ_of_lt hn,h⟩
theorem Ad9{cs:List Int}{f:Int}{v:Value}(h:YU cs cs.length f)(hv:FstR cs 12 v):v=.tuple #[.int .i64 (max f 0),.bool (decide (0<=f))]:=by
 rcases h with⟨rfl,h⟩|⟨n,hn,rfl,h1,h2⟩
 .rcases hv with⟨n,rfl,h3,-⟩|⟨rfl,-⟩
  .exact absurd h3 (h n (qbc.1 h3).1)
  .rfl
 .rcases hv with⟨m,rfl,h3,h4⟩|⟨-,h4⟩
  .have hm:m=n:=by
    rcases Nat.lt_trichotomy m n with g|g|g
    .exact absurd h3 (h2 m g)
    .exact g
    .exact absurd h1 (h4 n g)
   subst hm;rw[show max (m:Int) 0=m from by omega,show decide (0<=(m:Int))=true from qar (by omega)]
  .exact absurd h1 (h4 n)
theorem UF{s sE:Ld}{ms:List Ak}{ps:List Rp}{i:Nat}{k:Ak}(h:Gc s (ms.drop i) sE (ps.drop i))(hk:ms[i]?=some k):∃s1 p,ps[i]?=some p/\Cr s k s1 p/\Gc s1 (ms.drop (i+1)) sE (ps.drop (i+1)):=by
 obtain⟨hi,hk2⟩:=qbc.1 hk;rw[qdd hi,hk2]at h;obtain⟨s1,p,ps',h1,h2,h3⟩:=h
 have hp:ps[i]?=some p:=by
  have:=qaa (fun l:List Rp=>l[0]?) h3
  simpa using this
 refine⟨s1,p,hp,h1,?_⟩
 have:ps.drop (i+1)=ps':=by
  rw[<-List.tail_drop,h3];rfl
 rw[this];exact h2
theorem PX:∀{ms:List Ak} {s s1 s2:Ld} {ps qs:List Rp},Gc s ms s1 ps->Gc s ms s2 qs->s1=s2/\ps=qs
 | [],_,_,_,_,_,h,h2=>⟨h.1.trans h2.1.symm,h.2.trans h2.2.symm⟩
 |_::_,_,_,_,_,_,h,h2=>by
  obtain⟨s3,p3,ps3,h3,h4,rfl⟩:=h;obtain⟨s5,p5,ps5,h5,h6,rfl⟩:=h2;obtain⟨e1,e2⟩:=ML h3 h5;subst e1;obtain⟨e3,e4⟩:=PX h4 h6;exact⟨e3,by rw[e2,e4]⟩
theorem Aea(ms:List Ak):(ms.flatMap BA).length=ms.length*7:=by
 induction ms with
 |nil=>rfl
 |cons k ms ih =>
  rw[qby,qat,ih];simp only[qa8,qd2];omega
theorem Aeb(ms:List Ak):∀v∈ms.flatMap BA,AZ v=true:=fun v hv=>by
 obtain⟨k,-,hk⟩:=qed.1 hv;simp only[BA,qae,qaq,or_false]at hk
 rcases hk with rfl|rfl|rfl|rfl|rfl|rfl|rfl <;> rfl
structure WtZ where
 i:Nat
 f:Int
 m:Lm
 s:Ld
 T:Nat->Prop
theorem PY(a:Option Addr)(c:Nat)(ks:List Ak)(a2:Option Addr)(c2:Nat)(ms:List Ak)(w:World)(R:Rd w a 7 BA ks)(hin:∀k∈ks,AkIn k)(R2:Rd w a2 7 BA ms)(hin2:∀k∈ms,AkIn k):Ret prog 5 #[.slice a ks.length c,.slice a2 ms.length c2] w fun v w'=>v=.bool true/\Ext [] w w':=by
 obtain⟨w0,rfl,H⟩:=qE w;refine Ay (fn:=Tryz.f5) func5 U [.slice a ks.length c,.slice a2 ms.length c2] U ?_;refine Ad (Ai U (qA (Ao (Ad (BV (α:=Unit) 267386880 (fun _=>[(27,.bool (decide (80<(ks.length:Int)\/40<(ms.length:Int))))]) (fun _ w'=>Ctx w0 [] w' []) U ?_ ?_)))))
 .refine A2 U (Ba Gj U (CD U U (Aw U (AK 23 U ?_ ?_))))
  .intro h1;replace h1:=AM h1;refine Ag U (Ag U (Ag U (A6 U (.bool _) U (Ab ?_))));exact⟨rfl,(),rfl,⟨qaa Value.bool (by rw[qad];simp_all;try omega),trivial⟩,H⟩
  .intro h2;replace h2:=AN h2;refine A2 U (Ba Gj U (CD U U (A9 U (.bool _) U (Ab ?_))));exact⟨rfl,(),rfl,⟨qaa Value.bool (by rw[qad];simp_all;try omega),trivial⟩,H⟩
 rintro - j27 w H;refine An _ U ?_ ?_
 .intro h1;refine Ad (Al qB (PW _) U ?_);rintro v w ⟨rfl,hx28⟩;replace H:=H.call hx28;refine Ai U (qA (A7 (Av (AD (v:=(.bool _)) U U U ?_))));exact⟨rfl,H.ext⟩
 .intro h1;have h1:=qbh h1;have hks:ks.length<=80:=by omega
  have hms:ms.length<=40:=by omega
  replace R:=R.ext0 H.ext;replace R2:=R2.ext0 H.ext;have hE0:=H.ext;clear H;obtain⟨w9,rfl⟩:=qD w;refine Aq (Aa (Ad (Al qB (MK _) U ?_)));rintro v w ⟨m0,rfl,H0,I0⟩;obtain⟨bl,hb0⟩:∃b,m0.bl=b:=⟨_,rfl⟩;have L:Led bl w9 w [] m0 s00 (fun x=>x∈CT m0 s00):=⟨H0,I0,hb0⟩;rw[hb0];clear H0 I0 hb0;refine B1 U (qA (Ao (Ad (Ae U (qA (A1 (Bt 4396972769344 (α:=TwZ) (fun z=>[(6,.int .i64 (z.i:Int))]) (fun z w'=>z.i<=ks.length/\UC z.s/\Led bl w9 w' [] z.m z.s z.T) (fun z=>ks.length - z.i) ⟨0,m0,s00,fun x=>x∈CT m0 s00⟩ U ?_ ?_ ?_)))))))
  .exact⟨rfl,trivial⟩
  .exact⟨qaj _,(fun r hr=>by cases hr),L⟩
  .clear L;rintro⟨i,m,s,T⟩ j w ⟨hi,hdy,L⟩;dsimp only at hi hdy L;dsimp only;obtain⟨w1,rfl,H⟩:=qE w;refine Ao (Ad (Af U (A2 U (Ba Gj U (Bm U U (qA (An _ U ?_ ?_)))))))
   .intro h2;replace h2:=AM h2;obtain⟨k,hk⟩:=AA (l:=ks) (i:=i);have hkin:=hin k (qac hk);refine Aq (Aa (Ao (A1 (A0 (Ax U (A2 U (Af U (Be (R.ext0 L.H.ext) Gj EJ U U (by rfl) ?_))))))));refine BQ _ Ic EJ U U (((R.ext0 L.H.ext).row hk U)) (Al qB (F1 (k:=k) L hkin) U ?_);rintro v w ⟨a1,n1,c1,f1,p,s',m',T',rfl,OP,hst,L3,g,hxD⟩;refine Ab (A8 (Aa (A0 (Af U (Az U U ?_)))));refine Ae U (qA ?_);exact⟨⟨i+1,m',s',T'⟩,rfl,⟨rfl,trivial⟩,⟨by dsimp only;omega,Ta hst hdy,L3.drop⟩,by dsimp only;omega⟩
   .intro h2;replace h2:=AN h2;have hok:=L.I.ok;have hlow:=L.I.low;refine Bp (Am (Am (AO (Aa (Ad (Ax U (Al qB (Fg L) U ?_)))))));rintro v w ⟨hx43,z0,rfl,Z0,O0⟩;replace O0:=O0.mono hlow;replace L:=L.call hx43;clear H;obtain⟨w2,rfl,H⟩:=qE w;refine AU N2 H ?_;rintro b7 w - H;refine Bj IF U U U (by exact(by simp[AZ])) H at0 U ?_;rintro w H;refine qA (Ad (GA Gj EJ H ?_));rintro b44 w H O44;refine A2 U ?_;have R3:=R2.ext0 (L.H.ext.trans H.ext);refine G9 (L:=[_]) U Gj Gj EJ by_25 FA U (ms.flatMap BA) U U H O44 (Aea ms) (Aeb ms) (R3.app (fun x _=>rfl) (by decide)) ?_;rintro a46 c46 f46 w H O46;rw[qa4]at O46 |-;rw[qb9]at O46;refine A4 U (qA (Ad (Ax U (A2 U ?_))));have R4:Rd _ a46 7 BA ms:=OS.rd (t:=25) O46 (fun x hx=>H.blk x (qal _ hx)) (fun _ _=>rfl) (by decide)
    replace L:=L.next H
    replace Z0:=Z0.ext0 H.ext;have hlow2:=L.I.low;refine Al qB (VW (ks:=ms) L hdy R4 hin2 (by omega)) U ?_;rintro v w ⟨hx50,sE,xs,ps,aR,cR,zE,hst,hxl,rfl,RR,ZE,RP,OE,OR⟩;replace OE:=OE.mono hlow2;replace RP:=RP.mono hlow2;have OR2:xs≠[]->¬_:=fun hne ht=>absurd (hlow2 _ ht) (Nat.not_lt.2 (OR hne));replace L:=L.call hx50;have K:TriK w _ s sE z0 zE aR xs ps:=⟨Z0.ext0 hx50,O0,ZE,OE,RR,OR2,RP⟩;clear Z0 O0 ZE OE RR OR OR2 RP R4 R3 H O44 O46;obtain⟨w3,rfl,H⟩:=qE w;refine Cb U (AJ U U (AJ U U (AJ U U (AU N2 H ?_))));rintro b10 w - H;refine A4 U (Bj IF U U U (by exact(by simp[AZ])) H at0 U ?_);rintro w H;refine Ae U (qA (Ao ?_))
    replace L:=L.next H
    replace K:=K.ext0 H.ext
    replace L:Led bl w9 w [(b10,Bl 42 (stC sE zE)),(b7,Bl 42 (stC s z0))] m s T:=⟨Ctx.right (L:=ent a46 25 f46) (L.H.perm (by
     simp only[qa3,qaz]
     exact List.perm_append_comm_assoc [_,_] (ent a46 25 f46) (LL m s))),L.I,L.e⟩
    have hb10:=L.H.blk (b10,Bl 42 (stC sE zE)) (qao _ (by simp));have hb7:=L.H.blk (b7,Bl 42 (stC s z0)) (qao _ (by simp));clear H;obtain⟨w4,rfl,H⟩:=qE w;refine Cq [([0,1,2,3,4,5,6,7,8,9,10,12],11),([],13),([14],15)] (fun z=>Ext [] w4 z/\z.heap[b7]?=some (Bl 42 (stC s z0))) [] Bq (⟨H.drew.ext,hb7⟩) ?_;refine AH U U (Bd U (Zg U U U (J4 U (B4 U (Zh U Lr U (B4 U (Zh U Gj U (Zg U U U ?_))))))));rw[show(!decide ((ms.length:Int)=(ms.length:Int)))=false from by simp];refine Aeo U U (.bool _) U (J4 U (BF U (Gh _ OY IF U U (fun _ hx=>(by obtain⟨-,h7⟩:=hx;exact Ca (b:=b7) (t:=42) (l:=stC s z0) h7 0 (stC s z0) rfl)) ?_)));refine AR ?_;replace H:=H.drew;refine Al qB (Fg (L.call H.ext)) U ?_;rintro v w ⟨hx65,z5,rfl,Z5,-⟩;replace H:=H.call hx65
    refine Ab (BM (⟨H.ext,H.ext.to hb7 (by simp)⟩) ?_);refine AH U U (AR (Al qB (MN _ U hok Z5 (K.Z0.ext0 H.ext)) U ?_));rintro v w ⟨rfl,hx67⟩;replace H:=H.call hx67;refine Ab (BM (⟨H.ext,H.ext.to hb7 (by simp)⟩) ?_);refine AH U U (Ag1 U U (AR (A9 U (.bool _) U (Ab (BM (⟨H.ext,H.ext.to hb7 (by simp)⟩) ?_)))));refine BG (An _ U ?_ ?_)
    .intro h3;replace h3:=B7 h3;cases h3
    .intro h3;replace h3:=B9 h3;replace L:=L.call H.ext;replace K:=K.ext0 H.ext;replace hb7:=H.ext.to hb7 (by simp);replace hb10:=H.ext.to hb10 (by simp);clear H;refine Aq (Aa (Ad (Ae U (qA (Ao (Ad (Ae U (qA (A1 (Bt 649037107315672861945594629910544 (α:=WtZ) (fun z=>[(13,.int .i64 (z.i:Int)),(12,.int .i64 z.f)]) (fun z w'=>(z.i<=ms.length/\UC z.s)/\(Gc z.s (ms.drop z.i) sE (ps.drop z.i)/\YU (ps.map Rp.e) z.i z.f)/\Led bl w9 w' [(b10,Bl 42 (stC sE zE)),(b7,Bl 42 (stC s z0))] z.m z.s z.T/\TriK w' z.T s sE z0 zE aR xs ps) (fun z=>ms.length - z.i) ⟨0,-1,m,s,T⟩ U ?_ ?_ ?_))))))))))
     .exact⟨rfl,rfl,trivial⟩
     .exact⟨⟨qaj _,hdy⟩,⟨hst,.inl ⟨rfl,fun j hj=>absurd hj (qa7 _)⟩⟩,L,K⟩
     .clear L K hb7 hb10;rintro⟨i,f,m1,s1,T1⟩ j w ⟨⟨hi,hdy1⟩,⟨hS,hF⟩,L,K⟩;dsimp only at hi hdy1 hS hF L K;dsimp only;obtain⟨w5,rfl,H⟩:=qE w;refine Ao (Ad (Af U (A2 U (Ba Gj U (Bm U U (qA (An _ U ?_ ?_)))))))
      .intro h4;replace h4:=AM h4;obtain⟨k,hk⟩:=AA (l:=ms) (i:=i);have hkin:=hin2 k (qac hk);obtain⟨s2,p,hp,hst2,hS2⟩:=UF hS hk;obtain⟨⟨ex,ax,nx,cx⟩,hxi⟩:=AA (l:=xs) (i:=i);refine Aq (Aa (Ao (A1 (Ad (Ax U (A2 U (Af U (Be (R2.ext0 (L.H.ext.trans H.ext)) Gj EJ U U (by rfl) ?_))))))));refine BQ _ Ic EJ U U (((R2.ext0 (L.H.ext.trans H.ext)).row hk U)) (Al qB (Ad5 hkin L hdy1) U ?_);rintro v w ⟨hx81,s3,p3,hst3,rfl⟩;rw[(ML hst3 hst2).2];replace L:=L.call hx81;replace K:=K.ext0 hx81;clear H hst3;obtain⟨w6,rfl,H⟩:=qE w;refine Ae U (qA (Ad (Ax U (A2 U (Af U (Be (R2.ext0 (L.H.ext.trans H.ext)) Gj EJ U U (by rfl) ?_))))));refine BQ _ Ic EJ U U (((R2.ext0 (L.H.ext.trans H.ext)).row hk U)) ?_;have hown:=L.I.own
       refine Al qB (F1 (k:=k) L hkin) U ?_;rintro v w ⟨a1,n1,c1,f1,p4,s4,m4,T4,rfl,OP,hst4,L4,g,hxD⟩;replace K:=K.turn hxD hown g;obtain⟨e1,e2⟩:=ML hst4 hst2;subst e1 e2;clear H L;obtain⟨w7,rfl,H⟩:=qE w;refine AU Gk H ?_;rintro b15 w - H;refine Bj Dy U U U (by exact(by simp[AZ])) H at0 U ?_;rintro w H;refine qA (Ao ?_)
       have L:=L4.next H
       replace K:=K.ext0 H.ext;clear L4 H;have hfew:=(VX hst4).2;obtain rfl:=OP.num;have R1:Rd w a1 1 I1 p4.n:=OP.rd1 (t:=2) fun x hx=>L.H.blk x (qao _ (by simp[hx]));have hb15:=L.H.blk (b15,Bl 33 [.int .i64 p4.e,.slice a1 p4.n.length c1]) (qao _ (by simp));obtain⟨⟨hx1,hx2,hx3⟩,-⟩:=K.RP.k i _ p4 hxi hp;dsimp only at hx1 hx2 hx3;subst hx1 hx2
       have L5:Led bl w9 w [(b10,Bl 42 (stC sE zE)),(b7,Bl 42 (stC s z0))] m4 s4 T4:=by
        have h:=L.H;exact⟨(Ctx.right (L:=[_]++ent a1 2 f1) (by simp only[qaz]at h |-;exact h)),L.I,L.e⟩
       clear L;obtain⟨w8,rfl,H⟩:=qE w;have RR8:=K.RR;refine Cq [([0,1,2,3,4],5),([6,7,8,9,10,11],12)] (fun z=>Ext [] w8 z) [] Bq (H.drew.ext) (AH U U ?_);refine Gh _ Hw Dy U U (fun _ hx=>(Ca (b:=b15) (t:=33) (l:=[.int .i64 p4.e,.slice a1 p4.n.length c1]) (hx.to hb15 (by simp)) 0 [.int .i64 p4.e,.slice a1 p4.n.length c1] rfl)) (B4 U (Bd U (DI RR8 Lr Dy U U ?_)));refine Gh _ Hw Dy U U (fun _ hx=>((RR8.ext0 hx).row hxi rfl)) (AR ?_);replace H:=H.drew;refine Al qB (Ad0 p4.e a1 ax _ _ c1 cx p4.n _ (R1.ext0 H.ext) U (hx3.ext0 H.ext) U) U ?_;rintro v w ⟨rfl,hx93⟩;replace H:=H.call hx93;refine Ab (BM (H.ext) (AH U U ?_));refine Ag1 U U (J4 U (Bd U (Ap EB U (B3 Hd U (fun _ hx=>(by rw[Aj (hx.to hb15 (by simp))];rfl)) ?_))));refine Zg U U U ?_
       rw[show(!decide (p4.e=p4.e))=false from by simp];refine AR (A9 U (.bool _) U (Ab (BM (H.ext) (BG (An _ U ?_ ?_)))))
       .intro h5;cases h5
       .intro h5;replace hb15:=H.ext.to hb15 (by simp);replace L5:=L5.call H.ext;replace K:=K.ext0 H.ext;clear H;obtain⟨w6,rfl,H⟩:=qE w;refine Aq (Aa (Ad (BV (α:=Unit) 321983252457970267980162614165504 (fun _=>[(107,.bool ((decide (p4.e=12) && decide (f<0))))]) (fun _ w'=>Ctx w6 [] w' []) U ?_ ?_)))
        .refine Ah EB U (Bc Hd U ((by rw[Aj (H.ext.to hb15 (by simp))];rfl)) ?_);refine BP U U (Aw U (AK 104 U ?_ ?_))
         .intro h3;replace h3:=AM h3;refine Af U (Bm U U (A6 U (.bool _) U (Ab ?_)));exact⟨rfl,(),rfl,⟨qaa Value.bool (by(rw[qad];simp only[qaf,qas];omega)),trivial⟩,H⟩
         .intro h4;replace h4:=AN h4;refine Ag U (Ag U (A9 U (.bool _) U (Ab ?_)));exact⟨rfl,(),rfl,⟨qaa Value.bool (by(rw[qad];simp only[qaf,qas,qdm,false_iff];omega)),trivial⟩,H⟩
        rintro - j107 w H;have hpe:(ps.map Rp.e)[i]?=some p4.e:=by rw[qa1,hp];rfl
        refine An _ U ?_ ?_
        .intro h6;have h6':p4.e=12/\f<0:=by simpa using h6
         refine A0 (Af U (Ae U (Ab (A8 (Aa (A0 (Af U (Az U U ?_))))))));refine Ae U (qA ?_);exact⟨⟨i+1,(i:Int),m4,s4,T4⟩,rfl,⟨rfl,rfl,trivial⟩,⟨⟨by dsimp only;omega,Ta hst4 hdy1⟩,⟨hS2,Agu hF (by rw[hpe,h6'.1]) h6'.2⟩,L5.call H.ext,K.ext0 H.ext⟩,by dsimp only;omega⟩
        .intro h6;have h6':¬(p4.e=12/\f<0):=by simpa using h6
         refine Aq (A8 (Aa (A0 (Af U (Az U U ?_)))));refine Ae U (qA ?_);exact⟨⟨i+1,f,m4,s4,T4⟩,rfl,⟨rfl,rfl,trivial⟩,⟨⟨by dsimp only;omega,Ta hst4 hdy1⟩,⟨hS2,Alw hF fun h=>h6' ⟨by have h2:=h.1;rw[hpe]at h2;exact qam h2,h.2⟩⟩,L5.call H.ext,K.ext0 H.ext⟩,by dsimp only;omega⟩
      .intro h4;replace h4:=AN h4;obtain rfl:i=ms.length:=by omega
       have hsE:sE=s1:=by
        rw[List.drop_length]at hS;exact hS.1
       have hpl:(ps.map Rp.e).length=ms.length:=by rw[qak,RC hst]
       have hok1:=L.I.ok;have hb10:=L.H.blk (b10,Bl 42 (stC sE zE)) (qao _ (by simp));have hb7:=L.H.blk (b7,Bl 42 (stC s z0)) (qao _ (by simp));refine Bp (Am (Am (AO (Aa (Ao (Cq [([0,2],1),([],3),([],4)] (fun z=>Ext [] w5 z) [] Bq (H.drew.ext) ?_))))));refine AH U U ?_;refine BF U (Gh _ OY IF U U (fun _ hx=>(Ca (b:=b10) (t:=42) (l:=stC sE zE) (hx.to hb10 (by simp)) 0 (stC sE zE) rfl)) ?_);refine AR ?_;replace H:=H.drew;refine Al qB (Fg (L.call H.ext)) U ?_;rintro v w ⟨hx110,z6,rfl,Z6,-⟩;replace H:=H.call hx110;refine Ab (BM (H.ext) (AH U U ?_));refine AR (Al qB (MN _ hsE hok1 Z6 (K.ZE.ext0 H.ext)) U ?_);rintro v w ⟨rfl,hx112⟩;replace H:=H.call hx112;refine Ab (BM (H.ext) (AH U U ?_));refine AR (BE U (Ab (BM (H.ext) (BG (An _ U ?_ ?_)))))
       .intro h5;replace h5:=B7 h5;cases h5
       .intro h5;replace h5:=B9 h5;replace K:=K.ext0 H.ext;replace R2:=R2.ext0 (L.H.ext.trans H.ext);replace hb7:=H.ext.to hb7 (by simp);replace hE0:=(hE0.trans L.H.ext).trans H.ext;clear H L;obtain⟨w6,rfl,H⟩:=qE w;refine Aq (Aa (Ad (BQ _ OY IF U U ((Ca (b:=b7) (t:=42) (l:=stC s z0) (H.ext.to hb7 (by simp)) 0 (stC s z0) U)) ?_)));refine Al qB (Ad4 hok hdy z0 _ (K.Z0.ext0 H.ext)) U ?_;rintro v w ⟨m7,rfl,HC,I7⟩;obtain⟨b9,hb9⟩:∃b,m7.bl=b:=⟨_,rfl⟩;have L:Led b9 w6 w [] m7 s _:=⟨HC,I7,hb9⟩;rw[hb9];replace H:=H.call HC.ext;refine Cb U (AJ U U (AJ U U (B1 U (Ae U (qA (Ao (Ad (Af U (Cv U U ?_)))))))));refine qA (An _ U ?_ ?_)
        .intro h6;replace h6:=Cy h6;exact absurd U h6
        .intro h6;replace h6:=Cz h6;replace R2:=R2.ext0 H.ext;refine Aq (Aa (Ad (Ax U (A2 U (Al qB (UD (ks:=ms) 12 (L.call (Ext.refl _ _)) hdy R2 hin2 (by omega)) U ?_)))));rintro v w ⟨hx124,s8,ps8,hst8,hv⟩;rw[(PX hst8 hst).2]at hv;obtain rfl:=Ad9 (by rw[hpl];exact hF) hv;replace H:=H.call hx124;replace L:=L.call hx124;refine Cb U (AJ U U (AJ U U (Ae U (Ai U (qA ?_)))));replace K:=K.ext0 H.ext;replace hb7:=H.ext.to hb7 (by simp);replace hE0:=hE0.trans H.ext;clear H;obtain⟨w7,rfl,H⟩:=qE w;refine Cq [([0,1,2,3,4,5,6,7,8,9,10,11,13],12),([],14),([15,16],17),([18],19)] (fun z=>Ext [] w7 z) [] Bq (H.drew.ext) (AH U U ?_);refine J4 U (Bd U (t_geq U U U (Alv un_4 U U U ?_)));rw[beq_self_eq_true];refine J4 U (Bd U (Bd U (Ah3 U U U ?_)));refine Agz U U U ?_
         rw[show decide (max f 0=max f 0)=true from qar rfl];refine RY U U (.bool _) U (J4 U (BF U (Gh _ OY IF U U (fun _ hx=>(Ca (b:=b7) (t:=42) (l:=stC s z0) (hx.to hb7 (by simp)) 0 (stC s z0) rfl)) ?_)));refine AR ?_;replace H:=H.drew;refine Al qB (Fg (L.call H.ext)) U ?_;rintro v w ⟨hx139,z6,rfl,Z6,-⟩;replace H:=H.call hx139;refine Ab (BM (H.ext) (AH U U ?_));refine AR (Al qB (MN _ U hok Z6 (K.Z0.ext0 H.ext)) U ?_);rintro v w ⟨rfl,hx141⟩;replace H:=H.call hx141;refine Ab (BM (H.ext) (AH U U ?_));refine RY U U (.bool _) U (J4 U (AR (Al qB (PW _) U ?_)));rintro v w ⟨rfl,hx144⟩;replace H:=H.call hx144;refine Ab (BM (H.ext) (AH U U ?_));refine RY U U (.bool _) U (AR (Ai U (Ab (BM (H.ext) (BG (A7 (AD (v:=(.bool _)) U U U ?_)))))));exact⟨rfl,hE0.trans H.ext⟩
open Go.GV Go.Proofs.Tryz Go.ChangeShapes Go.WideShapes Go.RowKit
set_option maxRecDepth 100000 in
theorem LU(os:Os)(started:os.Started)(H:Type)(enc:TypeId × Value->H) :
  ReturnsInHanded {} checked os 5 .any (Rows.whatifTriesSpec.pre6 enc prog Tryz.f5 Rows.whatifTriesRow.domain false) (Rows.whatifTriesSpec.post enc prog Tryz.f5 false true false false):=by
 refine returnsInHanded_of_change (C:=checked) own started (by kernel_rfl) func5
  (ChangeSpec.witness6 (enc:=enc) (C:=checked) false ⟨#[],#[.slice none 0 0,.slice none 0 0],[]⟩ 8 (by kernel_rfl) (by kernel_rfl) (by kernel_rfl) (by kernel_rfl)) ?_
 intro W base args ds gs before hval0 hW hcnd _;have hval:∀(j:Nat) t v,Tryz.f5.params[j]?=some t->args[j]?=some v->Value.okWide prog W .any base t v:=hval0;have hW':=hW;obtain⟨p,q,hA0,hV,rfl,hfz,hnd⟩:=hW;have hA:DataW.TrodAll enc prog W 0 (fun _=>true) true Tryz.f5.params.toList args.toList ds p:=hA0;rw[params5]at hA hval;obtain⟨v0,vs0,d0,ds0,p0,q0,hargs,rfl,rfl,h0,r0⟩:=trodAll_cons hA;obtain⟨v1,vs1,d1,ds1,p1,q1,rfl,rfl,rfl,h1,r1⟩:=trodAll_cons r0;obtain⟨rfl,rfl,rfl⟩:=trodAll_nil r1;obtain rfl:args=#[v0,v1]:=by cases args;simp_all
 obtain⟨a0,c0,l0,rfl,R0,H0⟩:=SZ (hval 0 _ v0 rfl rfl) h0;obtain⟨a1,c1,l1,rfl,R1,H1⟩:=SZ (hval 1 _ v1 rfl rfl) h1;refine(PY a0 c0 l0 a1 c1 l1 W R0 H0 R1 H1).calls.mono ?_;rintro e W' ⟨v,rfl,rfl,hx⟩;exact⟨_,rfl,TB Xo U U underlying4 (fun ds h=>match ds,h with | [_,_],_=>rfl) hW' hx⟩
theorem PZ:jn1 prog 5 Tryz.f5 Rows.whatifTriesSpec Rows.whatifTriesRow=true:=by kernel_rfl
theorem Qa:jn2 prog 5 Tryz.f5 Rows.whatifTriesSpec Rows.whatifTriesRow=true:=by kernel_rfl
theorem Qb:jn3 prog 5 Tryz.f5 Rows.whatifTriesSpec Rows.whatifTriesRow=true:=by kernel_rfl
theorem Qc:jn4 prog 5 Tryz.f5 Rows.whatifTriesSpec Rows.whatifTriesRow=true:=by kernel_rfl
theorem Qd:jn5 prog 5 Tryz.f5 Rows.whatifTriesSpec Rows.whatifTriesRow=true:=by kernel_rfl
theorem Qe:joinedFacts prog 5 Tryz.f5 Rows.whatifTriesSpec Rows.whatifTriesRow=true:=Q6 PZ Qa Qb Qc Qd
theorem whatifTries_holds:Rows.WhatifTriesSaid :=
 OpenClaim.holds_of_wide 5 Tryz.f5 rfl rfl rfl rfl rfl rfl rfl ⟨rfl,rfl,rfl,rfl,rfl⟩ rfl rfl rfl rfl rfl (by kernel_rfl) func5 Qe
  (qba (by kernel_rfl)) (by unfold Func.isWrapper;rw[if_neg (qbh (by kernel_rfl))];exact⟨rfl,rfl⟩)
  (fun os started H enc _=>LU os started H enc)
#print axioms whatifTries_holds
end Go.Proofs.YtffclglpjlcojaaGreat
