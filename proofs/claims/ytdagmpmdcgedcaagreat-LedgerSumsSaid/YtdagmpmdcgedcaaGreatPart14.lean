/- Part 14 of the proof. The last text: LedgerSums: for every input the law answers true, and turns nothing. -/
import Derived.Test.YtdagmpmdcgedcaaGreatPart2
import Derived.Test.YtdagmpmdcgedcaaGreatPart13
import Derived.Test.YtdagmpmdcgedcaaGreatPart4
import Derived.Test.YtdagmpmdcgedcaaGreatPart3
namespace Go.Proofs.YtdagmpmdcgedcaaGreat
open Go.GV
attribute [local irreducible] AD W Wq Wt
structure SmZ where
 i:Nat
 m:Lm
 s:Ld
 T:Nat→Prop
set_option maxRecDepth 20000 in
set_option maxHeartbeats 8000000 in
theorem Qf (a:Option Addr) (c:Nat) (ks:List Ak) (w:World) (R:Rd w a 7 Co ks) (hin:∀ k∈ks,AkIn k):Ret Tryz.prog 3 #[.slice a ks.length c] w fun v w'=>v = .bool true∧Ext [] w w':=by
 obtain ⟨w0,rfl⟩:∃ w0,w0=w:=⟨_,rfl⟩;have H:=Ctx.start w0 [];refine Az (fn:=Tryz.f3) Tryz.func3 U [.slice a ks.length c] U (by kernel_rfl) ?_;refine Ae (Ai U (Ab (Aa (Au (Ae (Ay U (Be Gv U (CZ U U (Ab (Aa (Ao _ U ?_ ?_)))))))))))
 ·intro h1;replace h1:=AM h1;refine Ae (Al OJ (FR _) U ?_);rintro v w ⟨rfl,hx15⟩;replace H:=H.call hx15;refine Ai U (Ab (Aa (A5 (Aq (A9 (v:=(.bool _)) U U U ?_)))));exact ⟨rfl,H.ext⟩
 ·intro h1;replace h1:=AN h1;refine Ap (Aa (Ae (Al Wm (NU _) U ?_)));rintro v w ⟨m0,rfl,H0,I0⟩;obtain ⟨bl,hb0⟩:∃ b,m0.bl=b:=⟨_,rfl⟩;have L:Led bl w0 w [] m0 s00 (fun x=>x∈De m0 s00):=⟨H0,I0,hb0⟩;rw [hb0];clear H0 I0 hb0 H;refine Cp U (Ab (Aa (Ae (Af U (Ab (Aa (Au (Ae (Af U (Ab (Aa (A0 ?_))))))))))));refine Bv 25711008708143844408671393477458601640355247900524685364695028 (α:=SmZ) (fun z=>[(4,.int .i64 (BN (bas z.s.acs))),(5,.int .i64 (z.i:Int))]) (fun z w'=>z.i≤ks.length∧z.s.no≤z.i∧Led bl w0 w' [] z.m z.s z.T) (fun z=>ks.length - z.i) ⟨0,m0,s00,fun x=>x∈De m0 s00⟩ U ?_ ?_ ?_
  ·exact ⟨rfl,rfl,trivial⟩
  ·exact ⟨Nat.zero_le _,Int.le_refl _,L⟩
  ·clear L;rintro ⟨i,m,s,T⟩ j w ⟨hi,hni,L⟩; dsimp only at hi hni L; dsimp only;obtain ⟨w1,rfl⟩:∃ z,z=w:=⟨_,rfl⟩;have hlow:=L.low;have H:=Ctx.start w1 [];refine Au (Ae (Ad U (Ay U (Be Gv U (Bj U U (Ab (Aa (Ao _ U ?_ ?_))))))))
   ·intro h2;replace h2:=AM h2;obtain ⟨k,hk⟩:=A8 (l:=ks) (i:=i);have hkin:=hin k (List.mem_of_getElem? hk);have hkd:=hkin.kd;have hkx:=hkin.x;have hok:=L.I.ok;refine Ap (Aa (Au (A0 (Ae (A2 U (Al Q8 (H6 L) U ?_))))));rintro v w ⟨hx24,z1,rfl,Z1,O1⟩;replace L:=L.call hx24;obtain ⟨w2,rfl⟩:∃ z,z=w:=⟨_,rfl⟩;clear H;have H:=Ctx.start w2 [];refine Ba Nn H ?_;rintro b6 w - H;refine Bm Gw U U U (by exact (by simp [Bg])) H at0 U ?_;rintro w H;refine Ab (Aa (Ae (A2 U (Ay U (Ad U (AX (R.ext0 (L.H.ext.trans H.ext)) Gv Hd U U (by rfl) ?_))))));refine BW _ Wj Hd U U (((R.ext0 (L.H.ext.trans H.ext)).row hk U)) ?_
    have L2:=L.next H
    refine Al GN (Fv (k:=k) L2 hkin) U ?_;rintro v w ⟨a1,n1,c1,f1,p,s',m',T',rfl,OP,hst,L3,g,hxD⟩;replace Z1:=(Z1.ext0 H.ext).ext hxD (O1.mono hlow);have hb6:=L3.H.blk (b6,Bl 32 (stC s z1)) (List.mem_append_left _ (by simp));have R1:Rd w a1 1 I1 p.n:=OP.rd1 (t:=2) fun x hx=>L3.H.blk x (List.mem_append_left _ (List.mem_append_left _ hx));obtain rfl:=OP.num;clear L L2 H;obtain ⟨w3,rfl⟩:∃ z,z=w:=⟨_,rfl⟩;have H:=Ctx.start w3 [];refine Ba He H ?_;rintro b7 w - H;refine Bm ES U U U (by exact (by simp [Bg])) H at0 U ?_;rintro w H;refine Ab (Aa (Ae (A2 U ?_)))
    have L4:=L3.next H
    refine Al Q8 (H6 L4) U ?_;rintro v w ⟨hx32,z2,rfl,Z2,O2⟩;replace L4:=L4.call hx32;have hx4:=H.ext.trans hx32;have hb7:=hx32.to (H.get at0) (by simp);replace hb6:=hx4.to hb6 (by simp);replace Z1:=Z1.ext0 hx4;clear H L3;obtain ⟨w4,rfl⟩:∃ z,z=w:=⟨_,rfl⟩;have H:=Ctx.start w4 [];refine Ba Nn H ?_;rintro b8 w - H;refine Bm Gw U U U (by exact (by simp [Bg])) H at0 U ?_;rintro w H;refine Ab (Aa (Au ?_));have hb8:=H.get at0;replace hb6:=H.ext.to hb6 (by simp);replace hb7:=H.ext.to hb7 (by simp);replace Z1:=Z1.ext0 H.ext;replace Z2:=Z2.ext0 H.ext;have L:=(L4.next H).drop;clear L4 H;obtain ⟨w5,rfl⟩:∃ z,z=w:=⟨_,rfl⟩;have H:=Ctx.start w5 [];replace R:=R.ext0 L.H.ext;obtain ⟨hsum,hadd,hsub⟩:=Acj hok hst;have hsi:=Ack hok.ac;have hok':=L.I.ok;have hsi':=Ack hok'.ac;have hno':=WY hst
    have hen:p.e=0∨p.n.length=0:=by
     by_cases he:p.e=0
     ·exact .inl he
     ·rw [(Ur hst he).1]; exact .inr rfl
    have hmy:∀ x:Ld,x.Ok→∀ (q:Nat) (y:Ac),x.acs[q]? = some y→(0≤y.ba∧y.ba≤4503599627370496):=fun x hx q y hy=>(Fz.1 ((Cd.1 hx.ac).2.1 y (List.mem_of_getElem? hy))).1;have ham:∀ x:Ld,x.Ok→∀ d∈x.ds,0≤d.am∧d.am≤4503599627370496:=fun x hx d hd=>by have:=CW ((GF hx.du).1 d hd).1; omega
    have h64:=(Er hok.du).1;have h64':=(Er hok'.du).1;have h16:=(Cd.1 hok.ac).1;have h16':=(Cd.1 hok'.ac).1;refine Ae (Cb (α:=Unit) 4611686009837453312 (fun _=>[(61,.bool (false))]) (fun _ w'=>Ctx w5 [] w' []) U ?_ ?_)
    ·refine Ah Hm U (AV KP U ((H.old (Aj hb7 _) (by simp))) ?_);refine C0 U U (A7 U (AO 36 U ?_ ?_))
     ·intro h1;replace h1:=C7 h1;refine Ah Gg U (AV BM U ((H.old (Aj hb7 _) (by simp))) ?_);refine Be AU U (CZ U U (A7 U (AO 41 U ?_ ?_)))
      ·intro h2;replace h2:=AM h2;refine Ag U (Ag U (Ag U (Ag U (AF U (.bool _) U (AF U (.bool _) U (A7 U (Ag U (Ag U (Ag U ?_)))))))));refine Ag U (Ag U (Ag U (Ag U (Ag U (Ag U (Ag U (Ag U (Ag U (AF U (.bool _) U ?_)))))))));refine Ab ?_;exact ⟨rfl,(),rfl,⟨congrArg Value.bool (by (exfalso; omega)),trivial⟩,H⟩
      ·intro h3;replace h3:=AN h3;refine BW _ JS Gw U U ((Cm (b:=b6) (t:=32) (l:=stC s z1) (H.ext.to hb6 (by simp)) 0 (stC s z1) U)) ?_;refine BW _ JS Gw U U ((Cm (b:=b8) (t:=32) (l:=stC s' z2) (H.ext.to hb8 (by simp)) 0 (stC s' z2) U)) ?_;refine Al Tz (Ks _ (Ur hst (by assumption)).2 hok (Z1.ext0 H.ext) (Z2.ext0 H.ext)) U ?_;rintro v w ⟨rfl,hx44⟩;replace H:=H.call hx44;refine BF U (AG U (.bool _) U (AF U (.bool _) U (A7 U (AO 48 U ?_ ?_))))
       ·intro h4;replace h4:=BG h4;refine Ag U (Ag U (Ag U (Ag U (Ag U (Ag U (Ag U (Ag U (Ag U (Ag U ?_)))))))));refine Ag U (Ag U (AF U (.bool _) U (Ab ?_)));exact ⟨rfl,(),rfl,⟨congrArg Value.bool (by contradiction),trivial⟩,H⟩
       ·intro h5;replace h5:=BH h5;refine Ay U (Ad U (AX (R.ext0 H.ext) Gv Hd U U (by rfl) ?_));refine Ah G7 U (AV N6 U (((R.ext0 H.ext).fld hk U (j:=0) U)) ?_);refine C9 U U (A7 U (AO 55 U ?_ ?_))
        ·intro h6;replace h6:=AM h6;refine BW _ JS Gw U U ((Cm (b:=b6) (t:=32) (l:=stC s z1) (H.ext.to hb6 (by simp)) 0 (stC s z1) U)) ?_;refine BW _ JS Gw U U ((Cm (b:=b8) (t:=32) (l:=stC s' z2) (H.ext.to hb8 (by simp)) 0 (stC s' z2) U)) ?_;refine Al Tz (Ks _ (Rc hst (by assumption)) hok (Z1.ext0 H.ext) (Z2.ext0 H.ext)) U ?_;rintro v w ⟨rfl,hx58⟩;replace H:=H.call hx58;refine BF U (AF U (.bool _) U (AG U (.bool _) U (Ab ?_)));exact ⟨rfl,(),rfl,⟨congrArg Value.bool (by rfl),trivial⟩,H⟩
        ·intro h7;replace h7:=AN h7;refine Ag U (Ag U (Ag U (Ag U (AG U (.bool _) U (AG U (.bool _) U (Ab ?_))))));exact ⟨rfl,(),rfl,⟨congrArg Value.bool (by rfl),trivial⟩,H⟩
     ·intro h8;replace h8:=C8 h8;refine Ag U (Ag U (Ag U (Ag U (Ag U (Ag U (Ag U (Ag U (Ag U (Ag U ?_)))))))));refine AG U (.bool _) U (A7 U (Ay U (Ad U (AX (R.ext0 H.ext) Gv Hd U U (by rfl) ?_))));refine Ah G7 U (AV N6 U (((R.ext0 H.ext).fld hk U (j:=0) U)) ?_);refine C9 U U (A7 U (AO 55 U ?_ ?_))
      ·intro h9;replace h9:=AM h9;refine BW _ JS Gw U U ((Cm (b:=b6) (t:=32) (l:=stC s z1) (H.ext.to hb6 (by simp)) 0 (stC s z1) U)) ?_;refine BW _ JS Gw U U ((Cm (b:=b8) (t:=32) (l:=stC s' z2) (H.ext.to hb8 (by simp)) 0 (stC s' z2) U)) ?_;refine Al Tz (Ks _ (Rc hst (by assumption)) hok (Z1.ext0 H.ext) (Z2.ext0 H.ext)) U ?_;rintro v w ⟨rfl,hx58⟩;replace H:=H.call hx58;refine BF U (AF U (.bool _) U (AG U (.bool _) U (Ab ?_)));exact ⟨rfl,(),rfl,⟨congrArg Value.bool (by rfl),trivial⟩,H⟩
      ·intro h10;replace h10:=AN h10;refine Ag U (Ag U (Ag U (Ag U (AG U (.bool _) U (AG U (.bool _) U (Ab ?_))))));exact ⟨rfl,(),rfl,⟨congrArg Value.bool (by rfl),trivial⟩,H⟩
    rintro - j61 w H;refine EH U (Ap (Aa (Au (Ae (Cb (α:=Unit) 9440121279720863039488 (fun _=>[(72,.bool ((decide (p.e=0) && decide (k.kd=2))))]) (fun _ w'=>Ctx w5 [] w' []) U ?_ ?_)))))
    ·refine Ah Hm U (AV KP U ((H.old (Aj hb7 _) (by simp))) ?_);refine Ct U U (A7 U (AO 65 U ?_ ?_))
     ·intro h11;replace h11:=AM h11;refine Ay U (Ad U (AX (R.ext0 H.ext) Gv Hd U U (by rfl) ?_));refine Ah G7 U (AV N6 U (((R.ext0 H.ext).fld hk U (j:=0) U)) ?_);refine Ct U U (AF U (.bool _) U (Ab ?_));exact ⟨rfl,(),rfl,⟨congrArg Value.bool (by (rw [Bool.eq_iff_iff]; simp only [Bool.and_eq_true,decide_eq_true_eq]; omega)),trivial⟩,H⟩
     ·intro h12;replace h12:=AN h12;refine Ag U (Ag U (Ag U (Ag U (Ag U (Ag U (AG U (.bool _) U (Ab ?_)))))));exact ⟨rfl,(),rfl,⟨congrArg Value.bool (by (rw [Bool.eq_iff_iff]; simp only [Bool.and_eq_true,decide_eq_true_eq,Bool.false_eq_true,false_iff]; omega)),trivial⟩,H⟩
    rintro - j72 w H;refine Ey 1199481086648889884278800 (α:=Unit) (fun _=>[(4,.int .i64 (BN (bas s.acs)+U5 k p))]) (fun _ w'=>Ctx w5 [] w' []) U ?_ ?_
    ·skip
     refine Ao _ U ?_ ?_
     ·intro h3;have h3':p.e=0∧k.kd=2:=by simpa using h3
      have ha:U5 k p=k.x:=if_pos h3';refine Ax (Ad U (Ay U (Ad U (AX (R.ext0 H.ext) Gv Hd U U (by rfl) ?_))));refine Ah K3 U (AV Bs U (((R.ext0 H.ext).fld hk U (j:=3) U)) ?_);refine Aw U U ?_;refine Af U (Ab (Aa ?_));exact ⟨(),rfl,⟨congrArg (Value.int .i64) (by rw [ha]),trivial⟩,H⟩
     ·intro h3;have h3':¬ (p.e=0∧k.kd=2):=by simpa using h3
      have ha:U5 k p=0:=if_neg h3';refine Ap (Aa ?_);exact ⟨(),rfl,⟨congrArg (Value.int .i64) (by rw [ha,Int.add_zero]),trivial⟩,H⟩
    ·rintro - j14 w H;refine Au (Ae (Cb (α:=Unit) 2474671152751145920623542272 (fun _=>[(90,.bool ((decide (p.e=0) && decide (k.kd=3))))]) (fun _ w'=>Ctx w5 [] w' []) U ?_ ?_))
     ·refine Ah Hm U (AV KP U ((H.old (Aj hb7 _) (by simp))) ?_);refine Ct U U (A7 U (AO 83 U ?_ ?_))
      ·intro h13;replace h13:=AM h13;refine Ay U (Ad U (AX (R.ext0 H.ext) Gv Hd U U (by rfl) ?_));refine Ah G7 U (AV N6 U (((R.ext0 H.ext).fld hk U (j:=0) U)) ?_);refine Ct U U (AF U (.bool _) U (Ab ?_));exact ⟨rfl,(),rfl,⟨congrArg Value.bool (by (rw [Bool.eq_iff_iff]; simp only [Bool.and_eq_true,decide_eq_true_eq]; omega)),trivial⟩,H⟩
      ·intro h14;replace h14:=AN h14;refine Ag U (Ag U (Ag U (Ag U (Ag U (Ag U (AG U (.bool _) U (Ab ?_)))))));exact ⟨rfl,(),rfl,⟨congrArg Value.bool (by (rw [Bool.eq_iff_iff]; simp only [Bool.and_eq_true,decide_eq_true_eq,Bool.false_eq_true,false_iff]; omega)),trivial⟩,H⟩
     rintro - j90 w H;refine Ey 314436769978486589824377552912 (α:=Unit) (fun _=>[(4,.int .i64 (BN (bas s'.acs)))]) (fun _ w'=>Ctx w5 [] w' []) U ?_ ?_
     ·skip
      refine Ao _ U ?_ ?_
      ·intro h3;have h3':p.e=0∧k.kd=3:=by simpa using h3
       have ha:VS k p=k.x:=if_pos h3';refine Ax (Ad U (Ay U (Ad U (AX (R.ext0 H.ext) Gv Hd U U (by rfl) ?_))));refine Ah K3 U (AV Bs U (((R.ext0 H.ext).fld hk U (j:=3) U)) ?_);refine Bp U U ?_;refine Af U (Ab (Aa ?_));exact ⟨(),rfl,⟨congrArg (Value.int .i64) (by rw [hsum,ha]),trivial⟩,H⟩
      ·intro h3;have h3':¬ (p.e=0∧k.kd=3):=by simpa using h3
       have ha:VS k p=0:=if_neg h3';refine Ap (Aa ?_);exact ⟨(),rfl,⟨congrArg (Value.int .i64) (by rw [hsum,ha,Int.sub_zero]),trivial⟩,H⟩
     ·rintro - j16 w H;have hrd:(k.kd=10∨k.kd=11)→_:=fun hh=>VT hok hst hh
      have hr0:¬ (k.kd=10∨k.kd=11)∨p.e=0:=by
       by_cases hh:k.kd=10∨k.kd=11
       ·exact .inr (hrd hh).1
       ·exact .inl hh
      refine Ae (Cb (α:=Unit) 5191979945884770571180122153419264 (fun _=>[(9,.bool ((decide (k.kd=10) || decide (k.kd=11))))]) (fun _ w'=>Ctx w5 [] w' []) U ?_ ?_)
      ·refine Ay U (Ad U (AX (R.ext0 H.ext) Gv Hd U U (by rfl) ?_));refine Ah G7 U (AV N6 U (((R.ext0 H.ext).fld hk U (j:=0) U)) ?_);refine Ct U U (A7 U (AO 104 U ?_ ?_))
       ·intro h15;replace h15:=AM h15;refine Ag U (Ag U (Ag U (Ag U (Ag U (Ag U (AF U (.bool _) U (Ai U (Ab ?_))))))));exact ⟨rfl,(),rfl,⟨congrArg Value.bool (by (rw [Bool.eq_iff_iff]; simp only [Bool.or_eq_true,decide_eq_true_eq,true_iff]; omega)),trivial⟩,H⟩
       ·intro h16;replace h16:=AN h16;refine Ay U (Ad U (AX (R.ext0 H.ext) Gv Hd U U (by rfl) ?_));refine Ah G7 U (AV N6 U (((R.ext0 H.ext).fld hk U (j:=0) U)) ?_);refine Ct U U (AG U (.bool _) U (Ai U (Ab ?_)));exact ⟨rfl,(),rfl,⟨congrArg Value.bool (by (rw [Bool.eq_iff_iff]; simp only [Bool.or_eq_true,decide_eq_true_eq]; omega)),trivial⟩,H⟩
      rintro - j9 w H;refine Au (Ae (Cb (α:=Unit) 327114702087694140597421268740866048 (fun _=>[(117,.bool (false))]) (fun _ w'=>Ctx w5 [] w' []) U ?_ ?_))
      ·refine A7 U (A7 U (AO 113 U ?_ ?_))
       ·intro h17;refine Ah Hm U (AV KP U ((H.old (Aj hb7 _) (by simp))) ?_);refine C0 U U (AF U (.bool _) U (Ab ?_));exact ⟨rfl,(),rfl,⟨congrArg Value.bool (by (have hq:=(by assumption:(decide (k.kd=10) || decide (k.kd=11))=true); simp only [Bool.or_eq_true,decide_eq_true_eq] at hq; rw [decide_eq_true (show p.e=0 by omega)]; rfl)),trivial⟩,H⟩
       ·intro h18;refine Ag U (Ag U (Ag U (AG U (.bool _) U (Ab ?_))));exact ⟨rfl,(),rfl,⟨congrArg Value.bool (by rfl),trivial⟩,H⟩
      rintro - j117 w H;refine EH U (Ap (Aa (Ae (Af U (Ab (Aa (Au (Ae (Af U (Ab (Aa (A0 ?_))))))))))));refine Bv 3213876088517980551083923852375326258815437761613820600519684 (α:=Nat) (fun q=>[(10,.int .i64 (BN ((bas s'.acs).take q))),(11,.int .i64 (q:Int))]) (fun q w'=>q≤s'.acs.length∧Ctx w5 [] w' []) (fun q=>s'.acs.length - q) 0 U ?_ ?_ ?_
      ·exact ⟨rfl,rfl,trivial⟩
      ·exact ⟨Nat.zero_le _,H⟩
      ·clear H;rintro q j11 w ⟨hq,H⟩;refine Au (Ae (Ad U (Ah FJ U (AV Ff U ((H.old (Aj hb8 _) (by simp))) ?_))));refine Be DA U (Bj U U (Ab (Aa (Ao _ U ?_ ?_))))
       ·intro h5;replace h5:=AM h5;obtain ⟨y,hy⟩:=A8 (l:=s'.acs) (i:=q);have hyb:=hmy s' hok' q y hy
        have htk:BN ((bas s'.acs).take (q+1))=BN ((bas s'.acs).take q)+y.ba:=by
         have h6:(bas s'.acs)[q]? = some y.ba:=by unfold bas; rw [List.getElem?_map,hy]; rfl
         rw [List.take_add_one,h6,EF];show _+BN [y.ba]=_;rw [BO,show BN ([]:List Int)=0 from rfl,Int.add_zero]
        have hs1:=hsi'.2.2 q;have hs2:=hsi'.2.2 (q+1);refine Ap (Aa (Au (A0 (Ae (Ad U (Ah FJ U (AV Ff U ((H.old (Aj hb8 _) (by simp))) ?_)))))));refine Ad U (AX (Z2.A.ext0 H.ext) DA DB U U (by rfl) ?_);refine Ah Ec U (AV Bs U (((Z2.A.ext0 H.ext).fld hy U (j:=0) U)) ?_);refine Aw U U ?_;refine Af U (Ab (Aa (Au (Ae (Ah FJ U (AV Ff U ((H.old (Aj hb8 _) (by simp))) ?_))))));refine Ad U (AX (Z2.A.ext0 H.ext) DA DB U U (by rfl) ?_);refine Ah Ec U (AV Bs U (((Z2.A.ext0 H.ext).fld hy U (j:=0) U)) ?_);refine Bj U U (Ab (Aa (Ao _ U ?_ ?_)))
        ·intro h6;replace h6:=AM h6;omega
        ·intro h6;replace h6:=AN h6
         have hjk:(k.kd=10∨k.kd=11)→∃ x,s.acs[q]? = some x∧Ev s'.acs s'.ds q=Ev s.acs s.ds q∧min x.ba x.re≤y.ba∧(k.kd=11→y.ba=x.ba):=fun hh=>by
          obtain ⟨-,g2,g3⟩:=hrd hh;obtain ⟨x,hxq⟩:=A8 (l:=s.acs) (i:=q) (h:=by have:=Cu hy; omega);exact ⟨x,hxq,g3 q x y hxq hy⟩
         by_cases hh:k.kd=10∨k.kd=11
         ·skip
          obtain ⟨x,hxq,hp1,hp2,hp3⟩:=hjk hh;have hqs:=Cu hxq;have hxb:=hmy s hok q x hxq;have hbt:(decide (k.kd=10) || decide (k.kd=11))=true:=by simpa using hh
          refine Ap (Aa (Cv [([0,1,2,3,4,5,6,8,9,10,11,12],7),([],13),([14,15,16,17,18,19,20,21,22,23,24,25,26,27,28,29,30,31,32,33,34,35,36,37,38,39,40,41,42,43,44,45,46,47,48,49,50,51,52,53,54,55,56,57,58,59],60)] (fun z=>Ext [] w5 z) [] Bq (by kernel_rfl) (H.drew.ext) ?_));refine AE U U ?_;refine LD U U (Le U (.bool true) (congrArg Value.bool hbt) ?_);refine Am FJ U (Bw Ff U (fun _ hx=>(by rw [Aj (hx.to hb8 (by simp))]; rfl)) ?_);refine Am Hl U (Bw LJ U (fun _ hx=>(by rw [Aj (hx.to hb8 (by simp))]; rfl)) ?_);refine Bc U (Am FJ U (Bw Ff U (fun _ hx=>(by rw [Aj (hx.to hb6 (by simp))]; rfl)) ?_));refine Am Hl U (Bw LJ U (fun _ hx=>(by rw [Aj (hx.to hb6 (by simp))]; rfl)) ?_);refine Bc U (AP ?_);replace H:=H.drew;refine Al Afn (PC z2.aA z2.aD _ _ s'.acs s'.ds q _ (Z2.A.ext0 H.ext) (Z2.D.ext0 H.ext) (by rw [Bi hy]; exact hyb) (ham s' hok')) U ?_
          rintro v w ⟨rfl,hx147⟩;replace H:=H.call hx147;refine Ab (BT (H.ext) (AE U U ?_));refine AP (Al Afn (PC z1.aA z1.aD _ _ s.acs s.ds q _ (Z1.A.ext0 H.ext) (Z1.D.ext0 H.ext) (by rw [Bi hxq]; exact hxb) (ham s hok)) U ?_);rintro v w ⟨rfl,hx153⟩;replace H:=H.call hx153;refine Ab (BT (H.ext) (AE U U ?_));refine Afi U U U ?_;rw [hp1,show (!decide (Ev s.acs s.ds q=Ev s.acs s.ds q))=false from by simp];refine LD U U (Am FJ U (Bw Ff U (fun _ hx=>(by rw [Aj (hx.to hb8 (by simp))]; rfl)) ?_));refine Bc U (Dc (Z2.A.ext0 H.ext) DA DB U U (by rfl) ?_);refine Am Ec U (Bw Bs U (fun _ hx=>((Z2.A.ext0 hx).fld hy rfl (j:=0) rfl)) ?_);refine Am FJ U (Bw Ff U (fun _ hx=>(by rw [Aj (hx.to hb6 (by simp))]; rfl)) ?_);refine Bc U (Dc (Z1.A.ext0 H.ext) DA DB U U (by rfl) ?_)
          refine Am Ec U (Bw Bs U (fun _ hx=>((Z1.A.ext0 hx).fld hxq rfl (j:=0) rfl)) ?_);refine Am FJ U (Bw Ff U (fun _ hx=>(by rw [Aj (hx.to hb6 (by simp))]; rfl)) ?_);refine Bc U (Dc (Z1.A.ext0 H.ext) DA DB U U (by rfl) ?_);refine Am LO U (Bw Bs U (fun _ hx=>((Z1.A.ext0 hx).fld hxq rfl (j:=1) rfl)) ?_);refine UN U U U ?_;refine t_lss U U U ?_;rw [show decide (y.ba<min x.ba x.re)=false from decide_eq_false (by omega)];refine NF U U (.bool _) U (LD U U (B3 U (Bc U (Dc (R.ext0 H.ext) Gv Hd U U (by rfl) ?_))));refine Am G7 U (Bw N6 U (fun _ hx=>((R.ext0 hx).fld hk rfl (j:=0) rfl)) ?_);refine Afh U U U (LD U U (YG 184 U ?_ ?_))
          ·intro h7;replace h7:=AM h7;refine Am FJ U (Bw Ff U (fun _ hx=>(by rw [Aj (hx.to hb8 (by simp))]; rfl)) ?_);refine Bc U (Dc (Z2.A.ext0 H.ext) DA DB U U (by rfl) ?_);refine Am Ec U (Bw Bs U (fun _ hx=>((Z2.A.ext0 hx).fld hy rfl (j:=0) rfl)) ?_);refine Am FJ U (Bw Ff U (fun _ hx=>(by rw [Aj (hx.to hb6 (by simp))]; rfl)) ?_);refine Bc U (Dc (Z1.A.ext0 H.ext) DA DB U U (by rfl) ?_);refine Am Ec U (Bw Bs U (fun _ hx=>((Z1.A.ext0 hx).fld hxq rfl (j:=0) rfl)) ?_);refine Afi U U U ?_;rw [show (!decide (y.ba=x.ba))=false from by rw [hp3 (by assumption)]; simp];refine Ac4 U U (.bool _) U (NF U U (.bool _) U (AP (AF U (.bool _) U (Ab (BT (H.ext) (BJ (EH U (Ap (A6 (Aa (Ax (Ad U ?_))))))))))));refine Aw U U ?_;refine Af U (Ab (Aa ?_))
           exact ⟨q+1,rfl,⟨congrArg (Value.int .i64) htk.symm,rfl,trivial⟩,⟨by omega,H⟩,by omega⟩
          ·intro h7;replace h7:=AN h7;refine BK U (BK U (BK U (BK U (BK U (BK U (BK U (BK U (BK U (BK U ?_)))))))));refine BK U (BK U (BK U (NF U U (.bool _) U (NF U U (.bool _) U (AP (AF U (.bool _) U (Ab (BT (H.ext) (BJ (EH U ?_))))))))));refine Ap (A6 (Aa (Ax (Ad U (Aw U U ?_)))));refine Af U (Ab (Aa ?_));exact ⟨q+1,rfl,⟨congrArg (Value.int .i64) htk.symm,rfl,trivial⟩,⟨by omega,H⟩,by omega⟩
         ·skip
          have hbf:(decide (k.kd=10) || decide (k.kd=11))=false:=by simpa using hh
          refine Ap (Aa (Cv [([0,1,2,3,4,5,6,8,9,10,11,12],7),([],13),([14,15,16,17,18,19,20,21,22,23,24,25,26,27,28,29,30,31,32,33,34,35,36,37,38,39,40,41,42,43,44,45,46,47,48,49,50,51,52,53,54,55,56,57,58,59],60)] (fun z=>Ext [] w5 z) [] Bq (by kernel_rfl) (H.drew.ext) ?_));refine AE U U ?_;refine LD U U (Le U (.bool false) (congrArg Value.bool hbf) ?_);refine BK U (BK U (BK U (BK U (BK U (BK U (BK U (BK U (BK U (BK U ?_)))))))));refine AP ?_;replace H:=H.drew;refine Ag U (Ab (BT (H.ext) (AE U U ?_)));refine AP (Ag U (Ab (BT (H.ext) (AE U U ?_))));refine BK U (BK U (BK U (BK U (BK U (BK U (BK U (BK U (BK U (BK U ?_)))))))));refine BK U (BK U (BK U (BK U (BK U (BK U (BK U (BK U (BK U (BK U ?_)))))))));refine BK U (BK U (BK U (BK U (BK U (BK U (BK U (BK U (BK U (BK U ?_)))))))));refine BK U (BK U (BK U (BK U (BK U (BK U (BK U (BK U (BK U (BK U ?_)))))))))
          refine BK U (BK U (BK U (BK U (BK U (BK U (AP (AG U (.bool _) U (Ab (BT (H.ext) (BJ ?_))))))))));refine EH U (Ap (A6 (Aa (Ax (Ad U (Aw U U ?_))))));refine Af U (Ab (Aa ?_));exact ⟨q+1,rfl,⟨congrArg (Value.int .i64) htk.symm,rfl,trivial⟩,⟨by omega,H⟩,by omega⟩
       ·intro h5;replace h5:=AN h5;obtain rfl:q=s'.acs.length:=by omega
        have hfin:BN ((bas s'.acs).take s'.acs.length)=BN (bas s'.acs):=by
         rw [List.take_of_length_le (by unfold bas; rw [List.length_map]; exact Nat.le_refl _)]
        rw [hfin];refine Br (An (An (AK (Aa (Ae (Ad U (Ad U (C0 U U (Ab (Aa (Ao _ U ?_ ?_)))))))))))
        ·intro h6;replace h6:=C7 h6;exact absurd U h6
        ·intro h6;replace h6:=C8 h6;refine Ap (A6 (Aa (Ax (Ad U (Aw U U ?_)))));refine Af U (Ab (Aa ?_));exact ⟨⟨i+1,m',s',T'⟩,rfl,⟨rfl,rfl,trivial⟩,⟨by dsimp only; omega,by dsimp only; omega,(L.call H.ext)⟩,by dsimp only; omega⟩
   ·intro h2;replace h2:=AN h2;obtain ⟨wz,rfl⟩:∃ z,z=w:=⟨_,rfl⟩;refine Br (An (An (AK (Aa (Ae (Al OJ (FR _) U ?_))))));rintro v w ⟨rfl,hx204⟩;replace H:=H.call hx204;refine Ai U (Ab (Aa (A5 (A9 (v:=(.bool _)) U U U ?_))));exact ⟨rfl,L.H.ext.trans H.ext⟩
end Go.Proofs.YtdagmpmdcgedcaaGreat
namespace Go.Proofs.YtdagmpmdcgedcaaGreat
open Go.GV Go.ChangeShapes Go.WideShapes Go.RowKit
set_option maxRecDepth 100000 in
theorem My (os:Os) (started:os.Started) (H:Type) (enc:TypeId × Value→H) :
  ReturnsInHanded {} Tryz.checked os 3 .any (Rows.ledgerSumsSpec.pre6 enc Tryz.prog Tryz.f3 Rows.ledgerSumsRow.domain false) (Rows.ledgerSumsSpec.post enc Tryz.prog Tryz.f3 false true false false):=by
 refine returnsInHanded_of_change (C:=Tryz.checked) own started (by kernel_rfl) Tryz.func3
  (ChangeSpec.witness6 (enc:=enc) (C:=Tryz.checked) false ⟨#[],#[.slice none 0 0],[]⟩ 8 (by kernel_rfl) (by kernel_rfl) (by kernel_rfl) (by kernel_rfl)) ?_
 intro W base args ds gs before hval0 hW hcnd _;have hval:∀ (j:Nat) t v,Tryz.f3.params[j]? = some t→args[j]? = some v→Value.okWide Tryz.prog W .any base t v:=hval0;have hW':=hW;obtain ⟨p,q,hA0,hV,rfl,hfz,hnd⟩:=hW;have hA:DataW.TrodAll enc Tryz.prog W 0 (fun _=>true) true Tryz.f3.params.toList args.toList ds p:=hA0;rw [Tryz.params3] at hA hval;obtain ⟨v0,vs0,d0,ds0,p0,q0,hargs,rfl,rfl,h0,r0⟩:=trodAll_cons hA;obtain ⟨rfl,rfl,rfl⟩:=trodAll_nil r0;obtain rfl:args=#[v0]:=by cases args; simp_all
 obtain ⟨a0,c0,l0,rfl,R0,H0⟩:=SU (hval 0 _ v0 rfl rfl) h0;refine (Qf a0 c0 l0 W R0 H0).calls.mono ?_;rintro e W' ⟨v,rfl,rfl,hx⟩;exact ⟨_,rfl,OG SR U (by kernel_rfl) U Tryz.underlying4 (fun ds h=>match ds,h with | [_],_=>rfl) hW' hx⟩
theorem Qg:jn1 Tryz.prog 3 Tryz.f3 Rows.ledgerSumsSpec Rows.ledgerSumsRow=true:=by kernel_rfl
theorem Qh:jn2 Tryz.prog 3 Tryz.f3 Rows.ledgerSumsSpec Rows.ledgerSumsRow=true:=by kernel_rfl
theorem Qi:jn3 Tryz.prog 3 Tryz.f3 Rows.ledgerSumsSpec Rows.ledgerSumsRow=true:=by kernel_rfl
theorem Qj:jn4 Tryz.prog 3 Tryz.f3 Rows.ledgerSumsSpec Rows.ledgerSumsRow=true:=by kernel_rfl
theorem Ql:jn5 Tryz.prog 3 Tryz.f3 Rows.ledgerSumsSpec Rows.ledgerSumsRow=true:=by kernel_rfl
theorem Qm:joinedFacts Tryz.prog 3 Tryz.f3 Rows.ledgerSumsSpec Rows.ledgerSumsRow=true:=MH Qg Qh Qi Qj Ql
theorem ledgerSums_holds:Rows.LedgerSumsSaid :=
 OpenClaim.holds_of_wide 3 Tryz.f3 rfl rfl rfl rfl rfl rfl rfl ⟨rfl,rfl,rfl,rfl,rfl⟩ rfl rfl rfl rfl rfl (by kernel_rfl) Tryz.func3 Qm
  (of_decide_eq_true (by kernel_rfl)) (by unfold Func.isWrapper; rw [if_neg (of_decide_eq_false (by kernel_rfl))]; exact ⟨rfl,rfl⟩)
  (fun os started H enc _=>My os started H enc)
#print axioms ledgerSums_holds
end Go.Proofs.YtdagmpmdcgedcaaGreat
