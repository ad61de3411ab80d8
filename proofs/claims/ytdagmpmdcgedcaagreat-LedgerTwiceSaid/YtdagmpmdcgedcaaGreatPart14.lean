/- Part 14 of the proof. The last text: LedgerTwice: for every input the law answers true, and turns nothing. -/
import Derived.Test.YtdagmpmdcgedcaaGreatPart2
import Derived.Test.YtdagmpmdcgedcaaGreatPart13
import Derived.Test.YtdagmpmdcgedcaaGreatPart4
import Derived.Test.YtdagmpmdcgedcaaGreatPart3
namespace Go.Proofs.YtdagmpmdcgedcaaGreat
open Go.GV
attribute [local irreducible] AD W Wq Wt
structure TwZ where
 i:Nat
 m:Lm
 s:Ld
 T:Nat→Prop
abbrev kdN (net:Bool):Int:=if net=true then 11 else 10
theorem Akm (net:Bool):(kdN net=10∨kdN net=11)∧decide (kdN net=11)=net:=by cases net <;> decide
theorem VU (net:Bool):AkIn (ak (kdN net) 0 0 0 0 0 0):=by cases net <;> exact JD (by decide)
set_option maxRecDepth 20000 in
set_option maxHeartbeats 8000000 in
theorem PE (a:Option Addr) (c:Nat) (ks:List Ak) (net:Bool) (w:World) (R:Rd w a 7 Co ks) (hin:∀ k∈ks,AkIn k):Ret Tryz.prog 6 #[.slice a ks.length c,.bool net] w fun v w'=>v = .bool true∧Ext [] w w':=by
 obtain ⟨w0,rfl⟩:∃ w0,w0=w:=⟨_,rfl⟩;have H:=Ctx.start w0 [];refine Az (fn:=Tryz.f6) Tryz.func6 U [.slice a ks.length c,.bool net] U (by kernel_rfl) ?_;refine Ae (Ai U (Ab (Aa (Au (Ae (Ay U (Be Gv U (CZ U U (Ab (Aa (Ao _ U ?_ ?_)))))))))))
 ·intro h1;replace h1:=AM h1;refine Ae (Al OJ (FR _) U ?_);rintro v w ⟨rfl,hx16⟩;replace H:=H.call hx16;refine Ai U (Ab (Aa (A5 (Aq (A9 (v:=(.bool _)) U U U ?_)))));exact ⟨rfl,H.ext⟩
 ·intro h1;replace h1:=AN h1;refine Ap (Aa (Ae (Al Wm (NU _) U ?_)));rintro v w ⟨m0,rfl,H0,I0⟩;obtain ⟨bl,hb0⟩:∃ b,m0.bl=b:=⟨_,rfl⟩;have L:Led bl w0 w [] m0 s00 (fun x=>x∈De m0 s00):=⟨H0,I0,hb0⟩;rw [hb0];clear H0 I0 hb0 H;refine Cp U (Ab (Aa (Au (Ae (Af U (Ab (Aa (A0 (Bv 1073479744 (α:=TwZ) (fun z=>[(6,.int .i64 (z.i:Int))]) (fun z w'=>z.i≤ks.length∧z.s.no≤z.i∧Led bl w0 w' [] z.m z.s z.T) (fun z=>ks.length - z.i) ⟨0,m0,s00,fun x=>x∈De m0 s00⟩ U ?_ ?_ ?_)))))))))
  ·exact ⟨rfl,trivial⟩
  ·exact ⟨Nat.zero_le _,Int.le_refl _,L⟩
  ·clear L;rintro ⟨i,m,s,T⟩ j w ⟨hi,hno,L⟩; dsimp only at hi hno L; dsimp only;obtain ⟨w1,rfl⟩:∃ z,z=w:=⟨_,rfl⟩;have H:=Ctx.start w1 [];refine Au (Ae (Ad U (Ay U (Be Gv U (Bj U U (Ab (Aa (Ao _ U ?_ ?_))))))))
   ·intro h2;replace h2:=AM h2;obtain ⟨k,hk⟩:=A8 (l:=ks) (i:=i);have hkin:=hin k (List.mem_of_getElem? hk);refine Ap (Aa (Au (A0 (Ax (A2 U (Ay U (Ad U (AX (R.ext0 L.H.ext) Gv Hd U U (by rfl) ?_))))))));refine BW _ Wj Hd U U (((R.ext0 L.H.ext).row hk U)) ?_;refine Al GN (Fv (k:=k) L hkin) U ?_;rintro v w ⟨a1,n1,c1,f1,p,s',m',T',rfl,OP,hst,L3,g,hxD⟩;refine Ab (A6 (Aa (Ax (Ad U (Aw U U ?_)))));refine Af U (Ab (Aa ?_));have hno':=WY hst;exact ⟨⟨i+1,m',s',T'⟩,rfl,⟨rfl,trivial⟩,⟨by dsimp only; omega,by dsimp only; omega,L3.drop⟩,by dsimp only; omega⟩
   ·intro h2;replace h2:=AN h2;have hok:=L.I.ok;have hnn:0≤s.no∧s.no≤150:=by have:=hok.kept; omega
    obtain ⟨hkk,hkd⟩:=Akm net;refine Br (An (An (AK (Aa (Ae (Af U (Ab (Aa (Au (Ae (A7 U (Ab (Aa (Ey 128 (α:=Unit) (fun _=>[(7,.int .u8 (kdN net))]) (fun _ w'=>w'=w1) U ?_ ?_))))))))))))))
    ·skip
     refine Ao _ U ?_ ?_
     ·intro h3;refine Ax (Af U (Ab (Aa ?_)));exact ⟨(),rfl,⟨by rw [show kdN net=11 from by rw [h3]; rfl]; rfl,trivial⟩,rfl⟩
     ·intro h3;refine Ap (Aa ?_);exact ⟨(),rfl,⟨by rw [show kdN net=10 from by rw [h3]; rfl]; rfl,trivial⟩,rfl⟩
    ·rintro - j10 w rfl;refine Ae (A2 U (Ad U (B6 (Co (ak (kdN net) 0 0 0 0 0 0)) It Iu (by kernel_rfl) ?_)))
     replace L:=L.next H
     refine Al GN (Fv (k:=ak (kdN net) 0 0 0 0 0 0) L (VU net)) U ?_;clear L H;rintro v w ⟨a1,n1,c1,f1,p1,s1,m1,T1,rfl,OP1,hst1,L,-,-⟩;obtain ⟨w2,rfl⟩:∃ z,z=w:=⟨_,rfl⟩;have H:=Ctx.start w2 [];refine Ba He H ?_;rintro b8 w - H;refine Bm ES U U U (by exact (by simp [Bg])) H at0 U ?_;rintro w H;refine Ab (Aa (Au ?_));obtain ⟨r1,P1,rfl,rfl⟩:=PD hok hst1 hkk (by omega);have P1':PlanR s.acs s.ds net r1:=by rw [← hkd]; exact P1
     have hok1:=(Kp hok P1 (by omega)).2;refine Ae (Ah Hm U (AH KP U H at0 U (C0 U U (Ab (Aa (Ao _ U ?_ ?_))))))
     ·intro h3;replace h3:=C7 h3;exact absurd U h3
     ·intro h3;replace h3:=C8 h3;refine Ap (Aa (Ae (A2 U ?_)))
      replace L:=L.next H
      refine Al Q8 (H6 L) U ?_;rintro v w ⟨hx46,z1,rfl,Z1,O1⟩;replace O1:=O1.mono L.I.low;replace L:=L.call hx46;clear H;obtain ⟨w3,rfl⟩:∃ z,z=w:=⟨_,rfl⟩;have H:=Ctx.start w3 [];refine Ba Nn H ?_;rintro b9 w - H;refine Bm Gw U U U (by exact (by simp [Bg])) H at0 U ?_;rintro w H;refine Ab (Aa ?_);have hb9w:w3.heap.size≤b9:=(H.own _ (List.mem_cons_self ..)).elim (fun h=>by cases h) id;have off9:StOff (CR s r1) z1 (fun x=>x=b9):=Z1.lt.mono fun x hx=>by rw [hx]; exact hb9w
      refine Ae (A2 U (Ad U (B6 (Co (ak (kdN net) 0 0 0 0 0 0)) It Iu (by kernel_rfl) ?_)))
      replace L:=L.next H
      replace Z1:=Z1.ext0 H.ext;have hle:=Bb (H.get at0);refine Al GN (Fv (k:=ak (kdN net) 0 0 0 0 0 0) L (VU net)) U ?_;have hown:=L.I.own;clear L H;rintro v w ⟨a2,n2,c2,f2,p2,s2,m2,T2,rfl,OP2,hst2,L,g2,hx2⟩;replace O1:=O1.grows Z1 g2;replace Z1:=Z1.ext hx2 (StOff.mono (O1.mono g2.1) hown);obtain ⟨w4,rfl⟩:∃ z,z=w:=⟨_,rfl⟩;have H:=Ctx.start w4 [];refine Ba He H ?_;rintro b10 w - H;refine Bm ES U U U (by exact (by simp [Bg])) H at0 U ?_;rintro w H;refine Ab (Aa ?_);obtain ⟨r2,P2,rfl,rfl⟩:=PD hok1 hst2 hkk (show s.no+1<_ by omega);have P2':PlanR (CR s r1).acs (CR s r1).ds net r2:=by rw [← hkd]; exact P2
      have hok2:=(Kp hok1 P2 (show s.no+1<_ by omega)).2;obtain ⟨t1,t2,t3,t4⟩:=N3 hok P1' (by omega) P2' (fun h=>h) (by omega);rw [t1,t2] at OP2;rw [show (CR s r1).no=s.no+1 from rfl] at OP2;refine Ae (A2 U ?_)
      replace L:=L.next H
      replace Z1:=Z1.ext0 H.ext;refine Al Q8 (H6 L) U ?_;have l9:=Bb (L.H.blk (b9,Bl 32 (stC (CR s r1) z1)) (List.mem_append_left _ (by simp)));rintro v w ⟨hx52,z2,rfl,Z2,O2⟩;have Z2off:StOff (CR (CR s r1) r2) z2 (fun x=>x=b9):=O2.mono fun x hx=>by rw [hx]; exact l9
      replace Z1:=Z1.ext0 hx52;replace O2:=O2.mono L.I.low;replace L:=L.call hx52;clear H;obtain ⟨w5,rfl⟩:∃ z,z=w:=⟨_,rfl⟩;have H:=Ctx.start w5 [];refine Ba Nn H ?_;rintro b11 w - H;refine Bm Gw U U U (by exact (by simp [Bg])) H at0 U ?_;rintro w H;refine Ab (Aa (Au ?_));have hb11w:w5.heap.size≤b11:=(H.own _ (List.mem_cons_self ..)).elim (fun h=>by cases h) id;have off11:StOff (CR (CR s r1) r2) z2 (fun x=>x=b11):=Z2.lt.mono fun x hx=>by rw [hx]; exact hb11w
      have Z1off:StOff (CR s r1) z1 (fun x=>x=b11):=Z1.lt.mono fun x hx=>by rw [hx]; exact hb11w
      have lt9:=Bb (L.H.blk (b9,Bl 32 (stC (CR s r1) z1)) (List.mem_append_left _ (by simp)));have hne9:b9≠b11:=fun h=>by rw [h] at lt9; omega
      replace L:=L.next H
      have hb8:=L.H.blk (b8,Bl 37 [.int .i64 0,.slice a1 n1 c1]) (List.mem_append_left _ (by simp));have hb10:=L.H.blk (b10,Bl 37 [.int .i64 0,.slice a2 n2 c2]) (List.mem_append_left _ (by simp));have R1:=OP1.rd1 (t:=2) (w:=w) fun x hx=>L.H.blk x (List.mem_append_left _ (by simp [hx]));have R2:=OP2.rd1 (t:=2) (w:=w) fun x hx=>L.H.blk x (List.mem_append_left _ (by simp [hx]));have hn1:=OP1.num;have hn2:=OP2.num;rw [show ([_,_,_]:List Int).length=3 from rfl] at hn1 hn2;subst hn1 hn2;replace Z1:=Z1.ext0 H.ext;replace Z2:=Z2.ext0 H.ext;clear H;obtain ⟨w6,rfl⟩:∃ z,z=w:=⟨_,rfl⟩;have H:=Ctx.start w6 [];refine Dw (fun x=>x=_) Bq (by kernel_rfl) U ?_;refine A3 Hm U (BR KP U (by rintro _ rfl; exact ((by rw [Aj (H.drew.ext.to hb10 (by simp))]; rfl))) ?_);refine IF U U (CC U (A3 Gg U (BR BM U (by rintro _ rfl; exact ((by rw [Aj (H.drew.ext.to hb8 (by simp))]; rfl))) ?_)))
      refine Wb U AU U (IF U U (Fe U (.bool _) U (CC U (A3 Gg U (BR BM U (by rintro _ rfl; exact ((by rw [Aj (H.drew.ext.to hb10 (by simp))]; rfl))) ?_)))));refine Wb U AU U (IF U U (Fe U (.bool _) U (CC U (A3 Gg U (BR BM U (by rintro _ rfl; exact ((by rw [Aj (H.drew.ext.to hb10 (by simp))]; rfl))) ?_)))));refine BE R2 AU Bz U U (by rfl) ?_;refine BR Bs U (by rintro _ rfl; exact (((R2.ext0 H.drew.ext).one (f:=Dm) (i:=0) rfl))) ?_;refine A3 Gg U (BR BM U (by rintro _ rfl; exact ((by rw [Aj (H.drew.ext.to hb8 (by simp))]; rfl))) ?_);refine BE R1 AU Bz U U (by rfl) ?_;refine BR Bs U (by rintro _ rfl; exact (((R1.ext0 H.drew.ext).one (f:=Dm) (i:=0) rfl))) ?_;refine Da U U ?_;refine IF U U ?_;rw [show (!decide (s.no+1+1=s.no+1+1))=false from by simp]
      refine Fe U (.bool _) U (CC U (A3 Gg U (BR BM U (by rintro _ rfl; exact ((by rw [Aj (H.drew.ext.to hb10 (by simp))]; rfl))) ?_)));refine BE R2 AU Bz U U (by rfl) ?_;refine BR Bs U (by rintro _ rfl; exact (((R2.ext0 H.drew.ext).one (f:=Dm) (i:=1) rfl))) ?_;refine IF U U (Fe U (.bool _) U (CC U (A3 Gg U (BR BM U (by rintro _ rfl; exact ((by rw [Aj (H.drew.ext.to hb10 (by simp))]; rfl))) ?_))));refine BE R2 AU Bz U U (by rfl) ?_;refine BR Bs U (by rintro _ rfl; exact (((R2.ext0 H.drew.ext).one (f:=Dm) (i:=2) rfl))) ?_;refine IF U U (Fe U (.bool _) U (BQ ?_));rintro _ rfl;replace H:=H.drew;refine Ao _ U ?_ ?_
      ·intro h4;replace h4:=C7 h4;exact absurd U h4
      ·intro h4;replace h4:=C8 h4;refine Ap (Aa (Ae (A2 U (B6 (Co (ak 11 0 0 0 0 0 0)) It Iu (by kernel_rfl) ?_))))
       replace L:=L.next H
       replace Z1:=Z1.ext0 H.ext;replace Z2:=Z2.ext0 H.ext;refine Al GN (Fv (k:=ak 11 0 0 0 0 0 0) L (VU true)) U ?_;have hown:=L.I.own;clear L H;rintro v w ⟨a3,n3,c3,f3,p3,s3,m3,T3,rfl,OP3,hst3,L,g3,hx3⟩;replace O1:=O1.grows Z1 g3;replace Z1:=Z1.ext hx3 (StOff.mono (O1.mono g3.1) hown);replace O2:=O2.grows Z2 g3;replace Z2:=Z2.ext hx3 (StOff.mono (O2.mono g3.1) hown);obtain ⟨w7,rfl⟩:∃ z,z=w:=⟨_,rfl⟩;have H:=Ctx.start w7 [];refine Ba He H ?_;rintro b12 w - H;refine Bm ES U U U (by exact (by simp [Bg])) H at0 U ?_;rintro w H;refine Ab (Aa (Au ?_));obtain ⟨r3,P3,rfl,rfl⟩:=PD hok2 hst3 (.inr rfl) (show s.no+1+1<_ by omega);have t5:=SM hok P1' P2' P3;rw [t5] at OP3;have hn3:=OP3.num;rw [show ([_,_,_]:List Int).length=3 from rfl] at hn3;subst hn3;have R3:=OP3.rd1 (t:=2) (w:=w7) fun x hx=>L.H.blk x (List.mem_append_left _ (by simp [hx]))
       have hb9:=L.H.blk (b9,Bl 32 (stC (CR s r1) z1)) (List.mem_append_left _ (by simp));have hb11:=L.H.blk (b11,Bl 32 (stC (CR (CR s r1) r2) z2)) (List.mem_append_left _ (by simp));have hbo9:=(L.H.own (b9,Bl 32 (stC (CR s r1) z1)) (List.mem_append_left _ (by simp))).elim (fun h=>by cases h) id;have hbo11:=(L.H.own (b11,Bl 32 (stC (CR (CR s r1) r2) z2)) (List.mem_append_left _ (by simp))).elim (fun h=>by cases h) id;refine Ae (Ah Hm U (AH KP U H at0 U (C0 U U (A7 U (Ah Gg U (AH BM U H at0 U (Be AU U (C0 U U (AG U (.bool _) U ?_)))))))));refine A7 U (Ah Gg U (AH BM U H at0 U (AX (R3.ext0 H.ext) AU Bz U U (by rfl) ?_)));refine AV Bs U (((R3.ext0 H.ext).one (f:=Dm) (i:=1) U)) ?_;refine C0 U U (AG U (.bool _) U (Ab (Aa (Ao _ U ?_ ?_))))
       ·intro h5;replace h5:=C7 h5;exact absurd U h5
       ·intro h5;replace h5:=C8 h5;replace hb9:=H.ext.to hb9 (by simp);replace hb11:=H.ext.to hb11 (by simp);replace Z1:=Z1.ext0 H.ext;replace Z2:=Z2.ext0 H.ext;have hE:=L.H.ext.trans H.ext;clear H L;obtain ⟨w8,rfl⟩:∃ z,z=w:=⟨_,rfl⟩;have H:=WX hb9 hb11 hne9;refine Ap (Aa (Ae (Ah NI U (Ci (.slice _ _ _) Afu U U U H at0 (by (simp; done)) ?_))));rintro w H;refine Ab (Aa (Ae (Ah NI U (Ci (.slice _ _ _) Afu U U U H at1 (by (simp; done)) ?_))));rintro w H;refine Ab (Aa (Ae (Ah NJ U (AH B1 U H at1 U (Ah NJ U (Ci (.int _ _) Bo U U U H at0 (by (simp; done)) ?_))))));rintro w H;refine Ab (Aa ?_);replace H:Ctx w8 [b9,b11] w [(b9,Bl 32 (stC ({ CR s r1 with rn:=[],no:=s.no+1+1 }:Ld) ⟨z1.aA,z1.cA,z1.aD,z1.cD,none,0,[]⟩)),(b11,Bl 32 (stC ({ CR (CR s r1) r2 with rn:=[] }:Ld) ⟨z2.aA,z2.cA,z2.aD,z2.cD,none,0,[]⟩))]:=H
        have hs:({ CR (CR s r1) r2 with rn:=[] }:Ld)=({ CR s r1 with rn:=[],no:=s.no+1+1 }:Ld):=by rw [Ld.mk.injEq]; exact ⟨rfl,t3,t4,rfl,rfl,rfl⟩
        have hokx:({ CR s r1 with rn:=[],no:=s.no+1+1 }:Ld).Ok:=⟨hok1.ac,hok1.du,hok1.bk,hok1.day,⟨Nat.zero_le _,by show ((0:Nat):Int)≤s.no+1+1; omega,by show s.no+1+1≤_; omega⟩,fun i r h=>(by cases h),fun r h=>(by cases h)⟩;have hnot:∀ {sx:Ld} {z:StZ},StOff sx z (fun x=>x=b9)→StOff sx z (fun x=>x=b11)→StOff sx z (·∈[b9,b11]):=fun o1 o2=>(o1.or o2).mono fun x hx=>by simpa using hx
        have hf1:=hnot off9 (Z1off);have hf2:=hnot (Z2off) off11;have Y1:StAt w ({ CR s r1 with rn:=[],no:=s.no+1+1 }:Ld) ⟨z1.aA,z1.cA,z1.aD,z1.cD,none,0,[]⟩:=⟨Z1.A.ext' H.ext hf1.A,Z1.D.ext' H.ext hf1.D,Rd.nil,rfl,fun x hx=>by cases hx⟩;have Y2:StAt w ({ CR (CR s r1) r2 with rn:=[] }:Ld) ⟨z2.aA,z2.cA,z2.aD,z2.cD,none,0,[]⟩:=⟨Z2.A.ext' H.ext hf2.A,Z2.D.ext' H.ext hf2.D,Rd.nil,rfl,fun x hx=>by cases hx⟩
        have hE9:=hE.then H.ext (fun x hx => .inr (by
         simp only [List.mem_cons,List.not_mem_nil,or_false] at hx
         rcases hx with rfl | rfl
         ·exact hbo9
         ·exact hbo11))
        have hb9':=H.get at0;have hb11':=H.get at1;clear H;obtain ⟨w9,rfl⟩:∃ z,z=w:=⟨_,rfl⟩;have H:=Ctx.start w9 [];refine Ae (BW _ JS Gw U U ((Cm (b:=b9) (t:=32) (l:=stC ({ CR s r1 with rn:=[],no:=s.no+1+1 }:Ld) ⟨z1.aA,z1.cA,z1.aD,z1.cD,none,0,[]⟩) (H.ext.to hb9' (by simp)) 0 (stC ({ CR s r1 with rn:=[],no:=s.no+1+1 }:Ld) ⟨z1.aA,z1.cA,z1.aD,z1.cD,none,0,[]⟩) U)) ?_);refine BW _ JS Gw U U ((Cm (b:=b11) (t:=32) (l:=stC ({ CR (CR s r1) r2 with rn:=[] }:Ld) ⟨z2.aA,z2.cA,z2.aD,z2.cD,none,0,[]⟩) (H.ext.to hb11' (by simp)) 0 (stC ({ CR (CR s r1) r2 with rn:=[] }:Ld) ⟨z2.aA,z2.cA,z2.aD,z2.cD,none,0,[]⟩) U)) ?_;refine Al Tz (Ks (s:=({ CR s r1 with rn:=[],no:=s.no+1+1 }:Ld)) (s':=({ CR (CR s r1) r2 with rn:=[] }:Ld)) _ hs hokx (Y1.ext0 H.ext) (Y2.ext0 H.ext)) U ?_;rintro v w ⟨rfl,hx120⟩;replace H:=H.call hx120;refine A7 U (Al OJ (FR _) U ?_);rintro v w ⟨rfl,hx122⟩
        replace H:=H.call hx122;refine AF U (.bool _) U (Ai U (Ab (Aa (A5 (A9 (v:=(.bool _)) U U U ?_)))));exact ⟨rfl,hE9.trans H.ext⟩
end Go.Proofs.YtdagmpmdcgedcaaGreat
namespace Go.Proofs.YtdagmpmdcgedcaaGreat
open Go.GV Go.ChangeShapes Go.WideShapes Go.RowKit
set_option maxRecDepth 100000 in
theorem Lu (os:Os) (started:os.Started) (H:Type) (enc:TypeId × Value→H) :
  ReturnsInHanded {} Tryz.checked os 6 .any (Rows.ledgerTwiceSpec.pre6 enc Tryz.prog Tryz.f6 Rows.ledgerTwiceRow.domain false) (Rows.ledgerTwiceSpec.post enc Tryz.prog Tryz.f6 false true false false):=by
 refine returnsInHanded_of_change (C:=Tryz.checked) own started (by kernel_rfl) Tryz.func6
  (ChangeSpec.witness6 (enc:=enc) (C:=Tryz.checked) false ⟨#[],#[.slice none 0 0,.bool false],[]⟩ 8 (by kernel_rfl) (by kernel_rfl) (by kernel_rfl) (by kernel_rfl)) ?_
 intro W base args ds gs before hval0 hW hcnd _;have hval:∀ (j:Nat) t v,Tryz.f6.params[j]? = some t→args[j]? = some v→Value.okWide Tryz.prog W .any base t v:=hval0;have hW':=hW;obtain ⟨p,q,hA0,hV,rfl,hfz,hnd⟩:=hW;have hA:DataW.TrodAll enc Tryz.prog W 0 (fun _=>true) true Tryz.f6.params.toList args.toList ds p:=hA0;rw [Tryz.params6] at hA hval;obtain ⟨v0,vs0,d0,ds0,p0,q0,hargs,rfl,rfl,h0,r0⟩:=trodAll_cons hA;obtain ⟨v1,vs1,d1,ds1,p1,q1,rfl,rfl,rfl,h1,r1⟩:=trodAll_cons r0;obtain ⟨rfl,rfl,rfl⟩:=trodAll_nil r1;obtain rfl:args=#[v0,v1]:=by cases args; simp_all
 obtain ⟨a0,c0,l0,rfl,R0,H0⟩:=SU (hval 0 _ v0 rfl rfl) h0;obtain ⟨k1,rfl,rfl,rfl⟩:=open_bool Tryz.underlying4 (hval 1 _ v1 rfl rfl) h1;refine (PE a0 c0 l0 k1 W R0 H0).calls.mono ?_;rintro e W' ⟨v,rfl,rfl,hx⟩;exact ⟨_,rfl,OG SR U (by kernel_rfl) U Tryz.underlying4 (fun ds h=>match ds,h with | [_,_],_=>rfl) hW' hx⟩
theorem PF:jn1 Tryz.prog 6 Tryz.f6 Rows.ledgerTwiceSpec Rows.ledgerTwiceRow=true:=by kernel_rfl
theorem PG:jn2 Tryz.prog 6 Tryz.f6 Rows.ledgerTwiceSpec Rows.ledgerTwiceRow=true:=by kernel_rfl
theorem PH:jn3 Tryz.prog 6 Tryz.f6 Rows.ledgerTwiceSpec Rows.ledgerTwiceRow=true:=by kernel_rfl
theorem PJ:jn4 Tryz.prog 6 Tryz.f6 Rows.ledgerTwiceSpec Rows.ledgerTwiceRow=true:=by kernel_rfl
theorem PK:jn5 Tryz.prog 6 Tryz.f6 Rows.ledgerTwiceSpec Rows.ledgerTwiceRow=true:=by kernel_rfl
theorem PL:joinedFacts Tryz.prog 6 Tryz.f6 Rows.ledgerTwiceSpec Rows.ledgerTwiceRow=true:=MH PF PG PH PJ PK
theorem ledgerTwice_holds:Rows.LedgerTwiceSaid :=
 OpenClaim.holds_of_wide 6 Tryz.f6 rfl rfl rfl rfl rfl rfl rfl ⟨rfl,rfl,rfl,rfl,rfl⟩ rfl rfl rfl rfl rfl (by kernel_rfl) Tryz.func6 PL
  (of_decide_eq_true (by kernel_rfl)) (by unfold Func.isWrapper; rw [if_neg (of_decide_eq_false (by kernel_rfl))]; exact ⟨rfl,rfl⟩)
  (fun os started H enc _=>Lu os started H enc)
#print axioms ledgerTwice_holds
end Go.Proofs.YtdagmpmdcgedcaaGreat
