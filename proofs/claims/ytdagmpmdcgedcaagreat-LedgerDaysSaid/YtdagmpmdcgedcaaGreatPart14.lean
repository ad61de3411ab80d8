/- Part 14 of the proof. The last text: LedgerDays: for every input the law answers true, and turns nothing. -/
import Derived.Test.YtdagmpmdcgedcaaGreatPart2
import Derived.Test.YtdagmpmdcgedcaaGreatPart13
import Derived.Test.YtdagmpmdcgedcaaGreatPart4
import Derived.Test.YtdagmpmdcgedcaaGreatPart3
namespace Go.GV
open Go
def Acp (P:Program) (t:TypeId) (i:Nat):Option Nat :=
 match P.underlying t with
 | some (.struct fs)=>match fs[i]? with
  | some f=>match Dx P f.type with
   | some false=>some f.offset
   | _=>none
  | none=>none
 | _=>none
section
variable {P:Program} {r:Option Nat} {ops rest:List Oper} {Q:Exit→Env→World→Prop} {e:Env} {w:World}
 {dst:Option Tmp} {ty:TypeId} {pos:String} {af:Array Edge} {g:Option (Nat × Bool)}
theorem Y4 {t:TypeId} {x:Operand} {i off:Nat} {cs:Array Value} {v:Value} (hg:AR ⟨dst,.field t x i,ty,pos,af,g⟩ ops e=true) (hf:Acp P t i=some off) (hx:ev e x = .agg cs) (hv:cs[off]? = some v)
  (h:AD P r ops Q rest (put e dst v) w):AD P r ops Q (⟨dst,.field t x i,ty,pos,af,g⟩::rest) e w:=by
 unfold Acp at hf
 split at hf
 ·rename_i fs hu
  split at hf
  ·rename_i f hf1
   split at hf
   ·rename_i ha
    injection hf with hf
    subst hf;exact BC hg U (by simp [execOp,hx,Instr.field,Bd hu,hf1,asAgg,part,M5 ha,hv]) h
   ·cases hf
  ·cases hf
 ·cases hf
end
end Go.GV
namespace Go.Proofs.YtdagmpmdcgedcaaGreat
open Go.GV
attribute [local irreducible] AD W Wq Wt
structure DyZ where
 i:Nat
 m:Lm
 s:Ld
 T:Nat→Prop
structure DyL where
 q:Nat
 a:Option Addr
 c:Nat
 full:List Value
theorem Acq {ds:List Du} {D:Int} {q:Nat} {d:Du} (h:ds[q]? = some d):Ew (ds.take (q+1)) D=Ew (ds.take q) D++if D≤d.un then [d] else []:=by
 unfold Ew;rw [List.take_add_one,h,List.filter_append]
 congr 1
 by_cases hd:D≤d.un
 ·rw [if_pos hd];show [d].filter _=_;rw [List.filter_cons_of_pos (by simpa using hd),List.filter_nil]
 ·rw [if_neg hd];show [d].filter _=_;rw [List.filter_cons_of_neg (by simpa using hd),List.filter_nil]
set_option maxRecDepth 20000 in
set_option maxHeartbeats 8000000 in
theorem PY (a b:Option Addr) (c e:Nat) (ks:List Ak) (us:List UInt8) (w:World) (R:Rd w a 7 Co ks) (hin:∀ k∈ks,AkIn k) (R8:Rd w b 1 B8 us):Ret Tryz.prog 8 #[.slice a ks.length c,.slice b us.length e] w fun v w'=>v = .bool true∧Ext [] w w':=by
 obtain ⟨w0,rfl⟩:∃ w0,w0=w:=⟨_,rfl⟩;have H:=Ctx.start w0 [];refine Az (fn:=Tryz.f8) Tryz.func8 U [.slice a ks.length c,.slice b us.length e] U (by kernel_rfl) ?_;refine Ae (Ai U (Ab (Aa (Au (Ae (Cb (α:=Unit) 4177920 (fun _=>[(21,.bool ((decide ((ks.length:Int)>80) || decide ((us.length:Int)>20))))]) (fun _ w'=>Ctx w0 [] w' []) U ?_ ?_))))))
 ·refine Ay U (Be Gv U (CZ U U (A7 U (AO 17 U ?_ ?_))))
  ·intro h1;replace h1:=AM h1;refine Ag U (Ag U (Ag U (AF U (.bool _) U (Ab ?_))));exact ⟨rfl,(),rfl,⟨congrArg Value.bool (by (rw [Bool.eq_iff_iff]; simp only [Bool.and_eq_true,Bool.or_eq_true,decide_eq_true_eq,Bool.false_eq_true,false_iff,iff_false,true_iff]; omega)),trivial⟩,H⟩
  ·intro h2;replace h2:=AN h2;refine Ay U (Be Zt U (CZ U U (AG U (.bool _) U (Ab ?_))));exact ⟨rfl,(),rfl,⟨congrArg Value.bool (by (rw [Bool.eq_iff_iff]; simp only [Bool.and_eq_true,Bool.or_eq_true,decide_eq_true_eq,Bool.false_eq_true,false_iff,iff_false,true_iff]; omega)),trivial⟩,H⟩
 rintro - j21 w H;refine Ao _ U ?_ ?_
 ·intro h1;refine Ae (Al OJ (FR _) U ?_);rintro v w ⟨rfl,hx22⟩;replace H:=H.call hx22;refine Ai U (Ab (Aa (A5 (Aq (A9 (v:=(.bool _)) U U U ?_)))));exact ⟨rfl,H.ext⟩
 ·intro h1;have h1':¬ ((ks.length:Int)>80∨(us.length:Int)>20):=by simpa using h1
  have hE0:=H.ext;refine Ap (Aa (Ae (Al Wm (NU _) U ?_)));rintro v w ⟨m0,rfl,H0,I0⟩;obtain ⟨bl,hb0⟩:∃ b,m0.bl=b:=⟨_,rfl⟩;have L:Led bl w0 w [] m0 s00 (fun x=>x∈De m0 s00):=⟨(Ctx.back (L1:=[]) (L2:=[]) H H0).nil_app,I0,hb0⟩;rw [hb0];clear H0 I0 hb0 H;refine Cp U (Ab (Aa (Au (Ae (Af U (Ab (Aa (A0 (Bv 68702699584 (α:=DyZ) (fun z=>[(6,.int .i64 (z.i:Int))]) (fun z w'=>z.i≤ks.length∧Led bl w0 w' [] z.m z.s z.T) (fun z=>ks.length - z.i) ⟨0,m0,s00,fun x=>x∈De m0 s00⟩ U ?_ ?_ ?_)))))))))
  ·exact ⟨rfl,trivial⟩
  ·exact ⟨Nat.zero_le _,L⟩
  ·clear L;rintro ⟨i,m,s,T⟩ j w ⟨hi,L⟩; dsimp only at hi L; dsimp only;obtain ⟨w1,rfl⟩:∃ z,z=w:=⟨_,rfl⟩;have H:=Ctx.start w1 [];refine Au (Ae (Ad U (Ay U (Be Gv U (Bj U U (Ab (Aa (Ao _ U ?_ ?_))))))))
   ·intro h2;replace h2:=AM h2;obtain ⟨k,hk⟩:=A8 (l:=ks) (i:=i);have hkin:=hin k (List.mem_of_getElem? hk);refine Ap (Aa (Au (A0 (Ax (A2 U (Ay U (Ad U (AX (R.ext0 L.H.ext) Gv Hd U U (by rfl) ?_))))))));refine BW _ Wj Hd U U (((R.ext0 L.H.ext).row hk U)) ?_;refine Al GN (Fv (k:=k) L hkin) U ?_;rintro v w ⟨a1,n1,c1,f1,p,s',m',T',rfl,OP,hst,L3,g,hxD⟩;refine Ab (A6 (Aa (Ax (Ad U (Aw U U ?_)))));refine Af U (Ab (Aa ?_));exact ⟨⟨i+1,m',s',T'⟩,rfl,⟨rfl,trivial⟩,⟨by dsimp only; omega,L3.drop⟩,by dsimp only; omega⟩
   ·intro h2;replace h2:=AN h2;clear H;refine Br (An (An (AK (Aa (Au (Ae (Af U (Ab (Aa (A0 (Bv 332306998946228968225951696350625680 (α:=DyZ) (fun z=>[(7,.int .i64 (z.i:Int))]) (fun z w'=>z.i≤us.length∧Led bl w0 w' [] z.m z.s z.T) (fun z=>us.length - z.i) ⟨0,m,s,T⟩ U ?_ ?_ ?_)))))))))))
    ·exact ⟨rfl,trivial⟩
    ·exact ⟨Nat.zero_le _,L⟩
    ·clear L hi;rintro ⟨i,m,s,T⟩ j7 w ⟨hi,L⟩; dsimp only at hi L; dsimp only;obtain ⟨w1,rfl⟩:∃ z,z=w:=⟨_,rfl⟩;have hlow:=L.low;have hok:=L.I.ok;have H:=Ctx.start w1 [];refine Au (Ae (Ad U (Ay U (Be Zt U (Bj U U (Ab (Aa (Ao _ U ?_ ?_))))))))
     ·intro h2;replace h2:=AM h2;obtain ⟨u,hu⟩:=A8 (l:=us) (i:=i);have hu8:u.toNat<256:=u.toNat_lt;have h64:=(Er hok.du).1;have hday:=hok.day;refine Ap (Aa (Au (A0 (Ae (A2 U (Al Q8 (H6 L) U ?_))))));rintro v w ⟨hx43,z1,rfl,Z1,O1⟩;replace L:=L.call hx43;obtain ⟨w2,rfl⟩:∃ z,z=w:=⟨_,rfl⟩;clear H;have H:=Ctx.start w2 [];refine Ba Nn H ?_;rintro b8 w - H;refine Bm Gw U U U (by exact (by simp [Bg])) H at0 U ?_;rintro w H;refine Ab (Aa (Au (Ae (Ah Kz U (AH Bs U H at0 U (CZ U U (Ab (Aa (Ao _ U ?_ ?_)))))))))
      ·intro h3;replace h3:=AM h3;have hx2:=L.H.ext;refine Ae (Al OJ (FR _) U ?_);rintro v w ⟨rfl,hx47⟩;replace H:=H.call hx47;refine Ai U (Ab (Aa (A5 (Aq (AB (Aq (Aq (AB (Aq (A9 (v:=(.bool _)) U U U ?_))))))))));exact ⟨rfl,hx2.trans H.ext⟩
      ·intro h3;replace h3:=AN h3;have hb8w:w2.heap.size≤b8:=(H.own _ (List.mem_cons_self ..)).elim (fun h=>by cases h) id;have off8:StOff s z1 (fun x=>x=b8):=Z1.lt.mono fun x hx=>by rw [hx]; exact hb8w
       refine Ap (Aa (Dw (fun x=>x=_) Bq (by kernel_rfl) U ?_));refine A3 Kz U (Cc Bs U (by rintro _ rfl; exact H.drew) at0 U ?_);refine Ch U (AY U (BE (R8.ext0 (L.H.ext.trans H.drew.ext)) Zt sz_5 U U (by rfl) ?_));refine BR N6 U (by rintro _ rfl; exact (((R8.ext0 (L.H.ext.trans H.drew.ext)).one (f:=bv) hu))) ?_;refine UJ U U un_5 Vm ?_;refine Da U U ?_;refine Dl U (BQ ?_);rintro _ rfl;replace H:=H.drew;obtain ⟨D,hD⟩:∃ D,D=s.day+(u.toNat:Int):=⟨_,rfl⟩;rw [← hD];have hDb:s.day≤D∧D≤1152921504606847231:=by omega
       refine Ae (A2 U (Ad U (B6 (Co (ak 9 0 0 0 0 D 0)) It Iu (by kernel_rfl) ?_)));have L2:=L.nextT H;refine Al GN (Fv (k:=ak 9 0 0 0 0 D 0) L2 (JD ⟨by decide,by decide,by decide,by decide,by decide,⟨by omega,by omega⟩,by decide⟩)) U ?_;rintro v w ⟨a1,n1,c1,f1,p,s',m',T',rfl,OP,hst,L3,g,hxD⟩;obtain ⟨rfl,rfl⟩:=Acl hst hDb.1;replace Z1:=(Z1.ext0 H.ext).ext hxD (O1.mono hlow);have hT8:T' b8:=g.1 b8 (.inr (by simp));have hb8:=L3.H.blk (b8,Bl 32 (stC s z1)) (List.mem_append_left _ (by simp));have hn8:=L3.notin (b:=b8) (o:=Bl 32 (stC s z1)) (by simp);have R1:Rd w a1 1 I1 [((s.ds.length - (Ew s.ds D).length:Nat):Int)]:=OP.rd1 (t:=2) fun x hx=>L3.H.blk x (List.mem_append_left _ (List.mem_append_left _ hx));have hn1:=OP.num;replace L3:=L3.drop;clear L L2 H;obtain ⟨w3,rfl⟩:∃ z,z=w:=⟨_,rfl⟩;have H:=Ctx.start w3 [];refine Ba He H ?_;rintro b10 w - H
       refine Bm ES U U U (by exact (by simp [Bg])) H at0 U ?_;rintro w H;refine Ab (Aa (Ae (A2 U ?_)));have L4:=(L3.next H).drop;refine Al Q8 (H6 L4) U ?_;rintro v w ⟨hx61,z2,rfl,Z2,O2⟩;replace L4:=L4.call hx61;have hx4:=H.ext.trans hx61;have hb10:=hx61.to (H.get at0) (by simp);have hl8:=Bb (H.ext.to hb8 (by simp));replace hb8:=hx4.to hb8 (by simp);replace Z1:=Z1.ext0 hx4;replace R1:=R1.ext0 hx4;clear H L3;obtain ⟨w4,rfl⟩:∃ z,z=w:=⟨_,rfl⟩;have H:=Ctx.start w4 [];refine Ba Nn H ?_;rintro b11 w - H;refine Bm Gw U U U (by exact (by simp [Bg])) H at0 U ?_;rintro w H;refine Ab (Aa ?_);have hb11:=H.get at0;have hl11:w4.heap.size≤b11:=(H.own _ (List.mem_cons_self ..)).elim (fun h=>by cases h) id;have hl84:=Bb hb8;replace hb8:=H.ext.to hb8 (by simp);replace hb10:=H.ext.to hb10 (by simp);replace Z1:=Z1.ext0 H.ext;replace Z2:=Z2.ext0 H.ext;replace R1:=R1.ext0 H.ext
       have L:=(L4.next H).drop;clear L4 H;obtain ⟨w5,rfl⟩:∃ z,z=w:=⟨_,rfl⟩;have H:=Ctx.start w5 [];have hb8l:=Bb hb8;have hb11w:b11≠b8:=fun h=>by rw [h] at hl11; omega
       refine Ae (A4 U (Ab (Aa (Au (Ae (Af U (Ab (Aa (A0 (Bv 38685621615982115163222016 (α:=DyL) (fun t=>[(12,.slice t.a (Ew (s.ds.take t.q) D).length t.c),(13,.int .i64 (t.q:Int))]) (fun t w'=>t.q≤s.ds.length∧OS t.a (Ew (s.ds.take t.q) D).length t.c 7 t.full ((Ew (s.ds.take t.q) D).flatMap CT)∧Ctx w5 [] w' (ent t.a 67 t.full)) (fun t=>s.ds.length - t.q) ⟨0,none,0,[]⟩ U ?_ ?_ ?_))))))))))
       ·exact ⟨rfl,rfl,trivial⟩
       ·exact ⟨Nat.zero_le _,OS.nil,H⟩
       ·clear H;rintro ⟨q,aL,cL,fL⟩ j13 w ⟨hq,OL,H⟩; dsimp only at hq OL H; dsimp only;refine Au (Ae (Ad U (Ah Hl U (AV LJ U ((by rw [Aj (H.ext.to hb8 (by simp))]; rfl)) ?_))));refine Be CE U (Bj U U (Ab (Aa (Ao _ U ?_ ?_))))
        ·intro h4;replace h4:=AM h4;obtain ⟨d,hd⟩:=A8 (l:=s.ds) (i:=q);have hst4:=Acq (D:=D) hd;have hll:(Ew (s.ds.take q) D).length≤s.ds.length:=Nat.le_trans (List.length_filter_le ..) (by rw [List.length_take]; omega);refine Ap (Aa (Au (A0 (Ae (Ah Hl U (AV LJ U ((by rw [Aj (H.ext.to hb8 (by simp))]; rfl)) ?_))))));refine Ad U (AX (Z1.D.ext0 H.ext) CE Cg U U (by rfl) ?_);refine Ah NL U (AV Bs U (((Z1.D.ext0 H.ext).fld hd U (j:=5) U)) ?_);refine Ad U (C9 U U (Ab (Aa (Ao _ U ?_ ?_))))
         ·intro h5;replace h5:=AM h5;rw [if_pos (by omega)] at hst4;refine Ax (Ay U (Ah Hl U (AV LJ U ((by rw [Aj (H.ext.to hb8 (by simp))]; rfl)) ?_)));refine Ad U (AX (Z1.D.ext0 H.ext) CE Cg U U (by rfl) ?_);refine BW _ Fq Cg U U (((Z1.D.ext0 H.ext).row hd U)) ?_;refine Cj _ (.agg _) CE Cg Ex U (by decide) (by decide) U U U H ?_;rintro b83 w - H;refine CF (L:=[]) CE CE Cg Wl Ex U (by decide) U U H OL U (Dg _) ?_;rintro a' c' full' w H O';refine A4 U (Ab (A6 (Aa (Ax (Ad U (Aw U U ?_))))));refine Af U (Ab (Aa ?_));exact ⟨⟨q+1,a',c',full'⟩,rfl,⟨by dsimp only; rw [hst4,List.length_append]; rfl,rfl,trivial⟩,⟨by dsimp only; omega,by dsimp only; rw [hst4,List.length_append,List.flatMap_append,List.flatMap_singleton]; exact O',H⟩,by dsimp only; omega⟩
         ·intro h5;replace h5:=AN h5;rw [if_neg (by omega),List.append_nil] at hst4;refine Ap (A6 (Aa (Ax (Ad U (Aw U U ?_)))));refine Af U (Ab (Aa ?_));exact ⟨⟨q+1,aL,cL,fL⟩,rfl,⟨by dsimp only; rw [hst4]; rfl,rfl,trivial⟩,⟨by dsimp only; omega,by dsimp only; rw [hst4]; exact OL,H⟩,by dsimp only; omega⟩
        ·intro h4;replace h4:=AN h4;obtain rfl:q=s.ds.length:=by omega
         rw [List.take_length] at OL ⊢;have hex:(Ew s.ds D).length≤s.ds.length:=List.length_filter_le ..;have hv:(s.ds.length:Int) - ((Ew s.ds D).length:Int)=((s.ds.length - (Ew s.ds D).length:Nat):Int):=by omega
         refine Br (An (An (AK (Aa (Au (Ae (Cb (α:=Unit) 2535262514830231134859815813120 (fun _=>[(100,.bool (false))]) (fun _ w'=>Ctx w5 [] w' (ent aL 67 fL)) U ?_ ?_)))))))
         ·refine BW _ KQ ES U U ((Cm (b:=b10) (t:=37) (l:=[.int .i64 0,.slice a1 n1 c1]) (H.ext.to hb10 (by simp)) 0 [.int .i64 0,.slice a1 n1 c1] U)) ?_;refine Ah Hl U (AV LJ U ((by rw [Aj (H.ext.to hb8 (by simp))]; rfl)) ?_);refine Be CE U (Ay U (Be CE U (Bp U U ?_)));rw [hv];refine Cj [.int .i64 ((s.ds.length - (Ew s.ds D).length:Nat):Int)] (.int .i64 ((s.ds.length - (Ew s.ds D).length:Nat):Int)) AU Bz Ei U (by decide) (by decide) U U U H ?_;rintro y92 w - H;refine Al OM (J8 a1 (some ⟨y92,0,none⟩) n1 _ c1 _ [((s.ds.length - (Ew s.ds D).length:Nat):Int)] _ (R1.ext0 H.ext) hn1.symm (by rw [hn1]; show 1≤1000000; decide) (Rd.of_bl (xs:=([((s.ds.length - (Ew s.ds D).length:Nat):Int)]:List Int)) (enc:=I1) (r:=[]) (H.get at0) U (by simp)) U) U ?_;rintro v w ⟨rfl,hx93⟩;replace H:=H.call hx93;refine BF U (A7 U (AO 95 U ?_ ?_))
          ·intro h3;replace h3:=BG h3;refine Ag U (Ag U (Ag U (Ag U (AF U (.bool _) U (Ab ?_)))));exact ⟨rfl,(),rfl,⟨congrArg Value.bool (by contradiction),trivial⟩,H.tail⟩
          ·intro h4;replace h4:=BH h4;refine Ah Kz U (AV Bs U ((by rw [Aj (H.ext.to hb11 (by simp))]; rfl)) ?_);refine Ad U (C0 U U (AG U (.bool _) U (Ab ?_)));exact ⟨rfl,(),rfl,⟨congrArg Value.bool (by simp),trivial⟩,H.tail⟩
         rintro - j100 w H;refine EH U (Ap (Aa ?_));have RL:Rd w aL 7 CT (Ew s.ds D):=OS.rd (t:=67) OL (fun x hx=>H.blk x hx) (fun _ _=>rfl) (by decide)
         have hLn:Ew s.ds D≠[]→(adr aL).block∉[b8]:=fun hne hm=>by
          obtain ⟨pp,rfl⟩:=OL.form (List.length_pos_iff.2 hne);have h5:=(H.own (pp,Bl 67 fL) (List.mem_singleton.2 rfl)).elim (fun h=>by cases h) id;have h6:pp=b8:=List.mem_singleton.1 hm;omega
         replace L:=L.call H.ext;replace Z1:=Z1.ext0 H.ext;replace Z2:=Z2.ext0 H.ext;replace hb8:=H.ext.to hb8 (by simp);replace hb11:=H.ext.to hb11 (by simp);clear H;obtain ⟨w6,rfl⟩:∃ z,z=w:=⟨_,rfl⟩;have H:=Ctx.start1 hb8;refine Ae (Ad U (Ah Kz U (Ci (.int _ _) Bz U U U H at0 (by (simp; done)) ?_)));rintro w H;refine Ab (Aa (Ae (Ay U (Ah Hl U (Ci (.slice _ _ _) sz_27 U U U H at0 (by (simp; done)) ?_)))));rintro w H;refine Ab (Aa ?_);replace H:Ctx w6 [b8] w [(b8,Bl 32 (stC ({ s with day:=D,ds:=Ew s.ds D }:Ld) ⟨z1.aA,z1.cA,aL,cL,z1.aR,z1.cR,z1.qs⟩))]:=H
         have Z3:StAt w ({ s with day:=D,ds:=Ew s.ds D }:Ld) ⟨z1.aA,z1.cA,aL,cL,z1.aR,z1.cR,z1.qs⟩:=⟨Z1.A.ext' H.ext (fun g hm=>off8.A g (List.mem_singleton.1 hm)),RL.ext' H.ext hLn,Z1.R.ext' H.ext (fun g hm=>off8.R (Ace g) (List.mem_singleton.1 hm)),Z1.n,fun x hx=>(Z1.K x hx).ext H.ext ((off8.K x hx).mono fun y hy=>List.mem_singleton.1 hy)⟩;replace Z2:=Z2.ext H.ext (O2.mono fun x hx=>by rw [List.mem_singleton.1 hx]; exact hl8);replace L:=L.side H.ext hn8 hT8;replace hb11:=H.ext.to hb11 (by rw [List.mem_singleton]; exact hb11w);have hok':=L.I.ok;have hb8':=H.get at0;clear H hb8;obtain ⟨w7,rfl⟩:∃ z,z=w:=⟨_,rfl⟩;have H:=Ctx.start w7 [];refine Ae (BW _ JS Gw U U ((Cm (b:=b8) (t:=32) (l:=stC ({ s with day:=D,ds:=Ew s.ds D }:Ld) ⟨z1.aA,z1.cA,aL,cL,z1.aR,z1.cR,z1.qs⟩) (H.ext.to hb8' (by simp)) 0 (stC ({ s with day:=D,ds:=Ew s.ds D }:Ld) ⟨z1.aA,z1.cA,aL,cL,z1.aR,z1.cR,z1.qs⟩) U)) ?_)
         refine BW _ JS Gw U U ((Cm (b:=b11) (t:=32) (l:=stC ({ s with day:=D,ds:=Ew s.ds D }:Ld) z2) (H.ext.to hb11 (by simp)) 0 (stC ({ s with day:=D,ds:=Ew s.ds D }:Ld) z2) U)) ?_;refine Al Tz (Ks (s:=({ s with day:=D,ds:=Ew s.ds D }:Ld)) (s':=({ s with day:=D,ds:=Ew s.ds D }:Ld)) _ U hok' (Z3.ext0 H.ext) (Z2.ext0 H.ext)) U ?_;rintro v w ⟨rfl,hx107⟩;replace H:=H.call hx107;refine BF U (A7 U (A2 U (Ad U (Bp U U ?_))));refine B6 (Co (ak 9 0 0 0 0 (D - 1) 0)) It Iu (by kernel_rfl) ?_;have L7:=L.call H.ext;refine Al GN (Fv (k:=ak 9 0 0 0 0 (D - 1) 0) L7 (JD ⟨by decide,by decide,by decide,by decide,by decide,⟨by omega,by omega⟩,by decide⟩)) U ?_;rintro v w ⟨a2,n2,c2,f2,p2,s2,m2,T2,rfl,OP2,hst2,L8,g2,hx2⟩;obtain ⟨rfl,rfl⟩:=Aez rfl hst2 (show D - 1<D by omega);refine Y4 (off:=0) (v := .int .i64 3) U (by kernel_rfl) U U ?_
         refine C0 U U (AG U (.bool _) U (Ab (Aa (Ao _ U ?_ ?_))))
         ·intro h6;replace h6:=C7 h6;simp at h6
         ·intro h6;replace h6:=C8 h6;refine Ap (A6 (Aa (Ax (Ad U (Aw U U ?_)))));refine Af U (Ab (Aa ?_));exact ⟨⟨i+1,m2,({ s with day:=D,ds:=Ew s.ds D }:Ld),T2⟩,rfl,⟨rfl,trivial⟩,⟨by dsimp only; omega,L8.drop⟩,by dsimp only; omega⟩
     ·intro h2;replace h2:=AN h2;have hx1:=L.H.ext;refine Br (An (An (AK (Aa (Ae (Al OJ (FR _) U ?_))))));rintro v w ⟨rfl,hx118⟩;replace H:=H.call hx118;refine Ai U (Ab (Aa (A5 (A9 (v:=(.bool _)) U U U ?_))));exact ⟨rfl,hx1.trans H.ext⟩
end Go.Proofs.YtdagmpmdcgedcaaGreat
namespace Go.Proofs.YtdagmpmdcgedcaaGreat
open Go.GV Go.ChangeShapes Go.WideShapes Go.RowKit
set_option maxRecDepth 100000 in
theorem Mx (os:Os) (started:os.Started) (H:Type) (enc:TypeId × Value→H) :
  ReturnsInHanded {} Tryz.checked os 8 .any (Rows.ledgerDaysSpec.pre6 enc Tryz.prog Tryz.f8 Rows.ledgerDaysRow.domain false) (Rows.ledgerDaysSpec.post enc Tryz.prog Tryz.f8 false true false false):=by
 refine returnsInHanded_of_change (C:=Tryz.checked) own started (by kernel_rfl) Tryz.func8
  (ChangeSpec.witness6 (enc:=enc) (C:=Tryz.checked) false ⟨#[],#[.slice none 0 0,.slice none 0 0],[]⟩ 8 (by kernel_rfl) (by kernel_rfl) (by kernel_rfl) (by kernel_rfl)) ?_
 intro W base args ds gs before hval0 hW hcnd _;have hval:∀ (j:Nat) t v,Tryz.f8.params[j]? = some t→args[j]? = some v→Value.okWide Tryz.prog W .any base t v:=hval0;have hW':=hW;obtain ⟨p,q,hA0,hV,rfl,hfz,hnd⟩:=hW;have hA:DataW.TrodAll enc Tryz.prog W 0 (fun _=>true) true Tryz.f8.params.toList args.toList ds p:=hA0;rw [Tryz.params8] at hA hval;obtain ⟨v0,vs0,d0,ds0,p0,q0,hargs,rfl,rfl,h0,r0⟩:=trodAll_cons hA;obtain ⟨v1,vs1,d1,ds1,p1,q1,rfl,rfl,rfl,h1,r1⟩:=trodAll_cons r0;obtain ⟨rfl,rfl,rfl⟩:=trodAll_nil r1;obtain rfl:args=#[v0,v1]:=by cases args; simp_all
 obtain ⟨a0,c0,l0,rfl,R0,H0⟩:=SU (hval 0 _ v0 rfl rfl) h0;obtain ⟨a1,c1,l1,rfl,R1,H1⟩:=Acn (hval 1 _ v1 rfl rfl) h1;refine (PY a0 a1 c0 c1 l0 l1 W R0 H0 R1).calls.mono ?_;rintro e W' ⟨v,rfl,rfl,hx⟩;exact ⟨_,rfl,OG SR U (by kernel_rfl) U Tryz.underlying4 (fun ds h=>match ds,h with | [_,_],_=>rfl) hW' hx⟩
theorem PZ:jn1 Tryz.prog 8 Tryz.f8 Rows.ledgerDaysSpec Rows.ledgerDaysRow=true:=by kernel_rfl
theorem Qa:jn2 Tryz.prog 8 Tryz.f8 Rows.ledgerDaysSpec Rows.ledgerDaysRow=true:=by kernel_rfl
theorem Qb:jn3 Tryz.prog 8 Tryz.f8 Rows.ledgerDaysSpec Rows.ledgerDaysRow=true:=by kernel_rfl
theorem Qc:jn4 Tryz.prog 8 Tryz.f8 Rows.ledgerDaysSpec Rows.ledgerDaysRow=true:=by kernel_rfl
theorem Qd:jn5 Tryz.prog 8 Tryz.f8 Rows.ledgerDaysSpec Rows.ledgerDaysRow=true:=by kernel_rfl
theorem Qe:joinedFacts Tryz.prog 8 Tryz.f8 Rows.ledgerDaysSpec Rows.ledgerDaysRow=true:=MH PZ Qa Qb Qc Qd
theorem ledgerDays_holds:Rows.LedgerDaysSaid :=
 OpenClaim.holds_of_wide 8 Tryz.f8 rfl rfl rfl rfl rfl rfl rfl ⟨rfl,rfl,rfl,rfl,rfl⟩ rfl rfl rfl rfl rfl (by kernel_rfl) Tryz.func8 Qe
  (of_decide_eq_true (by kernel_rfl)) (by unfold Func.isWrapper; rw [if_neg (of_decide_eq_false (by kernel_rfl))]; exact ⟨rfl,rfl⟩)
  (fun os started H enc _=>Mx os started H enc)
#print axioms ledgerDays_holds
end Go.Proofs.YtdagmpmdcgedcaaGreat
