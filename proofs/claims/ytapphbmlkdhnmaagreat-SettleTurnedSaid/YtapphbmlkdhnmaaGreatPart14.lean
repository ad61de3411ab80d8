/- Part 14 of the proof. The last text: SettleTurned: for every input the law answers true, and turns nothing. -/
import Derived.Test.YtapphbmlkdhnmaaGreatPart2
import Derived.Test.YtapphbmlkdhnmaaGreatPart13
import Derived.Test.YtapphbmlkdhnmaaGreatPart3
/- SettleTurned: names say nothing of what a round is worth. -/
namespace Go.Proofs.YtapphbmlkdhnmaaGreat
open Go.GV
attribute [local irreducible] AL W Wq Wt

set_option maxRecDepth 20000 in
theorem KS (r:Rnd) (q:RSl) (w:World) (RA:RAt w r q) (hw:BG r.N r.es r.fl=true):Ret Tryz.prog 24 #[.agg (Br r q).toArray] w fun v w'=>v = .int .i64 (Hh r)∧Ext [] w w':=by
 obtain ⟨w0,rfl⟩:∃ w0,w0=w:=⟨_,rfl⟩
 have H:=Ctx.start w0 []
 have hl:=(BZ hw).1
 have hE:=(Cn (BZ hw).2.1).2.2.1
 refine A9 (fn:=Tryz.f24) Tryz.func24 rfl [.agg (Br r q).toArray] rfl (by kernel_rfl) ?_
 refine Af (BC rfl (Br r q) (.agg _) rfl rfl H ?_)
 rintro b1 w - H
 refine Ae rfl rfl (Ab (Aa (Af (Ae rfl rfl (Ab (Aa (An (Af (Ae rfl rfl (Ab (Aa (Au ?_))))))))))))
 refine Bf 137438953464 (α:=Nat) (fun i=>[(3,.int .i64 (B7 (fun j=>flE r.fl j*(grE r.N r.es).co j) i)),(4,.int .i64 (i:Int))]) (fun i w'=>i≤r.es.length∧Ctx w0 [] w' [(b1,Bl 33 (Br r q))]) (fun i=>r.es.length - i) 0 rfl ?_ ?_ ?_
 ·exact ⟨rfl,rfl,trivial⟩
 ·exact ⟨Nat.zero_le _,H⟩
 ·clear H
  rintro i j w ⟨hi,H⟩
  refine An (Af (BD (α:=Unit) 524256 (fun _=>[(18,.bool (decide (i<r.es.length)))]) (fun _ w'=>Ctx w0 [] w' [(b1,Bl 33 (Br r q))]) rfl ?_ ?_))
  ·refine Ad rfl rfl (Ah rfl FD rfl (Ah rfl Cc rfl (AN rfl Dh rfl H at0 rfl (AV rfl C0 rfl (AZ rfl rfl rfl (Aw rfl rfl (AE 11 rfl ?_ ?_)))))))
   ·intro h1
    replace h1:=AF h1
    refine Ad rfl rfl (Ah rfl FE rfl (Ah rfl FC rfl (AN rfl BX rfl H at0 rfl (AV rfl AO rfl (AZ rfl rfl rfl (AA rfl rfl (.bool _) rfl (Ab ?_)))))))
    exact ⟨rfl,(),rfl,⟨congrArg Value.bool (by rw [Bool.eq_iff_iff]; simp_all; done),trivial⟩,H⟩
   ·intro h2
    replace h2:=AG h2
    refine Ag rfl (Ag rfl (Ag rfl (Ag rfl (Ag rfl (Ag rfl (A6 rfl rfl (.bool _) rfl (Ab ?_)))))))
    exact ⟨rfl,(),rfl,⟨congrArg Value.bool (by rw [Bool.eq_iff_iff]; simp_all; done),trivial⟩,H⟩
  rintro - j18 w H
  refine Aq _ rfl ?_ ?_
  ·intro h1
   rw [decide_eq_true_eq] at h1
   obtain ⟨e,he⟩:=A0 h1
   obtain ⟨x,hx⟩:=A0 (l:=r.fl) (i:=i) (by omega)
   have hc:=TW hw (k:=i) (by omega)
   have hc2:=TW hw (k:=i+1) (by omega)
   have ht:=YN hw he hx
   rw [Lu,Nn he,show flE r.fl i=x from Bn hx] at hc2
   have hst:B7 (fun j=>flE r.fl j*(grE r.N r.es).co j) (i+1)=B7 (fun j=>flE r.fl j*(grE r.N r.es).co j) i+e.cost*x:=by
    rw [Lu,Nn he,show flE r.fl i=x from Bn hx,Int.mul_comm]
   obtain ⟨s,hs⟩:∃ s,s=B7 (fun j=>flE r.fl j*(grE r.N r.es).co j) i:=⟨_,rfl⟩
   rw [← hs] at hc hc2 hst ⊢
   rw [Int.mul_comm] at hc2
   have RE:=RA.E
   have RF:=RA.F
   refine Ao (Aa (An (Au (Pa (fun x=>x=_) B0 (by kernel_rfl) rfl ?_))))
   refine AP rfl rfl (A7 rfl FD rfl (A7 rfl Cc rfl (Cd rfl Dh rfl (by rintro _ rfl; exact H.drew) at0 rfl ?_)))
   refine AP rfl rfl (Bs RE rfl C0 CC rfl rfl (by omega) (by omega) (by rfl) ?_)
   refine A7 rfl EK rfl (BR rfl Bt rfl (by rintro _ rfl; exact (((RE.ext0 H.drew.ext).fld he rfl (j:=3) rfl))) ?_)
   refine A7 rfl FE rfl (A7 rfl FC rfl (Cd rfl BX rfl (by rintro _ rfl; exact H.drew) at0 rfl ?_))
   refine AP rfl rfl (Bs RF rfl AO Bu rfl rfl (by omega) (by omega) (by rfl) ?_)
   refine BR rfl Bt rfl (by rintro _ rfl; exact (((RF.ext0 H.drew.ext).fld hx rfl (j:=0) rfl))) ?_
   refine NJ rfl rfl rfl (by omega) (by omega) ?_
   refine C7 rfl rfl rfl (by omega) (by omega) ?_
   refine C8 rfl rfl (BJ ?_)
   rintro _ rfl
   replace H:=H.drew
   refine A5 (Aa (Av (Ad rfl rfl (Ap rfl rfl rfl (by omega) (by omega) ?_))))
   refine Ae rfl rfl (Ab (Aa ?_))
   exact ⟨i+1,rfl,⟨congrArg (Value.int .i64) hst.symm,rfl,trivial⟩,⟨by omega,H⟩,by omega⟩
  ·intro h1
   refine Bc (Ak (Ak (AD (Aa (Af (Ad rfl rfl (Ae rfl rfl (Ab (Aa (A8 (AB (v:=(.int _ _)) rfl rfl rfl ?_)))))))))))
   have h1':¬ i<r.es.length:=by simpa using h1
   obtain rfl:i=r.es.length:=by omega
   exact ⟨rfl,H.ext⟩
theorem KT (n:Nat) (ds:List Du):(EW n ds).length=ds.length:=by
 unfold EW
 rw [List.length_zipWith,List.length_reverse,Nat.min_self]
theorem X8 {α:Type} {l:List α} {j:Nat} {x:α} (h:l[l.length - 1 - j]? = some x) (hj:j<l.length):l.reverse[j]? = some x:=by
 rw [List.getElem?_reverse hj]; exact h
theorem Ua {n:Nat} {ds:List Du} {j:Nat} {d z:Du} (hd:ds[j]? = some d) (hz:ds[ds.length - 1 - j]? = some z):(EW n ds)[j]? = some (PG n d z):=by
 unfold EW
 rw [List.getElem?_zipWith,hd,X8 hz (Cr hd)]
theorem Rr {n:Nat} {ds:List Du} {x:Du} (h:x∈EW n ds):∃ d∈ds,∃ z∈ds,x=PG n d z:=by
 obtain ⟨j,hj⟩:=List.mem_iff_getElem?.1 h
 have hl:=Cr hj
 rw [KT] at hl
 obtain ⟨d,hd⟩:=A0 hl
 obtain ⟨z,hz⟩:=A0 (l:=ds) (i:=ds.length - 1 - j) (by omega)
 rw [Ua hd hz] at hj
 injection hj with hj
 exact ⟨d,List.mem_of_getElem? hd,z,List.mem_of_getElem? hz,hj.symm⟩
set_option maxRecDepth 20000 in
set_option maxHeartbeats 16000000 in
theorem LQ (a1 b1:Option Addr) (c1 e1:Nat) (acs:List Ac) (ds:List Du) (nx:Int) (net:Bool) (w:World) (R1:Rd w a1 2 CB acs) (R2:Rd w b1 7 Cf ds) (hnx:0≤nx∧nx<18446744073709551616) (hid:∀ d∈ds,0≤d.id∧d.id<18446744073709551616) :
  Ret Tryz.prog 5 #[.slice a1 acs.length c1,.slice b1 ds.length e1,.int .u64 nx,.bool net] w fun v w'=>v = .bool true∧Ext [] w w':=by
 obtain ⟨w0,rfl⟩:∃ w0,w0=w:=⟨_,rfl⟩
 have H:=Ctx.start w0 []
 have hx0:=Ext.refl [] w0
 refine A9 (fn:=Tryz.f5) Tryz.func5 rfl [.slice a1 acs.length c1,.slice b1 ds.length e1,.int .u64 nx,.bool net] rfl (by kernel_rfl) ?_
 refine Af (Ai rfl rfl (Ab (Aa (Af (Aj rfl rfl (Aj rfl rfl (Ad rfl rfl (Am rfl Tu (JI a1 b1 _ c1 _ e1 acs ds nx _ (R1.ext0 H.ext) rfl (R2.ext0 H.ext) rfl hnx hid) rfl ?_))))))))
 rintro v w hB
 obtain ⟨p1,p2,p3,p4,is,rfl,hx37,hB⟩:=BothRes.uni' hB FV
 refine B9 rfl rfl (A3 rfl rfl rfl (A3 rfl rfl rfl (A3 rfl rfl rfl (A3 rfl rfl rfl (A3 rfl rfl rfl (AW rfl rfl (AW rfl rfl (AW rfl rfl (AW rfl rfl ?_)))))))))
 refine Ai rfl rfl (Ab (Aa (An ?_)))
 cases hisq:is
 ·skip
  replace H:=H.call hx37
  refine Af (Aw rfl rfl (B1 rfl rfl (Aw rfl rfl (Ag rfl (Ag rfl (AA rfl rfl (.bool _) rfl (Aw rfl rfl (Ag rfl (Ag rfl ?_)))))))))
  refine AA rfl rfl (.bool _) rfl (Ab (Aa (Dj rfl (Af (Am rfl Jg (DO _) rfl ?_)))))
  rintro v w ⟨rfl,hxw⟩
  replace H:=Ctx.call H hxw
  refine Ai rfl rfl (Ab (Aa (A8 (Al (AB (v:=(.bool _)) rfl rfl rfl ?_)))))
  exact ⟨rfl,H.ext⟩
 ·skip
  obtain ⟨ha,hd,z,rfl,rfl,rfl,rfl,hz,HL⟩:=hB hisq
  obtain ⟨bx,a,c,full,bd,b,o,ba,ra,rc,rfull,br,ad,cd,fd⟩:=z
  dsimp only [Four.L] at HL ⊢
  obtain ⟨hO,hM,hRO,hRD⟩:=hz
  dsimp only at hO hM hRO hRD
  have hn16:=(Dy.1 ha).1
  have hm64:=(D7.1 hd).1
  replace HL:Ctx w0 [] _ ([]++(LX bx a acs.length c full bd b nx o++RX ba ra acs.length rc rfull br ad ds.length cd nx fd)):=((Ctx.start w0 []).call H.ext).callEnt HL.ext (fun x hx=>⟨HL.blk x hx,(HL.own x hx).elim (fun h=>by cases h) id⟩) HL.nd
  refine Af (Aw rfl rfl (B1 rfl rfl (Aw rfl rfl (A2 rfl rfl (CK rfl un_37 rfl ?_)))))
  refine A6 rfl rfl (.bool _) rfl (Aw rfl rfl (A2 rfl rfl (CK rfl un_38 rfl ?_)))
  refine A6 rfl rfl (.bool _) rfl (Ab (Aa (CJ rfl (Ao (Aa (Af (A2 rfl rfl (A2 rfl rfl (Aw rfl rfl (Am rfl L8 (OO (B:=[]) ha hd net HL hO hM) rfl ?_))))))))))
  rintro v w1 ⟨r,q,code,rfl,hP,hx58⟩
  replace HL:=HL.call hx58
  replace hx0:=HL.ext
  have H:=Ctx.start w1 []
  refine B9 rfl rfl (A3 rfl rfl rfl (A3 rfl rfl rfl (Bj rfl II H ?_)))
  rintro b14 w - H
  refine B5 rfl DL rfl rfl rfl (by simp [Bm]) H at0 rfl ?_
  rintro w H
  refine Ae rfl rfl (Ab (Aa (An (Af (Ad rfl rfl (Cp rfl rfl rfl (Ab (Aa (Aq _ rfl ?_ ?_)))))))))
  ·intro h1
   replace h1:=CY h1
   refine Af (Am rfl Jg (DO _) rfl ?_)
   rintro v w ⟨rfl,hxw⟩
   replace H:=Ctx.call H hxw
   refine Ai rfl rfl (Ab (Aa (A8 (Al (AB (v:=(.bool _)) rfl rfl rfl ?_)))))
   exact ⟨rfl,hx0.trans H.ext⟩
  ·intro h1
   replace h1:=CZ h1
   have h1':code=0:=by omega
   obtain ⟨hbb,P,RA⟩:CD (acs.map Ce) ds=true∧PlanR acs ds net r∧RAt w1 r q:=by
    rcases hP with ⟨-,h⟩ | ⟨h2,-,h3,h4,-⟩
    ·omega
    ·exact ⟨h2,h3,h4⟩
   clear hP hisq hB
   have hB:=(EV (by omega)).1 hbb
   replace H:Ctx w1 [] _ [(b14,Bl 33 (Br r q))]:=H
   refine Ao (Aa (Af (Aj rfl rfl (AV rfl CL rfl (Ae rfl rfl (Ab (Aa (Af (Az rfl rfl (Ab (Aa (An ?_))))))))))))
   refine Af (Ad rfl rfl (Be rfl rfl rfl (by omega) (by omega) ?_))
   refine Ae rfl rfl (Ab (Aa (Au (Bf 604167761902135234920448 (α:=LSt) (fun t=>[(18,.int .i64 ((acs.length:Int) - 1 - (t.i:Int))),(17,.slice t.a t.i t.c)]) (fun t w'=>t.i≤acs.length∧OS t.a t.i t.c 2 t.full ((acs.reverse.take t.i).flatMap CB)∧Ctx w1 [] w' ([(b14,Bl 33 (Br r q))]++ent t.a 64 t.full)) (fun t=>acs.length - t.i) ⟨0,none,0,[]⟩ rfl ?_ ?_ ?_))))
   ·exact ⟨congrArg (Value.int .i64) (by dsimp only; omega),rfl,trivial⟩
   ·exact ⟨Nat.zero_le _,OS.nil,H⟩
   ·clear H
    rintro ⟨j,aA,cA,fA⟩ jj w ⟨hj,OA,H⟩; dsimp only at hj OA H; dsimp only
    refine An (Af (Ad rfl rfl (Cx rfl rfl rfl (Ab (Aa (Aq _ rfl ?_ ?_))))))
    ·intro h2
     replace h2:=AF h2
     obtain ⟨x,hx⟩:=A0 (l:=acs) (i:=acs.length - 1 - j) (by omega)
     have hxr:=X8 hx (by omega)
     have R1':=R1.ext0 (hx0.trans H.ext)
     have hidx:((acs.length:Int) - 1 - (j:Int)).toNat=acs.length - 1 - j:=by omega
     refine Ao (Aa (An (Au (Av (Aj rfl rfl (Aj rfl rfl (Ad rfl rfl (AK R1' rfl CL Dc rfl rfl (by omega) (by omega) (by rfl) ?_))))))))
     rw [hidx]
     refine Cv _ rfl JP Dc rfl rfl ((R1'.row hx rfl)) ?_
     refine C3 _ (.agg _) rfl CL Dc Hr rfl (by decide) (by decide) rfl rfl rfl H ?_
     rintro b77 w - H
     refine Cl (L:=[_]) rfl CL CL Dc V2 Hr rfl (by decide) rfl rfl H OA rfl (Ia x) (by omega) ?_
     rintro aA' cA' fA' w H OA
     refine Az rfl rfl (Ab (A5 (Aa (Av (Ad rfl rfl (Be rfl rfl rfl (by omega) (by omega) ?_))))))
     refine Ae rfl rfl (Ab (Aa ?_))
     exact ⟨⟨j+1,aA',cA',fA'⟩,rfl,⟨congrArg (Value.int .i64) (by dsimp only; omega),rfl,trivial⟩,⟨by dsimp only; omega,by dsimp only; rw [Eo hxr,List.flatMap_append]; exact (by simpa using OA),H⟩,by dsimp only; omega⟩
    ·intro h2
     replace h2:=AG h2
     obtain rfl:j=acs.length:=by omega
     rw [List.take_of_length_le (by rw [List.length_reverse]; exact Nat.le_refl _)] at OA
     refine Bc (Ak (Ak (AD (Aa (Af (Az rfl rfl (Ab (Aa (An (Af (Aj rfl rfl (AV rfl B4 rfl (Be rfl rfl rfl (by omega) (by omega) ?_)))))))))))))
     refine Ae rfl rfl (Ab (Aa (Au (Bf 83076749731721538778029424572366848 (α:=LSt) (fun t=>[(20,.int .i64 ((ds.length:Int) - 1 - (t.i:Int))),(19,.slice t.a t.i t.c)]) (fun t w'=>t.i≤ds.length∧OS t.a t.i t.c 7 t.full (((EW acs.length ds).take t.i).flatMap Cf)∧Ctx w1 [] w' ([(b14,Bl 33 (Br r q))]++ent aA 64 fA++ent t.a 62 t.full)) (fun t=>ds.length - t.i) ⟨0,none,0,[]⟩ rfl ?_ ?_ ?_))))
     ·exact ⟨congrArg (Value.int .i64) (by dsimp only; omega),rfl,trivial⟩
     ·exact ⟨Nat.zero_le _,OS.nil,by dsimp only; rw [show ent none 62 []=[] from rfl,List.append_nil]; exact H⟩
     ·clear H
      rintro ⟨j,aD,cD,fD⟩ jj2 w ⟨hj,OD,H⟩; dsimp only at hj OD H; dsimp only
      refine An (Af (Ad rfl rfl (Cx rfl rfl rfl (Ab (Aa (Aq _ rfl ?_ ?_))))))
      ·intro h3
       replace h3:=AF h3
       obtain ⟨d,hdj⟩:=A0 (l:=ds) (i:=j) (by omega)
       obtain ⟨y,hy⟩:=A0 (l:=ds) (i:=ds.length - 1 - j) (by omega)
       have htj:=Ua (n:=acs.length) hdj hy
       have R2':=R2.ext0 (hx0.trans H.ext)
       have hdy:=Mi hd (List.mem_of_getElem? hy)
       have hidx:((ds.length:Int) - 1 - (j:Int)).toNat=ds.length - 1 - j:=by omega
       have hidx2:((ds.length:Int) - 1 - ((ds.length:Int) - 1 - (j:Int))).toNat=j:=by omega
       refine Ao (Aa (An (Au (Af (Aj rfl rfl (Ad rfl rfl (AK R2' rfl B4 B2 rfl rfl (by omega) (by omega) (by rfl) ?_)))))))
       rw [hidx]
       refine Cv _ rfl E7 B2 rfl rfl ((R2'.row hy rfl)) ?_
       refine Bj rfl Eh H ?_
       rintro b21 w - H
       refine B5 rfl B2 rfl rfl rfl (by simp [Bm]) H at0 rfl ?_
       rintro w H
       refine Ab (Aa ?_)
       replace H:Ctx w1 [] _ ((b21,Bl 62 (Cf y))::([(b14,Bl 33 (Br r q))]++ent aA 64 fA++ent aD 62 fD)):=H
       replace R2':=R2.ext0 (hx0.trans H.ext)
       refine Af (Aj rfl rfl (Aj rfl rfl (AV rfl B4 rfl (Be rfl rfl rfl (by omega) (by omega) ?_))))
       refine Ad rfl rfl (Be rfl rfl rfl (by omega) (by omega) ?_)
       refine AK R2' rfl B4 B2 rfl rfl (by omega) (by omega) (by rfl) ?_
       rw [hidx2]
       refine Ah rfl Dw rfl (Bb rfl BK rfl ((R2'.fld hdj rfl (j:=0) rfl)) ?_)
       refine Ah rfl Dw rfl (Cy (.int _ _) rfl Bo rfl rfl rfl H at0 (by (simp; done)) ?_)
       rintro w H
       refine Ab (Aa (Af (Ad rfl rfl (Be rfl rfl rfl (by omega) (by omega) ?_))))
       refine Ah rfl E1 rfl (AN rfl BV rfl H at0 rfl (Be rfl rfl rfl (by omega) (by omega) ?_))
       refine Ah rfl E1 rfl (Cy (.int _ _) rfl Fs rfl rfl rfl H at0 (by (simp; done)) ?_)
       rintro w H
       refine Ab (Aa (Af (Ad rfl rfl (Be rfl rfl rfl (by omega) (by omega) ?_))))
       refine Ah rfl E3 rfl (AN rfl BV rfl H at0 rfl (Be rfl rfl rfl (by omega) (by omega) ?_))
       refine Ah rfl E3 rfl (Cy (.int _ _) rfl Fs rfl rfl rfl H at0 (by (simp; done)) ?_)
       rintro w H
       refine Ab (Aa ?_)
       replace H:Ctx w1 [] _ ((b21,Bl 62 (Cf (PG acs.length d y)))::([(b14,Bl 33 (Br r q))]++ent aA 64 fA++ent aD 62 fD)):=H
       refine Av (Aj rfl rfl (B6 rfl E7 B2 rfl H at0 rfl (C3 _ (.agg _) rfl B4 B2 Eh rfl (by decide) (by decide) rfl rfl rfl H ?_)))
       rintro b114 w - H
       refine Cl (L:=(b21,_)::([_]++ent aA 64 fA)) rfl B4 B4 B2 L7 Eh rfl (by decide) rfl rfl H OD rfl (DM (PG acs.length d y)) (by omega) ?_
       rintro aD' cD' fD' w H OD
       refine Az rfl rfl (Ab (A5 (Aa (Av (Ad rfl rfl (Be rfl rfl rfl (by omega) (by omega) ?_))))))
       refine Ae rfl rfl (Ab (Aa ?_))
       exact ⟨⟨j+1,aD',cD',fD'⟩,rfl,⟨congrArg (Value.int .i64) (by dsimp only; omega),rfl,trivial⟩,⟨by dsimp only; omega,by dsimp only; rw [Eo htj,List.flatMap_append]; exact (by simpa using OD),H.tail⟩,by dsimp only; omega⟩
      ·intro h3
       replace h3:=AG h3
       obtain rfl:j=ds.length:=by omega
       rw [List.take_of_length_le (by rw [KT]; exact Nat.le_refl _)] at OD
       have RA':Rd w aA 2 CB acs.reverse:=OS.rd OA (fun x hx=>H.blk x (List.mem_append_left _ (List.mem_append_right _ hx))) (fun _ _=>rfl) (by decide)
       have RD':Rd w aD 7 Cf (EW acs.length ds):=OS.rd OD (fun x hx=>H.blk x (List.mem_append_right _ hx)) (fun _ _=>rfl) (by decide)
       have hb14:=H.get at0
       replace hx0:=hx0.trans H.ext
       replace RA:=RA.ext0 H.ext
       replace HL:=HL.call H.ext
       clear H OA OD
       obtain ⟨w2,rfl⟩:∃ z,z=w:=⟨_,rfl⟩
       have H:=Ctx.start w2 []
       refine Bc (Ak (Ak (AD (Aa (Af (Aj rfl rfl (Aj rfl rfl (Ad rfl rfl (Am rfl Tu (JI aA aD acs.length cA ds.length cD acs.reverse (EW acs.length ds) nx _ (RA'.ext0 H.ext) (List.length_reverse ..) (RD'.ext0 H.ext) (KT _ _) hnx (fun x hx=>by obtain ⟨d,hd7,z,-,rfl⟩:=Rr hx; exact hid d hd7)) rfl ?_)))))))))
       rintro v w hB7
       obtain ⟨p1,p2,p3,p4,so,rfl,hx120,hB7⟩:=BothRes.uni' hB7 FV
       refine B9 rfl rfl (A3 rfl rfl rfl (A3 rfl rfl rfl (A3 rfl rfl rfl (A3 rfl rfl rfl (A3 rfl rfl rfl (AW rfl rfl (AW rfl rfl (AW rfl rfl (AW rfl rfl ?_)))))))))
       refine Ai rfl rfl (Ab (Aa (An ?_)))
       cases hso:so
       ·skip
        replace H:=H.call hx120
        refine Af (Aw rfl rfl (B1 rfl rfl (Ab (Aa (Dj rfl (Af (Am rfl Jg (DO _) rfl ?_)))))))
        rintro v w ⟨rfl,hxw⟩
        replace H:=Ctx.call H hxw
        refine Ai rfl rfl (Ab (Aa (A8 (Al (AB (v:=(.bool _)) rfl rfl rfl ?_)))))
        exact ⟨rfl,hx0.trans H.ext⟩
       ·skip
        obtain ⟨ha',hd',z,rfl,rfl,rfl,rfl,hz',HL'⟩:=hB7 hso
        obtain ⟨bx',a',c',full',bd',b',o',ba',ra',rc',rfull',br',ad',cd',fd'⟩:=z
        dsimp only [Four.L] at HL' ⊢
        obtain ⟨hO',hM',-,-⟩:=hz'
        dsimp only at hO' hM'
        have hn7:acs.reverse.length=acs.length:=List.length_reverse ..
        replace HL':Ctx w2 [] _ ([]++(LX bx' a' acs.reverse.length c' full' bd' b' nx o'++RX ba' ra' acs.reverse.length rc' rfull' br' ad' (EW acs.length ds).length cd' nx fd')):=H.callEnt HL'.ext (fun x hx=>⟨HL'.blk x hx,(HL'.own x hx).elim (fun h=>by cases h) id⟩) HL'.nd
        have hbb':CD (acs.reverse.map Ce) (EW acs.length ds)=true:=(EV (by rw [KT]; omega)).2 (Nq ha' hd' fun x hx=>by
         obtain ⟨d,-,y,hy,rfl⟩:=Rr hx
         have:=Mi hd hy
         rw [hn7]
         show (acs.length:Int) - 1 - y.fr<acs.length∧(acs.length:Int) - 1 - y.to<acs.length
         omega)
        refine Af (Aw rfl rfl (B1 rfl rfl (Ab (Aa (CJ rfl (Ao (Aa (Af (A2 rfl rfl (A2 rfl rfl (Aw rfl rfl ?_)))))))))))
        refine Am rfl L8 (Ij (B:=[]) ha' hd' hbb' net HL' hO' hM') rfl ?_
        rintro v w3 ⟨s,qs,rfl,Q,RB,-,-,HL3⟩
        replace hb14:=HL3.ext.to hb14 (by simp)
        replace hx0:=hx0.trans HL3.ext
        replace RA:=RA.ext0 HL3.ext
        replace HL:=HL.call HL3.ext
        clear HL3 HL'
        have H:=Ctx.start w3 []
        refine B9 rfl rfl (A3 rfl rfl rfl (A3 rfl rfl rfl (Bj rfl II H ?_)))
        rintro b27 w - H
        refine B5 rfl DL rfl rfl rfl (by simp [Bm]) H at0 rfl ?_
        rintro w H
        refine Ae rfl rfl (Ab (Aa (An ?_)))
        replace H:Ctx w3 [] _ [(b27,Bl 33 (Br s qs))]:=H
        have hcost:=Rj hbb (by omega) P Q
        replace hb14:=H.ext.to hb14 (by simp)
        have hb27:=H.get at0
        replace RA:=RA.ext0 H.ext
        replace RB:=RB.ext0 H.ext
        replace hx0:=hx0.trans H.ext
        replace HL:=HL.call H.ext
        obtain ⟨w4,rfl⟩:∃ z,z=w:=⟨_,rfl⟩
        clear H
        have H:=Ctx.start w4 []
        refine CP [([0,1,2,3,5],4),([],6),([7],8)] (fun z=>Ext [] w4 z) [] B0 (by kernel_rfl) (Ext.drew [] w4) ?_
        refine AU rfl rfl ?_
        refine AS rfl rfl (L5 rfl rfl rfl (CU rfl rfl (GJ _ rfl FN DL rfl rfl (fun _ hx=>(Dr (b:=b14) (t:=33) (l:=Br r q) (hx.to hb14 (by simp)) 0 (Br r q) rfl)) ?_)))
        refine GJ _ rfl FN DL rfl rfl (fun _ hx=>(Dr (b:=b27) (t:=33) (l:=Br s qs) (hx.to hb27 (by simp)) 0 (Br s qs) rfl)) ?_
        refine Ba ?_
        replace H:=H.drew
        refine Am rfl Qu (KS r q _ (RA.ext0 H.ext) (Ea P).2.1) rfl ?_
        rintro v w ⟨rfl,hxc⟩
        replace H:=H.call hxc
        refine Ab (BL (H.ext) (AU rfl rfl ?_))
        refine Ba (Am rfl Qu (KS s qs _ (RB.ext0 H.ext) (Ea Q).2.1) rfl ?_)
        rintro v w ⟨rfl,hxc⟩
        replace H:=H.call hxc
        refine Ab (BL (H.ext) (AU rfl rfl ?_))
        refine L5 rfl rfl rfl ?_
        rw [hcost,show (!decide (Hh s=Hh s))=false from by simp]
        refine Ba (A6 rfl rfl (.bool _) rfl (Ab (BL (H.ext) (BO (CJ rfl (Ao (Aa (Af (A2 rfl rfl (A2 rfl rfl ?_))))))))))
        replace HL:=HL.call H.ext
        replace hx0:=hx0.trans H.ext
        refine Am rfl L8 (Ij (B:=[]) ha hd hbb false HL hO hM) rfl ?_
        rintro v w5 ⟨u,qu,rfl,PU,RU,-,hx148,HL5⟩
        replace HL:=HL5
        replace hx0:=hx0.trans hx148
        have H:=Ctx.start w5 []
        refine B9 rfl rfl (A3 rfl rfl rfl (A3 rfl rfl rfl (Bj rfl II H ?_)))
        rintro b29 w - H
        refine B5 rfl DL rfl rfl rfl (by simp [Bm]) H at0 rfl ?_
        rintro w H
        refine Ae rfl rfl (Ab (Aa ?_))
        replace H:Ctx w5 [] _ [(b29,Bl 33 (Br u qu))]:=H
        have hb29:=H.get at0
        replace RU:=RU.ext0 H.ext
        refine Af (A2 rfl rfl (A2 rfl rfl ?_))
        replace HL:=HL.call H.ext
        replace hx0:=hx0.trans H.ext
        refine Am rfl L8 (Ij (B:=[]) ha hd hbb true HL hO hM) rfl ?_
        rintro v w6 ⟨t,qt,rfl,PT,RT',-,hx154,HL6⟩
        replace HL:=HL6
        replace hx0:=hx0.trans hx154
        replace RU:=RU.ext0 hx154
        replace hb29:=hx154.to hb29 (by simp)
        have H:=Ctx.start w6 []
        refine B9 rfl rfl (A3 rfl rfl rfl (A3 rfl rfl rfl (Bj rfl II H ?_)))
        rintro b31 w - H
        refine B5 rfl DL rfl rfl rfl (by simp [Bm]) H at0 rfl ?_
        rintro w H
        refine Ae rfl rfl (Ab (Aa ?_))
        replace H:Ctx w6 [] _ [(b31,Bl 33 (Br t qt))]:=H
        have hle1:=SR PU PT
        have hle2:=Xy PT
        have hb31:=H.get at0
        replace RU:=RU.ext0 H.ext
        replace RT':=RT'.ext0 H.ext
        replace hb29:=H.ext.to hb29 (by simp)
        replace hx0:=hx0.trans H.ext
        replace HL:=HL.call H.ext
        obtain ⟨w7,rfl⟩:∃ z,z=w:=⟨_,rfl⟩
        clear H
        have AC:=LX.ac (Ctx.in' HL) hO
        have H:=Ctx.start w7 []
        refine CP [([0,1,2,3,4,5,6,7,9],8),([],10),([11,12,13,14],15),([16,17,18,19,21],20),([],22),([23,24],25),([26],27)] (fun z=>Ext [] w7 z) [] B0 (by kernel_rfl) (Ext.drew [] w7) ?_
        refine AU rfl rfl ?_
        refine AS rfl rfl (YV rfl rfl rfl (CU rfl rfl (AS rfl rfl (YV rfl rfl rfl (FY rfl rfl (.bool _) rfl (CU rfl rfl (GJ _ rfl FN DL rfl rfl (fun _ hx=>(Dr (b:=b29) (t:=33) (l:=Br u qu) (hx.to hb29 (by simp)) 0 (Br u qu) rfl)) ?_)))))))
        refine GJ _ rfl FN DL rfl rfl (fun _ hx=>(Dr (b:=b31) (t:=33) (l:=Br t qt) (hx.to hb31 (by simp)) 0 (Br t qt) rfl)) ?_
        refine Ba ?_
        replace H:=H.drew
        refine Am rfl Qu (KS u qu _ (RU.ext0 H.ext) (Ea PU).2.1) rfl ?_
        rintro v w ⟨rfl,hxc⟩
        replace H:=H.call hxc
        refine Ab (BL (H.ext) (AU rfl rfl ?_))
        refine Ba (Am rfl Qu (KS t qt _ (RT'.ext0 H.ext) (Ea PT).2.1) rfl ?_)
        rintro v w ⟨rfl,hxc⟩
        replace H:=H.call hxc
        refine Ab (BL (H.ext) (AU rfl rfl ?_))
        refine YT rfl rfl rfl ?_
        rw [show decide (Hh u≤Hh t)=true from decide_eq_true hle1]
        refine FY rfl rfl (.bool _) rfl (CU rfl rfl (GJ _ rfl FN DL rfl rfl (fun _ hx=>(Dr (b:=b31) (t:=33) (l:=Br t qt) (hx.to hb31 (by simp)) 0 (Br t qt) rfl)) ?_))
        refine Ba (Am rfl Qu (KS t qt _ (RT'.ext0 H.ext) (Ea PT).2.1) rfl ?_)
        rintro v w ⟨rfl,hxc⟩
        replace H:=H.call hxc
        refine Ab (BL (H.ext) (AU rfl rfl ?_))
        refine YT rfl rfl rfl ?_
        rw [show decide (Hh t≤0)=true from decide_eq_true hle2]
        refine FY rfl rfl (.bool _) rfl (CU rfl rfl (Ch rfl rfl (Bi rfl rfl (Ba (Am rfl Qv (Ih ha _ (AC.ext0 H.ext)) rfl ?_)))))
        rintro v w ⟨hx177,a2,c2,rfl,R177⟩
        replace H:=H.call hx177
        refine Ab (BL (H.ext) (AU rfl rfl ?_))
        refine Ba (Am rfl Zb (LK a2 b1 _ c2 _ e1 (acs.map Ce) ds _ R177 rfl (by rw [List.length_map]; omega) (R2.ext0 (hx0.trans H.ext)) rfl (by omega)) rfl ?_)
        rintro v w ⟨rfl,hx179⟩
        replace H:=H.call hx179
        rw [hbb]
        refine Ab (BL (H.ext) (AU rfl rfl ?_))
        refine FY rfl rfl (.bool _) rfl (CU rfl rfl (Ba (Am rfl Jg (DO _) rfl ?_)))
        rintro v w ⟨rfl,hxw⟩
        replace H:=Ctx.call H hxw
        refine Ab (BL (H.ext) (AU rfl rfl ?_))
        refine FY rfl rfl (.bool _) rfl (Ba (Ai rfl rfl (Ab (BL (H.ext) (BO (A8 (AB (v:=(.bool _)) rfl rfl rfl ?_)))))))
        exact ⟨rfl,hx0.trans H.ext⟩
end Go.Proofs.YtapphbmlkdhnmaaGreat

/- SettleTurned: for every input the law answers true, and turns nothing. -/
namespace Go.Proofs.YtapphbmlkdhnmaaGreat
open Go.GV Go.ChangeShapes Go.WideShapes Go.RowKit

set_option maxRecDepth 100000 in
theorem JL (os:Os) (started:os.Started) (H:Type) (enc:TypeId × Value→H) :
  ReturnsInHanded {} Tryz.checked os 5 .any (Rows.settleTurnedSpec.pre6 enc Tryz.prog Tryz.f5 Rows.settleTurnedRow.domain false) (Rows.settleTurnedSpec.post enc Tryz.prog Tryz.f5 false true false false):=by
 refine returnsInHanded_of_change (C:=Tryz.checked) own started (by kernel_rfl) Tryz.func5
  (ChangeSpec.witness6 (enc:=enc) (C:=Tryz.checked) false ⟨#[],#[.slice none 0 0,.slice none 0 0,.int .u64 0,.bool false],[]⟩ 8 (by kernel_rfl) (by kernel_rfl) (by kernel_rfl) (by kernel_rfl)) ?_
 intro W base args ds gs before hval0 hW hcnd _
 have hval:∀ (j:Nat) t v,Tryz.f5.params[j]? = some t→args[j]? = some v→Value.okWide Tryz.prog W .any base t v:=hval0
 have hW':=hW
 obtain ⟨p,q,hA0,hV,rfl,hfz,hnd⟩:=hW
 have hA:DataW.TrodAll enc Tryz.prog W 0 (fun _=>true) true Tryz.f5.params.toList args.toList ds p:=hA0
 rw [Tryz.params5] at hA hval
 obtain ⟨v0,vs0,d0,ds0,p0,q0,hargs,rfl,rfl,h0,r0⟩:=trodAll_cons hA
 obtain ⟨v1,vs1,d1,ds1,p1,q1,rfl,rfl,rfl,h1,r1⟩:=trodAll_cons r0
 obtain ⟨v2,vs2,d2,ds2,p2,q2,rfl,rfl,rfl,h2,r2⟩:=trodAll_cons r1
 obtain ⟨v3,vs3,d3,ds3,p3,q3,rfl,rfl,rfl,h3,r3⟩:=trodAll_cons r2
 obtain ⟨rfl,rfl,rfl⟩:=trodAll_nil r3
 obtain rfl:args=#[v0,v1,v2,v3]:=by cases args; simp_all
 obtain ⟨a0,c0,l0,rfl,R0,H0⟩:=X6 (hval 0 _ v0 rfl rfl) h0
 obtain ⟨a1,c1,l1,rfl,R1,H1⟩:=X7 (hval 1 _ v1 rfl rfl) h1
 obtain ⟨k2,rfl,rfl,rfl,hg2⟩:=open_int Tryz.underlying24 (hval 2 _ v2 rfl rfl) h2
 have hb2:0≤k2∧k2≤18446744073709551615:=HM hg2
 obtain ⟨k3,rfl,rfl,rfl⟩:=open_bool Tryz.underlying4 (hval 3 _ v3 rfl rfl) h3
 refine (LQ a0 a1 c0 c1 l0 l1 k2 k3 W R0 R1 ⟨hb2.1,by omega⟩ (fun d hd=>(H1 d hd).1)).calls.mono ?_
 rintro e W' ⟨v,rfl,rfl,hx⟩
 exact ⟨_,rfl,MF PK rfl (by kernel_rfl) rfl Tryz.underlying4 (fun ds h=>match ds,h with | [_,_,_,_],_=>rfl) hW' hx⟩

theorem settleTurned_holds:Rows.SettleTurnedSaid :=
 OpenClaim.holds_of_wide 5 Tryz.f5 rfl rfl rfl rfl rfl rfl rfl ⟨rfl,rfl,rfl,rfl,rfl⟩ rfl rfl rfl rfl rfl (by kernel_rfl) Tryz.func5 (by kernel_rfl)
  (of_decide_eq_true (by kernel_rfl)) (by unfold Func.isWrapper; rw [if_neg (of_decide_eq_false (by kernel_rfl))]; exact ⟨rfl,rfl⟩)
  (fun os started H enc _=>JL os started H enc)
#print axioms settleTurned_holds
end Go.Proofs.YtapphbmlkdhnmaaGreat
