/- Part 14 of the proof. The last text: WitnessBack: for every input the law answers true, and turns nothing. -/
import Derived.Test.YtapphbmlkdhnmaaGreatPart2
import Derived.Test.YtapphbmlkdhnmaaGreatPart13
import Derived.Test.YtapphbmlkdhnmaaGreatPart4
/- The law of what is put and got again, and of bits turned: the walk. -/
namespace Go.Proofs.YtapphbmlkdhnmaaGreat
open Go.GV
attribute [local irreducible] A2 W Wq Wt

theorem ZM (l:List UInt8):WU (HZ l):=by
 have h:=Ya l (k:=8) (by decide) (hs1 l)
 exact ⟨⟨by show (0:Int)≤((nx l 8 (hs1 l)).1:Int); omega,by show ((nx l 8 (hs1 l)).1:Int)<_; omega⟩,Rh l,Yn _⟩
theorem Aec (a b:UInt8):Value.int .u8 ((a.toNat ^^^ b.toNat:Nat):Int)=bv (a ^^^ b):=by
 rw [bv,UInt8.toNat_xor]
theorem Tf {α:Type} {l:List α} {k:Nat} {p:α} {f:α→α} (h:l[k]? = some p):l.modify k f=l.set k (f p):=by
 apply List.ext_getElem?
 intro i
 rw [List.getElem?_modify,List.getElem?_set]
 by_cases hi:k=i
 ·subst hi
  rw [h,if_pos rfl,if_pos (CB h)]
  simp
 ·rw [if_neg hi]
  simp [hi]
theorem Aed (l:List UInt8):l.flatMap B8=l.map bv:=VL (f:=bv) l
theorem Y1 {P:Program} {r:Option Nat} {n:Nat} {c:Code} {Q:Exit→Env→World→Prop} {w:World} {e:Env} (l:List (Nat × Value)) (hd:e.ds=[]) (ha:Jn e l) (h:∀ f,W P r n c Q (Ow ⟨f,[]⟩ l) w):W P r n c Q e w:=by
 have h1:=h e.g
 rw [← hd,Jy ha] at h1
 exact h1
structure BkS where
 i:Nat
 full:List Value
set_option maxRecDepth 20000 in
set_option maxHeartbeats 8000000 in
theorem Th (a b p:Option Addr) (n c m e f:Nat) (rs:List Int) (ds:List Du) (net:Bool) (l:List UInt8) (at' turn:Int) (w:World) (R:Rd w a 1 I1 rs) (hn:rs.length=n) (Rd':Rd w b 7 Ee ds) (hm:ds.length=m) (hds:∀ d∈ds,0≤d.id∧d.id<18446744073709551616) (Rp:Rd w p 1 B8 l) (hc:l.length≤f) (hat:0≤at'∧at'<65536) (htu:0≤turn∧turn<4294967296) :
  Ret Tryz.prog 6 #[.slice a n c,.slice b m e,.bool net,.slice p l.length f,.int .u16 at',.int .u32 turn] w fun v w'=>v = .bool true∧Ext [] w w':=by
 subst hn hm
 obtain ⟨w0,rfl⟩:∃ w0,w0=w:=⟨_,rfl⟩
 have H:=Ctx.start w0 []
 refine A1 (fn:=Tryz.f6) Tryz.func6 rfl [.slice a rs.length c,.slice b ds.length e,.bool net,.slice p l.length f,.int .u16 at',.int .u32 turn] rfl (by kernel_rfl) ?_
 refine Ag (Ai rfl rfl (Ab (Aa (Aq (Ag (B5 (α:=Unit) 35180077121536 (fun _=>[(44,.bool ((decide (40<rs.length) || decide (100<ds.length)) || decide (8192<l.length)))]) (fun _ w'=>Ctx w0 [] w' []) rfl ?_ ?_))))))
 ·refine An rfl rfl (AU rfl AR rfl (C0 rfl rfl rfl (Ak rfl rfl (A8 35 rfl ?_ ?_))))
  ·intro h1
   replace h1:=AF h1
   refine Ae rfl (Ae rfl (Ae rfl (Am rfl rfl (.bool _) rfl (Ak rfl rfl (Ae rfl (Ae rfl (Ae rfl (Am rfl rfl (.bool _) rfl (Ab ?_)))))))))
   exact ⟨rfl,(),rfl,⟨congrArg Value.bool (by (rw [Bool.eq_iff_iff]; simp; omega)),trivial⟩,H⟩
  ·intro h2
   replace h2:=AG h2
   refine An rfl rfl (AU rfl DY rfl (C0 rfl rfl rfl (A3 rfl rfl (.bool _) rfl (Ak rfl rfl (A8 40 rfl ?_ ?_)))))
   ·intro h3
    replace h3:=AF h3
    refine Ae rfl (Ae rfl (Ae rfl (Am rfl rfl (.bool _) rfl (Ab ?_))))
    exact ⟨rfl,(),rfl,⟨congrArg Value.bool (by (rw [Bool.eq_iff_iff]; simp; omega)),trivial⟩,H⟩
   ·intro h4
    replace h4:=AG h4
    refine An rfl rfl (AU rfl C9 rfl (C0 rfl rfl rfl (A3 rfl rfl (.bool _) rfl (Ab ?_))))
    exact ⟨rfl,(),rfl,⟨congrArg Value.bool (by (rw [Bool.eq_iff_iff]; simp; omega)),trivial⟩,H⟩
 rintro - j44 w H
 refine Ax _ rfl ?_ ?_
 ·intro h1
  refine Ag (Ao rfl T3 (Ic _) rfl ?_)
  rintro v w ⟨rfl,hx45⟩
  replace H:=H.call hx45
  refine Ai rfl rfl (Ab (Aa (A9 (Al (AB (v:=(.bool _)) rfl rfl rfl ?_)))))
  exact ⟨rfl,H.ext⟩
 ·intro h1
  have hsz:rs.length≤40∧ds.length≤100∧l.length≤8192:=by
   simp only [Bool.or_eq_false_iff,decide_eq_false_iff_not] at h1
   omega
  have hoff:∀ {z:World},Ext [] w0 z→l≠[]→(adr p).block<z.heap.size:=fun h hl=>Nat.lt_of_lt_of_le (Rp.lt' (fun _ _=>rfl) (by decide) hl) h.size
  refine Av (Aa (Ag (An rfl rfl (Ao rfl NI (Jj p f l _ (Rp.ext0 H.ext) hc (by omega) (hoff H.ext)) rfl ?_))))
  rintro v w ⟨hg1,hg2⟩
  have hG:=IJ hg1 hg2
  obtain ⟨q13,rfl,R13,hq13⟩:=Yz hG
  replace H:=H.call hG.ext
  have hx0:=H.ext
  obtain ⟨w1,rfl⟩:∃ z,z=w:=⟨_,rfl⟩
  replace H:=Ctx.start w1 []
  refine BG rfl rfl (A7 (v := .agg (AH (Jm l) q13).toArray) rfl rfl rfl (A7 (v := .int .i64 (JJ l)) rfl rfl rfl (Bm rfl FI H ?_)))
  rintro b13 w - H
  refine BD rfl C2 rfl rfl rfl (by exact (by simp [Bz]; done)) H at0 rfl ?_
  rintro w H
  refine Af rfl rfl (Ab (Aa (Aq (Ag (Ad rfl rfl (BX rfl rfl rfl (Ab (Aa (Em 147564945390421774336 (α:=Unit) (fun _=>[]) (fun _ w'=>Ctx w1 [] w' []) rfl ?_ ?_)))))))))
  ·skip
   refine Ax _ rfl ?_ ?_
   ·intro h2
    replace h2:=AF h2
    have hgB:FZ l=true:=by
     cases hb:FZ l with
     | true=>rfl
     | false=>unfold JJ at h2; rw [hb] at h2; simp at h2
    obtain ⟨-,hRl,hbl⟩:=LI hgB
    have hgr:Jm l=HZ l:=by unfold Jm; rw [if_pos hgB]
    rw [hgr] at R13 hq13
    have hU13:=ZM l
    have hB13:=Aeb (Jv hRl)
    have hps:Te (HZ l)=l:=by unfold Te; rw [if_pos hRl,hbl]
    have hpc:Y0 (HZ l)=0:=by unfold Y0; rw [if_pos hRl]
    refine Ag (Cr _ rfl CQ C2 rfl rfl ((CF (l:=AH (HZ l) q13) (by rw [← hgr]; exact H.get at0) 0 (AH (HZ l) q13) rfl)) ?_)
    refine Ao rfl T4 (LF (HZ l) q13 _ (R13.ext0 H.ext) (hq13 hgB) hB13 hU13) rfl ?_
    rintro v w ⟨hT9,hF9⟩
    obtain ⟨aA,cA,rfl,RX,hx55,-⟩:=Uq hT9 hF9
    rw [hps] at RX ⊢
    rw [hpc]
    replace H:=H.call hx55
    refine BG rfl rfl (A7 (v := .slice aA l.length cA) rfl rfl rfl (A7 (v := .int .i64 0) rfl rfl rfl (AJ rfl rfl (Af rfl rfl (Ab (Aa (Ag (B5 (α:=Unit) 147285722213524701184 (fun _=>[(66,.bool (false))]) (fun _ w'=>Ctx w1 [] w' [(b13,Bl 33 (AH (Jm l) q13))]) rfl ?_ ?_))))))))
    ·refine Ad rfl rfl (CH rfl rfl rfl (Ak rfl rfl (A8 60 rfl ?_ ?_)))
     ·intro h5
      replace h5:=CO h5
      refine Ae rfl (Ae rfl (Ae rfl (Ae rfl (Ae rfl (Am rfl rfl (.bool _) rfl (Ab ?_))))))
      exact ⟨rfl,(),rfl,⟨congrArg Value.bool (by (simp_all; done)),trivial⟩,H⟩
     ·intro h6
      replace h6:=CP h6
      refine An rfl rfl (Lv (l:=l) rfl C9 Iz WE rfl RX ?_)
      refine An rfl rfl (Lv (l:=l) rfl C9 Iz WE rfl (Rp.ext0 (hx0.trans H.ext)) ?_)
      refine VS (l:=l) (m:=l) rfl rfl rfl ?_
      refine A3 rfl rfl (.bool _) rfl (Ab ?_)
      exact ⟨rfl,(),rfl,⟨congrArg Value.bool (by (simp; done)),trivial⟩,H⟩
    rintro - j66 w H
    refine Fg rfl (Av (Aa ?_))
    exact ⟨(),rfl,trivial,Ctx.tail H⟩
   ·intro h2
    replace h2:=AG h2
    refine Av (Aa ?_)
    exact ⟨(),rfl,trivial,Ctx.tail H⟩
  ·rintro - j8 w H
   cases hbb:CV rs ds
   ·skip
    refine Ag (An rfl rfl (An rfl rfl (Ak rfl rfl (Ao rfl W8 (Ib a b _ c _ e rs ds net _ (R.ext0 (hx0.trans H.ext)) rfl (by omega) (Rd'.ext0 (hx0.trans H.ext)) rfl (by omega)) rfl ?_))))
    rintro v w ⟨hx71,⟨-,rfl⟩ | ⟨hb,-⟩⟩
    rotate_left
    (rw [hbb] at hb; cases hb)
    replace H:=H.call hx71
    refine BG rfl rfl (A7 rfl rfl rfl (A7 rfl rfl rfl (Bm rfl FI H ?_)))
    rintro b17 w - H
    refine BD rfl C2 rfl rfl rfl (by exact (by decide; done)) H at0 rfl ?_
    rintro w H
    refine Ai rfl rfl (Ab (Aa (Aq (Ag (Ak rfl rfl (Bu rfl rfl (Ak rfl rfl (Ae rfl (Ae rfl (Ae rfl ?_))))))))))
    refine Am rfl rfl (.bool _) rfl (Ab (Aa (CM rfl (Ag (Ao rfl T3 (Ic _) rfl ?_)))))
    rintro v w ⟨rfl,hx81⟩
    replace H:=H.call hx81
    refine Ai rfl rfl (Ab (Aa (A9 (Al (AB (v:=(.bool _)) rfl rfl rfl ?_)))))
    exact ⟨rfl,hx0.trans H.ext⟩
   ·skip
    refine Ag (An rfl rfl (An rfl rfl (Ak rfl rfl (Ao rfl W8 (Ib a b _ c _ e rs ds net _ (R.ext0 (hx0.trans H.ext)) rfl (by omega) (Rd'.ext0 (hx0.trans H.ext)) rfl (by omega)) rfl ?_))))
    rintro v w ⟨hx71,⟨hb,-⟩ | ⟨-,r,q,rfl,P,RA,-,hEc⟩⟩
    (rw [hbb] at hb; cases hb)
    replace H:=H.call hx71
    have hB:=Uo P (by omega)
    have hU:=Yu P hds
    have hx1:=hx0.trans H.ext
    obtain ⟨w2,rfl⟩:∃ z,z=w:=⟨_,rfl⟩
    replace H:=Ctx.start w2 []
    refine BG rfl rfl (A7 (v := .agg (AH r q).toArray) rfl rfl rfl (A7 (v := .bool true) rfl rfl rfl (Bm rfl FI H ?_)))
    rintro b17 w - H
    refine BD rfl C2 rfl rfl rfl (by exact (by simp [Bz]; done)) H at0 rfl ?_
    rintro w H
    refine Ai rfl rfl (Ab (Aa (Aq (Ag (B5 (α:=Unit) 2398962173297779768557568 (fun _=>[(80,.bool (!BA r))]) (fun _ w'=>Ctx w2 [] w' [(b17,Bl 33 (AH r q))]) rfl ?_ ?_)))))
    ·refine Ak rfl rfl (Bu rfl rfl (Ak rfl rfl (Cr _ rfl CQ C2 rfl rfl ((CF (l:=AH r q) (H.get at0) 0 (AH r q) rfl)) ?_)))
     refine Ao rfl ca_31 (Vt r q _ (RA.ext0 H.ext) hEc hB) rfl ?_
     rintro v w ⟨rfl,hx78⟩
     replace H:=H.call hx78
     refine Bu rfl rfl (A3 rfl rfl (.bool _) rfl (Ab ?_))
     exact ⟨rfl,(),rfl,⟨congrArg Value.bool (by rfl),trivial⟩,H⟩
    rintro - j80 w H
    refine Ax _ rfl ?_ ?_
    ·intro h2
     replace h2:=Bp h2
     refine Ag (Ao rfl T3 (Ic _) rfl ?_)
     rintro v w ⟨rfl,hx81⟩
     replace H:=H.call hx81
     refine Ai rfl rfl (Ab (Aa (A9 (Al (AB (v:=(.bool _)) rfl rfl rfl ?_)))))
     exact ⟨rfl,hx1.trans H.ext⟩
    ·intro h2
     replace h2:=Bq h2
     have hR:BA r=true:=by simpa using h2
     have W:=Jv hR
     have hbl:=KM W
     have hd64:=W.d64
     have hN17:=W.N17
     have hN1:=W.N1
     have hgr:Jm (Ca r)=r:=by unfold Jm; rw [if_pos (Nf hR hU),Nd W hU]
     have hgc:JJ (Ca r)=0:=by unfold JJ; rw [if_pos (Nf hR hU)]
     have hpS:Te r=Ca r:=if_pos hR
     have hpC:Y0 r=0:=if_pos hR
     have hbl2:35≤(Ca r).length∧(Ca r).length≤50000:=by
      rw [hbl]
      unfold Ga
      cases r.cmp <;> simp <;> omega
     refine Av (Aa (Ag (Cr _ rfl CQ C2 rfl rfl ((CF (l:=AH r q) (H.get at0) 0 (AH r q) rfl)) ?_)))
     refine Ao rfl T4 (LF r q _ (RA.ext0 H.ext) hEc hB hU) rfl ?_
     rintro v w ⟨hT9,hF9⟩
     obtain ⟨aA,cA,rfl,RX,hx84,hcA⟩:=Uq hT9 hF9
     rw [hpS] at RX hcA ⊢
     rw [hpC]
     replace H:=H.call hx84
     have hb17:=H.get at0
     have hx2:=hx1.trans H.ext
     have RA':=RA.ext0 H.ext
     obtain ⟨w3,rfl⟩:∃ z,z=w:=⟨_,rfl⟩
     replace H:=Ctx.start w3 []
     refine BG rfl rfl (A7 (v := .slice aA (Ca r).length cA) rfl rfl rfl (A7 (v := .int .i64 0) rfl rfl rfl (AJ rfl rfl (Af rfl rfl (Ab (Aa (Ag (An rfl rfl (Ao rfl NI (Jj aA cA (Ca r) _ (RX.ext0 H.ext) hcA (by omega) (fun hl=>(RX.ext0 H.ext).lt' (fun _ _=>rfl) (by decide) hl)) rfl ?_)))))))))
     rintro v w ⟨hg1,hg2⟩
     have hG:=IJ hg1 hg2
     obtain ⟨q2,rfl,R2⟩:=LJ hG
     rw [hgr] at R2 ⊢
     rw [hgc]
     replace H:=H.call hG.ext
     have hxa:=H.ext
     obtain ⟨w4,rfl⟩:∃ z,z=w:=⟨_,rfl⟩
     replace H:=Ctx.start w4 []
     refine BG rfl rfl (A7 (v := .agg (AH r q2).toArray) rfl rfl rfl (A7 (v := .int .i64 0) rfl rfl rfl (Bm rfl FI H ?_)))
     rintro b21 w - H
     refine BD rfl C2 rfl rfl rfl (by exact (by simp [Bz]; done)) H at0 rfl ?_
     rintro w H
     refine Af rfl rfl (Ab (Aa (Aq (Ag (B5 (α:=Unit) 649032155556696312045212444655616 (fun _=>[(108,.bool (false))]) (fun _ w'=>Ctx w4 [] w' [(b21,Bl 33 (AH r q2))]) rfl ?_ ?_)))))
     ·refine Ad rfl rfl (CH rfl rfl rfl (Ak rfl rfl (A8 94 rfl ?_ ?_)))
      ·intro h7
       replace h7:=CO h7
       refine Ae rfl (Ae rfl (Am rfl rfl (.bool _) rfl (Ak rfl rfl (Ae rfl (Ae rfl (Ae rfl (Ae rfl (Am rfl rfl (.bool _) rfl (Ak rfl rfl ?_)))))))))
       refine Ae rfl (Ae rfl (Ae rfl (Am rfl rfl (.bool _) rfl (Ab ?_))))
       exact ⟨rfl,(),rfl,⟨congrArg Value.bool (by (simp; omega)),trivial⟩,H⟩
      ·intro h8
       replace h8:=CP h8
       refine Ad rfl rfl (CH rfl rfl rfl (A3 rfl rfl (.bool _) rfl (Ak rfl rfl (A8 98 rfl ?_ ?_))))
       ·intro h9
        replace h9:=CO h9
        refine Ae rfl (Ae rfl (Ae rfl (Ae rfl (Am rfl rfl (.bool _) rfl (Ak rfl rfl (Ae rfl (Ae rfl (Ae rfl (Am rfl rfl (.bool _) rfl ?_)))))))))
        refine Ab ?_
        exact ⟨rfl,(),rfl,⟨congrArg Value.bool (by (simp; omega)),trivial⟩,H⟩
       ·intro h10
        replace h10:=CP h10
        refine Cr _ rfl CQ C2 rfl rfl ((CF (l:=AH r q2) (H.get at0) 0 (AH r q2) rfl)) ?_
        refine Cr _ rfl CQ C2 rfl rfl ((CF (l:=AH r q) ((hxa.trans H.ext).to hb17 (by simp)) 0 (AH r q) rfl)) ?_
        refine Ao rfl ca_32 (VC r q2 q _ (R2.ext0 H.ext) (RA'.ext0 (hxa.trans H.ext)) hB) rfl ?_
        rintro v w ⟨rfl,hx101⟩
        replace H:=H.call hx101
        refine Bu rfl rfl (A3 rfl rfl (.bool _) rfl (Ak rfl rfl (A8 104 rfl ?_ ?_)))
        ·intro h11
         replace h11:=Bp h11
         refine Ae rfl (Ae rfl (Ae rfl (Am rfl rfl (.bool _) rfl (Ab ?_))))
         exact ⟨rfl,(),rfl,⟨congrArg Value.bool (by (simp_all; done)),trivial⟩,H⟩
        ·intro h12
         replace h12:=Bq h12
         refine An rfl rfl (AU rfl C9 rfl (AN rfl rfl rfl (A3 rfl rfl (.bool _) rfl (Ab ?_))))
         exact ⟨rfl,(),rfl,⟨congrArg Value.bool (by rfl),trivial⟩,H⟩
     rintro - j108 w H
     refine Fg rfl (Av (Aa ?_))
     have hx3:=hx2.trans (hxa.trans H.ext)
     replace RX:=RX.ext0 (hxa.trans H.ext)
     obtain ⟨w5,rfl⟩:∃ z,z=w:=⟨_,rfl⟩
     clear H
     have H:=Ctx.start w5 []
     obtain ⟨bs,hbs⟩:∃ bs,bs=Ca r:=⟨_,rfl⟩
     rw [← hbs] at RX hcA hbl2 ⊢
     obtain ⟨k,hk⟩:∃ k:Nat,(k:Int)=at' % ((bs.length:Int) - 3):=⟨(at' % ((bs.length:Int) - 3)).toNat,by have:=Int.emod_nonneg at' (show (bs.length:Int) - 3≠0 by omega); omega⟩
     have hkl:k+3<bs.length:=by have:=Int.emod_lt_of_pos at' (show (0:Int)<(bs.length:Int) - 3 by omega); omega
     obtain ⟨tn,rfl⟩:∃ tn:Nat,turn=tn:=⟨turn.toNat,by omega⟩
     refine Ag (Ad rfl rfl (Eh rfl rfl un_70 Gu (by omega) (by omega) ?_))
     refine An rfl rfl (AU rfl C9 rfl (Bf rfl rfl rfl (by omega) (by omega) ?_))
     refine RG rfl rfl rfl (by omega) (by omega) ?_
     rw [← hk]
     refine Af rfl rfl (Ab (Aa (Y1 [(23,.int .i64 (k:Int)),(19,.slice aA bs.length cA),(5,.int .u32 (tn:Int))] rfl ⟨rfl,rfl,rfl,trivial⟩ ?_)))
     intro f15
     refine Ag (Ha rfl C9 F1 H ?_)
     rintro b115 w H O
     refine An rfl rfl (DT rfl C9 C9 F1 Qo Kb rfl (by decide) (bs.map bv) rfl rfl H O (by simp) (one3 bs) (Rd.app1 (f:=bv) (RX.ext0 H.ext)) (by omega) ?_)
     rintro a24 c24 full24 w H O
     rw [Nat.zero_add bs.length] at O ⊢
     refine AJ rfl rfl (Ab (Aa (Aq ?_)))
     obtain ⟨b24,rfl⟩:∃ b24,a24=some ⟨b24,0,none⟩:=by
      cases ha:a24 with
      | none=>have:=O.none' ha; have:=O.le; omega
      | some p9=>exact ⟨p9.block,congrArg some (O.zero p9 ha)⟩
     replace H:Ctx w5 [] w [(b24,Bl 5 full24)]:=H
     replace O:OS (some ⟨b24,0,none⟩) bs.length c24 1 full24 ((FV bs k tn 0).map bv):=by show OS _ _ _ _ _ (bs.map bv); exact O
     refine Ag (Af rfl rfl (Ab (Aa (Au (Bi 1393796242601165000117014166088757557592064 (α:=BkS) (fun t=>[(25,.int .i64 (t.i:Int))]) (fun t w'=>t.i≤4∧Ctx w5 [] w' [(b24,Bl 5 t.full)]∧OS (some ⟨b24,0,none⟩) bs.length c24 1 t.full ((FV bs k tn t.i).map bv)) (fun t=>4 - t.i) ⟨0,full24⟩ rfl ?_ ?_ ?_)))))
     ·exact ⟨rfl,trivial⟩
     ·exact ⟨Nat.zero_le _,H,O⟩
     ·clear H O
      rintro ⟨i,full⟩ j w ⟨hi,H,O⟩; dsimp only at hi H O; dsimp only
      have htl:=KL bs k tn i
      have hlf:full.length=c24:=by have:=O.len; omega
      have hle:=O.le
      refine Aq (Ag (Ad rfl rfl (AN rfl rfl rfl (Ab (Aa (Ax _ rfl ?_ ?_))))))
      ·intro h3
       replace h3:=AF h3
       have hi4:i<4:=by omega
       obtain ⟨y,hy⟩:=AC (l:=FV bs k tn i) (i:=k+i) (by omega)
       have hfy:full[k+i]? = some (bv y):=by
        have h5:(full.take (bs.length*1))[k+i]? = full[k+i]? := by rw [List.getElem?_take,if_pos (by omega)]
        rw [← h5,O.pre,List.getElem?_map,hy]
        rfl
       have hnx:FV bs k tn (i+1)=(FV bs k tn i).set (k+i) (y ^^^ UInt8.ofNat (tn / 2 ^ (8*i))):=by
        rw [FV,Tf hy]
       have hyl:=y.toNat_lt
       have hml:=(UInt8.ofNat (tn / 2 ^ (8*i))).toNat_lt
       refine Av (Aa (Aq (Au (Aw (An rfl rfl (Ad rfl rfl (Ad rfl rfl (Ap rfl rfl rfl (by omega) (by omega) ?_))))))))
       refine An rfl rfl (Ad rfl rfl (Ad rfl rfl (Ap rfl rfl rfl (by omega) (by omega) ?_)))
       refine Bb rfl C9 F1 rfl rfl (by omega) (by omega) ?_
       rw [show ((k:Int)+(i:Int)).toNat=k+i from by omega]
       refine AX rfl ag_5 rfl (((Ay (H.get at0) (0+(k+i)*1)).trans (by rw [Nat.zero_add,Nat.mul_one]; exact hfy))) ?_
       refine Ad rfl rfl (Ad rfl rfl (Cf rfl rfl rfl (by omega) (by omega) ?_))
       rw [show (8:Int)*(i:Int)=((8*i:Nat):Int) by omega]
       refine D3 rfl rfl Gu Qu (by omega) (by omega) ?_
       refine J7 (a:=tn) (n:=8*i) rfl rfl rfl (by omega) ?_
       refine Iq rfl rfl T7 Iz ?_
       rw [Jg]
       refine Uz (a:=y.toNat) (b:=(UInt8.ofNat (tn / 2 ^ (8*i))).toNat) rfl rfl rfl (by omega) (by omega) ?_
       rw [Aec]
       refine Bb rfl C9 F1 rfl rfl (by omega) (by omega) ?_
       rw [show ((k:Int)+(i:Int)).toNat=k+i from by omega]
       refine Cj (bv (y ^^^ UInt8.ofNat (tn / 2 ^ (8*i)))) rfl F1 rfl rfl rfl H at0 (show 0+(k+i)*1<full.length by omega) ?_
       rintro w H
       refine Ab (A5 (Aa (Aw (Ad rfl rfl (Ap rfl rfl rfl (by omega) (by omega) ?_)))))
       refine Af rfl rfl (Ab (Aa ?_))
       replace H:Ctx w5 [] w [(b24,Bl 5 (full.set (k+i) (bv (y ^^^ UInt8.ofNat (tn / 2 ^ (8*i))))))]:=by rw [show (0+(k+i)*1)=k+i by omega] at H; exact H
       refine ⟨⟨i+1,_⟩,rfl,⟨rfl,trivial⟩,⟨by dsimp only; omega,H,?_⟩,by dsimp only; omega⟩
       dsimp only
       refine ⟨O.zero,O.none',by rw [List.length_set]; exact O.len,O.le,?_⟩
       rw [List.take_set,O.pre,hnx,List.map_set]
      ·intro h3
       replace h3:=AG h3
       obtain rfl:i=4:=by omega
       refine Bd (Aj (Aj (AD (Aa (Y1 [(23,.int .i64 (k:Int)),(19,.slice aA bs.length cA),(5,.int .u32 (tn:Int)),(24,.slice (some ⟨b24,0,none⟩) bs.length c24)] rfl ⟨rfl,rfl,rfl,rfl,trivial⟩ ?_)))))
       intro f21
       obtain ⟨bad,hbad⟩:∃ bad,bad=FV bs k tn 4:=⟨_,rfl⟩
       rw [← hbad] at O htl
       have RB:Rd w (some ⟨b24,0,none⟩) 1 B8 bad:=OS.rd (enc:=B8) (xs:=bad) (by rw [Aed]; exact O) (fun x hx=>by have h9:x=(b24,Bl 5 full):=(by simpa [ent] using hx); rw [h9]; exact H.get at0) (fun _ _=>rfl) (by decide)
       have hx4:=H.ext
       obtain ⟨w6,rfl⟩:∃ z,z=w:=⟨_,rfl⟩
       clear H
       have H:=Ctx.start w6 []
       have hgbad:JJ bad=if tn=0 then 0 else 5:=by
        rw [hbad,hbs]
        by_cases h0:tn=0
        ·rw [if_pos h0,h0,MZ,hgc]
        ·rw [if_neg h0]
         unfold JJ
         rw [if_neg (by rw [MX (PA (Li r) (k:=k) (by rw [← hbs]; omega) (by omega) h0)]; decide)]
       obtain ⟨gb,hgb⟩:∃ gb,gb=JJ bad:=⟨_,rfl⟩
       have hgb0:tn=0→gb=0:=fun h=>by rw [hgb,hgbad,if_pos h]
       have hgb5:tn≠0→gb=5:=fun h=>by rw [hgb,hgbad,if_neg h]
       have hgcut:JJ (bs.take k)=5:=by
        unfold JJ
        rw [hbs,if_neg (by rw [Yo W (by rw [← hbs]; omega)]; decide)]
       have hgmore:JJ (bs++[0])=5:=by
        unfold JJ
        rw [hbs,if_neg (by rw [VA W]; decide)]
       have hbl3:bad.length=bs.length:=htl
       rw [show Value.slice (some ⟨b24,0,none⟩) bs.length c24 = .slice (some ⟨b24,0,none⟩) bad.length c24 by rw [hbl3]]
       refine Ag (An rfl rfl (Ao rfl NI (Jj (some ⟨b24,0,none⟩) c24 bad _ (RB.ext0 H.ext) (by omega) (by omega) (fun hl=>(RB.ext0 H.ext).lt' (fun _ _=>rfl) (by decide) hl)) rfl ?_))
       rintro v w ⟨hg1,hg2⟩
       have hG:=IJ hg1 hg2
       obtain ⟨q26,rfl,-⟩:=LJ hG
       rw [← hgb]
       replace H:=H.call hG.ext
       refine BG rfl rfl (A7 (v := .agg (AH (Jm bad) q26).toArray) rfl rfl rfl (A7 (v := .int .i64 gb) rfl rfl rfl (Bm rfl FI H ?_)))
       rintro b26 w - H
       refine BD rfl C2 rfl rfl rfl (by exact (by simp [Bz]; done)) H at0 rfl ?_
       rintro w H
       refine Af rfl rfl (Ab (Aa ?_))
       have RX6:∀ {z:World},Ext [] w6 z→Rd z aA 1 B8 bs:=fun h=>RX.ext0 (hx4.trans h)
       refine Ag (An rfl rfl (Ad rfl rfl (EV rfl C9 F1 rfl rfl (by omega) (by omega) ?_)))
       rw [show Value.slice aA (k:Int).toNat cA = .slice aA (bs.take k).length cA by rw [List.length_take,Nat.min_eq_left (by omega)]; rfl]
       refine Ao rfl NI (Jj aA cA (bs.take k) _ ((RX6 H.ext).take k) (by rw [List.length_take]; omega) (by rw [List.length_take]; omega) (fun hl=>((RX6 H.ext).take k).lt' (fun _ _=>rfl) (by decide) hl)) rfl ?_
       rintro v w ⟨hg1,hg2⟩
       have hG:=IJ hg1 hg2
       obtain ⟨q28,rfl,-⟩:=LJ hG
       rw [hgcut]
       replace H:=H.call hG.ext
       refine BG rfl rfl (A7 (v := .agg (AH (Jm (bs.take k)) q28).toArray) rfl rfl rfl (A7 (v := .int .i64 5) rfl rfl rfl (Bm rfl FI H ?_)))
       rintro b28 w - H
       refine BD rfl C2 rfl rfl rfl (by exact (by simp [Bz]; done)) H at0 rfl ?_
       rintro w H
       refine Af rfl rfl (Ab (Aa ?_))
       have hx5:=H.ext
       obtain ⟨w7,rfl⟩:∃ z,z=w:=⟨_,rfl⟩
       clear H
       have H:=Ctx.start w7 []
       refine Ag (Ha rfl C9 F1 H ?_)
       rintro b153 w H O
       refine An rfl rfl (DT rfl C9 C9 F1 Qo Kb rfl (by decide) (bs.map bv) rfl rfl H O (by simp) (one3 bs) (Rd.app1 (f:=bv) (RX6 (hx5.trans H.ext))) (by omega) ?_)
       rintro a55 c55 full55 w H O
       refine Dm [bv 0] rfl C9 F1 Kb (by decide) (by decide) (by kernel_rfl) H ?_
       rintro b156 w - H
       refine DT rfl C9 C9 F1 Qo Kb rfl (by decide) [bv 0] rfl rfl (show Ctx w7 [] _ ([(b156,Bl 5 [bv 0])]++ent a55 5 full55) from H) O rfl (by simp [Bz,bv]) (fun j v hv=>⟨_,rfl,by rw [Cx,Nat.zero_add,Ay (H.get at0)]; exact hv⟩) (by omega) ?_
       rintro a57 c57 full57 w H O
       rw [show 0+bs.length+1=(bs++[0]).length by simp] at O ⊢
       have hle57:=O.le
       replace O:OS a57 (bs++[0]).length c57 1 full57 ((bs++[0]).map bv):=(by simpa using O)
       obtain ⟨a58,c58,e58,R58,-⟩:=Fresh.rdB (H.fresh O)
       cases e58
       refine Ao rfl NI (Jj a57 c57 (bs++[0]) _ R58 hle57 (by rw [List.length_append,List.length_singleton]; omega) (fun hl=>R58.lt' (fun _ _=>rfl) (by decide) hl)) rfl ?_
       rintro v w ⟨hg1,hg2⟩
       have hG:=IJ hg1 hg2
       obtain ⟨q30,rfl,-⟩:=LJ hG
       rw [hgmore]
       replace H:=H.call hG.ext
       refine BG rfl rfl (A7 (v := .agg (AH (Jm (bs++[0])) q30).toArray) rfl rfl rfl (A7 (v := .int .i64 5) rfl rfl rfl (Bm rfl FI H ?_)))
       rintro b30 w - H
       refine BD rfl C2 rfl rfl rfl (by exact (by simp [Bz]; done)) H at0 rfl ?_
       rintro w H
       refine Af rfl rfl (Ab (Aa (Y1 [(27,.int .i64 gb),(29,.int .i64 5),(31,.int .i64 5),(5,.int .u32 (tn:Int))] rfl ⟨rfl,rfl,rfl,rfl,trivial⟩ ?_)))
       intro f24
       have hx6:=H.ext
       obtain ⟨w8,rfl⟩:∃ z,z=w:=⟨_,rfl⟩
       clear H
       have H:=Ctx.start w8 []
       have hq165:(decide (gb=0) == decide ((tn:Int)=0))=true:=by
        by_cases h0:tn=0
        ·rw [hgb0 h0,h0]; rfl
        ·rw [hgb5 h0,decide_eq_false (show ¬ (tn:Int)=0 by omega)]; rfl
       refine Ag (B5 (α:=Unit) 191559019604961445488956971024123215386303078407868416 (fun _=>[(12,.bool (true))]) (fun _ w'=>Ctx w8 [] w' []) rfl ?_ ?_)
       ·refine Ad rfl rfl (BX rfl rfl rfl (Ad rfl rfl (BX rfl rfl rfl (YB un_4 rfl rfl rfl ?_))))
        rw [hq165]
        refine Ak rfl rfl (A8 166 rfl ?_ ?_)
        ·intro h13
         refine Ad rfl rfl (BX rfl rfl rfl (Am rfl rfl (.bool _) rfl (Ak rfl rfl (A8 170 rfl ?_ ?_))))
         ·intro h14
          replace h14:=AF h14
          refine Ad rfl rfl (BX rfl rfl rfl (Am rfl rfl (.bool _) rfl (Ak rfl rfl (A8 174 rfl ?_ ?_))))
          ·intro h15
           replace h15:=AF h15
           refine Ao rfl T3 (Ic _) rfl ?_
           rintro v w ⟨rfl,hx175⟩
           replace H:=H.call hx175
           refine Am rfl rfl (.bool _) rfl (Ai rfl rfl (Ab ?_))
           exact ⟨rfl,(),rfl,⟨congrArg Value.bool (by rfl),trivial⟩,H⟩
          ·intro h16
           replace h16:=AG h16
           refine Ae rfl (A3 rfl rfl (.bool _) rfl (Ai rfl rfl (Ab ?_)))
           exact ⟨rfl,(),rfl,⟨congrArg Value.bool (by contradiction),trivial⟩,H⟩
         ·intro h17
          replace h17:=AG h17
          refine Ae rfl (Ae rfl (A3 rfl rfl (.bool _) rfl (Ak rfl rfl (Ae rfl (A3 rfl rfl (.bool _) rfl (Ai rfl rfl (Ab ?_)))))))
          exact ⟨rfl,(),rfl,⟨congrArg Value.bool (by contradiction),trivial⟩,H⟩
        ·intro h18
         refine Ae rfl (Ae rfl (A3 rfl rfl (.bool _) rfl (Ak rfl rfl (Ae rfl (Ae rfl (A3 rfl rfl (.bool _) rfl (Ak rfl rfl (Ae rfl (A3 rfl rfl (.bool _) rfl ?_)))))))))
         refine Ai rfl rfl (Ab ?_)
         exact ⟨rfl,(),rfl,⟨congrArg Value.bool (by contradiction),trivial⟩,H⟩
       rintro - j12 w H
       refine A9 (AB (v:=(.bool _)) rfl rfl rfl ?_)
       exact ⟨rfl,hx3.trans (hx4.trans (hx5.trans (hx6.trans H.ext)))⟩
end Go.Proofs.YtapphbmlkdhnmaaGreat

/- WitnessBack: for every input the law answers true, and turns nothing. -/
namespace Go.Proofs.YtapphbmlkdhnmaaGreat
open Go.GV Go.ChangeShapes Go.WideShapes Go.RowKit

set_option maxRecDepth 100000 in
theorem JK (os:Os) (started:os.Started) (H:Type) (enc:TypeId × Value→H) :
  ReturnsInHanded {} Tryz.checked os 6 .any (Rows.witnessBackSpec.pre6 enc Tryz.prog Tryz.f6 Rows.witnessBackRow.domain false) (Rows.witnessBackSpec.post enc Tryz.prog Tryz.f6 false true false false):=by
 refine returnsInHanded_of_change (C:=Tryz.checked) own started (by kernel_rfl) Tryz.func6
  (ChangeSpec.witness6 (enc:=enc) (C:=Tryz.checked) false ⟨#[],#[.slice none 0 0,.slice none 0 0,.bool false,.slice none 0 0,.int .u16 0,.int .u32 0],[]⟩ 8 (by kernel_rfl) (by kernel_rfl) (by kernel_rfl) (by kernel_rfl)) ?_
 intro W base args ds gs before hval0 hW hcnd _
 have hval:∀ (j:Nat) t v,Tryz.f6.params[j]? = some t→args[j]? = some v→Value.okWide Tryz.prog W .any base t v:=hval0
 have hW':=hW
 obtain ⟨p,q,hA0,hV,rfl,hfz,hnd⟩:=hW
 have hA:DataW.TrodAll enc Tryz.prog W 0 (fun _=>true) true Tryz.f6.params.toList args.toList ds p:=hA0
 rw [Tryz.params6] at hA hval
 obtain ⟨v0,vs0,d0,ds0,p0,q0,hargs,rfl,rfl,h0,r0⟩:=trodAll_cons hA
 obtain ⟨v1,vs1,d1,ds1,p1,q1,rfl,rfl,rfl,h1,r1⟩:=trodAll_cons r0
 obtain ⟨v2,vs2,d2,ds2,p2,q2,rfl,rfl,rfl,h2,r2⟩:=trodAll_cons r1
 obtain ⟨v3,vs3,d3,ds3,p3,q3,rfl,rfl,rfl,h3,r3⟩:=trodAll_cons r2
 obtain ⟨v4,vs4,d4,ds4,p4,q4,rfl,rfl,rfl,h4,r4⟩:=trodAll_cons r3
 obtain ⟨v5,vs5,d5,ds5,p5,q5,rfl,rfl,rfl,h5,r5⟩:=trodAll_cons r4
 obtain ⟨rfl,rfl,rfl⟩:=trodAll_nil r5
 obtain rfl:args=#[v0,v1,v2,v3,v4,v5]:=by cases args; simp_all
 obtain ⟨a0,c0,l0,rfl,R0,H0⟩:=ZL (hval 0 _ v0 rfl rfl) h0
 obtain ⟨a1,c1,l1,rfl,R1,H1⟩:=du_of (hval 1 _ v1 rfl rfl) h1
 obtain ⟨k2,rfl,rfl,rfl⟩:=open_bool Tryz.underlying4 (hval 2 _ v2 rfl rfl) h2
 obtain ⟨a3,c3,l3,rfl,R3,H3⟩:=Yy (hval 3 _ v3 rfl rfl) h3
 obtain ⟨k4,rfl,rfl,rfl,hg4⟩:=open_int Tryz.underlying70 (hval 4 _ v4 rfl rfl) h4
 have hb4:0≤k4∧k4≤65535:=IV hg4
 obtain ⟨k5,rfl,rfl,rfl,hg5⟩:=open_int Tryz.underlying71 (hval 5 _ v5 rfl rfl) h5
 have hb5:0≤k5∧k5≤4294967295:=IV hg5
 refine (Th a0 a1 a3 _ c0 _ c1 c3 l0 l1 k2 l3 k4 k5 W R0 rfl R1 rfl (fun d hd=>(H1 d hd).1) R3 H3 ⟨hb4.1,by omega⟩ ⟨hb5.1,by omega⟩).calls.mono ?_
 rintro e W' ⟨v,rfl,rfl,hx⟩
 exact ⟨_,rfl,Wf ZK rfl (by kernel_rfl) rfl Tryz.underlying4 (fun ds h=>match ds,h with | [_,_,_,_,_,_],_=>rfl) hW' hx⟩

theorem witnessBack_holds:Rows.WitnessBackSaid :=
 OpenClaim.holds_of_wide 6 Tryz.f6 rfl rfl rfl rfl rfl rfl rfl ⟨rfl,rfl,rfl,rfl,rfl⟩ rfl rfl rfl rfl rfl (by kernel_rfl) Tryz.func6 (by kernel_rfl)
  (of_decide_eq_true (by kernel_rfl)) (by unfold Func.isWrapper; rw [if_neg (of_decide_eq_false (by kernel_rfl))]; exact ⟨rfl,rfl⟩)
  (fun os started H enc _=>JK os started H enc)
#print axioms witnessBack_holds
end Go.Proofs.YtapphbmlkdhnmaaGreat
