/- Part 14 of the proof. The last text: SettleTurned: for every input the law answers true, and turns nothing. -/
import Derived.Test.YtapphbmlkdhnmaaGreatPart2
import Derived.Test.YtapphbmlkdhnmaaGreatPart13
import Derived.Test.YtapphbmlkdhnmaaGreatPart3
/- SettleKeeps: what a round keeps. -/
namespace Go.Proofs.YtapphbmlkdhnmaaGreat
open Go.GV
attribute [local irreducible] AL W Wq Wt

/-- The place so far. -/
def Ny (acs:List Ac) (ds:List Du) (k i:Nat):Int:=(acs.getD k a00).ba+CO ((ds.take i).map fun d=>plc k d*d.am)
theorem OU {acs:List Ac} {ds:List Du} {k i:Nat} {d:Du} (h:ds[i]? = some d):Ny acs ds k (i+1)=Ny acs ds k i - (if d.fr=(k:Int) then d.am else 0)+(if d.to=(k:Int) then d.am else 0):=by
 unfold Ny
 rw [Fk h,Gm]
 have h1:CO [plc k d*d.am]=plc k d*d.am:=by rw [CF]; show _+0=_; omega
 rw [h1]
 unfold plc
 by_cases g1:d.to=(k:Int)
 ·rw [ET g1,if_pos g1]
  by_cases g2:d.fr=(k:Int)
  ·rw [ET g2,if_pos g2]; omega
  ·rw [EB g2,if_neg g2]; omega
 ·rw [EB g1,if_neg g1]
  by_cases g2:d.fr=(k:Int)
  ·rw [ET g2,if_pos g2]; omega
  ·rw [EB g2,if_neg g2]; omega
theorem Rt {acs:List Ac} {ds:List Du} {k:Nat} (hb:0≤(acs.getD k a00).ba∧(acs.getD k a00).ba≤4503599627370496) (ham:∀ d∈ds,0≤d.am∧d.am≤4503599627370496):∀ i,i≤ds.length → -(4503599627370496*((i:Int)+1))≤Ny acs ds k i∧Ny acs ds k i≤4503599627370496*((i:Int)+1)
 | 0,_=>by
  have h:Ny acs ds k 0=(acs.getD k a00).ba+0:=rfl
  rw [h]; omega
 | i+1,h=>by
  have ih:=Rt hb ham i (by omega)
  obtain ⟨d,hd⟩:=A0 (l:=ds) (i:=i) (by omega)
  have h1:=ham d (List.mem_of_getElem? hd)
  rw [OU hd]
  split <;> split <;> omega
theorem Nz (a b:Option Addr) (c e:Nat) (acs:List Ac) (ds:List Du) (k:Nat) (w:World) (R:Rd w a 2 CB acs) (R':Rd w b 7 Cf ds) (hk:k<acs.length) (hm:ds.length≤100) (hb:0≤(acs.getD k a00).ba∧(acs.getD k a00).ba≤4503599627370496) (ham:∀ d∈ds,0≤d.am∧d.am≤4503599627370496) :
  Ret Tryz.prog 23 #[.slice a acs.length c,.slice b ds.length e,.int .i64 (k:Int)] w fun v w'=>v = .int .i64 (Ki acs ds k)∧Ext [] w w':=by
 obtain ⟨w0,rfl⟩:∃ w0,w0=w:=⟨_,rfl⟩
 have H:=Ctx.start w0 []
 obtain ⟨ak,hak⟩:=A0 hk
 rw [Bn hak] at hb
 have h0:Ny acs ds k 0=ak.ba:=by
  have:Ny acs ds k 0=(acs.getD k a00).ba+0:=rfl
  rw [this,Bn hak,Int.add_zero]
 refine A9 (fn:=Tryz.f23) Tryz.func23 rfl [.slice a acs.length c,.slice b ds.length e,.int .i64 (k:Int)] rfl (by kernel_rfl) ?_
 refine Af (Ae rfl rfl (Ab (Aa (Af (Aj rfl rfl (Ad rfl rfl (AK R rfl CL Dc rfl rfl (by omega) (by omega) (by rfl) ?_)))))))
 refine Ah rfl EJ rfl (Bb rfl Bt rfl ((R.fld hak rfl (j:=0) rfl)) ?_)
 refine Ae rfl rfl (Ab (Aa (An (Af (Ae rfl rfl (Ab (Aa (Au (Bf 281474976694656 (α:=Nat) (fun i=>[(7,.int .i64 (Ny acs ds k i)),(8,.int .i64 (i:Int))]) (fun i w'=>i≤ds.length∧Ctx w0 [] w' []) (fun i=>ds.length - i) 0 rfl ?_ ?_ ?_)))))))))
 ·exact ⟨by rw [h0]; rfl,rfl,trivial⟩
 ·exact ⟨Nat.zero_le _,H⟩
 ·clear H
  rintro i j w ⟨hi,H⟩
  refine An (Af (Ad rfl rfl (Aj rfl rfl (AV rfl B4 rfl (AZ rfl rfl rfl (Ab (Aa (Aq _ rfl ?_ ?_))))))))
  ·intro h1
   replace h1:=AF h1
   obtain ⟨d,hd⟩:=A0 (l:=ds) (i:=i) (by omega)
   have hbi:=Rt (acs:=acs) (ds:=ds) (k:=k) (by rw [Bn hak]; exact hb) ham i hi
   have hda:=ham d (List.mem_of_getElem? hd)
   have hst:=OU (acs:=acs) (k:=k) hd
   obtain ⟨s,hs⟩:∃ s,s=Ny acs ds k i:=⟨_,rfl⟩
   rw [← hs] at hbi hst ⊢
   obtain ⟨t,ht⟩:∃ t,t=s - (if d.fr=(k:Int) then d.am else 0):=⟨_,rfl⟩
   rw [← ht] at hst
   have htb : -(4503599627370496*((i:Int)+2))≤t∧t≤4503599627370496*((i:Int)+2):=by
    rw [ht]; split <;> omega
   have RD1:=R'.ext0 H.ext
   refine Ao (Aa (An (Au (An (Af (Aj rfl rfl (Ad rfl rfl (AK R' rfl B4 B2 rfl rfl (by omega) (by omega) (by rfl) ?_))))))))
   refine Ah rfl E1 rfl (Bb rfl BV rfl ((RD1.fld hd rfl (j:=1) rfl)) ?_)
   refine Ad rfl rfl (Cu rfl rfl rfl (Ab (Aa (EI 17045651584 (α:=Unit) (fun _=>[(7,.int .i64 t)]) (fun _ w'=>w'=w) rfl ?_ ?_))))
   ·skip
    refine Aq _ rfl ?_ ?_
    ·intro h2
     replace h2:=AF h2
     refine Av (Ad rfl rfl (Aj rfl rfl (Ad rfl rfl (AK R' rfl B4 B2 rfl rfl (by omega) (by omega) (by rfl) ?_))))
     refine Ah rfl Dp rfl (Bb rfl Bt rfl ((RD1.fld hd rfl (j:=3) rfl)) ?_)
     refine Be rfl rfl rfl (by omega) (by omega) ?_
     refine Ae rfl rfl (Ab (Aa ?_))
     exact ⟨(),rfl,⟨congrArg (Value.int .i64) (by rw [ht,if_pos h2]),trivial⟩,rfl⟩
    ·intro h2
     replace h2:=AG h2
     refine Ao (Aa ?_)
     exact ⟨(),rfl,⟨congrArg (Value.int .i64) (by rw [ht,if_neg h2,Int.sub_zero]),trivial⟩,rfl⟩
   ·rintro - j26 w rfl
    refine Af (Aj rfl rfl (Ad rfl rfl (AK R' rfl B4 B2 rfl rfl (by omega) (by omega) (by rfl) ?_)))
    refine Ah rfl E3 rfl (Bb rfl BV rfl ((RD1.fld hd rfl (j:=2) rfl)) ?_)
    refine Ad rfl rfl (Cu rfl rfl rfl (Ab (Aa (Aq _ rfl ?_ ?_))))
    ·intro h3
     replace h3:=AF h3
     refine Av (Ad rfl rfl (Aj rfl rfl (Ad rfl rfl (AK R' rfl B4 B2 rfl rfl (by omega) (by omega) (by rfl) ?_))))
     refine Ah rfl Dp rfl (Bb rfl Bt rfl ((RD1.fld hd rfl (j:=3) rfl)) ?_)
     refine Ap rfl rfl rfl (by omega) (by omega) ?_
     refine Ae rfl rfl (Ab (A5 (Aa (Av (Ad rfl rfl (Ap rfl rfl rfl (by omega) (by omega) ?_))))))
     refine Ae rfl rfl (Ab (Aa ?_))
     exact ⟨i+1,rfl,⟨congrArg (Value.int .i64) (by rw [hst,if_pos h3]),rfl,trivial⟩,⟨by omega,H⟩,by omega⟩
    ·intro h3
     replace h3:=AG h3
     refine Ao (A5 (Aa (Av (Ad rfl rfl (Ap rfl rfl rfl (by omega) (by omega) ?_)))))
     refine Ae rfl rfl (Ab (Aa ?_))
     exact ⟨i+1,rfl,⟨congrArg (Value.int .i64) (by rw [hst,if_neg h3,Int.add_zero]),rfl,trivial⟩,⟨by omega,H⟩,by omega⟩
  ·intro h1
   replace h1:=AG h1
   refine Bc (Ak (Ak (AD (Aa (Af (Ad rfl rfl (Ae rfl rfl (Ab (Aa (A8 (AB (v:=(.int _ _)) rfl rfl rfl ?_)))))))))))
   obtain rfl:i=ds.length:=by omega
   refine ⟨?_,H.ext⟩
   unfold Ny Ki
   rw [List.take_length]
set_option maxRecDepth 20000 in
set_option maxHeartbeats 16000000 in
theorem N0 (a1 b1:Option Addr) (c1 e1:Nat) (acs:List Ac) (ds:List Du) (nx:Int) (net:Bool) (w:World) (R1:Rd w a1 2 CB acs) (R2:Rd w b1 7 Cf ds) (hnx:0≤nx∧nx<18446744073709551616) (hid:∀ d∈ds,0≤d.id∧d.id<18446744073709551616) :
  Ret Tryz.prog 4 #[.slice a1 acs.length c1,.slice b1 ds.length e1,.int .u64 nx,.bool net] w fun v w'=>v = .bool true∧Ext [] w w':=by
 obtain ⟨w0,rfl⟩:∃ w0,w0=w:=⟨_,rfl⟩
 have H:=Ctx.start w0 []
 refine A9 (fn:=Tryz.f4) Tryz.func4 rfl [.slice a1 acs.length c1,.slice b1 ds.length e1,.int .u64 nx,.bool net] rfl (by kernel_rfl) ?_
 refine Af (Ai rfl rfl (Ab (Aa (Af (Aj rfl rfl (Aj rfl rfl (Ad rfl rfl (Am rfl Tw (JI a1 b1 _ c1 _ e1 acs ds nx _ (R1.ext0 H.ext) rfl (R2.ext0 H.ext) rfl hnx hid) rfl ?_))))))))
 rintro v w hB
 obtain ⟨p1,p2,p3,p4,is,rfl,hx27,hB⟩:=BothRes.uni' hB FV
 refine B9 rfl rfl (A3 rfl rfl rfl (A3 rfl rfl rfl (A3 rfl rfl rfl (A3 rfl rfl rfl (A3 rfl rfl rfl (AW rfl rfl (AW rfl rfl (AW rfl rfl (AW rfl rfl ?_)))))))))
 refine Ai rfl rfl (Ab (Aa (An (Af (Aw rfl rfl (B1 rfl rfl (Ab (Aa (Aq _ rfl ?_ ?_)))))))))
 ·intro h2
  replace h2:=Bv h2
  replace H:=H.call hx27
  refine Af (Am rfl Jg (DO _) rfl ?_)
  rintro v w ⟨rfl,hx35⟩
  replace H:=H.call hx35
  refine Ai rfl rfl (Ab (Aa (A8 (Al (AB (v:=(.bool _)) rfl rfl rfl ?_)))))
  exact ⟨rfl,H.ext⟩
 ·intro h2
  replace h2:=Bw h2
  have h2':is=true:=by simpa using h2
  obtain ⟨ha,hd,z,rfl,rfl,rfl,rfl,hz,HL⟩:=hB h2'
  obtain ⟨bx,a,c,full,bd,b,o,ba,ra,rc,rfull,br,ad,cd,fd⟩:=z
  dsimp only [Four.L] at HL ⊢
  obtain ⟨hO,hM,hRO,hRD⟩:=hz
  dsimp only at hO hM hRO hRD
  have hn16:=(Dy.1 ha).1
  have hm64:=(D7.1 hd).1
  replace H:Ctx w0 [] _ ([]++(LX bx a acs.length c full bd b nx o++RX ba ra acs.length rc rfull br ad ds.length cd nx fd)):=H.callEnt HL.ext (fun x hx=>⟨HL.blk x hx,(HL.own x hx).elim (fun h=>by cases h) id⟩) HL.nd
  clear HL
  refine Ao (Aa (An (Af (A2 rfl rfl (CK rfl MQ rfl ?_)))))
  refine Aw rfl rfl (A2 rfl rfl (CK rfl K8 rfl ?_))
  refine A6 rfl rfl (.bool _) rfl (Ab (Aa (CJ rfl (Ao (Aa (An (Af (Ae rfl rfl (Ab (Aa (Au (Bf 147573948191629918464 (α:=Nat) (fun i=>[(14,.int .i64 (i:Int))]) (fun i w'=>(i≤ds.length∧∀ (k:Nat) (d:Du),k<i→ds[k]? = some d→d.fr<acs.length∧d.to<acs.length)∧Ctx w0 [] w' ([]++(LX bx a acs.length c full bd b nx o++RX ba ra acs.length rc rfull br ad ds.length cd nx fd))) (fun i=>ds.length - i) 0 rfl ?_ ?_ ?_))))))))))))
  ·exact ⟨rfl,trivial⟩
  ·exact ⟨⟨Nat.zero_le _,fun k d h=>absurd h (Nat.not_lt_zero _)⟩,H⟩
  ·clear H
   rintro i j14 w ⟨⟨hi,hin⟩,H⟩
   refine An (Af (Ad rfl rfl (Aj rfl rfl (AV rfl B4 rfl (AZ rfl rfl rfl (Ab (Aa (Aq _ rfl ?_ ?_))))))))
   ·intro h3
    replace h3:=AF h3
    obtain ⟨d,hdi⟩:=A0 (l:=ds) (i:=i) (by omega)
    have RD1:=R2.ext0 H.ext
    refine Ao (Aa (An (Au (Af (BD (α:=Unit) 73786694819861495808 (fun _=>[(65,.bool ((decide ((acs.length:Int)≤d.fr) || decide ((acs.length:Int)≤d.to))))]) (fun _ w'=>Ctx w0 [] w' ([]++(LX bx a acs.length c full bd b nx o++RX ba ra acs.length rc rfull br ad ds.length cd nx fd))) rfl ?_ ?_)))))
    ·refine Aj rfl rfl (Ad rfl rfl (AK RD1 rfl B4 B2 rfl rfl (by omega) (by omega) (by rfl) ?_))
     refine Ah rfl E1 rfl (Bb rfl BV rfl ((RD1.fld hdi rfl (j:=1) rfl)) ?_)
     refine Aj rfl rfl (AV rfl CL rfl (Cx rfl rfl rfl (Aw rfl rfl (AE 56 rfl ?_ ?_))))
     ·intro h1
      replace h1:=AF h1
      refine Ag rfl (Ag rfl (Ag rfl (Ag rfl (Ag rfl (Ag rfl (Ag rfl (Ag rfl (AA rfl rfl (.bool _) rfl (Ab ?_)))))))))
      exact ⟨rfl,(),rfl,⟨congrArg Value.bool (by rw [Bool.eq_iff_iff]; simp_all; done),trivial⟩,H⟩
     ·intro h2
      replace h2:=AG h2
      refine Aj rfl rfl (Ad rfl rfl (AK RD1 rfl B4 B2 rfl rfl (by omega) (by omega) (by rfl) ?_))
      refine Ah rfl E3 rfl (Bb rfl BV rfl ((RD1.fld hdi rfl (j:=2) rfl)) ?_)
      refine Aj rfl rfl (AV rfl CL rfl (Cx rfl rfl rfl (A6 rfl rfl (.bool _) rfl (Ab ?_))))
      exact ⟨rfl,(),rfl,⟨congrArg Value.bool (by rw [Bool.eq_iff_iff]; simp_all; omega),trivial⟩,H⟩
    rintro - j65 w H
    refine Aq _ rfl ?_ ?_
    ·intro h4
     refine Af (Am rfl Jg (DO _) rfl ?_)
     rintro v w ⟨rfl,hx66⟩
     replace H:=Ctx.call H hx66
     refine Ai rfl rfl (Ab (Aa (A8 (A1 (Al (Al (A1 (Al (AB (v:=(.bool _)) rfl rfl rfl ?_)))))))))
     exact ⟨rfl,H.ext⟩
    ·intro h4
     refine Ao (A5 (Aa (Av (Ad rfl rfl (Ap rfl rfl rfl (by omega) (by omega) ?_)))))
     refine Ae rfl rfl (Ab (Aa ?_))
     simp only [Bool.or_eq_false_iff,decide_eq_false_iff_not,Int.not_le] at h4
     refine ⟨i+1,rfl,⟨rfl,trivial⟩,⟨⟨by omega,fun k d' hk hd'=>?_⟩,H⟩,by omega⟩
     rcases Nat.lt_or_ge k i with h5 | h5
     ·exact hin k d' h5 hd'
     ·obtain rfl:k=i:=by omega
      rw [hdi] at hd'; cases hd'
      exact h4
   ·intro h3
    replace h3:=AG h3
    obtain rfl:i=ds.length:=by omega
    have hB:=Ns ha hd (fun d h=>by
     obtain ⟨k,hk⟩:=List.mem_iff_getElem?.1 h
     exact hin k d (Cr hk) hk)
    have hbb:CD (acs.map Ce) ds=true:=(EV (by omega)).2 hB
    refine Bc (Ak (Ak (AD (Aa (Af (A2 rfl rfl (A2 rfl rfl (Aw rfl rfl (Am rfl LB (Ij (B:=[]) ha hd hbb net H hO hM) rfl ?_)))))))))
    rintro v w80 ⟨r,q,rfl,P,RA,hoff,hx80,H80⟩
    have H:=Ctx.lend (L2:=[]) (show Ctx w0 [] w80 (([]++(LX bx a acs.length c full bd b nx o++RX ba ra acs.length rc rfull br ad ds.length cd nx fd))++[]) by rw [List.append_nil]; exact H80)
    obtain ⟨S80,hS80⟩:∃ S:List Nat,S=([]++(LX bx a acs.length c full bd b nx o++RX ba ra acs.length rc rfull br ad ds.length cd nx fd)).map (fun x:Nat × Obj=>x.1):=⟨_,rfl⟩
    replace hoff:ROff q r (·∈S80):=by { rw [hS80]; exact hoff }
    rw [← hS80] at H
    replace H:Ctx w80 S80 w80 ([]++(LX bx a acs.length c full bd b nx o++RX ba ra acs.length rc rfull br ad ds.length cd nx fd)):=H
    refine B9 rfl rfl (A3 rfl rfl rfl (A3 rfl rfl rfl (Bj rfl II H ?_)))
    rintro b15 w - H
    refine B5 rfl DL rfl rfl rfl (by simp [Bm]) H at0 rfl ?_
    rintro w H
    refine Ae rfl rfl (Ab (Aa (An ?_)))
    replace H:Ctx w80 S80 _ ((b15,Bl 33 (Br r q))::(LX bx a acs.length c full bd b nx o++RX ba ra acs.length rc rfull br ad ds.length cd nx fd)):=H
    have hfin:∀ (w':World) (L:List (Nat × Obj)),Ctx w80 S80 w' L→Ext [] w0 w':=fun w' L h=>by
     rw [hS80] at h
     exact (Ctx.back (L2:=[]) (show Ctx w0 [] w80 (([]++(LX bx a acs.length c full bd b nx o++RX ba ra acs.length rc rfull br ad ds.length cd nx fd))++[]) by rw [List.append_nil]; exact H80) h).ext
    have hC:=Lv hbb P
    obtain ⟨hai,hdi,hli⟩:=JH (r:=r) ha hd
    have hkeep:=fun (k:Nat) (hk:k<acs.length)=>SP (k:=k) ha hd hC hk
    have hlow:=fun (k:Nat) (x y:Ac) (hx:acs[k]? = some x) (hy:(DY acs ds r)[k]? = some y)=>Xz ha hd hC hx hy
    have hmg:=MgI.start (E6 ha hd hC).pay
    have hleft:Dz acs ds r=DW ds (r.fl.take (opn ds).length):=by unfold Dz; rw [if_pos hC]
    rw [← hleft] at hmg
    rw [P.cmp] at hlow
    obtain ⟨acs9,ha9⟩:∃ z,z=DY acs ds r:=⟨_,rfl⟩
    obtain ⟨ds9,hd9⟩:∃ z,z=Dz acs ds r:=⟨_,rfl⟩
    simp only [← ha9,← hd9] at hai hdi hli hkeep hlow hmg
    have hm9:=(D7.1 hdi).1
    refine Af (Ad rfl rfl (Cp rfl rfl rfl (Aw rfl rfl (A2 rfl rfl (A2 rfl rfl (B6 rfl FN DL rfl H at0 rfl (Am rfl Qv (Ik (B:=[_]) ha hd H hO hM (RA.ext H.ext hoff) (hoff.mono fun x hx=>by { rw [hS80,List.nil_append,List.map_append]; exact List.mem_append_left _ hx }) (Jt P)) rfl ?_)))))))
    rintro v w ⟨rfl,full8,o8,hO8,hM8,-,H8⟩
    rw [hC]
    rw [← ha9] at hO8
    rw [← hd9] at hM8
    rw [← hli] at hO8 H8
    refine Cp rfl rfl rfl (A6 rfl rfl (.bool _) rfl (Ab (Aa (CJ rfl (Ao (Aa ?_))))))
    have HX:Ctx w80 S80 w (LX bx a acs9.length c full8 bd b nx o8):=Ctx.left (Ctx.right (L:=[_]) H8)
    have hbx:=HX.get at0
    have RXa:Rd w a 2 CB acs9:=OS.rd hO8 (fun x hx=>HX.blk x (List.mem_cons_of_mem _ (List.mem_cons_of_mem _ (List.mem_cons_of_mem _ hx)))) (fun _ _=>rfl) (by decide)
    have DU1:DuAt w bd ds9:=LX.du HX hM8
    have hx0w:=hfin _ _ H8
    obtain ⟨w1,rfl⟩:∃ z,z=w:=⟨_,rfl⟩
    have H:=Ctx.start w1 []
    refine Af (A2 rfl rfl (Am rfl NZ (Ib (bd:=bx) a _ c acs9 _ (H.ext.to hbx (by simp)) (RXa.ext0 H.ext) rfl (by omega)) rfl ?_))
    rintro v w Fl
    obtain ⟨al,nl,cl,fl7,rfl,Ol,hbl⟩:=Fl.ex
    obtain rfl:=Ol.numN (fun _ _=>rfl) (by decide)
    replace H:=H.call Fl.ext
    have Rl:Rd w al 2 CB acs9:=OS.rd Ol (fun x hx=>(hbl x hx).1) (fun _ _=>rfl) (by decide)
    refine Az rfl rfl (Ab (Aa (Af (A2 rfl rfl (Am rfl K3 (FI hdi _ (DU1.ext0 H.ext)) rfl ?_)))))
    rintro v w ⟨hxd,a3,c3,rfl,Rd3⟩
    replace H:=H.call hxd
    replace Rl:=Rl.ext0 hxd
    refine Az rfl rfl (Ab (Aa (An (Af (Aj rfl rfl (AV rfl CL rfl (Aj rfl rfl (AV rfl CL rfl (Cp rfl rfl rfl ?_)))))))))
    rw [show (!decide ((acs9.length:Int)=(acs.length:Int)))=false from by rw [hli]; simp]
    refine Ab (Aa (CJ rfl (Ao (Aa (An (Af (Ae rfl rfl (Ab (Aa (Au ?_))))))))))
    have hx02:Ext [] w0 w:=hx0w.trans H.ext
    have Ra:=R1.ext0 hx02
    have Rb:=R2.ext0 hx02
    clear hbx RXa DU1 hbl Ol Fl HX H8
    obtain ⟨w2,rfl⟩:∃ z,z=w:=⟨_,rfl⟩
    clear H
    have H:=Ctx.start w2 []
    have ham:∀ d∈ds,0≤d.am∧d.am≤4503599627370496:=TS hd
    have ham9:∀ d∈ds9,0≤d.am∧d.am≤4503599627370496:=TS hdi
    have hac:∀ (k:Nat),k<acs.length→0≤(acs.getD k a00).ba∧(acs.getD k a00).ba≤4503599627370496:=fun k hk=>by
     obtain ⟨x,hx⟩:=A0 hk
     rw [Bn hx]
     exact (Ig.1 ((Dy.1 ha).2.1 x (List.mem_of_getElem? hx))).1
    have hac9:∀ (k:Nat),k<acs9.length→0≤(acs9.getD k a00).ba∧(acs9.getD k a00).ba≤4503599627370496:=fun k hk=>by
     obtain ⟨x,hx⟩:=A0 hk
     rw [Bn hx]
     exact (Ig.1 ((Dy.1 hai).2.1 x (List.mem_of_getElem? hx))).1
    refine Bf 178405961588244980180525589039665792452919552 (α:=Nat) (fun k=>[(19,.int .i64 (k:Int))]) (fun k w'=>k≤acs9.length∧Ctx w2 [] w' []) (fun k=>acs9.length - k) 0 rfl ?_ ?_ ?_
    ·exact ⟨rfl,trivial⟩
    ·exact ⟨Nat.zero_le _,H⟩
    ·clear H
     rintro k j19 w ⟨hk,H⟩
     refine An (Af (Ad rfl rfl (Aj rfl rfl (AV rfl CL rfl (AZ rfl rfl rfl (Ab (Aa (Aq _ rfl ?_ ?_))))))))
     ·intro h5
      replace h5:=AF h5
      obtain ⟨x,hx⟩:=A0 (l:=acs) (i:=k) (by omega)
      obtain ⟨y,hy⟩:=A0 (l:=acs9) (i:=k) (by omega)
      obtain ⟨g1,g2,g3⟩:=hlow k x y hx hy
      have hpl:=hkeep k (by omega)
      refine Ao (Aa (An (Au (Af (Aj rfl rfl (Ad rfl rfl (AK Ra rfl CL Dc rfl rfl (by omega) (by omega) (by rfl) ?_)))))))
      refine Cv _ rfl JP Dc rfl rfl (((Ra.ext0 H.ext).row hx rfl)) ?_
      refine Bj rfl Hr H ?_
      rintro b20 w - H
      refine B5 rfl Dc rfl rfl rfl (by simp [Bm]) H at0 rfl ?_
      rintro w H
      refine Ab (Aa ?_)
      obtain ⟨w3,rfl⟩:∃ z,z=w:=⟨_,rfl⟩
      have HG:=H
      have hb20:=HG.get at0
      have H:=Ctx.start w3 []
      refine CP [([0,1,2,4,5,6],3),([],7),([8,9,10,11,12,13,14,15,16,17,18,19,20,21,22,23,24,25,26,27,28,29,30,31,32,33,34,35,36,37,38,39,40,41,42,43],44)] (fun z=>Ext [] w3 z) [] B0 (by kernel_rfl) (Ext.drew [] w3) ?_
      refine AU rfl rfl ?_
      refine Bi rfl rfl (Bi rfl rfl (AS rfl rfl (Bi rfl rfl (Bi rfl rfl (AS rfl rfl (Ba ?_))))))
      replace H:=H.drew
      refine Am rfl Zc (Nz al a3 cl c3 acs9 ds9 k _ (Rl.ext0 (HG.ext.trans H.ext)) (Rd3.ext0 (HG.ext.trans H.ext)) (by omega) (by omega) (hac9 k (by omega)) ham9) rfl ?_
      rintro v w ⟨rfl,hx105⟩
      replace H:=H.call hx105
      refine Ab (BL (H.ext) (AU rfl rfl ?_))
      refine Ba (Am rfl Zc (Nz a1 b1 c1 e1 acs ds k _ (Ra.ext0 (HG.ext.trans H.ext)) (Rb.ext0 (HG.ext.trans H.ext)) (by omega) (by omega) (hac k (by omega)) ham) rfl ?_)
      rintro v w ⟨rfl,hx109⟩
      replace H:=H.call hx109
      refine Ab (BL (H.ext) (AU rfl rfl ?_))
      refine L7 rfl rfl rfl ?_
      rw [hpl,show (!decide (Ki acs ds k=Ki acs ds k))=false from by simp]
      refine CU rfl rfl (Bi rfl rfl (AS rfl rfl (BT Rl rfl CL Dc rfl rfl (by omega) (by omega) (by rfl) ?_)))
      refine AH rfl EJ rfl (BP rfl Bt rfl (fun _ hx=>(((Rl.ext0 (HG.ext.trans hx))).fld hy rfl (j:=0) rfl)) ?_)
      refine AH rfl EJ rfl (BP rfl Bt rfl (fun _ hx=>(by rw [Ay (hx.to hb20 (by simp))]; rfl)) ?_)
      refine AH rfl Iz rfl (BP rfl Bt rfl (fun _ hx=>(by rw [Ay (hx.to hb20 (by simp))]; rfl)) ?_)
      refine Vt rfl rfl rfl ?_
      refine Tn rfl rfl rfl ?_
      rw [show decide (y.ba<min x.ba x.re)=false from decide_eq_false (by omega)]
      refine G0 rfl rfl (.bool _) rfl (CU rfl rfl (Bi rfl rfl (AS rfl rfl (BT Rl rfl CL Dc rfl rfl (by omega) (by omega) (by rfl) ?_))))
      refine AH rfl Iz rfl (BP rfl Bt rfl (fun _ hx=>(((Rl.ext0 (HG.ext.trans hx))).fld hy rfl (j:=1) rfl)) ?_)
      refine AH rfl Iz rfl (BP rfl Bt rfl (fun _ hx=>(by rw [Ay (hx.to hb20 (by simp))]; rfl)) ?_)
      refine L7 rfl rfl rfl ?_
      rw [show (!decide (y.re=x.re))=false from by rw [g2]; simp]
      refine G0 rfl rfl (.bool _) rfl (CU rfl rfl (CU rfl rfl (CU rfl rfl (GI 136 rfl ?_ ?_))))
      ·intro h6
       refine Bi rfl rfl (AS rfl rfl (BT Rl rfl CL Dc rfl rfl (by omega) (by omega) (by rfl) ?_))
       refine AH rfl EJ rfl (BP rfl Bt rfl (fun _ hx=>(((Rl.ext0 (HG.ext.trans hx))).fld hy rfl (j:=0) rfl)) ?_)
       refine AH rfl EJ rfl (BP rfl Bt rfl (fun _ hx=>(by rw [Ay (hx.to hb20 (by simp))]; rfl)) ?_)
       refine L7 rfl rfl rfl ?_
       rw [show (!decide (y.ba=x.ba))=false from by rw [g3 h6]; simp]
       refine FY rfl rfl (.bool _) rfl (Ba (A6 rfl rfl (.bool _) rfl (Ab (BL (H.ext) (BO (CJ rfl (Ao (A5 (Aa (Av (Ad rfl rfl (Ap rfl rfl rfl (by omega) (by omega) ?_))))))))))))
       refine Ae rfl rfl (Ab (Aa ?_))
       exact ⟨k+1,rfl,⟨rfl,trivial⟩,⟨by omega,(Ctx.start w2 []).call (HG.ext.trans H.ext)⟩,by omega⟩
      ·intro h6
       refine Bq rfl (Bq rfl (Bq rfl (Bq rfl (Bq rfl (Bq rfl (Bq rfl (Bq rfl (G0 rfl rfl (.bool _) rfl (Ba ?_)))))))))
       refine A6 rfl rfl (.bool _) rfl (Ab (BL (H.ext) (BO (CJ rfl (Ao (A5 (Aa (Av (Ad rfl rfl (Ap rfl rfl rfl (by omega) (by omega) ?_))))))))))
       refine Ae rfl rfl (Ab (Aa ?_))
       exact ⟨k+1,rfl,⟨rfl,trivial⟩,⟨by omega,(Ctx.start w2 []).call (HG.ext.trans H.ext)⟩,by omega⟩
     ·intro h5
      replace h5:=AG h5
      have hs:(ds.map (·.id)).Pairwise (·<·):=(Js (D7.1 hd).2.2.1).2.1
      refine Bc (Ak (Ak (AD (Aa (Af (Ae rfl rfl (Ab (Aa (An (Af (Ae rfl rfl (Ab (Aa (Au (Bf 26328072917139296674301100959329363094591488103956090921536192768 (α:=Nat × Nat) (fun t=>[(22,.int .i64 (t.1:Int)),(21,.int .i64 (t.2:Int))]) (fun t w'=>(t.1≤ds.length∧MgI ds ds9 t.1 t.2)∧Ctx w2 [] w' []) (fun t=>ds.length - t.1) (0,0) rfl ?_ ?_ ?_)))))))))))))))
      ·exact ⟨rfl,rfl,trivial⟩
      ·exact ⟨⟨Nat.zero_le _,hmg⟩,H⟩
      ·clear H
       rintro ⟨i,j⟩ j22 w ⟨⟨hi,hMg⟩,H⟩; dsimp only at hi hMg H; dsimp only
       refine An (Af (Ad rfl rfl (Aj rfl rfl (AV rfl B4 rfl (AZ rfl rfl rfl (Ab (Aa (Aq _ rfl ?_ ?_))))))))
       ·intro h6
        replace h6:=AF h6
        obtain ⟨d,hdi'⟩:=A0 (l:=ds) (i:=i) (by omega)
        have hpos:=(Mk hd (List.mem_of_getElem? hdi')).2.2.2.1
        refine Ao (Aa (An (Au ?_)))
        rcases MgI.step hs hMg hdi' hpos with ⟨e,he,hide,hle,hge,hhe,hMg'⟩ | ⟨hfree,hne,hMg'⟩
        ·skip
         have hjl:=Cr he
         refine DE (fun x=>x=_) B0 (by kernel_rfl) rfl ?_
         refine AP rfl rfl (Bx rfl rfl (Vo rfl B4 rfl (IH rfl rfl rfl ?_)))
         rw [show decide ((j:Int)<(ds9.length:Int))=true from decide_eq_true (by omega)]
         refine CW rfl rfl (Bx rfl rfl (AP rfl rfl (Bs Rd3 rfl B4 B2 rfl rfl (by omega) (by omega) (by rfl) ?_)))
         refine A7 rfl Dw rfl (BR rfl BK rfl (by rintro _ rfl; exact (((Rd3.ext0 H.drew.ext).fld he rfl (j:=0) rfl))) ?_)
         refine Bx rfl rfl (AP rfl rfl (Bs Rb rfl B4 B2 rfl rfl (by omega) (by omega) (by rfl) ?_))
         refine A7 rfl Dw rfl (BR rfl BK rfl (by rintro _ rfl; exact (((Rb.ext0 H.drew.ext).fld hdi' rfl (j:=0) rfl))) ?_)
         refine Tj rfl rfl rfl ?_
         rw [show decide (e.id=d.id)=true from decide_eq_true hide]
         refine FX rfl rfl (.bool _) rfl (BJ ?_)
         rintro _ rfl
         replace H:=H.drew
         refine Dj rfl (An (DE (fun x=>x=_) B0 (by kernel_rfl) rfl ?_))
         refine Bx rfl rfl (AP rfl rfl (Bs Rd3 rfl B4 B2 rfl rfl (by omega) (by omega) (by rfl) ?_))
         refine A7 rfl Dp rfl (BR rfl Bt rfl (by rintro _ rfl; exact (((Rd3.ext0 H.drew.ext).fld he rfl (j:=3) rfl))) ?_)
         refine Bx rfl rfl (AP rfl rfl (Bs Rb rfl B4 B2 rfl rfl (by omega) (by omega) (by rfl) ?_))
         refine A7 rfl Dp rfl (BR rfl Bt rfl (by rintro _ rfl; exact (((Rb.ext0 H.drew.ext).fld hdi' rfl (j:=3) rfl))) ?_)
         refine Qa rfl rfl rfl ?_
         rw [show decide (e.am>d.am)=false from decide_eq_false (by omega)]
         refine CW rfl rfl (Bx rfl rfl (AP rfl rfl (Bs Rd3 rfl B4 B2 rfl rfl (by omega) (by omega) (by rfl) ?_)))
         refine A7 rfl Dp rfl (BR rfl Bt rfl (by rintro _ rfl; exact (((Rd3.ext0 H.drew.ext).fld he rfl (j:=3) rfl))) ?_)
         refine IH rfl rfl rfl ?_
         rw [show decide (e.am<1)=false from decide_eq_false (by omega)]
         refine Gz rfl rfl (.bool _) rfl (CW rfl rfl (Bx rfl rfl (AP rfl rfl (Bs Rb rfl B4 B2 rfl rfl (by omega) (by omega) (by rfl) ?_))))
         refine A7 rfl Iy rfl (BR rfl Jf rfl (by rintro _ rfl; exact (((Rb.ext0 H.drew.ext).fld hdi' rfl (j:=6) rfl))) ?_)
         refine CW rfl rfl (Dg 195 rfl ?_ ?_)
         ·intro h7
          refine Bx rfl rfl (AP rfl rfl (Bs Rd3 rfl B4 B2 rfl rfl (by omega) (by omega) (by rfl) ?_))
          refine FM _ rfl E7 B2 rfl rfl (by rintro _ rfl; exact (((Rd3.ext0 H.drew.ext).row he rfl))) ?_
          refine Bx rfl rfl (AP rfl rfl (Bs Rb rfl B4 B2 rfl rfl (by omega) (by omega) (by rfl) ?_))
          refine FM _ rfl E7 B2 rfl rfl (by rintro _ rfl; exact (((Rb.ext0 H.drew.ext).row hdi' rfl))) ?_
          refine Qs (ks:=[true,true,true,true,true,true,false]) (xs:=Cf e) (ys:=Cf d) (decide (e=d)) rfl (by kernel_rfl) rfl rfl ⟨rfl,rfl,rfl,rfl,rfl,rfl,True.intro,True.intro⟩ (QQ e d) ?_
          rw [show decide (e=d)=true from decide_eq_true (hhe h7)]
          refine FX rfl rfl (.bool _) rfl (Gz rfl rfl (.bool _) rfl (BJ ?_))
          rintro _ rfl
          replace H:=H.drew
          refine CJ rfl (Ao (Aa (Av (Ad rfl rfl (Ap rfl rfl rfl (by omega) (by omega) ?_)))))
          refine Ae rfl rfl (Ab (A5 (Aa (Av (Ad rfl rfl (Ap rfl rfl rfl (by omega) (by omega) ?_))))))
          refine Ae rfl rfl (Ab (Aa ?_))
          exact ⟨(i+1,j+1),rfl,⟨rfl,rfl,trivial⟩,⟨⟨by dsimp only; omega,hMg'⟩,H⟩,by dsimp only; omega⟩
         ·intro h7
          refine Ax rfl (Ax rfl (Ax rfl (Ax rfl (Ax rfl (Ax rfl (Ax rfl (Ax rfl (Ax rfl (Gz rfl rfl (.bool _) rfl ?_)))))))))
          refine Gz rfl rfl (.bool _) rfl (BJ ?_)
          rintro _ rfl
          replace H:=H.drew
          refine CJ rfl (Ao (Aa (Av (Ad rfl rfl (Ap rfl rfl rfl (by omega) (by omega) ?_)))))
          refine Ae rfl rfl (Ab (A5 (Aa (Av (Ad rfl rfl (Ap rfl rfl rfl (by omega) (by omega) ?_))))))
          refine Ae rfl rfl (Ab (Aa ?_))
          exact ⟨(i+1,j+1),rfl,⟨rfl,rfl,trivial⟩,⟨⟨by dsimp only; omega,hMg'⟩,H⟩,by dsimp only; omega⟩
        ·skip
         refine DE (fun x=>x=_) B0 (by kernel_rfl) rfl ?_
         refine AP rfl rfl (Bx rfl rfl (Vo rfl B4 rfl (IH rfl rfl rfl (CW rfl rfl (Dg 157 rfl ?_ ?_)))))
         ·intro h7
          replace h7:=AF h7
          obtain ⟨e,he⟩:=A0 (l:=ds9) (i:=j) (by omega)
          have hje:=Cr he
          refine Bx rfl rfl (AP rfl rfl (Bs Rd3 rfl B4 B2 rfl rfl (by omega) (by omega) (by rfl) ?_))
          refine A7 rfl Dw rfl (BR rfl BK rfl (by rintro _ rfl; exact (((Rd3.ext0 H.drew.ext).fld he rfl (j:=0) rfl))) ?_)
          refine Bx rfl rfl (AP rfl rfl (Bs Rb rfl B4 B2 rfl rfl (by omega) (by omega) (by rfl) ?_))
          refine A7 rfl Dw rfl (BR rfl BK rfl (by rintro _ rfl; exact (((Rb.ext0 H.drew.ext).fld hdi' rfl (j:=0) rfl))) ?_)
          refine Tj rfl rfl rfl ?_
          rw [show decide (e.id=d.id)=false from decide_eq_false (hne e he)]
          refine FX rfl rfl (.bool _) rfl (BJ ?_)
          rintro _ rfl
          replace H:=H.drew
          refine CJ rfl (Af (Aj rfl rfl (Ad rfl rfl (AK Rb rfl B4 B2 rfl rfl (by omega) (by omega) (by rfl) ?_))))
          refine Ah rfl Iy rfl (Bb rfl Jf rfl ((Rb.ext0 H.ext).fld hdi' rfl (j:=6) rfl) ?_)
          rw [hfree]
          refine Ab (Aa (CJ rfl (Ao (A5 (Aa (Av (Ad rfl rfl (Ap rfl rfl rfl (by omega) (by omega) ?_))))))))
          refine Ae rfl rfl (Ab (Aa ?_))
          exact ⟨(i+1,j),rfl,⟨rfl,rfl,trivial⟩,⟨⟨by dsimp only; omega,hMg'⟩,H⟩,by dsimp only; omega⟩
         ·intro h7
          replace h7:=AG h7
          refine Ax rfl (Ax rfl (Ax rfl (Ax rfl (Ax rfl (Ax rfl (Ax rfl (Ax rfl (Ax rfl (Ax rfl ?_)))))))))
          refine Ax rfl (Gz rfl rfl (.bool _) rfl (BJ ?_))
          rintro _ rfl
          replace H:=H.drew
          refine CJ rfl (Af (Aj rfl rfl (Ad rfl rfl (AK Rb rfl B4 B2 rfl rfl (by omega) (by omega) (by rfl) ?_))))
          refine Ah rfl Iy rfl (Bb rfl Jf rfl ((Rb.ext0 H.ext).fld hdi' rfl (j:=6) rfl) ?_)
          rw [hfree]
          refine Ab (Aa (CJ rfl (Ao (A5 (Aa (Av (Ad rfl rfl (Ap rfl rfl rfl (by omega) (by omega) ?_))))))))
          refine Ae rfl rfl (Ab (Aa ?_))
          exact ⟨(i+1,j),rfl,⟨rfl,rfl,trivial⟩,⟨⟨by dsimp only; omega,hMg'⟩,H⟩,by dsimp only; omega⟩
       ·intro h6
        replace h6:=AG h6
        obtain rfl:i=ds.length:=by omega
        have hend:=hMg.ends
        refine Bc (Ak (Ak (AD (Aa (Af (Ad rfl rfl (Aj rfl rfl (AV rfl B4 rfl (Cu rfl rfl rfl ?_)))))))))
        rw [show decide ((j:Int)=(ds9.length:Int))=true from decide_eq_true (by omega)]
        refine Aw rfl rfl (Am rfl Jg (DO _) rfl ?_)
        rintro v w ⟨rfl,hx219⟩
        replace H:=Ctx.call H hx219
        refine AA rfl rfl (.bool _) rfl (Ai rfl rfl (Ab (Aa (A8 (AB (v:=(.bool _)) rfl rfl rfl ?_)))))
        exact ⟨rfl,hx02.trans H.ext⟩
end Go.Proofs.YtapphbmlkdhnmaaGreat

/- SettleTurned: names say nothing of what a round is worth. -/
namespace Go.Proofs.YtapphbmlkdhnmaaGreat
open Go.GV
attribute [local irreducible] AL W Wq Wt

set_option maxRecDepth 20000 in
theorem KU (r:Rnd) (q:RSl) (w:World) (RA:RAt w r q) (hw:BG r.N r.es r.fl=true):Ret Tryz.prog 24 #[.agg (Br r q).toArray] w fun v w'=>v = .int .i64 (Hh r)∧Ext [] w w':=by
 obtain ⟨w0,rfl⟩:∃ w0,w0=w:=⟨_,rfl⟩
 have H:=Ctx.start w0 []
 have hl:=(BZ hw).1
 have hE:=(Cn (BZ hw).2.1).2.2.1
 refine A9 (fn:=Tryz.f24) Tryz.func24 rfl [.agg (Br r q).toArray] rfl (by kernel_rfl) ?_
 refine Af (BC rfl (Br r q) (.agg _) rfl rfl H ?_)
 rintro b1 w - H
 refine Ae rfl rfl (Ab (Aa (Af (Ae rfl rfl (Ab (Aa (An (Af (Ae rfl rfl (Ab (Aa (Au ?_))))))))))))
 refine Bf 137438953464 (α:=Nat) (fun i=>[(3,.int .i64 (B7 (fun j=>flE r.fl j*(grE r.N r.es).co j) i)),(4,.int .i64 (i:Int))]) (fun i w'=>i≤r.es.length∧Ctx w0 [] w' [(b1,Bl 33 (Br r q))]) (fun i=>r.es.length - i) 0 rfl ?_ ?_ ?_
 ·exact ⟨rfl,rfl,trivial⟩
 ·exact ⟨Nat.zero_le _,H⟩
 ·clear H
  rintro i j w ⟨hi,H⟩
  refine An (Af (BD (α:=Unit) 524256 (fun _=>[(18,.bool (decide (i<r.es.length)))]) (fun _ w'=>Ctx w0 [] w' [(b1,Bl 33 (Br r q))]) rfl ?_ ?_))
  ·refine Ad rfl rfl (Ah rfl FD rfl (Ah rfl Cc rfl (AN rfl Dh rfl H at0 rfl (AV rfl C0 rfl (AZ rfl rfl rfl (Aw rfl rfl (AE 11 rfl ?_ ?_)))))))
   ·intro h1
    replace h1:=AF h1
    refine Ad rfl rfl (Ah rfl FE rfl (Ah rfl FC rfl (AN rfl BX rfl H at0 rfl (AV rfl AO rfl (AZ rfl rfl rfl (AA rfl rfl (.bool _) rfl (Ab ?_)))))))
    exact ⟨rfl,(),rfl,⟨congrArg Value.bool (by rw [Bool.eq_iff_iff]; simp_all; done),trivial⟩,H⟩
   ·intro h2
    replace h2:=AG h2
    refine Ag rfl (Ag rfl (Ag rfl (Ag rfl (Ag rfl (Ag rfl (A6 rfl rfl (.bool _) rfl (Ab ?_)))))))
    exact ⟨rfl,(),rfl,⟨congrArg Value.bool (by rw [Bool.eq_iff_iff]; simp_all; done),trivial⟩,H⟩
  rintro - j18 w H
  refine Aq _ rfl ?_ ?_
  ·intro h1
   rw [decide_eq_true_eq] at h1
   obtain ⟨e,he⟩:=A0 h1
   obtain ⟨x,hx⟩:=A0 (l:=r.fl) (i:=i) (by omega)
   have hc:=TY hw (k:=i) (by omega)
   have hc2:=TY hw (k:=i+1) (by omega)
   have ht:=YP hw he hx
   rw [Lw,Nq he,show flE r.fl i=x from Bn hx] at hc2
   have hst:B7 (fun j=>flE r.fl j*(grE r.N r.es).co j) (i+1)=B7 (fun j=>flE r.fl j*(grE r.N r.es).co j) i+e.cost*x:=by
    rw [Lw,Nq he,show flE r.fl i=x from Bn hx,Int.mul_comm]
   obtain ⟨s,hs⟩:∃ s,s=B7 (fun j=>flE r.fl j*(grE r.N r.es).co j) i:=⟨_,rfl⟩
   rw [← hs] at hc hc2 hst ⊢
   rw [Int.mul_comm] at hc2
   have RE:=RA.E
   have RF:=RA.F
   refine Ao (Aa (An (Au (Pc (fun x=>x=_) B0 (by kernel_rfl) rfl ?_))))
   refine AP rfl rfl (A7 rfl FD rfl (A7 rfl Cc rfl (Cd rfl Dh rfl (by rintro _ rfl; exact H.drew) at0 rfl ?_)))
   refine AP rfl rfl (Bs RE rfl C0 CC rfl rfl (by omega) (by omega) (by rfl) ?_)
   refine A7 rfl EK rfl (BR rfl Bt rfl (by rintro _ rfl; exact (((RE.ext0 H.drew.ext).fld he rfl (j:=3) rfl))) ?_)
   refine A7 rfl FE rfl (A7 rfl FC rfl (Cd rfl BX rfl (by rintro _ rfl; exact H.drew) at0 rfl ?_))
   refine AP rfl rfl (Bs RF rfl AO Bu rfl rfl (by omega) (by omega) (by rfl) ?_)
   refine BR rfl Bt rfl (by rintro _ rfl; exact (((RF.ext0 H.drew.ext).fld hx rfl (j:=0) rfl))) ?_
   refine NL rfl rfl rfl (by omega) (by omega) ?_
   refine C7 rfl rfl rfl (by omega) (by omega) ?_
   refine C8 rfl rfl (BJ ?_)
   rintro _ rfl
   replace H:=H.drew
   refine A5 (Aa (Av (Ad rfl rfl (Ap rfl rfl rfl (by omega) (by omega) ?_))))
   refine Ae rfl rfl (Ab (Aa ?_))
   exact ⟨i+1,rfl,⟨congrArg (Value.int .i64) hst.symm,rfl,trivial⟩,⟨by omega,H⟩,by omega⟩
  ·intro h1
   refine Bc (Ak (Ak (AD (Aa (Af (Ad rfl rfl (Ae rfl rfl (Ab (Aa (A8 (AB (v:=(.int _ _)) rfl rfl rfl ?_)))))))))))
   have h1':¬ i<r.es.length:=by simpa using h1
   obtain rfl:i=r.es.length:=by omega
   exact ⟨rfl,H.ext⟩
theorem KV (n:Nat) (ds:List Du):(EW n ds).length=ds.length:=by
 unfold EW
 rw [List.length_zipWith,List.length_reverse,Nat.min_self]
theorem XA {α:Type} {l:List α} {j:Nat} {x:α} (h:l[l.length - 1 - j]? = some x) (hj:j<l.length):l.reverse[j]? = some x:=by
 rw [List.getElem?_reverse hj]; exact h
theorem Uc {n:Nat} {ds:List Du} {j:Nat} {d z:Du} (hd:ds[j]? = some d) (hz:ds[ds.length - 1 - j]? = some z):(EW n ds)[j]? = some (PJ n d z):=by
 unfold EW
 rw [List.getElem?_zipWith,hd,XA hz (Cr hd)]
theorem Ru {n:Nat} {ds:List Du} {x:Du} (h:x∈EW n ds):∃ d∈ds,∃ z∈ds,x=PJ n d z:=by
 obtain ⟨j,hj⟩:=List.mem_iff_getElem?.1 h
 have hl:=Cr hj
 rw [KV] at hl
 obtain ⟨d,hd⟩:=A0 hl
 obtain ⟨z,hz⟩:=A0 (l:=ds) (i:=ds.length - 1 - j) (by omega)
 rw [Uc hd hz] at hj
 injection hj with hj
 exact ⟨d,List.mem_of_getElem? hd,z,List.mem_of_getElem? hz,hj.symm⟩
set_option maxRecDepth 20000 in
set_option maxHeartbeats 16000000 in
theorem LS (a1 b1:Option Addr) (c1 e1:Nat) (acs:List Ac) (ds:List Du) (nx:Int) (net:Bool) (w:World) (R1:Rd w a1 2 CB acs) (R2:Rd w b1 7 Cf ds) (hnx:0≤nx∧nx<18446744073709551616) (hid:∀ d∈ds,0≤d.id∧d.id<18446744073709551616) :
  Ret Tryz.prog 5 #[.slice a1 acs.length c1,.slice b1 ds.length e1,.int .u64 nx,.bool net] w fun v w'=>v = .bool true∧Ext [] w w':=by
 obtain ⟨w0,rfl⟩:∃ w0,w0=w:=⟨_,rfl⟩
 have H:=Ctx.start w0 []
 have hx0:=Ext.refl [] w0
 refine A9 (fn:=Tryz.f5) Tryz.func5 rfl [.slice a1 acs.length c1,.slice b1 ds.length e1,.int .u64 nx,.bool net] rfl (by kernel_rfl) ?_
 refine Af (Ai rfl rfl (Ab (Aa (Af (Aj rfl rfl (Aj rfl rfl (Ad rfl rfl (Am rfl Tw (JI a1 b1 _ c1 _ e1 acs ds nx _ (R1.ext0 H.ext) rfl (R2.ext0 H.ext) rfl hnx hid) rfl ?_))))))))
 rintro v w hB
 obtain ⟨p1,p2,p3,p4,is,rfl,hx37,hB⟩:=BothRes.uni' hB FV
 refine B9 rfl rfl (A3 rfl rfl rfl (A3 rfl rfl rfl (A3 rfl rfl rfl (A3 rfl rfl rfl (A3 rfl rfl rfl (AW rfl rfl (AW rfl rfl (AW rfl rfl (AW rfl rfl ?_)))))))))
 refine Ai rfl rfl (Ab (Aa (An ?_)))
 cases hisq:is
 ·skip
  replace H:=H.call hx37
  refine Af (Aw rfl rfl (B1 rfl rfl (Aw rfl rfl (Ag rfl (Ag rfl (AA rfl rfl (.bool _) rfl (Aw rfl rfl (Ag rfl (Ag rfl ?_)))))))))
  refine AA rfl rfl (.bool _) rfl (Ab (Aa (Dj rfl (Af (Am rfl Jg (DO _) rfl ?_)))))
  rintro v w ⟨rfl,hxw⟩
  replace H:=Ctx.call H hxw
  refine Ai rfl rfl (Ab (Aa (A8 (Al (AB (v:=(.bool _)) rfl rfl rfl ?_)))))
  exact ⟨rfl,H.ext⟩
 ·skip
  obtain ⟨ha,hd,z,rfl,rfl,rfl,rfl,hz,HL⟩:=hB hisq
  obtain ⟨bx,a,c,full,bd,b,o,ba,ra,rc,rfull,br,ad,cd,fd⟩:=z
  dsimp only [Four.L] at HL ⊢
  obtain ⟨hO,hM,hRO,hRD⟩:=hz
  dsimp only at hO hM hRO hRD
  have hn16:=(Dy.1 ha).1
  have hm64:=(D7.1 hd).1
  replace HL:Ctx w0 [] _ ([]++(LX bx a acs.length c full bd b nx o++RX ba ra acs.length rc rfull br ad ds.length cd nx fd)):=((Ctx.start w0 []).call H.ext).callEnt HL.ext (fun x hx=>⟨HL.blk x hx,(HL.own x hx).elim (fun h=>by cases h) id⟩) HL.nd
  refine Af (Aw rfl rfl (B1 rfl rfl (Aw rfl rfl (A2 rfl rfl (CK rfl un_37 rfl ?_)))))
  refine A6 rfl rfl (.bool _) rfl (Aw rfl rfl (A2 rfl rfl (CK rfl un_38 rfl ?_)))
  refine A6 rfl rfl (.bool _) rfl (Ab (Aa (CJ rfl (Ao (Aa (Af (A2 rfl rfl (A2 rfl rfl (Aw rfl rfl (Am rfl LB (OR (B:=[]) ha hd net HL hO hM) rfl ?_))))))))))
  rintro v w1 ⟨r,q,code,rfl,hP,hx58⟩
  replace HL:=HL.call hx58
  replace hx0:=HL.ext
  have H:=Ctx.start w1 []
  refine B9 rfl rfl (A3 rfl rfl rfl (A3 rfl rfl rfl (Bj rfl II H ?_)))
  rintro b14 w - H
  refine B5 rfl DL rfl rfl rfl (by simp [Bm]) H at0 rfl ?_
  rintro w H
  refine Ae rfl rfl (Ab (Aa (An (Af (Ad rfl rfl (Cp rfl rfl rfl (Ab (Aa (Aq _ rfl ?_ ?_)))))))))
  ·intro h1
   replace h1:=CY h1
   refine Af (Am rfl Jg (DO _) rfl ?_)
   rintro v w ⟨rfl,hxw⟩
   replace H:=Ctx.call H hxw
   refine Ai rfl rfl (Ab (Aa (A8 (Al (AB (v:=(.bool _)) rfl rfl rfl ?_)))))
   exact ⟨rfl,hx0.trans H.ext⟩
  ·intro h1
   replace h1:=CZ h1
   have h1':code=0:=by omega
   obtain ⟨hbb,P,RA⟩:CD (acs.map Ce) ds=true∧PlanR acs ds net r∧RAt w1 r q:=by
    rcases hP with ⟨-,h⟩ | ⟨h2,-,h3,h4,-⟩
    ·omega
    ·exact ⟨h2,h3,h4⟩
   clear hP hisq hB
   have hB:=(EV (by omega)).1 hbb
   replace H:Ctx w1 [] _ [(b14,Bl 33 (Br r q))]:=H
   refine Ao (Aa (Af (Aj rfl rfl (AV rfl CL rfl (Ae rfl rfl (Ab (Aa (Af (Az rfl rfl (Ab (Aa (An ?_))))))))))))
   refine Af (Ad rfl rfl (Be rfl rfl rfl (by omega) (by omega) ?_))
   refine Ae rfl rfl (Ab (Aa (Au (Bf 604167761902135234920448 (α:=LSt) (fun t=>[(18,.int .i64 ((acs.length:Int) - 1 - (t.i:Int))),(17,.slice t.a t.i t.c)]) (fun t w'=>t.i≤acs.length∧OS t.a t.i t.c 2 t.full ((acs.reverse.take t.i).flatMap CB)∧Ctx w1 [] w' ([(b14,Bl 33 (Br r q))]++ent t.a 64 t.full)) (fun t=>acs.length - t.i) ⟨0,none,0,[]⟩ rfl ?_ ?_ ?_))))
   ·exact ⟨congrArg (Value.int .i64) (by dsimp only; omega),rfl,trivial⟩
   ·exact ⟨Nat.zero_le _,OS.nil,H⟩
   ·clear H
    rintro ⟨j,aA,cA,fA⟩ jj w ⟨hj,OA,H⟩; dsimp only at hj OA H; dsimp only
    refine An (Af (Ad rfl rfl (Cx rfl rfl rfl (Ab (Aa (Aq _ rfl ?_ ?_))))))
    ·intro h2
     replace h2:=AF h2
     obtain ⟨x,hx⟩:=A0 (l:=acs) (i:=acs.length - 1 - j) (by omega)
     have hxr:=XA hx (by omega)
     have R1':=R1.ext0 (hx0.trans H.ext)
     have hidx:((acs.length:Int) - 1 - (j:Int)).toNat=acs.length - 1 - j:=by omega
     refine Ao (Aa (An (Au (Av (Aj rfl rfl (Aj rfl rfl (Ad rfl rfl (AK R1' rfl CL Dc rfl rfl (by omega) (by omega) (by rfl) ?_))))))))
     rw [hidx]
     refine Cv _ rfl JP Dc rfl rfl ((R1'.row hx rfl)) ?_
     refine C3 _ (.agg _) rfl CL Dc Hr rfl (by decide) (by decide) rfl rfl rfl H ?_
     rintro b77 w - H
     refine Cl (L:=[_]) rfl CL CL Dc V4 Hr rfl (by decide) rfl rfl H OA rfl (Ia x) (by omega) ?_
     rintro aA' cA' fA' w H OA
     refine Az rfl rfl (Ab (A5 (Aa (Av (Ad rfl rfl (Be rfl rfl rfl (by omega) (by omega) ?_))))))
     refine Ae rfl rfl (Ab (Aa ?_))
     exact ⟨⟨j+1,aA',cA',fA'⟩,rfl,⟨congrArg (Value.int .i64) (by dsimp only; omega),rfl,trivial⟩,⟨by dsimp only; omega,by dsimp only; rw [Eo hxr,List.flatMap_append]; exact (by simpa using OA),H⟩,by dsimp only; omega⟩
    ·intro h2
     replace h2:=AG h2
     obtain rfl:j=acs.length:=by omega
     rw [List.take_of_length_le (by rw [List.length_reverse]; exact Nat.le_refl _)] at OA
     refine Bc (Ak (Ak (AD (Aa (Af (Az rfl rfl (Ab (Aa (An (Af (Aj rfl rfl (AV rfl B4 rfl (Be rfl rfl rfl (by omega) (by omega) ?_)))))))))))))
     refine Ae rfl rfl (Ab (Aa (Au (Bf 83076749731721538778029424572366848 (α:=LSt) (fun t=>[(20,.int .i64 ((ds.length:Int) - 1 - (t.i:Int))),(19,.slice t.a t.i t.c)]) (fun t w'=>t.i≤ds.length∧OS t.a t.i t.c 7 t.full (((EW acs.length ds).take t.i).flatMap Cf)∧Ctx w1 [] w' ([(b14,Bl 33 (Br r q))]++ent aA 64 fA++ent t.a 62 t.full)) (fun t=>ds.length - t.i) ⟨0,none,0,[]⟩ rfl ?_ ?_ ?_))))
     ·exact ⟨congrArg (Value.int .i64) (by dsimp only; omega),rfl,trivial⟩
     ·exact ⟨Nat.zero_le _,OS.nil,by dsimp only; rw [show ent none 62 []=[] from rfl,List.append_nil]; exact H⟩
     ·clear H
      rintro ⟨j,aD,cD,fD⟩ jj2 w ⟨hj,OD,H⟩; dsimp only at hj OD H; dsimp only
      refine An (Af (Ad rfl rfl (Cx rfl rfl rfl (Ab (Aa (Aq _ rfl ?_ ?_))))))
      ·intro h3
       replace h3:=AF h3
       obtain ⟨d,hdj⟩:=A0 (l:=ds) (i:=j) (by omega)
       obtain ⟨y,hy⟩:=A0 (l:=ds) (i:=ds.length - 1 - j) (by omega)
       have htj:=Uc (n:=acs.length) hdj hy
       have R2':=R2.ext0 (hx0.trans H.ext)
       have hdy:=Mk hd (List.mem_of_getElem? hy)
       have hidx:((ds.length:Int) - 1 - (j:Int)).toNat=ds.length - 1 - j:=by omega
       have hidx2:((ds.length:Int) - 1 - ((ds.length:Int) - 1 - (j:Int))).toNat=j:=by omega
       refine Ao (Aa (An (Au (Af (Aj rfl rfl (Ad rfl rfl (AK R2' rfl B4 B2 rfl rfl (by omega) (by omega) (by rfl) ?_)))))))
       rw [hidx]
       refine Cv _ rfl E7 B2 rfl rfl ((R2'.row hy rfl)) ?_
       refine Bj rfl Eh H ?_
       rintro b21 w - H
       refine B5 rfl B2 rfl rfl rfl (by simp [Bm]) H at0 rfl ?_
       rintro w H
       refine Ab (Aa ?_)
       replace H:Ctx w1 [] _ ((b21,Bl 62 (Cf y))::([(b14,Bl 33 (Br r q))]++ent aA 64 fA++ent aD 62 fD)):=H
       replace R2':=R2.ext0 (hx0.trans H.ext)
       refine Af (Aj rfl rfl (Aj rfl rfl (AV rfl B4 rfl (Be rfl rfl rfl (by omega) (by omega) ?_))))
       refine Ad rfl rfl (Be rfl rfl rfl (by omega) (by omega) ?_)
       refine AK R2' rfl B4 B2 rfl rfl (by omega) (by omega) (by rfl) ?_
       rw [hidx2]
       refine Ah rfl Dw rfl (Bb rfl BK rfl ((R2'.fld hdj rfl (j:=0) rfl)) ?_)
       refine Ah rfl Dw rfl (Cy (.int _ _) rfl Bo rfl rfl rfl H at0 (by (simp; done)) ?_)
       rintro w H
       refine Ab (Aa (Af (Ad rfl rfl (Be rfl rfl rfl (by omega) (by omega) ?_))))
       refine Ah rfl E1 rfl (AN rfl BV rfl H at0 rfl (Be rfl rfl rfl (by omega) (by omega) ?_))
       refine Ah rfl E1 rfl (Cy (.int _ _) rfl Fs rfl rfl rfl H at0 (by (simp; done)) ?_)
       rintro w H
       refine Ab (Aa (Af (Ad rfl rfl (Be rfl rfl rfl (by omega) (by omega) ?_))))
       refine Ah rfl E3 rfl (AN rfl BV rfl H at0 rfl (Be rfl rfl rfl (by omega) (by omega) ?_))
       refine Ah rfl E3 rfl (Cy (.int _ _) rfl Fs rfl rfl rfl H at0 (by (simp; done)) ?_)
       rintro w H
       refine Ab (Aa ?_)
       replace H:Ctx w1 [] _ ((b21,Bl 62 (Cf (PJ acs.length d y)))::([(b14,Bl 33 (Br r q))]++ent aA 64 fA++ent aD 62 fD)):=H
       refine Av (Aj rfl rfl (B6 rfl E7 B2 rfl H at0 rfl (C3 _ (.agg _) rfl B4 B2 Eh rfl (by decide) (by decide) rfl rfl rfl H ?_)))
       rintro b114 w - H
       refine Cl (L:=(b21,_)::([_]++ent aA 64 fA)) rfl B4 B4 B2 LA Eh rfl (by decide) rfl rfl H OD rfl (DM (PJ acs.length d y)) (by omega) ?_
       rintro aD' cD' fD' w H OD
       refine Az rfl rfl (Ab (A5 (Aa (Av (Ad rfl rfl (Be rfl rfl rfl (by omega) (by omega) ?_))))))
       refine Ae rfl rfl (Ab (Aa ?_))
       exact ⟨⟨j+1,aD',cD',fD'⟩,rfl,⟨congrArg (Value.int .i64) (by dsimp only; omega),rfl,trivial⟩,⟨by dsimp only; omega,by dsimp only; rw [Eo htj,List.flatMap_append]; exact (by simpa using OD),H.tail⟩,by dsimp only; omega⟩
      ·intro h3
       replace h3:=AG h3
       obtain rfl:j=ds.length:=by omega
       rw [List.take_of_length_le (by rw [KV]; exact Nat.le_refl _)] at OD
       have RA':Rd w aA 2 CB acs.reverse:=OS.rd OA (fun x hx=>H.blk x (List.mem_append_left _ (List.mem_append_right _ hx))) (fun _ _=>rfl) (by decide)
       have RD':Rd w aD 7 Cf (EW acs.length ds):=OS.rd OD (fun x hx=>H.blk x (List.mem_append_right _ hx)) (fun _ _=>rfl) (by decide)
       have hb14:=H.get at0
       replace hx0:=hx0.trans H.ext
       replace RA:=RA.ext0 H.ext
       replace HL:=HL.call H.ext
       clear H OA OD
       obtain ⟨w2,rfl⟩:∃ z,z=w:=⟨_,rfl⟩
       have H:=Ctx.start w2 []
       refine Bc (Ak (Ak (AD (Aa (Af (Aj rfl rfl (Aj rfl rfl (Ad rfl rfl (Am rfl Tw (JI aA aD acs.length cA ds.length cD acs.reverse (EW acs.length ds) nx _ (RA'.ext0 H.ext) (List.length_reverse ..) (RD'.ext0 H.ext) (KV _ _) hnx (fun x hx=>by obtain ⟨d,hd7,z,-,rfl⟩:=Ru hx; exact hid d hd7)) rfl ?_)))))))))
       rintro v w hB7
       obtain ⟨p1,p2,p3,p4,so,rfl,hx120,hB7⟩:=BothRes.uni' hB7 FV
       refine B9 rfl rfl (A3 rfl rfl rfl (A3 rfl rfl rfl (A3 rfl rfl rfl (A3 rfl rfl rfl (A3 rfl rfl rfl (AW rfl rfl (AW rfl rfl (AW rfl rfl (AW rfl rfl ?_)))))))))
       refine Ai rfl rfl (Ab (Aa (An ?_)))
       cases hso:so
       ·skip
        replace H:=H.call hx120
        refine Af (Aw rfl rfl (B1 rfl rfl (Ab (Aa (Dj rfl (Af (Am rfl Jg (DO _) rfl ?_)))))))
        rintro v w ⟨rfl,hxw⟩
        replace H:=Ctx.call H hxw
        refine Ai rfl rfl (Ab (Aa (A8 (Al (AB (v:=(.bool _)) rfl rfl rfl ?_)))))
        exact ⟨rfl,hx0.trans H.ext⟩
       ·skip
        obtain ⟨ha',hd',z,rfl,rfl,rfl,rfl,hz',HL'⟩:=hB7 hso
        obtain ⟨bx',a',c',full',bd',b',o',ba',ra',rc',rfull',br',ad',cd',fd'⟩:=z
        dsimp only [Four.L] at HL' ⊢
        obtain ⟨hO',hM',-,-⟩:=hz'
        dsimp only at hO' hM'
        have hn7:acs.reverse.length=acs.length:=List.length_reverse ..
        replace HL':Ctx w2 [] _ ([]++(LX bx' a' acs.reverse.length c' full' bd' b' nx o'++RX ba' ra' acs.reverse.length rc' rfull' br' ad' (EW acs.length ds).length cd' nx fd')):=H.callEnt HL'.ext (fun x hx=>⟨HL'.blk x hx,(HL'.own x hx).elim (fun h=>by cases h) id⟩) HL'.nd
        have hbb':CD (acs.reverse.map Ce) (EW acs.length ds)=true:=(EV (by rw [KV]; omega)).2 (Ns ha' hd' fun x hx=>by
         obtain ⟨d,-,y,hy,rfl⟩:=Ru hx
         have:=Mk hd hy
         rw [hn7]
         show (acs.length:Int) - 1 - y.fr<acs.length∧(acs.length:Int) - 1 - y.to<acs.length
         omega)
        refine Af (Aw rfl rfl (B1 rfl rfl (Ab (Aa (CJ rfl (Ao (Aa (Af (A2 rfl rfl (A2 rfl rfl (Aw rfl rfl ?_)))))))))))
        refine Am rfl LB (Ij (B:=[]) ha' hd' hbb' net HL' hO' hM') rfl ?_
        rintro v w3 ⟨s,qs,rfl,Q,RB,-,-,HL3⟩
        replace hb14:=HL3.ext.to hb14 (by simp)
        replace hx0:=hx0.trans HL3.ext
        replace RA:=RA.ext0 HL3.ext
        replace HL:=HL.call HL3.ext
        clear HL3 HL'
        have H:=Ctx.start w3 []
        refine B9 rfl rfl (A3 rfl rfl rfl (A3 rfl rfl rfl (Bj rfl II H ?_)))
        rintro b27 w - H
        refine B5 rfl DL rfl rfl rfl (by simp [Bm]) H at0 rfl ?_
        rintro w H
        refine Ae rfl rfl (Ab (Aa (An ?_)))
        replace H:Ctx w3 [] _ [(b27,Bl 33 (Br s qs))]:=H
        have hcost:=Rn hbb (by omega) P Q
        replace hb14:=H.ext.to hb14 (by simp)
        have hb27:=H.get at0
        replace RA:=RA.ext0 H.ext
        replace RB:=RB.ext0 H.ext
        replace hx0:=hx0.trans H.ext
        replace HL:=HL.call H.ext
        obtain ⟨w4,rfl⟩:∃ z,z=w:=⟨_,rfl⟩
        clear H
        have H:=Ctx.start w4 []
        refine CP [([0,1,2,3,5],4),([],6),([7],8)] (fun z=>Ext [] w4 z) [] B0 (by kernel_rfl) (Ext.drew [] w4) ?_
        refine AU rfl rfl ?_
        refine AS rfl rfl (L7 rfl rfl rfl (CU rfl rfl (GJ _ rfl FN DL rfl rfl (fun _ hx=>(Dr (b:=b14) (t:=33) (l:=Br r q) (hx.to hb14 (by simp)) 0 (Br r q) rfl)) ?_)))
        refine GJ _ rfl FN DL rfl rfl (fun _ hx=>(Dr (b:=b27) (t:=33) (l:=Br s qs) (hx.to hb27 (by simp)) 0 (Br s qs) rfl)) ?_
        refine Ba ?_
        replace H:=H.drew
        refine Am rfl Qw (KU r q _ (RA.ext0 H.ext) (Ea P).2.1) rfl ?_
        rintro v w ⟨rfl,hxc⟩
        replace H:=H.call hxc
        refine Ab (BL (H.ext) (AU rfl rfl ?_))
        refine Ba (Am rfl Qw (KU s qs _ (RB.ext0 H.ext) (Ea Q).2.1) rfl ?_)
        rintro v w ⟨rfl,hxc⟩
        replace H:=H.call hxc
        refine Ab (BL (H.ext) (AU rfl rfl ?_))
        refine L7 rfl rfl rfl ?_
        rw [hcost,show (!decide (Hh s=Hh s))=false from by simp]
        refine Ba (A6 rfl rfl (.bool _) rfl (Ab (BL (H.ext) (BO (CJ rfl (Ao (Aa (Af (A2 rfl rfl (A2 rfl rfl ?_))))))))))
        replace HL:=HL.call H.ext
        replace hx0:=hx0.trans H.ext
        refine Am rfl LB (Ij (B:=[]) ha hd hbb false HL hO hM) rfl ?_
        rintro v w5 ⟨u,qu,rfl,PU,RU,-,hx148,HL5⟩
        replace HL:=HL5
        replace hx0:=hx0.trans hx148
        have H:=Ctx.start w5 []
        refine B9 rfl rfl (A3 rfl rfl rfl (A3 rfl rfl rfl (Bj rfl II H ?_)))
        rintro b29 w - H
        refine B5 rfl DL rfl rfl rfl (by simp [Bm]) H at0 rfl ?_
        rintro w H
        refine Ae rfl rfl (Ab (Aa ?_))
        replace H:Ctx w5 [] _ [(b29,Bl 33 (Br u qu))]:=H
        have hb29:=H.get at0
        replace RU:=RU.ext0 H.ext
        refine Af (A2 rfl rfl (A2 rfl rfl ?_))
        replace HL:=HL.call H.ext
        replace hx0:=hx0.trans H.ext
        refine Am rfl LB (Ij (B:=[]) ha hd hbb true HL hO hM) rfl ?_
        rintro v w6 ⟨t,qt,rfl,PT,RT',-,hx154,HL6⟩
        replace HL:=HL6
        replace hx0:=hx0.trans hx154
        replace RU:=RU.ext0 hx154
        replace hb29:=hx154.to hb29 (by simp)
        have H:=Ctx.start w6 []
        refine B9 rfl rfl (A3 rfl rfl rfl (A3 rfl rfl rfl (Bj rfl II H ?_)))
        rintro b31 w - H
        refine B5 rfl DL rfl rfl rfl (by simp [Bm]) H at0 rfl ?_
        rintro w H
        refine Ae rfl rfl (Ab (Aa ?_))
        replace H:Ctx w6 [] _ [(b31,Bl 33 (Br t qt))]:=H
        have hle1:=SV PU PT
        have hle2:=X0 PT
        have hb31:=H.get at0
        replace RU:=RU.ext0 H.ext
        replace RT':=RT'.ext0 H.ext
        replace hb29:=H.ext.to hb29 (by simp)
        replace hx0:=hx0.trans H.ext
        replace HL:=HL.call H.ext
        obtain ⟨w7,rfl⟩:∃ z,z=w:=⟨_,rfl⟩
        clear H
        have AC:=LX.ac (Ctx.in' HL) hO
        have H:=Ctx.start w7 []
        refine CP [([0,1,2,3,4,5,6,7,9],8),([],10),([11,12,13,14],15),([16,17,18,19,21],20),([],22),([23,24],25),([26],27)] (fun z=>Ext [] w7 z) [] B0 (by kernel_rfl) (Ext.drew [] w7) ?_
        refine AU rfl rfl ?_
        refine AS rfl rfl (YX rfl rfl rfl (CU rfl rfl (AS rfl rfl (YX rfl rfl rfl (FY rfl rfl (.bool _) rfl (CU rfl rfl (GJ _ rfl FN DL rfl rfl (fun _ hx=>(Dr (b:=b29) (t:=33) (l:=Br u qu) (hx.to hb29 (by simp)) 0 (Br u qu) rfl)) ?_)))))))
        refine GJ _ rfl FN DL rfl rfl (fun _ hx=>(Dr (b:=b31) (t:=33) (l:=Br t qt) (hx.to hb31 (by simp)) 0 (Br t qt) rfl)) ?_
        refine Ba ?_
        replace H:=H.drew
        refine Am rfl Qw (KU u qu _ (RU.ext0 H.ext) (Ea PU).2.1) rfl ?_
        rintro v w ⟨rfl,hxc⟩
        replace H:=H.call hxc
        refine Ab (BL (H.ext) (AU rfl rfl ?_))
        refine Ba (Am rfl Qw (KU t qt _ (RT'.ext0 H.ext) (Ea PT).2.1) rfl ?_)
        rintro v w ⟨rfl,hxc⟩
        replace H:=H.call hxc
        refine Ab (BL (H.ext) (AU rfl rfl ?_))
        refine YV rfl rfl rfl ?_
        rw [show decide (Hh u≤Hh t)=true from decide_eq_true hle1]
        refine FY rfl rfl (.bool _) rfl (CU rfl rfl (GJ _ rfl FN DL rfl rfl (fun _ hx=>(Dr (b:=b31) (t:=33) (l:=Br t qt) (hx.to hb31 (by simp)) 0 (Br t qt) rfl)) ?_))
        refine Ba (Am rfl Qw (KU t qt _ (RT'.ext0 H.ext) (Ea PT).2.1) rfl ?_)
        rintro v w ⟨rfl,hxc⟩
        replace H:=H.call hxc
        refine Ab (BL (H.ext) (AU rfl rfl ?_))
        refine YV rfl rfl rfl ?_
        rw [show decide (Hh t≤0)=true from decide_eq_true hle2]
        refine FY rfl rfl (.bool _) rfl (CU rfl rfl (Ch rfl rfl (Bi rfl rfl (Ba (Am rfl Qx (Ih ha _ (AC.ext0 H.ext)) rfl ?_)))))
        rintro v w ⟨hx177,a2,c2,rfl,R177⟩
        replace H:=H.call hx177
        refine Ab (BL (H.ext) (AU rfl rfl ?_))
        refine Ba (Am rfl Zd (LM a2 b1 _ c2 _ e1 (acs.map Ce) ds _ R177 rfl (by rw [List.length_map]; omega) (R2.ext0 (hx0.trans H.ext)) rfl (by omega)) rfl ?_)
        rintro v w ⟨rfl,hx179⟩
        replace H:=H.call hx179
        rw [hbb]
        refine Ab (BL (H.ext) (AU rfl rfl ?_))
        refine FY rfl rfl (.bool _) rfl (CU rfl rfl (Ba (Am rfl Jg (DO _) rfl ?_)))
        rintro v w ⟨rfl,hxw⟩
        replace H:=Ctx.call H hxw
        refine Ab (BL (H.ext) (AU rfl rfl ?_))
        refine FY rfl rfl (.bool _) rfl (Ba (Ai rfl rfl (Ab (BL (H.ext) (BO (A8 (AB (v:=(.bool _)) rfl rfl rfl ?_)))))))
        exact ⟨rfl,hx0.trans H.ext⟩
end Go.Proofs.YtapphbmlkdhnmaaGreat

/- SettleTurned: for every input the law answers true, and turns nothing. -/
namespace Go.Proofs.YtapphbmlkdhnmaaGreat
open Go.GV Go.ChangeShapes Go.WideShapes Go.RowKit

set_option maxRecDepth 100000 in
theorem JL (os:Os) (started:os.Started) (H:Type) (enc:TypeId × Value→H) :
  ReturnsInHanded {} Tryz.checked os 5 .any (Rows.settleTurnedSpec.pre6 enc Tryz.prog Tryz.f5 Rows.settleTurnedRow.domain false) (Rows.settleTurnedSpec.post enc Tryz.prog Tryz.f5 false true false false):=by
 refine returnsInHanded_of_change (C:=Tryz.checked) own started (by kernel_rfl) Tryz.func5
  (ChangeSpec.witness6 (enc:=enc) (C:=Tryz.checked) false ⟨#[],#[.slice none 0 0,.slice none 0 0,.int .u64 0,.bool false],[]⟩ 8 (by kernel_rfl) (by kernel_rfl) (by kernel_rfl) (by kernel_rfl)) ?_
 intro W base args ds gs before hval0 hW hcnd _
 have hval:∀ (j:Nat) t v,Tryz.f5.params[j]? = some t→args[j]? = some v→Value.okWide Tryz.prog W .any base t v:=hval0
 have hW':=hW
 obtain ⟨p,q,hA0,hV,rfl,hfz,hnd⟩:=hW
 have hA:DataW.TrodAll enc Tryz.prog W 0 (fun _=>true) true Tryz.f5.params.toList args.toList ds p:=hA0
 rw [Tryz.params5] at hA hval
 obtain ⟨v0,vs0,d0,ds0,p0,q0,hargs,rfl,rfl,h0,r0⟩:=trodAll_cons hA
 obtain ⟨v1,vs1,d1,ds1,p1,q1,rfl,rfl,rfl,h1,r1⟩:=trodAll_cons r0
 obtain ⟨v2,vs2,d2,ds2,p2,q2,rfl,rfl,rfl,h2,r2⟩:=trodAll_cons r1
 obtain ⟨v3,vs3,d3,ds3,p3,q3,rfl,rfl,rfl,h3,r3⟩:=trodAll_cons r2
 obtain ⟨rfl,rfl,rfl⟩:=trodAll_nil r3
 obtain rfl:args=#[v0,v1,v2,v3]:=by cases args; simp_all
 obtain ⟨a0,c0,l0,rfl,R0,H0⟩:=X8 (hval 0 _ v0 rfl rfl) h0
 obtain ⟨a1,c1,l1,rfl,R1,H1⟩:=X9 (hval 1 _ v1 rfl rfl) h1
 obtain ⟨k2,rfl,rfl,rfl,hg2⟩:=open_int Tryz.underlying24 (hval 2 _ v2 rfl rfl) h2
 have hb2:0≤k2∧k2≤18446744073709551615:=HM hg2
 obtain ⟨k3,rfl,rfl,rfl⟩:=open_bool Tryz.underlying4 (hval 3 _ v3 rfl rfl) h3
 refine (LS a0 a1 c0 c1 l0 l1 k2 k3 W R0 R1 ⟨hb2.1,by omega⟩ (fun d hd=>(H1 d hd).1)).calls.mono ?_
 rintro e W' ⟨v,rfl,rfl,hx⟩
 exact ⟨_,rfl,MH PM rfl (by kernel_rfl) rfl Tryz.underlying4 (fun ds h=>match ds,h with | [_,_,_,_],_=>rfl) hW' hx⟩

theorem settleTurned_holds:Rows.SettleTurnedSaid :=
 OpenClaim.holds_of_wide 5 Tryz.f5 rfl rfl rfl rfl rfl rfl rfl ⟨rfl,rfl,rfl,rfl,rfl⟩ rfl rfl rfl rfl rfl (by kernel_rfl) Tryz.func5 (by kernel_rfl)
  (of_decide_eq_true (by kernel_rfl)) (by unfold Func.isWrapper; rw [if_neg (of_decide_eq_false (by kernel_rfl))]; exact ⟨rfl,rfl⟩)
  (fun os started H enc _=>JL os started H enc)
#print axioms settleTurned_holds
end Go.Proofs.YtapphbmlkdhnmaaGreat
