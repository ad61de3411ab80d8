/- Part 14 of the proof. The last text: SettleKeeps: for every input the law answers true, and turns nothing. -/
import Derived.Test.YtapphbmlkdhnmaaGreatPart2
import Derived.Test.YtapphbmlkdhnmaaGreatPart13
import Derived.Test.YtapphbmlkdhnmaaGreatPart3
/- SettleKeeps: what a round keeps. -/
namespace Go.Proofs.YtapphbmlkdhnmaaGreat
open Go.GV
attribute [local irreducible] AL W Wq Wt

/-- The place so far. -/
def Nv (acs:List Ac) (ds:List Du) (k i:Nat):Int:=(acs.getD k a00).ba+CO ((ds.take i).map fun d=>plc k d*d.am)
theorem OR {acs:List Ac} {ds:List Du} {k i:Nat} {d:Du} (h:ds[i]? = some d):Nv acs ds k (i+1)=Nv acs ds k i - (if d.fr=(k:Int) then d.am else 0)+(if d.to=(k:Int) then d.am else 0):=by
 unfold Nv
 rw [Fk h,Gm]
 have h1:CO [plc k d*d.am]=plc k d*d.am:=by rw [CF]; show _+0=_; omega
 rw [h1]
 unfold plc
 by_cases g1:d.to=(k:Int)
 ·rw [ET g1,if_pos g1]
  by_cases g2:d.fr=(k:Int)
  ·rw [ET g2,if_pos g2]; omega
  ·rw [EB g2,if_neg g2]; omega
 ·rw [EB g1,if_neg g1]
  by_cases g2:d.fr=(k:Int)
  ·rw [ET g2,if_pos g2]; omega
  ·rw [EB g2,if_neg g2]; omega
theorem Rq {acs:List Ac} {ds:List Du} {k:Nat} (hb:0≤(acs.getD k a00).ba∧(acs.getD k a00).ba≤4503599627370496) (ham:∀ d∈ds,0≤d.am∧d.am≤4503599627370496):∀ i,i≤ds.length → -(4503599627370496*((i:Int)+1))≤Nv acs ds k i∧Nv acs ds k i≤4503599627370496*((i:Int)+1)
 | 0,_=>by
  have h:Nv acs ds k 0=(acs.getD k a00).ba+0:=rfl
  rw [h]; omega
 | i+1,h=>by
  have ih:=Rq hb ham i (by omega)
  obtain ⟨d,hd⟩:=A0 (l:=ds) (i:=i) (by omega)
  have h1:=ham d (List.mem_of_getElem? hd)
  rw [OR hd]
  split <;> split <;> omega
theorem Nw (a b:Option Addr) (c e:Nat) (acs:List Ac) (ds:List Du) (k:Nat) (w:World) (R:Rd w a 2 CB acs) (R':Rd w b 7 Cf ds) (hk:k<acs.length) (hm:ds.length≤100) (hb:0≤(acs.getD k a00).ba∧(acs.getD k a00).ba≤4503599627370496) (ham:∀ d∈ds,0≤d.am∧d.am≤4503599627370496) :
  Ret Tryz.prog 23 #[.slice a acs.length c,.slice b ds.length e,.int .i64 (k:Int)] w fun v w'=>v = .int .i64 (Ki acs ds k)∧Ext [] w w':=by
 obtain ⟨w0,rfl⟩:∃ w0,w0=w:=⟨_,rfl⟩
 have H:=Ctx.start w0 []
 obtain ⟨ak,hak⟩:=A0 hk
 rw [Bn hak] at hb
 have h0:Nv acs ds k 0=ak.ba:=by
  have:Nv acs ds k 0=(acs.getD k a00).ba+0:=rfl
  rw [this,Bn hak,Int.add_zero]
 refine A9 (fn:=Tryz.f23) Tryz.func23 rfl [.slice a acs.length c,.slice b ds.length e,.int .i64 (k:Int)] rfl (by kernel_rfl) ?_
 refine Af (Ae rfl rfl (Ab (Aa (Af (Aj rfl rfl (Ad rfl rfl (AK R rfl CL Dc rfl rfl (by omega) (by omega) (by rfl) ?_)))))))
 refine Ah rfl EJ rfl (Bb rfl Bt rfl ((R.fld hak rfl (j:=0) rfl)) ?_)
 refine Ae rfl rfl (Ab (Aa (An (Af (Ae rfl rfl (Ab (Aa (Au (Bf 281474976694656 (α:=Nat) (fun i=>[(7,.int .i64 (Nv acs ds k i)),(8,.int .i64 (i:Int))]) (fun i w'=>i≤ds.length∧Ctx w0 [] w' []) (fun i=>ds.length - i) 0 rfl ?_ ?_ ?_)))))))))
 ·exact ⟨by rw [h0]; rfl,rfl,trivial⟩
 ·exact ⟨Nat.zero_le _,H⟩
 ·clear H
  rintro i j w ⟨hi,H⟩
  refine An (Af (Ad rfl rfl (Aj rfl rfl (AV rfl B4 rfl (AZ rfl rfl rfl (Ab (Aa (Aq _ rfl ?_ ?_))))))))
  ·intro h1
   replace h1:=AF h1
   obtain ⟨d,hd⟩:=A0 (l:=ds) (i:=i) (by omega)
   have hbi:=Rq (acs:=acs) (ds:=ds) (k:=k) (by rw [Bn hak]; exact hb) ham i hi
   have hda:=ham d (List.mem_of_getElem? hd)
   have hst:=OR (acs:=acs) (k:=k) hd
   obtain ⟨s,hs⟩:∃ s,s=Nv acs ds k i:=⟨_,rfl⟩
   rw [← hs] at hbi hst ⊢
   obtain ⟨t,ht⟩:∃ t,t=s - (if d.fr=(k:Int) then d.am else 0):=⟨_,rfl⟩
   rw [← ht] at hst
   have htb : -(4503599627370496*((i:Int)+2))≤t∧t≤4503599627370496*((i:Int)+2):=by
    rw [ht]; split <;> omega
   have RD1:=R'.ext0 H.ext
   refine Ao (Aa (An (Au (An (Af (Aj rfl rfl (Ad rfl rfl (AK R' rfl B4 B2 rfl rfl (by omega) (by omega) (by rfl) ?_))))))))
   refine Ah rfl E1 rfl (Bb rfl BV rfl ((RD1.fld hd rfl (j:=1) rfl)) ?_)
   refine Ad rfl rfl (Cu rfl rfl rfl (Ab (Aa (EI 17045651584 (α:=Unit) (fun _=>[(7,.int .i64 t)]) (fun _ w'=>w'=w) rfl ?_ ?_))))
   ·skip
    refine Aq _ rfl ?_ ?_
    ·intro h2
     replace h2:=AF h2
     refine Av (Ad rfl rfl (Aj rfl rfl (Ad rfl rfl (AK R' rfl B4 B2 rfl rfl (by omega) (by omega) (by rfl) ?_))))
     refine Ah rfl Dp rfl (Bb rfl Bt rfl ((RD1.fld hd rfl (j:=3) rfl)) ?_)
     refine Be rfl rfl rfl (by omega) (by omega) ?_
     refine Ae rfl rfl (Ab (Aa ?_))
     exact ⟨(),rfl,⟨congrArg (Value.int .i64) (by rw [ht,if_pos h2]),trivial⟩,rfl⟩
    ·intro h2
     replace h2:=AG h2
     refine Ao (Aa ?_)
     exact ⟨(),rfl,⟨congrArg (Value.int .i64) (by rw [ht,if_neg h2,Int.sub_zero]),trivial⟩,rfl⟩
   ·rintro - j26 w rfl
    refine Af (Aj rfl rfl (Ad rfl rfl (AK R' rfl B4 B2 rfl rfl (by omega) (by omega) (by rfl) ?_)))
    refine Ah rfl E3 rfl (Bb rfl BV rfl ((RD1.fld hd rfl (j:=2) rfl)) ?_)
    refine Ad rfl rfl (Cu rfl rfl rfl (Ab (Aa (Aq _ rfl ?_ ?_))))
    ·intro h3
     replace h3:=AF h3
     refine Av (Ad rfl rfl (Aj rfl rfl (Ad rfl rfl (AK R' rfl B4 B2 rfl rfl (by omega) (by omega) (by rfl) ?_))))
     refine Ah rfl Dp rfl (Bb rfl Bt rfl ((RD1.fld hd rfl (j:=3) rfl)) ?_)
     refine Ap rfl rfl rfl (by omega) (by omega) ?_
     refine Ae rfl rfl (Ab (A5 (Aa (Av (Ad rfl rfl (Ap rfl rfl rfl (by omega) (by omega) ?_))))))
     refine Ae rfl rfl (Ab (Aa ?_))
     exact ⟨i+1,rfl,⟨congrArg (Value.int .i64) (by rw [hst,if_pos h3]),rfl,trivial⟩,⟨by omega,H⟩,by omega⟩
    ·intro h3
     replace h3:=AG h3
     refine Ao (A5 (Aa (Av (Ad rfl rfl (Ap rfl rfl rfl (by omega) (by omega) ?_)))))
     refine Ae rfl rfl (Ab (Aa ?_))
     exact ⟨i+1,rfl,⟨congrArg (Value.int .i64) (by rw [hst,if_neg h3,Int.add_zero]),rfl,trivial⟩,⟨by omega,H⟩,by omega⟩
  ·intro h1
   replace h1:=AG h1
   refine Bc (Ak (Ak (AD (Aa (Af (Ad rfl rfl (Ae rfl rfl (Ab (Aa (A8 (AB (v:=(.int _ _)) rfl rfl rfl ?_)))))))))))
   obtain rfl:i=ds.length:=by omega
   refine ⟨?_,H.ext⟩
   unfold Nv Ki
   rw [List.take_length]
set_option maxRecDepth 20000 in
set_option maxHeartbeats 16000000 in
theorem Nx (a1 b1:Option Addr) (c1 e1:Nat) (acs:List Ac) (ds:List Du) (nx:Int) (net:Bool) (w:World) (R1:Rd w a1 2 CB acs) (R2:Rd w b1 7 Cf ds) (hnx:0≤nx∧nx<18446744073709551616) (hid:∀ d∈ds,0≤d.id∧d.id<18446744073709551616) :
  Ret Tryz.prog 4 #[.slice a1 acs.length c1,.slice b1 ds.length e1,.int .u64 nx,.bool net] w fun v w'=>v = .bool true∧Ext [] w w':=by
 obtain ⟨w0,rfl⟩:∃ w0,w0=w:=⟨_,rfl⟩
 have H:=Ctx.start w0 []
 refine A9 (fn:=Tryz.f4) Tryz.func4 rfl [.slice a1 acs.length c1,.slice b1 ds.length e1,.int .u64 nx,.bool net] rfl (by kernel_rfl) ?_
 refine Af (Ai rfl rfl (Ab (Aa (Af (Aj rfl rfl (Aj rfl rfl (Ad rfl rfl (Am rfl Tu (JI a1 b1 _ c1 _ e1 acs ds nx _ (R1.ext0 H.ext) rfl (R2.ext0 H.ext) rfl hnx hid) rfl ?_))))))))
 rintro v w hB
 obtain ⟨p1,p2,p3,p4,is,rfl,hx27,hB⟩:=BothRes.uni' hB FV
 refine B9 rfl rfl (A3 rfl rfl rfl (A3 rfl rfl rfl (A3 rfl rfl rfl (A3 rfl rfl rfl (A3 rfl rfl rfl (AW rfl rfl (AW rfl rfl (AW rfl rfl (AW rfl rfl ?_)))))))))
 refine Ai rfl rfl (Ab (Aa (An (Af (Aw rfl rfl (B1 rfl rfl (Ab (Aa (Aq _ rfl ?_ ?_)))))))))
 ·intro h2
  replace h2:=Bv h2
  replace H:=H.call hx27
  refine Af (Am rfl Jg (DO _) rfl ?_)
  rintro v w ⟨rfl,hx35⟩
  replace H:=H.call hx35
  refine Ai rfl rfl (Ab (Aa (A8 (Al (AB (v:=(.bool _)) rfl rfl rfl ?_)))))
  exact ⟨rfl,H.ext⟩
 ·intro h2
  replace h2:=Bw h2
  have h2':is=true:=by simpa using h2
  obtain ⟨ha,hd,z,rfl,rfl,rfl,rfl,hz,HL⟩:=hB h2'
  obtain ⟨bx,a,c,full,bd,b,o,ba,ra,rc,rfull,br,ad,cd,fd⟩:=z
  dsimp only [Four.L] at HL ⊢
  obtain ⟨hO,hM,hRO,hRD⟩:=hz
  dsimp only at hO hM hRO hRD
  have hn16:=(Dy.1 ha).1
  have hm64:=(D7.1 hd).1
  replace H:Ctx w0 [] _ ([]++(LX bx a acs.length c full bd b nx o++RX ba ra acs.length rc rfull br ad ds.length cd nx fd)):=H.callEnt HL.ext (fun x hx=>⟨HL.blk x hx,(HL.own x hx).elim (fun h=>by cases h) id⟩) HL.nd
  clear HL
  refine Ao (Aa (An (Af (A2 rfl rfl (CK rfl MO rfl ?_)))))
  refine Aw rfl rfl (A2 rfl rfl (CK rfl K8 rfl ?_))
  refine A6 rfl rfl (.bool _) rfl (Ab (Aa (CJ rfl (Ao (Aa (An (Af (Ae rfl rfl (Ab (Aa (Au (Bf 147573948191629918464 (α:=Nat) (fun i=>[(14,.int .i64 (i:Int))]) (fun i w'=>(i≤ds.length∧∀ (k:Nat) (d:Du),k<i→ds[k]? = some d→d.fr<acs.length∧d.to<acs.length)∧Ctx w0 [] w' ([]++(LX bx a acs.length c full bd b nx o++RX ba ra acs.length rc rfull br ad ds.length cd nx fd))) (fun i=>ds.length - i) 0 rfl ?_ ?_ ?_))))))))))))
  ·exact ⟨rfl,trivial⟩
  ·exact ⟨⟨Nat.zero_le _,fun k d h=>absurd h (Nat.not_lt_zero _)⟩,H⟩
  ·clear H
   rintro i j14 w ⟨⟨hi,hin⟩,H⟩
   refine An (Af (Ad rfl rfl (Aj rfl rfl (AV rfl B4 rfl (AZ rfl rfl rfl (Ab (Aa (Aq _ rfl ?_ ?_))))))))
   ·intro h3
    replace h3:=AF h3
    obtain ⟨d,hdi⟩:=A0 (l:=ds) (i:=i) (by omega)
    have RD1:=R2.ext0 H.ext
    refine Ao (Aa (An (Au (Af (BD (α:=Unit) 73786694819861495808 (fun _=>[(65,.bool ((decide ((acs.length:Int)≤d.fr) || decide ((acs.length:Int)≤d.to))))]) (fun _ w'=>Ctx w0 [] w' ([]++(LX bx a acs.length c full bd b nx o++RX ba ra acs.length rc rfull br ad ds.length cd nx fd))) rfl ?_ ?_)))))
    ·refine Aj rfl rfl (Ad rfl rfl (AK RD1 rfl B4 B2 rfl rfl (by omega) (by omega) (by rfl) ?_))
     refine Ah rfl E1 rfl (Bb rfl BV rfl ((RD1.fld hdi rfl (j:=1) rfl)) ?_)
     refine Aj rfl rfl (AV rfl CL rfl (Cx rfl rfl rfl (Aw rfl rfl (AE 56 rfl ?_ ?_))))
     ·intro h1
      replace h1:=AF h1
      refine Ag rfl (Ag rfl (Ag rfl (Ag rfl (Ag rfl (Ag rfl (Ag rfl (Ag rfl (AA rfl rfl (.bool _) rfl (Ab ?_)))))))))
      exact ⟨rfl,(),rfl,⟨congrArg Value.bool (by rw [Bool.eq_iff_iff]; simp_all; done),trivial⟩,H⟩
     ·intro h2
      replace h2:=AG h2
      refine Aj rfl rfl (Ad rfl rfl (AK RD1 rfl B4 B2 rfl rfl (by omega) (by omega) (by rfl) ?_))
      refine Ah rfl E3 rfl (Bb rfl BV rfl ((RD1.fld hdi rfl (j:=2) rfl)) ?_)
      refine Aj rfl rfl (AV rfl CL rfl (Cx rfl rfl rfl (A6 rfl rfl (.bool _) rfl (Ab ?_))))
      exact ⟨rfl,(),rfl,⟨congrArg Value.bool (by rw [Bool.eq_iff_iff]; simp_all; omega),trivial⟩,H⟩
    rintro - j65 w H
    refine Aq _ rfl ?_ ?_
    ·intro h4
     refine Af (Am rfl Jg (DO _) rfl ?_)
     rintro v w ⟨rfl,hx66⟩
     replace H:=Ctx.call H hx66
     refine Ai rfl rfl (Ab (Aa (A8 (A1 (Al (Al (A1 (Al (AB (v:=(.bool _)) rfl rfl rfl ?_)))))))))
     exact ⟨rfl,H.ext⟩
    ·intro h4
     refine Ao (A5 (Aa (Av (Ad rfl rfl (Ap rfl rfl rfl (by omega) (by omega) ?_)))))
     refine Ae rfl rfl (Ab (Aa ?_))
     simp only [Bool.or_eq_false_iff,decide_eq_false_iff_not,Int.not_le] at h4
     refine ⟨i+1,rfl,⟨rfl,trivial⟩,⟨⟨by omega,fun k d' hk hd'=>?_⟩,H⟩,by omega⟩
     rcases Nat.lt_or_ge k i with h5 | h5
     ·exact hin k d' h5 hd'
     ·obtain rfl:k=i:=by omega
      rw [hdi] at hd'; cases hd'
      exact h4
   ·intro h3
    replace h3:=AG h3
    obtain rfl:i=ds.length:=by omega
    have hB:=Nq ha hd (fun d h=>by
     obtain ⟨k,hk⟩:=List.mem_iff_getElem?.1 h
     exact hin k d (Cr hk) hk)
    have hbb:CD (acs.map Ce) ds=true:=(EV (by omega)).2 hB
    refine Bc (Ak (Ak (AD (Aa (Af (A2 rfl rfl (A2 rfl rfl (Aw rfl rfl (Am rfl L8 (Ij (B:=[]) ha hd hbb net H hO hM) rfl ?_)))))))))
    rintro v w80 ⟨r,q,rfl,P,RA,hoff,hx80,H80⟩
    have H:=Ctx.lend (L2:=[]) (show Ctx w0 [] w80 (([]++(LX bx a acs.length c full bd b nx o++RX ba ra acs.length rc rfull br ad ds.length cd nx fd))++[]) by rw [List.append_nil]; exact H80)
    obtain ⟨S80,hS80⟩:∃ S:List Nat,S=([]++(LX bx a acs.length c full bd b nx o++RX ba ra acs.length rc rfull br ad ds.length cd nx fd)).map (fun x:Nat × Obj=>x.1):=⟨_,rfl⟩
    replace hoff:ROff q r (·∈S80):=by { rw [hS80]; exact hoff }
    rw [← hS80] at H
    replace H:Ctx w80 S80 w80 ([]++(LX bx a acs.length c full bd b nx o++RX ba ra acs.length rc rfull br ad ds.length cd nx fd)):=H
    refine B9 rfl rfl (A3 rfl rfl rfl (A3 rfl rfl rfl (Bj rfl II H ?_)))
    rintro b15 w - H
    refine B5 rfl DL rfl rfl rfl (by simp [Bm]) H at0 rfl ?_
    rintro w H
    refine Ae rfl rfl (Ab (Aa (An ?_)))
    replace H:Ctx w80 S80 _ ((b15,Bl 33 (Br r q))::(LX bx a acs.length c full bd b nx o++RX ba ra acs.length rc rfull br ad ds.length cd nx fd)):=H
    have hfin:∀ (w':World) (L:List (Nat × Obj)),Ctx w80 S80 w' L→Ext [] w0 w':=fun w' L h=>by
     rw [hS80] at h
     exact (Ctx.back (L2:=[]) (show Ctx w0 [] w80 (([]++(LX bx a acs.length c full bd b nx o++RX ba ra acs.length rc rfull br ad ds.length cd nx fd))++[]) by rw [List.append_nil]; exact H80) h).ext
    have hC:=Lt hbb P
    obtain ⟨hai,hdi,hli⟩:=JH (r:=r) ha hd
    have hkeep:=fun (k:Nat) (hk:k<acs.length)=>SN (k:=k) ha hd hC hk
    have hlow:=fun (k:Nat) (x y:Ac) (hx:acs[k]? = some x) (hy:(DY acs ds r)[k]? = some y)=>Xx ha hd hC hx hy
    have hmg:=MgI.start (E6 ha hd hC).pay
    have hleft:Dz acs ds r=DW ds (r.fl.take (opn ds).length):=by unfold Dz; rw [if_pos hC]
    rw [← hleft] at hmg
    rw [P.cmp] at hlow
    obtain ⟨acs9,ha9⟩:∃ z,z=DY acs ds r:=⟨_,rfl⟩
    obtain ⟨ds9,hd9⟩:∃ z,z=Dz acs ds r:=⟨_,rfl⟩
    simp only [← ha9,← hd9] at hai hdi hli hkeep hlow hmg
    have hm9:=(D7.1 hdi).1
    refine Af (Ad rfl rfl (Cp rfl rfl rfl (Aw rfl rfl (A2 rfl rfl (A2 rfl rfl (B6 rfl FN DL rfl H at0 rfl (Am rfl Qt (Ik (B:=[_]) ha hd H hO hM (RA.ext H.ext hoff) (hoff.mono fun x hx=>by { rw [hS80,List.nil_append,List.map_append]; exact List.mem_append_left _ hx }) (Jt P)) rfl ?_)))))))
    rintro v w ⟨rfl,full8,o8,hO8,hM8,-,H8⟩
    rw [hC]
    rw [← ha9] at hO8
    rw [← hd9] at hM8
    rw [← hli] at hO8 H8
    refine Cp rfl rfl rfl (A6 rfl rfl (.bool _) rfl (Ab (Aa (CJ rfl (Ao (Aa ?_))))))
    have HX:Ctx w80 S80 w (LX bx a acs9.length c full8 bd b nx o8):=Ctx.left (Ctx.right (L:=[_]) H8)
    have hbx:=HX.get at0
    have RXa:Rd w a 2 CB acs9:=OS.rd hO8 (fun x hx=>HX.blk x (List.mem_cons_of_mem _ (List.mem_cons_of_mem _ (List.mem_cons_of_mem _ hx)))) (fun _ _=>rfl) (by decide)
    have DU1:DuAt w bd ds9:=LX.du HX hM8
    have hx0w:=hfin _ _ H8
    obtain ⟨w1,rfl⟩:∃ z,z=w:=⟨_,rfl⟩
    have H:=Ctx.start w1 []
    refine Af (A2 rfl rfl (Am rfl NX (Ib (bd:=bx) a _ c acs9 _ (H.ext.to hbx (by simp)) (RXa.ext0 H.ext) rfl (by omega)) rfl ?_))
    rintro v w Fl
    obtain ⟨al,nl,cl,fl7,rfl,Ol,hbl⟩:=Fl.ex
    obtain rfl:=Ol.numN (fun _ _=>rfl) (by decide)
    replace H:=H.call Fl.ext
    have Rl:Rd w al 2 CB acs9:=OS.rd Ol (fun x hx=>(hbl x hx).1) (fun _ _=>rfl) (by decide)
    refine Az rfl rfl (Ab (Aa (Af (A2 rfl rfl (Am rfl K3 (FI hdi _ (DU1.ext0 H.ext)) rfl ?_)))))
    rintro v w ⟨hxd,a3,c3,rfl,Rd3⟩
    replace H:=H.call hxd
    replace Rl:=Rl.ext0 hxd
    refine Az rfl rfl (Ab (Aa (An (Af (Aj rfl rfl (AV rfl CL rfl (Aj rfl rfl (AV rfl CL rfl (Cp rfl rfl rfl ?_)))))))))
    rw [show (!decide ((acs9.length:Int)=(acs.length:Int)))=false from by rw [hli]; simp]
    refine Ab (Aa (CJ rfl (Ao (Aa (An (Af (Ae rfl rfl (Ab (Aa (Au ?_))))))))))
    have hx02:Ext [] w0 w:=hx0w.trans H.ext
    have Ra:=R1.ext0 hx02
    have Rb:=R2.ext0 hx02
    clear hbx RXa DU1 hbl Ol Fl HX H8
    obtain ⟨w2,rfl⟩:∃ z,z=w:=⟨_,rfl⟩
    clear H
    have H:=Ctx.start w2 []
    have ham:∀ d∈ds,0≤d.am∧d.am≤4503599627370496:=TQ hd
    have ham9:∀ d∈ds9,0≤d.am∧d.am≤4503599627370496:=TQ hdi
    have hac:∀ (k:Nat),k<acs.length→0≤(acs.getD k a00).ba∧(acs.getD k a00).ba≤4503599627370496:=fun k hk=>by
     obtain ⟨x,hx⟩:=A0 hk
     rw [Bn hx]
     exact (Ig.1 ((Dy.1 ha).2.1 x (List.mem_of_getElem? hx))).1
    have hac9:∀ (k:Nat),k<acs9.length→0≤(acs9.getD k a00).ba∧(acs9.getD k a00).ba≤4503599627370496:=fun k hk=>by
     obtain ⟨x,hx⟩:=A0 hk
     rw [Bn hx]
     exact (Ig.1 ((Dy.1 hai).2.1 x (List.mem_of_getElem? hx))).1
    refine Bf 178405961588244980180525589039665792452919552 (α:=Nat) (fun k=>[(19,.int .i64 (k:Int))]) (fun k w'=>k≤acs9.length∧Ctx w2 [] w' []) (fun k=>acs9.length - k) 0 rfl ?_ ?_ ?_
    ·exact ⟨rfl,trivial⟩
    ·exact ⟨Nat.zero_le _,H⟩
    ·clear H
     rintro k j19 w ⟨hk,H⟩
     refine An (Af (Ad rfl rfl (Aj rfl rfl (AV rfl CL rfl (AZ rfl rfl rfl (Ab (Aa (Aq _ rfl ?_ ?_))))))))
     ·intro h5
      replace h5:=AF h5
      obtain ⟨x,hx⟩:=A0 (l:=acs) (i:=k) (by omega)
      obtain ⟨y,hy⟩:=A0 (l:=acs9) (i:=k) (by omega)
      obtain ⟨g1,g2,g3⟩:=hlow k x y hx hy
      have hpl:=hkeep k (by omega)
      refine Ao (Aa (An (Au (Af (Aj rfl rfl (Ad rfl rfl (AK Ra rfl CL Dc rfl rfl (by omega) (by omega) (by rfl) ?_)))))))
      refine Cv _ rfl JP Dc rfl rfl (((Ra.ext0 H.ext).row hx rfl)) ?_
      refine Bj rfl Hr H ?_
      rintro b20 w - H
      refine B5 rfl Dc rfl rfl rfl (by simp [Bm]) H at0 rfl ?_
      rintro w H
      refine Ab (Aa ?_)
      obtain ⟨w3,rfl⟩:∃ z,z=w:=⟨_,rfl⟩
      have HG:=H
      have hb20:=HG.get at0
      have H:=Ctx.start w3 []
      refine CP [([0,1,2,4,5,6],3),([],7),([8,9,10,11,12,13,14,15,16,17,18,19,20,21,22,23,24,25,26,27,28,29,30,31,32,33,34,35,36,37,38,39,40,41,42,43],44)] (fun z=>Ext [] w3 z) [] B0 (by kernel_rfl) (Ext.drew [] w3) ?_
      refine AU rfl rfl ?_
      refine Bi rfl rfl (Bi rfl rfl (AS rfl rfl (Bi rfl rfl (Bi rfl rfl (AS rfl rfl (Ba ?_))))))
      replace H:=H.drew
      refine Am rfl Za (Nw al a3 cl c3 acs9 ds9 k _ (Rl.ext0 (HG.ext.trans H.ext)) (Rd3.ext0 (HG.ext.trans H.ext)) (by omega) (by omega) (hac9 k (by omega)) ham9) rfl ?_
      rintro v w ⟨rfl,hx105⟩
      replace H:=H.call hx105
      refine Ab (BL (H.ext) (AU rfl rfl ?_))
      refine Ba (Am rfl Za (Nw a1 b1 c1 e1 acs ds k _ (Ra.ext0 (HG.ext.trans H.ext)) (Rb.ext0 (HG.ext.trans H.ext)) (by omega) (by omega) (hac k (by omega)) ham) rfl ?_)
      rintro v w ⟨rfl,hx109⟩
      replace H:=H.call hx109
      refine Ab (BL (H.ext) (AU rfl rfl ?_))
      refine L5 rfl rfl rfl ?_
      rw [hpl,show (!decide (Ki acs ds k=Ki acs ds k))=false from by simp]
      refine CU rfl rfl (Bi rfl rfl (AS rfl rfl (BT Rl rfl CL Dc rfl rfl (by omega) (by omega) (by rfl) ?_)))
      refine AH rfl EJ rfl (BP rfl Bt rfl (fun _ hx=>(((Rl.ext0 (HG.ext.trans hx))).fld hy rfl (j:=0) rfl)) ?_)
      refine AH rfl EJ rfl (BP rfl Bt rfl (fun _ hx=>(by rw [Ay (hx.to hb20 (by simp))]; rfl)) ?_)
      refine AH rfl Iz rfl (BP rfl Bt rfl (fun _ hx=>(by rw [Ay (hx.to hb20 (by simp))]; rfl)) ?_)
      refine Vr rfl rfl rfl ?_
      refine Tl rfl rfl rfl ?_
      rw [show decide (y.ba<min x.ba x.re)=false from decide_eq_false (by omega)]
      refine G0 rfl rfl (.bool _) rfl (CU rfl rfl (Bi rfl rfl (AS rfl rfl (BT Rl rfl CL Dc rfl rfl (by omega) (by omega) (by rfl) ?_))))
      refine AH rfl Iz rfl (BP rfl Bt rfl (fun _ hx=>(((Rl.ext0 (HG.ext.trans hx))).fld hy rfl (j:=1) rfl)) ?_)
      refine AH rfl Iz rfl (BP rfl Bt rfl (fun _ hx=>(by rw [Ay (hx.to hb20 (by simp))]; rfl)) ?_)
      refine L5 rfl rfl rfl ?_
      rw [show (!decide (y.re=x.re))=false from by rw [g2]; simp]
      refine G0 rfl rfl (.bool _) rfl (CU rfl rfl (CU rfl rfl (CU rfl rfl (GI 136 rfl ?_ ?_))))
      ·intro h6
       refine Bi rfl rfl (AS rfl rfl (BT Rl rfl CL Dc rfl rfl (by omega) (by omega) (by rfl) ?_))
       refine AH rfl EJ rfl (BP rfl Bt rfl (fun _ hx=>(((Rl.ext0 (HG.ext.trans hx))).fld hy rfl (j:=0) rfl)) ?_)
       refine AH rfl EJ rfl (BP rfl Bt rfl (fun _ hx=>(by rw [Ay (hx.to hb20 (by simp))]; rfl)) ?_)
       refine L5 rfl rfl rfl ?_
       rw [show (!decide (y.ba=x.ba))=false from by rw [g3 h6]; simp]
       refine FY rfl rfl (.bool _) rfl (Ba (A6 rfl rfl (.bool _) rfl (Ab (BL (H.ext) (BO (CJ rfl (Ao (A5 (Aa (Av (Ad rfl rfl (Ap rfl rfl rfl (by omega) (by omega) ?_))))))))))))
       refine Ae rfl rfl (Ab (Aa ?_))
       exact ⟨k+1,rfl,⟨rfl,trivial⟩,⟨by omega,(Ctx.start w2 []).call (HG.ext.trans H.ext)⟩,by omega⟩
      ·intro h6
       refine Bq rfl (Bq rfl (Bq rfl (Bq rfl (Bq rfl (Bq rfl (Bq rfl (Bq rfl (G0 rfl rfl (.bool _) rfl (Ba ?_)))))))))
       refine A6 rfl rfl (.bool _) rfl (Ab (BL (H.ext) (BO (CJ rfl (Ao (A5 (Aa (Av (Ad rfl rfl (Ap rfl rfl rfl (by omega) (by omega) ?_))))))))))
       refine Ae rfl rfl (Ab (Aa ?_))
       exact ⟨k+1,rfl,⟨rfl,trivial⟩,⟨by omega,(Ctx.start w2 []).call (HG.ext.trans H.ext)⟩,by omega⟩
     ·intro h5
      replace h5:=AG h5
      have hs:(ds.map (·.id)).Pairwise (·<·):=(Js (D7.1 hd).2.2.1).2.1
      refine Bc (Ak (Ak (AD (Aa (Af (Ae rfl rfl (Ab (Aa (An (Af (Ae rfl rfl (Ab (Aa (Au (Bf 26328072917139296674301100959329363094591488103956090921536192768 (α:=Nat × Nat) (fun t=>[(22,.int .i64 (t.1:Int)),(21,.int .i64 (t.2:Int))]) (fun t w'=>(t.1≤ds.length∧MgI ds ds9 t.1 t.2)∧Ctx w2 [] w' []) (fun t=>ds.length - t.1) (0,0) rfl ?_ ?_ ?_)))))))))))))))
      ·exact ⟨rfl,rfl,trivial⟩
      ·exact ⟨⟨Nat.zero_le _,hmg⟩,H⟩
      ·clear H
       rintro ⟨i,j⟩ j22 w ⟨⟨hi,hMg⟩,H⟩; dsimp only at hi hMg H; dsimp only
       refine An (Af (Ad rfl rfl (Aj rfl rfl (AV rfl B4 rfl (AZ rfl rfl rfl (Ab (Aa (Aq _ rfl ?_ ?_))))))))
       ·intro h6
        replace h6:=AF h6
        obtain ⟨d,hdi'⟩:=A0 (l:=ds) (i:=i) (by omega)
        have hpos:=(Mi hd (List.mem_of_getElem? hdi')).2.2.2.1
        refine Ao (Aa (An (Au ?_)))
        rcases MgI.step hs hMg hdi' hpos with ⟨e,he,hide,hle,hge,hhe,hMg'⟩ | ⟨hfree,hne,hMg'⟩
        ·skip
         have hjl:=Cr he
         refine DE (fun x=>x=_) B0 (by kernel_rfl) rfl ?_
         refine AP rfl rfl (Bx rfl rfl (Vm rfl B4 rfl (IH rfl rfl rfl ?_)))
         rw [show decide ((j:Int)<(ds9.length:Int))=true from decide_eq_true (by omega)]
         refine CW rfl rfl (Bx rfl rfl (AP rfl rfl (Bs Rd3 rfl B4 B2 rfl rfl (by omega) (by omega) (by rfl) ?_)))
         refine A7 rfl Dw rfl (BR rfl BK rfl (by rintro _ rfl; exact (((Rd3.ext0 H.drew.ext).fld he rfl (j:=0) rfl))) ?_)
         refine Bx rfl rfl (AP rfl rfl (Bs Rb rfl B4 B2 rfl rfl (by omega) (by omega) (by rfl) ?_))
         refine A7 rfl Dw rfl (BR rfl BK rfl (by rintro _ rfl; exact (((Rb.ext0 H.drew.ext).fld hdi' rfl (j:=0) rfl))) ?_)
         refine Th rfl rfl rfl ?_
         rw [show decide (e.id=d.id)=true from decide_eq_true hide]
         refine FX rfl rfl (.bool _) rfl (BJ ?_)
         rintro _ rfl
         replace H:=H.drew
         refine Dj rfl (An (DE (fun x=>x=_) B0 (by kernel_rfl) rfl ?_))
         refine Bx rfl rfl (AP rfl rfl (Bs Rd3 rfl B4 B2 rfl rfl (by omega) (by omega) (by rfl) ?_))
         refine A7 rfl Dp rfl (BR rfl Bt rfl (by rintro _ rfl; exact (((Rd3.ext0 H.drew.ext).fld he rfl (j:=3) rfl))) ?_)
         refine Bx rfl rfl (AP rfl rfl (Bs Rb rfl B4 B2 rfl rfl (by omega) (by omega) (by rfl) ?_))
         refine A7 rfl Dp rfl (BR rfl Bt rfl (by rintro _ rfl; exact (((Rb.ext0 H.drew.ext).fld hdi' rfl (j:=3) rfl))) ?_)
         refine PY rfl rfl rfl ?_
         rw [show decide (e.am>d.am)=false from decide_eq_false (by omega)]
         refine CW rfl rfl (Bx rfl rfl (AP rfl rfl (Bs Rd3 rfl B4 B2 rfl rfl (by omega) (by omega) (by rfl) ?_)))
         refine A7 rfl Dp rfl (BR rfl Bt rfl (by rintro _ rfl; exact (((Rd3.ext0 H.drew.ext).fld he rfl (j:=3) rfl))) ?_)
         refine IH rfl rfl rfl ?_
         rw [show decide (e.am<1)=false from decide_eq_false (by omega)]
         refine Gz rfl rfl (.bool _) rfl (CW rfl rfl (Bx rfl rfl (AP rfl rfl (Bs Rb rfl B4 B2 rfl rfl (by omega) (by omega) (by rfl) ?_))))
         refine A7 rfl Iy rfl (BR rfl Jf rfl (by rintro _ rfl; exact (((Rb.ext0 H.drew.ext).fld hdi' rfl (j:=6) rfl))) ?_)
         refine CW rfl rfl (Dg 195 rfl ?_ ?_)
         ·intro h7
          refine Bx rfl rfl (AP rfl rfl (Bs Rd3 rfl B4 B2 rfl rfl (by omega) (by omega) (by rfl) ?_))
          refine FM _ rfl E7 B2 rfl rfl (by rintro _ rfl; exact (((Rd3.ext0 H.drew.ext).row he rfl))) ?_
          refine Bx rfl rfl (AP rfl rfl (Bs Rb rfl B4 B2 rfl rfl (by omega) (by omega) (by rfl) ?_))
          refine FM _ rfl E7 B2 rfl rfl (by rintro _ rfl; exact (((Rb.ext0 H.drew.ext).row hdi' rfl))) ?_
          refine Qq (ks:=[true,true,true,true,true,true,false]) (xs:=Cf e) (ys:=Cf d) (decide (e=d)) rfl (by kernel_rfl) rfl rfl ⟨rfl,rfl,rfl,rfl,rfl,rfl,True.intro,True.intro⟩ (QO e d) ?_
          rw [show decide (e=d)=true from decide_eq_true (hhe h7)]
          refine FX rfl rfl (.bool _) rfl (Gz rfl rfl (.bool _) rfl (BJ ?_))
          rintro _ rfl
          replace H:=H.drew
          refine CJ rfl (Ao (Aa (Av (Ad rfl rfl (Ap rfl rfl rfl (by omega) (by omega) ?_)))))
          refine Ae rfl rfl (Ab (A5 (Aa (Av (Ad rfl rfl (Ap rfl rfl rfl (by omega) (by omega) ?_))))))
          refine Ae rfl rfl (Ab (Aa ?_))
          exact ⟨(i+1,j+1),rfl,⟨rfl,rfl,trivial⟩,⟨⟨by dsimp only; omega,hMg'⟩,H⟩,by dsimp only; omega⟩
         ·intro h7
          refine Ax rfl (Ax rfl (Ax rfl (Ax rfl (Ax rfl (Ax rfl (Ax rfl (Ax rfl (Ax rfl (Gz rfl rfl (.bool _) rfl ?_)))))))))
          refine Gz rfl rfl (.bool _) rfl (BJ ?_)
          rintro _ rfl
          replace H:=H.drew
          refine CJ rfl (Ao (Aa (Av (Ad rfl rfl (Ap rfl rfl rfl (by omega) (by omega) ?_)))))
          refine Ae rfl rfl (Ab (A5 (Aa (Av (Ad rfl rfl (Ap rfl rfl rfl (by omega) (by omega) ?_))))))
          refine Ae rfl rfl (Ab (Aa ?_))
          exact ⟨(i+1,j+1),rfl,⟨rfl,rfl,trivial⟩,⟨⟨by dsimp only; omega,hMg'⟩,H⟩,by dsimp only; omega⟩
        ·skip
         refine DE (fun x=>x=_) B0 (by kernel_rfl) rfl ?_
         refine AP rfl rfl (Bx rfl rfl (Vm rfl B4 rfl (IH rfl rfl rfl (CW rfl rfl (Dg 157 rfl ?_ ?_)))))
         ·intro h7
          replace h7:=AF h7
          obtain ⟨e,he⟩:=A0 (l:=ds9) (i:=j) (by omega)
          have hje:=Cr he
          refine Bx rfl rfl (AP rfl rfl (Bs Rd3 rfl B4 B2 rfl rfl (by omega) (by omega) (by rfl) ?_))
          refine A7 rfl Dw rfl (BR rfl BK rfl (by rintro _ rfl; exact (((Rd3.ext0 H.drew.ext).fld he rfl (j:=0) rfl))) ?_)
          refine Bx rfl rfl (AP rfl rfl (Bs Rb rfl B4 B2 rfl rfl (by omega) (by omega) (by rfl) ?_))
          refine A7 rfl Dw rfl (BR rfl BK rfl (by rintro _ rfl; exact (((Rb.ext0 H.drew.ext).fld hdi' rfl (j:=0) rfl))) ?_)
          refine Th rfl rfl rfl ?_
          rw [show decide (e.id=d.id)=false from decide_eq_false (hne e he)]
          refine FX rfl rfl (.bool _) rfl (BJ ?_)
          rintro _ rfl
          replace H:=H.drew
          refine CJ rfl (Af (Aj rfl rfl (Ad rfl rfl (AK Rb rfl B4 B2 rfl rfl (by omega) (by omega) (by rfl) ?_))))
          refine Ah rfl Iy rfl (Bb rfl Jf rfl ((Rb.ext0 H.ext).fld hdi' rfl (j:=6) rfl) ?_)
          rw [hfree]
          refine Ab (Aa (CJ rfl (Ao (A5 (Aa (Av (Ad rfl rfl (Ap rfl rfl rfl (by omega) (by omega) ?_))))))))
          refine Ae rfl rfl (Ab (Aa ?_))
          exact ⟨(i+1,j),rfl,⟨rfl,rfl,trivial⟩,⟨⟨by dsimp only; omega,hMg'⟩,H⟩,by dsimp only; omega⟩
         ·intro h7
          replace h7:=AG h7
          refine Ax rfl (Ax rfl (Ax rfl (Ax rfl (Ax rfl (Ax rfl (Ax rfl (Ax rfl (Ax rfl (Ax rfl ?_)))))))))
          refine Ax rfl (Gz rfl rfl (.bool _) rfl (BJ ?_))
          rintro _ rfl
          replace H:=H.drew
          refine CJ rfl (Af (Aj rfl rfl (Ad rfl rfl (AK Rb rfl B4 B2 rfl rfl (by omega) (by omega) (by rfl) ?_))))
          refine Ah rfl Iy rfl (Bb rfl Jf rfl ((Rb.ext0 H.ext).fld hdi' rfl (j:=6) rfl) ?_)
          rw [hfree]
          refine Ab (Aa (CJ rfl (Ao (A5 (Aa (Av (Ad rfl rfl (Ap rfl rfl rfl (by omega) (by omega) ?_))))))))
          refine Ae rfl rfl (Ab (Aa ?_))
          exact ⟨(i+1,j),rfl,⟨rfl,rfl,trivial⟩,⟨⟨by dsimp only; omega,hMg'⟩,H⟩,by dsimp only; omega⟩
       ·intro h6
        replace h6:=AG h6
        obtain rfl:i=ds.length:=by omega
        have hend:=hMg.ends
        refine Bc (Ak (Ak (AD (Aa (Af (Ad rfl rfl (Aj rfl rfl (AV rfl B4 rfl (Cu rfl rfl rfl ?_)))))))))
        rw [show decide ((j:Int)=(ds9.length:Int))=true from decide_eq_true (by omega)]
        refine Aw rfl rfl (Am rfl Jg (DO _) rfl ?_)
        rintro v w ⟨rfl,hx219⟩
        replace H:=Ctx.call H hx219
        refine AA rfl rfl (.bool _) rfl (Ai rfl rfl (Ab (Aa (A8 (AB (v:=(.bool _)) rfl rfl rfl ?_)))))
        exact ⟨rfl,hx02.trans H.ext⟩
end Go.Proofs.YtapphbmlkdhnmaaGreat

/- SettleKeeps: for every input the law answers true, and turns nothing. -/
namespace Go.Proofs.YtapphbmlkdhnmaaGreat
open Go.GV Go.ChangeShapes Go.WideShapes Go.RowKit

set_option maxRecDepth 100000 in
theorem Kj (os:Os) (started:os.Started) (H:Type) (enc:TypeId × Value→H) :
  ReturnsInHanded {} Tryz.checked os 4 .any (Rows.settleKeepsSpec.pre6 enc Tryz.prog Tryz.f4 Rows.settleKeepsRow.domain false) (Rows.settleKeepsSpec.post enc Tryz.prog Tryz.f4 false true false false):=by
 refine returnsInHanded_of_change (C:=Tryz.checked) own started (by kernel_rfl) Tryz.func4
  (ChangeSpec.witness6 (enc:=enc) (C:=Tryz.checked) false ⟨#[],#[.slice none 0 0,.slice none 0 0,.int .u64 0,.bool false],[]⟩ 8 (by kernel_rfl) (by kernel_rfl) (by kernel_rfl) (by kernel_rfl)) ?_
 intro W base args ds gs before hval0 hW hcnd _
 have hval:∀ (j:Nat) t v,Tryz.f4.params[j]? = some t→args[j]? = some v→Value.okWide Tryz.prog W .any base t v:=hval0
 have hW':=hW
 obtain ⟨p,q,hA0,hV,rfl,hfz,hnd⟩:=hW
 have hA:DataW.TrodAll enc Tryz.prog W 0 (fun _=>true) true Tryz.f4.params.toList args.toList ds p:=hA0
 rw [Tryz.params4] at hA hval
 obtain ⟨v0,vs0,d0,ds0,p0,q0,hargs,rfl,rfl,h0,r0⟩:=trodAll_cons hA
 obtain ⟨v1,vs1,d1,ds1,p1,q1,rfl,rfl,rfl,h1,r1⟩:=trodAll_cons r0
 obtain ⟨v2,vs2,d2,ds2,p2,q2,rfl,rfl,rfl,h2,r2⟩:=trodAll_cons r1
 obtain ⟨v3,vs3,d3,ds3,p3,q3,rfl,rfl,rfl,h3,r3⟩:=trodAll_cons r2
 obtain ⟨rfl,rfl,rfl⟩:=trodAll_nil r3
 obtain rfl:args=#[v0,v1,v2,v3]:=by cases args; simp_all
 obtain ⟨a0,c0,l0,rfl,R0,H0⟩:=X6 (hval 0 _ v0 rfl rfl) h0
 obtain ⟨a1,c1,l1,rfl,R1,H1⟩:=X7 (hval 1 _ v1 rfl rfl) h1
 obtain ⟨k2,rfl,rfl,rfl,hg2⟩:=open_int Tryz.underlying24 (hval 2 _ v2 rfl rfl) h2
 have hb2:0≤k2∧k2≤18446744073709551615:=HM hg2
 obtain ⟨k3,rfl,rfl,rfl⟩:=open_bool Tryz.underlying4 (hval 3 _ v3 rfl rfl) h3
 refine (Nx a0 a1 c0 c1 l0 l1 k2 k3 W R0 R1 ⟨hb2.1,by omega⟩ (fun d hd=>(H1 d hd).1)).calls.mono ?_
 rintro e W' ⟨v,rfl,rfl,hx⟩
 exact ⟨_,rfl,MF PK rfl (by kernel_rfl) rfl Tryz.underlying4 (fun ds h=>match ds,h with | [_,_,_,_],_=>rfl) hW' hx⟩

theorem settleKeeps_holds:Rows.SettleKeepsSaid :=
 OpenClaim.holds_of_wide 4 Tryz.f4 rfl rfl rfl rfl rfl rfl rfl ⟨rfl,rfl,rfl,rfl,rfl⟩ rfl rfl rfl rfl rfl (by kernel_rfl) Tryz.func4 (by kernel_rfl)
  (of_decide_eq_true (by kernel_rfl)) (by unfold Func.isWrapper; rw [if_neg (of_decide_eq_false (by kernel_rfl))]; exact ⟨rfl,rfl⟩)
  (fun os started H enc _=>Kj os started H enc)
#print axioms settleKeeps_holds
end Go.Proofs.YtapphbmlkdhnmaaGreat
