/- Part 14 of the proof. The last text: SettlePlays: for every input the law answers true, and turns nothing. -/
import Derived.Test.YtapphbmlkdhnmaaGreatPart2
import Derived.Test.YtapphbmlkdhnmaaGreatPart13
import Derived.Test.YtapphbmlkdhnmaaGreatPart3
/- SettlePlays: a plan is the net of now with an accepted proof; any round is applied as the reference does. -/
namespace Go.Proofs.YtapphbmlkdhnmaaGreat
open Go.GV
attribute [local irreducible] AL W Wq Wt

def NetI (w0:World) (rs:List Int) (ds:List Du) (net:Bool) (z:NowZ) (w:World):Prop :=
 Ext [] w0 w∧w.heap[z.b]? = some (Bl 28 [.int .i64 z.N,.slice z.aE z.nE z.cE])∧SM w rs ds net z.N z.aE z.nE (.slice z.aI z.nI z.cI) z.code∧w0.heap.size≤z.b
abbrev encZ (p:Rnd × RSl):List Value:=Br p.1 p.2
structure LpZ where
 i:Nat
 acs:List Ac
 ds:List Du
 full:List Value
 o:Obj
 rfull:List Value
 ad:Option Addr
 cd:Nat
 fd:List Value
structure LpI (w9:World) (S9:List Nat) (B:List (Nat × Obj)) (bx:Nat) (a:Option Addr) (n c:Nat) (bd b:Nat) (nx:Int) (ba:Nat) (ra:Option Addr) (rc br:Nat) (z:LpZ) (w:World):Prop where
 i:z.i≤3
 ha:DB z.acs=0
 hd:ofC z.ds nx=0
 n:z.acs.length=n
 O:OS a z.acs.length c 2 z.full (z.acs.flatMap CB)
 M:D8 .u64 (dm z.ds) z.o
 RO:OS ra z.acs.length rc 2 z.rfull (z.acs.flatMap CB)
 RD:OS z.ad z.ds.length z.cd 7 z.fd (z.ds.flatMap Cf)
 H:Ctx w9 S9 w (B++(LX bx a z.acs.length c z.full bd b nx z.o++RX ba ra z.acs.length rc z.rfull br z.ad z.ds.length z.cd nx z.fd))
set_option maxRecDepth 20000 in
set_option maxHeartbeats 16000000 in
theorem Ny (a1 b1:Option Addr) (c1 e1:Nat) (acs:List Ac) (ds:List Du) (nx:Int) (net:Bool) (raw:Rnd) (qr:RSl) (w:World) (R1:Rd w a1 2 CB acs) (R2:Rd w b1 7 Cf ds) (hnx:0≤nx∧nx<18446744073709551616) (hid:∀ d∈ds,0≤d.id∧d.id<18446744073709551616) (RAw:RAt w raw qr) (hN:I64 raw.N) :
  Ret Tryz.prog 3 #[.slice a1 acs.length c1,.slice b1 ds.length e1,.int .u64 nx,.bool net,.agg (Br raw qr).toArray] w fun v w'=>v = .bool true∧Ext [] w w':=by
 obtain ⟨w0,rfl⟩:∃ w0,w0=w:=⟨_,rfl⟩
 have H:=Ctx.start w0 []
 refine A9 (fn:=Tryz.f3) Tryz.func3 rfl [.slice a1 acs.length c1,.slice b1 ds.length e1,.int .u64 nx,.bool net,.agg (Br raw qr).toArray] rfl (by kernel_rfl) ?_
 refine Af (BC rfl (Br raw qr) (.agg _) rfl rfl H ?_)
 rintro b9 w - H
 refine Ai rfl rfl (Ab (Aa (An (Af (BD (α:=Unit) 72057594004373504 (fun _=>[(55,.bool (((((decide (300<raw.es.length) || decide (300<raw.fl.length)) || decide (100<raw.pot.length)) || decide (300<raw.ids.length)) || decide (100<raw.N))))]) (fun _ w'=>Ctx w0 [] w' [(b9,Bl 33 (Br raw qr))]) rfl ?_ ?_)))))
 ·refine Ah rfl FD rfl (Ah rfl Cc rfl (AN rfl Dh rfl H at0 rfl (AV rfl C0 rfl (Ck rfl rfl rfl (Aw rfl rfl (AE 30 rfl ?_ ?_))))))
  ·intro h1
   replace h1:=AF h1
   refine Ag rfl (Ag rfl (Ag rfl (Ag rfl (Ag rfl (AA rfl rfl (.bool _) rfl (Aw rfl rfl (Ag rfl (Ag rfl (Ag rfl ?_)))))))))
   refine Ag rfl (Ag rfl (AA rfl rfl (.bool _) rfl (Aw rfl rfl (Ag rfl (Ag rfl (Ag rfl (Ag rfl (AA rfl rfl (.bool _) rfl (Aw rfl rfl ?_)))))))))
   refine Ag rfl (Ag rfl (Ag rfl (Ag rfl (AA rfl rfl (.bool _) rfl (Ab ?_)))))
   exact ⟨rfl,(),rfl,⟨congrArg Value.bool (by rw [Bool.eq_iff_iff]; simp_all; omega),trivial⟩,H⟩
  ·intro h2
   replace h2:=AG h2
   refine Ah rfl FE rfl (Ah rfl FC rfl (AN rfl BX rfl H at0 rfl (AV rfl AO rfl (Ck rfl rfl rfl (A6 rfl rfl (.bool _) rfl (Aw rfl rfl (AE 37 rfl ?_ ?_)))))))
   ·intro h3
    replace h3:=AF h3
    refine Ag rfl (Ag rfl (Ag rfl (Ag rfl (Ag rfl (AA rfl rfl (.bool _) rfl (Aw rfl rfl (Ag rfl (Ag rfl (Ag rfl ?_)))))))))
    refine Ag rfl (AA rfl rfl (.bool _) rfl (Aw rfl rfl (Ag rfl (Ag rfl (Ag rfl (Ag rfl (AA rfl rfl (.bool _) rfl (Ab ?_))))))))
    exact ⟨rfl,(),rfl,⟨congrArg Value.bool (by rw [Bool.eq_iff_iff]; simp_all; omega),trivial⟩,H⟩
   ·intro h4
    replace h4:=AG h4
    refine Ah rfl FE rfl (Ah rfl K6 rfl (AN rfl BX rfl H at0 rfl (AV rfl AO rfl (Ck rfl rfl rfl (A6 rfl rfl (.bool _) rfl (Aw rfl rfl (AE 44 rfl ?_ ?_)))))))
    ·intro h5
     replace h5:=AF h5
     refine Ag rfl (Ag rfl (Ag rfl (Ag rfl (AA rfl rfl (.bool _) rfl (Aw rfl rfl (Ag rfl (Ag rfl (Ag rfl (Ag rfl ?_)))))))))
     refine AA rfl rfl (.bool _) rfl (Ab ?_)
     exact ⟨rfl,(),rfl,⟨congrArg Value.bool (by rw [Bool.eq_iff_iff]; simp_all; omega),trivial⟩,H⟩
    ·intro h6
     replace h6:=AG h6
     refine Ah rfl Ix rfl (AN rfl Kz rfl H at0 rfl (AV rfl Bz rfl (Ck rfl rfl rfl (A6 rfl rfl (.bool _) rfl (Aw rfl rfl (AE 50 rfl ?_ ?_))))))
     ·intro h7
      replace h7:=AF h7
      refine Ag rfl (Ag rfl (Ag rfl (Ag rfl (AA rfl rfl (.bool _) rfl (Ab ?_)))))
      exact ⟨rfl,(),rfl,⟨congrArg Value.bool (by rw [Bool.eq_iff_iff]; simp_all; omega),trivial⟩,H⟩
     ·intro h8
      replace h8:=AG h8
      refine Ah rfl FD rfl (Ah rfl D5 rfl (AN rfl BV rfl H at0 rfl (Ck rfl rfl rfl (A6 rfl rfl (.bool _) rfl (Ab ?_)))))
      exact ⟨rfl,(),rfl,⟨congrArg Value.bool (by rw [Bool.eq_iff_iff]; simp_all; omega),trivial⟩,H⟩
 rintro - j55 w H
 refine Aq _ rfl ?_ ?_
 ·intro h1
  refine Af (Am rfl Jg (DO _) rfl ?_)
  rintro v w ⟨rfl,hx56⟩
  replace H:=H.call hx56
  refine Ai rfl rfl (Ab (Aa (A8 (Al (AB (v:=(.bool _)) rfl rfl rfl ?_)))))
  exact ⟨rfl,H.ext⟩
 ·intro h1
  simp only [Bool.or_eq_false_iff,decide_eq_false_iff_not,Nat.not_lt,Int.not_lt] at h1
  obtain ⟨⟨⟨⟨h1e,h1f⟩,h1p⟩,h1i⟩,h1N⟩:=h1
  have hraw:RBnd raw:=⟨hN,by omega,by omega,by omega,by omega⟩
  refine Ao (Aa (Af (Aj rfl rfl (Aj rfl rfl (Ad rfl rfl (Am rfl Tu (JI a1 b1 _ c1 _ e1 acs ds nx _ (R1.ext0 H.ext) rfl (R2.ext0 H.ext) rfl hnx hid) rfl ?_))))))
  rintro v w hB
  obtain ⟨p1,p2,p3,p4,is,rfl,hx61,hB⟩:=BothRes.uni' hB FV
  refine B9 rfl rfl (A3 rfl rfl rfl (A3 rfl rfl rfl (A3 rfl rfl rfl (A3 rfl rfl rfl (A3 rfl rfl rfl (AW rfl rfl (AW rfl rfl (AW rfl rfl (AW rfl rfl ?_)))))))))
  refine Ai rfl rfl (Ab (Aa (An (Af (Aw rfl rfl (B1 rfl rfl (Ab (Aa (Aq _ rfl ?_ ?_)))))))))
  ·intro h2
   replace h2:=Bv h2
   replace H:=H.call hx61
   refine Af (Am rfl Jg (DO _) rfl ?_)
   rintro v w ⟨rfl,hx69⟩
   replace H:=H.call hx69
   refine Ai rfl rfl (Ab (Aa (A8 (Al (AB (v:=(.bool _)) rfl rfl rfl ?_)))))
   exact ⟨rfl,H.ext⟩
  ·intro h2
   replace h2:=Bw h2
   have h2':is=true:=by simpa using h2
   obtain ⟨ha,hd,z,rfl,rfl,rfl,rfl,hz,HL⟩:=hB h2'
   obtain ⟨bx,a,c,full,bd,b,o,ba,ra,rc,rfull,br,ad,cd,fd⟩:=z
   dsimp only [Four.L] at HL ⊢
   obtain ⟨hO,hM,hRO,hRD⟩:=hz
   dsimp only at hO hM hRO hRD
   have hn16:=(Dy.1 ha).1
   have hm64:=(D7.1 hd).1
   replace H:=H.callEnt HL.ext (fun x hx=>⟨HL.blk x hx,(HL.own x hx).elim (fun h=>by cases h) id⟩) HL.nd
   clear HL
   obtain ⟨rs,hrs⟩:∃ rs,rs=acs.map Ce:=⟨_,rfl⟩
   have hrl:rs.length=acs.length:=by rw [hrs,List.length_map]
   refine Ao (Aa (An (Af (A2 rfl rfl (CK rfl MO rfl ?_)))))
   refine Aw rfl rfl (A2 rfl rfl (CK rfl K8 rfl ?_))
   refine A6 rfl rfl (.bool _) rfl (Ab (Aa (CJ rfl (Ao (Aa (Af (A2 rfl rfl (A2 rfl rfl (Aw rfl rfl (Am rfl L8 (OO (B:=[_]) ha hd net H hO hM) rfl ?_))))))))))
   rintro v w80 ⟨r,q,code,rfl,hP,hx80⟩
   have H80:=H.call hx80
   have H:=Ctx.lend (L2:=[]) (show Ctx w0 [] w80 (([(b9,Bl 33 (Br raw qr))]++(LX bx a acs.length c full bd b nx o++RX ba ra acs.length rc rfull br ad ds.length cd nx fd))++[]) by rw [List.append_nil]; exact H80)
   obtain ⟨S80,hS80⟩:∃ S:List Nat,S=([(b9,Bl 33 (Br raw qr))]++(LX bx a acs.length c full bd b nx o++RX ba ra acs.length rc rfull br ad ds.length cd nx fd)).map (fun x:Nat × Obj=>x.1):=⟨_,rfl⟩
   rw [← hS80] at H hP
   replace H:Ctx w80 S80 w80 ([(b9,Bl 33 (Br raw qr))]++(LX bx a acs.length c full bd b nx o++RX ba ra acs.length rc rfull br ad ds.length cd nx fd)):=H
   refine B9 rfl rfl (A3 rfl rfl rfl (A3 rfl rfl rfl (Bj rfl II H ?_)))
   rintro b16 w - H
   refine B5 rfl DL rfl rfl rfl (by simp [Bm]) H at0 rfl ?_
   rintro w H
   refine Ae rfl rfl (Ab (Aa ?_))
   replace H:Ctx w80 S80 _ ([(b16,Bl 33 (Br r q)),(b9,Bl 33 (Br raw qr))]++(LX bx a acs.length c full bd b nx o++RX ba ra acs.length rc rfull br ad ds.length cd nx fd)):=H
   have hfin:∀ (w':World) (L:List (Nat × Obj)),Ctx w80 S80 w' L→Ext [] w0 w':=fun w' L h=>by
    rw [hS80] at h
    exact (Ctx.back (L2:=[]) (show Ctx w0 [] w80 (([(b9,Bl 33 (Br raw qr))]++(LX bx a acs.length c full bd b nx o++RX ba ra acs.length rc rfull br ad ds.length cd nx fd))++[]) by rw [List.append_nil]; exact H80) h).ext
   have H5:=H
   have HR:=(Ctx.right (L:=[_,_]) H).right
   have AR:=RX.ac HR hRO
   have hbr:=HR.get at1
   have RRd:=OS.rd hRD (fun x hx=>HR.blk x (List.mem_cons_of_mem _ (List.mem_cons_of_mem _ (List.mem_append_left _ hx)))) (fun _ _=>rfl) (by decide)
   obtain ⟨w5,rfl⟩:∃ z,z=w:=⟨_,rfl⟩
   refine El 39604409850575251763376160768 (α:=NowZ) (fun z=>[(18,ptr z.b),(19,.slice z.aI z.nI z.cI),(20,.int .i64 z.code)]) (NetI w5 rs ds net) rfl ?_ ?_
   ·skip
    clear H
    refine Tf (.two [0,2,3,4,5,6] 1 (.two [] 7 (.one [8,9,10,11] 12 (.one [] 13 (.one [] 14 (.one [] 15 .stop)))) 12 (.one [] 7 (.one [8,9,10,11] 13 (.one [] 14 (.one [] 15 .stop))))) 12 (.one [] 1 (.one [] 7 (.one [8,9,10,11] 13 (.one [] 14 (.one [] 15 .stop)))))) (fun z=>Ext [] w5 z) B0 (by kernel_rfl) (Ext.drew [] w5) ?_
    refine IY rfl rfl rfl ?_
    refine Ch rfl rfl (Ch rfl rfl (B3 rfl rfl (AH rfl Ec rfl (BP rfl Gw rfl (fun _ hx=>(by rw [Ay (hx.to hbr (by simp))]; rfl)) ?_))))
    refine CU rfl rfl (Ba ?_)
    have E:=Ext.drew [] w5
    refine ⟨?_,?_⟩
    ·skip
     refine Am rfl Tv (IE ha _ (AR.ext0 E)) rfl ?_
     rintro v w ⟨hx85,a2,c2,rfl,R2⟩
     rw [← hrs] at R2 ⊢
     replace E:=E.trans hx85
     refine Ab (Ci (by exact E) ?_)
     refine IY rfl rfl rfl ?_
     refine Ba ?_
     refine ⟨?_,?_⟩
     ·skip
      refine Am rfl NW (F5 a2 ad _ c2 _ cd rs ds net _ R2 rfl (by omega) (RRd.ext0 E) rfl (by omega)) rfl ?_
      rintro v w hR
      obtain ⟨hx91,N,aE,nE,cE,aI,nI,cI,code',rfl,hU⟩:=hR.uni
      replace E:=E.trans hx91
      refine Ab (Ci (by exact E) ?_)
      refine Cg rfl rfl ?_
      refine Fo rfl rfl (BM rfl rfl rfl (BM rfl rfl rfl (BM rfl rfl rfl (Ba ?_))))
      have H:=Ctx.start w []
      refine Bj rfl FO H ?_
      rintro b18 w - H
      refine Ab (Ci (by exact E.trans H.ext) ?_)
      refine Cg rfl rfl ?_
      refine Ba (B5 rfl BQ rfl rfl rfl (by simp [Bm]) H at0 rfl ?_)
      rintro w H
      refine Ab (Ci (by exact E.trans H.ext) ?_)
      refine Cg rfl rfl ?_
      refine Ba (Az rfl rfl (Ab (Ci (by exact E.trans H.ext) ?_)))
      refine Cg rfl rfl ?_
      refine Ba (Ae rfl rfl (Ab (Ci (by exact E.trans H.ext) ?_)))
      refine Fm ?_
      refine Aa ?_
      exact ⟨⟨b18,N,aE,nE,cE,aI,nI,cI,code'⟩,rfl,⟨rfl,rfl,rfl,trivial⟩,E.trans H.ext,H.get at0,hU [] _ (by simp) H.ext,Nat.le_trans E.size ((H.own _ (List.mem_cons_self ..)).elim (fun h=>by cases h) id)⟩
     ·skip
      have H:=Ctx.start w []
      refine Bj rfl FO H ?_
      rintro b18 w - H
      have hn7:w5.heap.size≤b18:=Nat.le_trans E.size ((H.own _ (List.mem_cons_self ..)).elim (fun h=>by cases h) id)
      replace E:=E.trans H.ext
      have hb18:=H.get at0
      replace R2:=R2.ext0 H.ext
      refine Ab (Ci (by exact E) ?_)
      refine Cg rfl rfl ?_
      refine Ba ?_
      have hl7:=Bp hb18
      refine Am rfl NW (F5 a2 ad _ c2 _ cd rs ds net _ R2 rfl (by omega) (RRd.ext0 E) rfl (by omega)) rfl ?_
      rintro v w hR
      obtain ⟨hx91,N,aE,nE,cE,aI,nI,cI,code',rfl,hU⟩:=hR.uni
      replace E:=E.trans hx91
      replace hb18:=hx91.to hb18 (by simp)
      have H:=Ctx.start1 hb18
      refine Ab (Ci (by exact E) ?_)
      refine Cg rfl rfl ?_
      refine Fo rfl rfl (BM rfl rfl rfl (BM rfl rfl rfl (BM rfl rfl rfl (Ba (B5 rfl BQ rfl rfl rfl (by simp [Bm]) H at0 rfl ?_)))))
      rintro w H
      refine Ab (Ci (by exact E.then H.ext (fun x hx => .inr (by rw [List.mem_singleton.1 hx]; exact hn7))) ?_)
      refine Cg rfl rfl ?_
      refine Ba (Az rfl rfl (Ab (Ci (by exact E.then H.ext (fun x hx => .inr (by rw [List.mem_singleton.1 hx]; exact hn7))) ?_)))
      refine Cg rfl rfl ?_
      refine Ba (Ae rfl rfl (Ab (Ci (by exact E.then H.ext (fun x hx => .inr (by rw [List.mem_singleton.1 hx]; exact hn7))) ?_)))
      refine Fm ?_
      refine Aa ?_
      have E2:=E.then H.ext fun x hx => .inr (by rw [List.mem_singleton.1 hx]; exact hn7)
      exact ⟨⟨b18,N,aE,nE,cE,aI,nI,cI,code'⟩,rfl,⟨rfl,rfl,rfl,trivial⟩,E2,H.get at0,hU [b18] _ (by simpa using hl7) H.ext,hn7⟩
    ·skip
     have H:=Ctx.start (World.drew w5) []
     refine Bj rfl FO H ?_
     rintro b18 w - H
     have hn7:w5.heap.size≤b18:=Nat.le_trans E.size ((H.own _ (List.mem_cons_self ..)).elim (fun h=>by cases h) id)
     replace E:=E.trans H.ext
     have hb18:=H.get at0
     refine Ab (Ci (by exact E) ?_)
     refine Cg rfl rfl ?_
     refine Ba (Am rfl Tv (IE ha _ (AR.ext0 E)) rfl ?_)
     rintro v w ⟨hx85,a2,c2,rfl,R2⟩
     rw [← hrs] at R2 ⊢
     replace E:=E.trans hx85
     replace hb18:=hx85.to hb18 (by simp)
     refine Ab (Ci (by exact E) ?_)
     refine Cg rfl rfl ?_
     refine Ba ?_
     have hl7:=Bp hb18
     refine Am rfl NW (F5 a2 ad _ c2 _ cd rs ds net _ R2 rfl (by omega) (RRd.ext0 E) rfl (by omega)) rfl ?_
     rintro v w hR
     obtain ⟨hx91,N,aE,nE,cE,aI,nI,cI,code',rfl,hU⟩:=hR.uni
     replace E:=E.trans hx91
     replace hb18:=hx91.to hb18 (by simp)
     have H:=Ctx.start1 hb18
     refine Ab (Ci (by exact E) ?_)
     refine Cg rfl rfl ?_
     refine Fo rfl rfl (BM rfl rfl rfl (BM rfl rfl rfl (BM rfl rfl rfl (Ba (B5 rfl BQ rfl rfl rfl (by simp [Bm]) H at0 rfl ?_)))))
     rintro w H
     refine Ab (Ci (by exact E.then H.ext (fun x hx => .inr (by rw [List.mem_singleton.1 hx]; exact hn7))) ?_)
     refine Cg rfl rfl ?_
     refine Ba (Az rfl rfl (Ab (Ci (by exact E.then H.ext (fun x hx => .inr (by rw [List.mem_singleton.1 hx]; exact hn7))) ?_)))
     refine Cg rfl rfl ?_
     refine Ba (Ae rfl rfl (Ab (Ci (by exact E.then H.ext (fun x hx => .inr (by rw [List.mem_singleton.1 hx]; exact hn7))) ?_)))
     refine Fm ?_
     refine Aa ?_
     have E2:=E.then H.ext fun x hx => .inr (by rw [List.mem_singleton.1 hx]; exact hn7)
     exact ⟨⟨b18,N,aE,nE,cE,aI,nI,cI,code'⟩,rfl,⟨rfl,rfl,rfl,trivial⟩,E2,H.get at0,hU [b18] _ (by simpa using hl7) H.ext,hn7⟩
   ·rintro ⟨b18,N,aE,nE,cE,aI,nI,cI,code'⟩ j1 w ⟨hx9,hb18,hU,hn18⟩; dsimp only at hx9 hb18 hU hn18; dsimp only
    clear HR AR hbr RRd
    replace H:Ctx w80 S80 _ ([(b18,Bl 28 [.int .i64 N,.slice aE nE cE]),(b16,Bl 33 (Br r q)),(b9,Bl 33 (Br raw qr))]++(LX bx a acs.length c full bd b nx o++RX ba ra acs.length rc rfull br ad ds.length cd nx fd)):=(H5.call hx9).add hb18 (.inr (Nat.le_trans H5.size hn18)) (fun x hx=>by have:=Bp (H5.blk x hx); omega)
    rcases hP with ⟨hbb,rfl⟩ | ⟨hbb,rfl,P,RA,hoff⟩
    ·skip
     obtain rfl:code'=1:=by
      rcases hU with ⟨-,h,-⟩ | ⟨h,-⟩
      ·exact h
      ·rw [hrs,hbb] at h; cases h
     obtain ⟨w1,rfl⟩:∃ z,z=w:=⟨_,rfl⟩
     have HG:=H
     have HX:=(Ctx.right (L:=[_,_,_]) H).left
     have HR:=(Ctx.right (L:=[_,_,_]) H).right
     have hbx:=HX.get at0
     have hba:=HR.get at0
     have hbr:=HR.get at1
     have RXa:Rd w1 a 2 CB acs:=OS.rd hO (fun x hx=>HX.blk x (List.mem_cons_of_mem _ (List.mem_cons_of_mem _ (List.mem_cons_of_mem _ hx)))) (fun _ _=>rfl) (by decide)
     have RRa:Rd w1 ra 2 CB acs:=OS.rd hRO (fun x hx=>HR.blk x (List.mem_cons_of_mem _ (List.mem_cons_of_mem _ (List.mem_append_right _ hx)))) (fun _ _=>rfl) (by decide)
     have RRd:Rd w1 ad 7 Cf ds:=OS.rd hRD (fun x hx=>HR.blk x (List.mem_cons_of_mem _ (List.mem_cons_of_mem _ (List.mem_append_left _ hx)))) (fun _ _=>rfl) (by decide)
     have DU1:DuAt w1 bd ds:=LX.du HX hM
     have H:=Ctx.start w1 []
     refine An (CP [([0,1,2,3,4,6,7,8,9],5),([],10),([11,12,13,14,16,17,18,19],15),([],20),([21],22)] (fun z=>Ext [] w1 z) [] B0 (by kernel_rfl) (Ext.drew [] w1) ?_)
     refine AU rfl rfl ?_
     refine AS rfl rfl (AS rfl rfl (L5 rfl rfl rfl (CU rfl rfl (Ch rfl rfl (Ch rfl rfl (B3 rfl rfl (AH rfl FG rfl (BP rfl GK rfl (fun _ hx=>(by rw [Ay (hx.to hba (by simp))]; rfl)) ?_))))))))
     refine Ba ?_
     replace H:=H.drew
     refine Am rfl NX (Ib (bd:=bx) a _ c acs _ (H.ext.to hbx (by simp)) (RXa.ext0 H.ext) rfl (by omega)) rfl ?_
     rintro v w Fl
     obtain ⟨al,nl,cl,fl7,rfl,Ol,hbl⟩:=Fl.ex
     obtain rfl:=Ol.numN (fun _ _=>rfl) (by decide)
     replace H:=H.call Fl.ext
     have Rl:Rd w al 2 CB acs:=OS.rd Ol (fun x hx=>(hbl x hx).1) (fun _ _=>rfl) (by decide)
     refine Ab (BL (H.ext) (AU rfl rfl ?_))
     refine Ba (Am rfl V9 (Lr al ra _ cl _ rc acs acs _ (Rl.ext0 (Ext.refl _ _)) rfl (by omega) (RRa.ext0 H.ext) rfl (by omega)) rfl ?_)
     rintro v w ⟨rfl,hxs⟩
     replace H:=H.call hxs
     rw [show decide (acs=acs)=true from decide_eq_true rfl]
     refine Ab (BL (H.ext) (AU rfl rfl ?_))
     refine M6 rfl rfl (G0 rfl rfl (.bool _) rfl (CU rfl rfl (Ch rfl rfl (Ch rfl rfl (B3 rfl rfl (AH rfl Ec rfl (BP rfl Gw rfl (fun _ hx=>(by rw [Ay (hx.to hbr (by simp))]; rfl)) ?_)))))))
     refine Ba (Am rfl K3 (FI hd _ (DU1.ext0 H.ext)) rfl ?_)
     rintro v w ⟨hxd,a3,c3,rfl,Rd3⟩
     replace H:=H.call hxd
     refine Ab (BL (H.ext) (AU rfl rfl ?_))
     refine Ba (Am rfl VE (Ls a3 ad _ c3 _ cd ds ds _ Rd3 rfl (by omega) (RRd.ext0 H.ext) rfl (by omega)) rfl ?_)
     rintro v w ⟨rfl,hxs⟩
     replace H:=H.call hxs
     rw [show decide (ds=ds)=true from decide_eq_true rfl]
     refine Ab (BL (H.ext) (AU rfl rfl ?_))
     refine M6 rfl rfl (Ba (A6 rfl rfl (.bool _) rfl (Ab (BL (H.ext) (BO (CJ rfl (Ao (Aa (An ?_)))))))))
     have H:=HG.call H.ext
     refine Af (Ad rfl rfl (Cp rfl rfl rfl (Ab (Aa (Dj rfl (Af (Am rfl Jg (DO _) rfl ?_)))))))
     rintro v w ⟨rfl,hx120⟩
     replace H:=H.call hx120
     refine Ai rfl rfl (Ab (Aa (A8 (Al (AB (v:=(.bool _)) rfl rfl rfl ?_)))))
     exact ⟨rfl,hfin _ _ H⟩
    ·skip
     rcases hU with ⟨h,-⟩ | ⟨-,rfl,hNN,hnE,RE,aI',cI',hI,RI⟩
     ·rw [hrs,hbb] at h; cases h
     cases hI
     obtain rfl:N=r.N:=by rw [hNN,P.N,hrl]
     have hes:BF rs (opn ds) net=r.es:=by rw [P.es,hrs]
     rw [hes] at hnE RE
     subst hnE
     have hr:=Jt P
     obtain ⟨w1,rfl⟩:∃ z,z=w:=⟨_,rfl⟩
     have HG:=H
     have HX:=(Ctx.right (L:=[_,_,_]) H).left
     have HR:=(Ctx.right (L:=[_,_,_]) H).right
     have hbx:=HX.get at0
     have hba:=HR.get at0
     have hbr:=HR.get at1
     have RXa:Rd w1 a 2 CB acs:=OS.rd hO (fun x hx=>HX.blk x (List.mem_cons_of_mem _ (List.mem_cons_of_mem _ (List.mem_cons_of_mem _ hx)))) (fun _ _=>rfl) (by decide)
     have RRa:Rd w1 ra 2 CB acs:=OS.rd hRO (fun x hx=>HR.blk x (List.mem_cons_of_mem _ (List.mem_cons_of_mem _ (List.mem_append_right _ hx)))) (fun _ _=>rfl) (by decide)
     have RRd:Rd w1 ad 7 Cf ds:=OS.rd hRD (fun x hx=>HR.blk x (List.mem_cons_of_mem _ (List.mem_cons_of_mem _ (List.mem_append_left _ hx)))) (fun _ _=>rfl) (by decide)
     have DU1:DuAt w1 bd ds:=LX.du HX hM
     have H:=Ctx.start w1 []
     refine An (CP [([0,1,2,3,4,6,7,8,9],5),([],10),([11,12,13,14,16,17,18,19],15),([],20),([21],22)] (fun z=>Ext [] w1 z) [] B0 (by kernel_rfl) (Ext.drew [] w1) ?_)
     refine AU rfl rfl ?_
     refine AS rfl rfl (AS rfl rfl (L5 rfl rfl rfl (CU rfl rfl (Ch rfl rfl (Ch rfl rfl (B3 rfl rfl (AH rfl FG rfl (BP rfl GK rfl (fun _ hx=>(by rw [Ay (hx.to hba (by simp))]; rfl)) ?_))))))))
     refine Ba ?_
     replace H:=H.drew
     refine Am rfl NX (Ib (bd:=bx) a _ c acs _ (H.ext.to hbx (by simp)) (RXa.ext0 H.ext) rfl (by omega)) rfl ?_
     rintro v w Fl
     obtain ⟨al,nl,cl,fl7,rfl,Ol,hbl⟩:=Fl.ex
     obtain rfl:=Ol.numN (fun _ _=>rfl) (by decide)
     replace H:=H.call Fl.ext
     have Rl:Rd w al 2 CB acs:=OS.rd Ol (fun x hx=>(hbl x hx).1) (fun _ _=>rfl) (by decide)
     refine Ab (BL (H.ext) (AU rfl rfl ?_))
     refine Ba (Am rfl V9 (Lr al ra _ cl _ rc acs acs _ (Rl.ext0 (Ext.refl _ _)) rfl (by omega) (RRa.ext0 H.ext) rfl (by omega)) rfl ?_)
     rintro v w ⟨rfl,hxs⟩
     replace H:=H.call hxs
     rw [show decide (acs=acs)=true from decide_eq_true rfl]
     refine Ab (BL (H.ext) (AU rfl rfl ?_))
     refine M6 rfl rfl (G0 rfl rfl (.bool _) rfl (CU rfl rfl (Ch rfl rfl (Ch rfl rfl (B3 rfl rfl (AH rfl Ec rfl (BP rfl Gw rfl (fun _ hx=>(by rw [Ay (hx.to hbr (by simp))]; rfl)) ?_)))))))
     refine Ba (Am rfl K3 (FI hd _ (DU1.ext0 H.ext)) rfl ?_)
     rintro v w ⟨hxd,a3,c3,rfl,Rd3⟩
     replace H:=H.call hxd
     refine Ab (BL (H.ext) (AU rfl rfl ?_))
     refine Ba (Am rfl VE (Ls a3 ad _ c3 _ cd ds ds _ Rd3 rfl (by omega) (RRd.ext0 H.ext) rfl (by omega)) rfl ?_)
     rintro v w ⟨rfl,hxs⟩
     replace H:=H.call hxs
     rw [show decide (ds=ds)=true from decide_eq_true rfl]
     refine Ab (BL (H.ext) (AU rfl rfl ?_))
     refine M6 rfl rfl (Ba (A6 rfl rfl (.bool _) rfl (Ab (BL (H.ext) (BO (CJ rfl (Ao (Aa (An ?_)))))))))
     have hxw:=H.ext
     have H:Ctx w80 S80 _ ((b18,Bl 28 [.int .i64 r.N,.slice aE r.es.length cE])::(b16,Bl 33 (Br r q))::(b9,Bl 33 (Br raw qr))::(LX bx a acs.length c full bd b nx o++RX ba ra acs.length rc rfull br ad ds.length cd nx fd)):=HG.call hxw
     have REw:=RE.ext0 hxw
     obtain ⟨w10,rfl⟩:∃ z,z=w:=⟨_,rfl⟩
     have hre:∀ (w':World),Ctx w80 S80 w' ((b18,Bl 28 [.int .i64 r.N,.slice aE r.es.length cE])::(b16,Bl 33 (Br r q))::(b9,Bl 33 (Br raw qr))::(LX bx a acs.length c full bd b nx o++RX ba ra acs.length rc rfull br ad ds.length cd nx fd))→RAt w' r q:=fun w' h=>RA.ext h.ext hoff
     refine Af (Ad rfl rfl (Cp rfl rfl rfl (Ab (Aa (CJ rfl (Ao (Aa (An (Af (Ah rfl XP rfl (AN rfl BK rfl H at1 rfl ?_)))))))))))
     refine Cp rfl rfl rfl ?_
     rw [P.no]
     refine Aw rfl rfl (Ah rfl XQ rfl (AN rfl Bt rfl H at1 rfl (Cp rfl rfl rfl ?_)))
     rw [P.day]
     refine A6 rfl rfl (.bool _) rfl (Aw rfl rfl (Ah rfl LY rfl (AN rfl Jf rfl H at1 rfl (Aw rfl rfl (XJ un_4 rfl rfl rfl ?_)))))
     rw [P.cmp,show (!(net == net))=false from by simp]
     refine A6 rfl rfl (.bool _) rfl (Aw rfl rfl (Ah rfl FD rfl (Cv _ rfl Cm BQ rfl rfl ((Dr (b:=b16) (t:=33) (l:=Br r q) (H.get at1) 4 [.int .i64 r.N,.slice q.aE r.es.length q.cE] rfl)) ?_)))
     refine Cv _ rfl Cm BQ rfl rfl ((Dr (b:=b18) (t:=28) (l:=[.int .i64 r.N,.slice aE r.es.length cE]) (H.get at0) 0 [.int .i64 r.N,.slice aE r.es.length cE] rfl)) ?_
     refine Am rfl YY (Nu r.N r.N q.aE aE _ q.cE _ cE r.es r.es _ (hre _ H).E rfl hr.es REw rfl hr.es) rfl ?_
     rintro v w ⟨rfl,hx139⟩
     replace H:=H.call hx139
     rw [show Nt r.N r.N r.es r.es=true from by unfold Nt; simp]
     replace REw:=REw.ext0 hx139
     refine B1 rfl rfl (A6 rfl rfl (.bool _) rfl (Aw rfl rfl (Ah rfl Ix rfl (AN rfl Kz rfl H at1 rfl (AV rfl Bz rfl (Aj rfl rfl (AV rfl Bz rfl (Cp rfl rfl rfl ?_))))))))
     rw [show (!decide ((r.ids.length:Int)=(((opn ds).map Du.id).length:Int)))=false from by rw [P.ids]; simp]
     refine A6 rfl rfl (.bool _) rfl (Aw rfl rfl (Cv _ rfl Cm BQ rfl rfl ((Dr (b:=b18) (t:=28) (l:=[.int .i64 r.N,.slice aE r.es.length cE]) (H.get at0) 0 [.int .i64 r.N,.slice aE r.es.length cE] rfl)) ?_))
     refine Ah rfl FE rfl (Cv _ rfl NV LA rfl rfl ((Dr (b:=b16) (t:=33) (l:=Br r q) (H.get at1) 6 [.slice q.aF r.fl.length q.cF,.slice q.aP r.pot.length q.cP] rfl)) ?_)
     refine Am rfl YZ (LL r.N aE q.aF q.aP _ cE _ q.cF _ q.cP r.es r.fl r.pot _ REw rfl hr.es (hre _ H).F rfl hr.fl (hre _ H).P rfl hr.pot) rfl ?_
     rintro v w ⟨rfl,hx154⟩
     replace H:=H.call hx154
     rw [P.chk]
     refine B1 rfl rfl (A6 rfl rfl (.bool _) rfl (Ab (Aa (CJ rfl (Ao (Aa (Af (B6 rfl FN DL rfl H at2 rfl (B6 rfl FN DL rfl H at1 rfl (B6 rfl FN DL rfl H at1 rfl (J0 (Br raw qr++(Br r q++Br r q)) rfl Tx DL II (by decide) (by decide) (by kernel_rfl) H ?_)))))))))))
     rintro b160 w - H
     refine Az rfl rfl (Ab (Aa (An (Af (Ae rfl rfl (Ab (Aa (Au ?_))))))))
     clear hre REw
     have hraw0:ROff qr raw (fun x=>x∈S80∨w80.heap.size≤x):=(RAw.lt).mono fun x hx=>by
      rcases hx with hx | hx
      ·rw [hS80] at hx
       obtain ⟨y,hy,rfl⟩:=List.mem_map.1 hx
       exact (H80.own y hy).elim (fun h=>by cases h) id
      ·exact Nat.le_trans H80.size hx
     have hZ:∀ p∈[(raw,qr),(r,q),(r,q)],RBnd p.1∧RAt w80 p.1 p.2∧ROff p.2 p.1 (fun x=>x∈S80∨w80.heap.size≤x):=fun p hp=>by
      simp only [List.mem_cons,List.not_mem_nil,or_false] at hp
      rcases hp with rfl | rfl | rfl
      ·exact ⟨hraw,RAw.ext0 H80.ext,hraw0⟩
      ·exact ⟨hr,RA,hoff.or RA.lt⟩
      ·exact ⟨hr,RA,hoff.or RA.lt⟩
     refine Bf 25711008708140921405396731671622194270689815334485373529097216 (α:=LpZ) (fun t=>[(22,.int .i64 (t.i:Int))]) (fun t w'=>LpI w80 S80 [(b160,Bl 33 (Br raw qr++(Br r q++Br r q))),(b18,Bl 28 [.int .i64 r.N,.slice aE r.es.length cE]),(b16,Bl 33 (Br r q)),(b9,Bl 33 (Br raw qr))] bx a acs.length c bd b nx ba ra rc br t w') (fun t=>3 - t.i) ⟨0,acs,ds,full,o,rfull,ad,cd,fd⟩ rfl ?_ ?_ ?_
     ·exact ⟨rfl,trivial⟩
     ·exact ⟨Nat.zero_le _,ha,hd,rfl,hO,hM,hRO,hRD,H⟩
     ·clear H hO hM hRO hRD ha hd hn16 hm64
      rintro ⟨i,acs7,ds7,full7,o7,rfull7,ad7,cd7,fd7⟩ jj w ⟨hi,ha,hd,hln,hO,hM,hRO,hRD,H⟩; dsimp only at hi ha hd hln hO hM hRO hRD H; dsimp only
      have hn16:=(Dy.1 ha).1
      have hm64:=(D7.1 hd).1
      rw [← hln]
      refine An (Af (Ad rfl rfl (Aj rfl rfl (AV rfl Tx rfl (AZ rfl rfl rfl (Ab (Aa (Aq _ rfl ?_ ?_))))))))
      ·intro h3
       replace h3:=AF h3
       obtain ⟨⟨rr,qq⟩,hz⟩:=A0 (l:=[(raw,qr),(r,q),(r,q)]) (i:=i) (show i<3 by omega)
       obtain ⟨hbz,hRz,hoz⟩:=hZ _ (List.mem_of_getElem? hz)
       dsimp only at hbz hRz hoz
       obtain ⟨hai,hdi,hli⟩:=JH (r:=rr) ha hd
       obtain ⟨cc,hcc⟩:∃ cc,cc=De acs7 ds7 rr:=⟨_,rfl⟩
       obtain ⟨acs9,ha9⟩:∃ z,z=DY acs7 ds7 rr:=⟨_,rfl⟩
       obtain ⟨ds9,hd9⟩:∃ z,z=Dz acs7 ds7 rr:=⟨_,rfl⟩
       rw [← ha9] at hai hli
       rw [← hd9] at hdi
       have hm9:=(D7.1 hdi).1
       refine Ao (Aa (An (Au (Af (A2 rfl rfl (A2 rfl rfl (Aj rfl rfl (Ad rfl rfl (Bg rfl Tx DL rfl rfl (by omega) (by omega) ?_)))))))))
       refine Cv _ rfl FN DL rfl rfl (((Rd.of_bl (xs:=[(raw,qr),(r,q),(r,q)]) (enc:=encZ) (H.blk _ (List.mem_cons_self ..)) (r:=[]) rfl (fun _ _=>rfl)).row hz rfl)) ?_
       refine Am rfl Qt (Ik (B:=[_,_,_,_]) ha hd H hO hM (hRz.ext H.ext (hoz.mono fun _ => .inl)) (hoz.mono fun x hx=>by obtain ⟨y,hy,rfl⟩:=List.mem_map.1 hx; exact H.own y (List.mem_append_right _ (List.mem_append_left _ hy))) hbz) rfl ?_
       rintro v w ⟨rfl,full8,o8,hO8,hM8,-,H8⟩
       rw [← hcc]
       rw [← ha9] at hO8
       rw [← hd9] at hM8
       have H:=H8
       refine Ae rfl rfl (Ab (Aa (Af (A2 rfl rfl (A2 rfl rfl (Aj rfl rfl (Ad rfl rfl (Bg rfl Tx DL rfl rfl (by omega) (by omega) ?_))))))))
       refine Cv _ rfl FN DL rfl rfl (((Rd.of_bl (xs:=[(raw,qr),(r,q),(r,q)]) (enc:=encZ) (H.blk _ (List.mem_cons_self ..)) (r:=[]) rfl (fun _ _=>rfl)).row hz rfl)) ?_
       have H9:Ctx w80 S80 _ (([(b160,Bl 33 (Br raw qr++(Br r q++Br r q))),(b18,Bl 28 [.int .i64 r.N,.slice aE r.es.length cE]),(b16,Bl 33 (Br r q)),(b9,Bl 33 (Br raw qr))]++LX bx a acs7.length c full8 bd b nx o8)++(RX ba ra acs7.length rc rfull7 br ad7 ds7.length cd7 nx fd7++[])):=by { rw [List.append_nil,List.append_assoc]; exact H }
       refine Am rfl ca_22 (PJ ha hd H9 hRO hRD (hRz.ext H.ext (hoz.mono fun _ => .inl)) (hoz.mono fun x hx=>by obtain ⟨y,hy,rfl⟩:=List.mem_map.1 hx; exact H.own y (List.mem_append_right _ (List.mem_append_right _ hy))) hbz) rfl ?_
       rintro v w ⟨rfl,rfull9,ad9,cd9,fd9,hRO9,hRD9,-,H10⟩
       rw [← hcc]
       rw [← ha9] at hRO9
       rw [← hd9] at hRD9 H10
       rw [← hli] at hO8 hRO9 H10
       rw [List.append_nil,List.append_assoc] at H10
       have H:=H10
       clear H8 H9 H10
       refine Ae rfl rfl (Ab (Aa ?_))
       obtain ⟨w1,rfl⟩:∃ z,z=w:=⟨_,rfl⟩
       have HG:=H
       have HX:=(Ctx.right (L:=[_,_,_,_]) H).left
       have HR:=(Ctx.right (L:=[_,_,_,_]) H).right
       have hbx:=HX.get at0
       have hba:=HR.get at0
       have hbr:=HR.get at1
       have RXa:Rd w1 a 2 CB acs9:=OS.rd hO8 (fun x hx=>HX.blk x (List.mem_cons_of_mem _ (List.mem_cons_of_mem _ (List.mem_cons_of_mem _ hx)))) (fun _ _=>rfl) (by decide)
       have RRa:Rd w1 ra 2 CB acs9:=OS.rd hRO9 (fun x hx=>HR.blk x (List.mem_cons_of_mem _ (List.mem_cons_of_mem _ (List.mem_append_right _ hx)))) (fun _ _=>rfl) (by decide)
       have RRd:Rd w1 ad9 7 Cf ds9:=OS.rd hRD9 (fun x hx=>HR.blk x (List.mem_cons_of_mem _ (List.mem_cons_of_mem _ (List.mem_append_left _ hx)))) (fun _ _=>rfl) (by decide)
       have DU1:DuAt w1 bd ds9:=LX.du HX hM8
       have H:=Ctx.start w1 []
       refine CP [([0,1,2,3,4,6,7,8,9],5),([],10),([11,12,13,14,16,17,18,19],15),([],20),([21],22)] (fun z=>Ext [] w1 z) [] B0 (by kernel_rfl) (Ext.drew [] w1) ?_
       refine AU rfl rfl ?_
       refine AS rfl rfl (AS rfl rfl (L5 rfl rfl rfl ?_))
       rw [show (!decide (cc=cc))=false from by simp]
       refine CU rfl rfl (Ch rfl rfl (Ch rfl rfl (B3 rfl rfl (AH rfl FG rfl (BP rfl GK rfl (fun _ hx=>(by rw [Ay (hx.to hba (by simp))]; rfl)) ?_)))))
       refine Ba ?_
       replace H:=H.drew
       refine Am rfl NX (Ib (bd:=bx) a _ c acs9 _ (H.ext.to hbx (by simp)) (RXa.ext0 H.ext) rfl (by omega)) rfl ?_
       rintro v w Fl
       obtain ⟨al,nl,cl,fl7,rfl,Ol,hbl⟩:=Fl.ex
       obtain rfl:=Ol.numN (fun _ _=>rfl) (by decide)
       replace H:=H.call Fl.ext
       have Rl:Rd w al 2 CB acs9:=OS.rd Ol (fun x hx=>(hbl x hx).1) (fun _ _=>rfl) (by decide)
       refine Ab (BL (H.ext) (AU rfl rfl ?_))
       refine Ba (Am rfl V9 (Lr al ra _ cl _ rc acs9 acs9 _ (Rl.ext0 (Ext.refl _ _)) rfl (by omega) (RRa.ext0 H.ext) rfl (by omega)) rfl ?_)
       rintro v w ⟨rfl,hxs⟩
       replace H:=H.call hxs
       rw [show decide (acs9=acs9)=true from decide_eq_true rfl]
       refine Ab (BL (H.ext) (AU rfl rfl ?_))
       refine M6 rfl rfl (G0 rfl rfl (.bool _) rfl (CU rfl rfl (Ch rfl rfl (Ch rfl rfl (B3 rfl rfl (AH rfl Ec rfl (BP rfl Gw rfl (fun _ hx=>(by rw [Ay (hx.to hbr (by simp))]; rfl)) ?_)))))))
       refine Ba (Am rfl K3 (FI hdi _ (DU1.ext0 H.ext)) rfl ?_)
       rintro v w ⟨hxd,a3,c3,rfl,Rd3⟩
       replace H:=H.call hxd
       refine Ab (BL (H.ext) (AU rfl rfl ?_))
       refine Ba (Am rfl VE (Ls a3 ad9 _ c3 _ cd9 ds9 ds9 _ Rd3 rfl (by omega) (RRd.ext0 H.ext) rfl (by omega)) rfl ?_)
       rintro v w ⟨rfl,hxs⟩
       replace H:=H.call hxs
       rw [show decide (ds9=ds9)=true from decide_eq_true rfl]
       refine Ab (BL (H.ext) (AU rfl rfl ?_))
       refine M6 rfl rfl (Ba (A6 rfl rfl (.bool _) rfl (Ab (BL (H.ext) (BO (CJ rfl (Ao (A5 (Aa (Av (Ad rfl rfl (Ap rfl rfl rfl (by omega) (by omega) ?_))))))))))))
       refine Ae rfl rfl (Ab (Aa ?_))
       exact ⟨⟨i+1,acs9,ds9,full8,o8,rfull9,ad9,cd9,fd9⟩,rfl,⟨rfl,trivial⟩,⟨by dsimp only; omega,hai,hdi,hli,hO8,hM8,hRO9,hRD9,HG.call H.ext⟩,by dsimp only; omega⟩
      ·intro h3
       replace h3:=AG h3
       refine Bc (Ak (Ak (AD (Aa (Af (Am rfl Jg (DO _) rfl ?_))))))
       rintro v w ⟨rfl,hx204⟩
       replace H:=Ctx.call H hx204
       refine Ai rfl rfl (Ab (Aa (A8 (AB (v:=(.bool _)) rfl rfl rfl ?_))))
       exact ⟨rfl,hfin _ _ H⟩
end Go.Proofs.YtapphbmlkdhnmaaGreat

/- SettlePlays: for every input the law answers true, and turns nothing. -/
namespace Go.Proofs.YtapphbmlkdhnmaaGreat
open Go.GV Go.ChangeShapes Go.WideShapes Go.RowKit

set_option maxRecDepth 100000 in
theorem Kk (os:Os) (started:os.Started) (H:Type) (enc:TypeId × Value→H) :
  ReturnsInHanded {} Tryz.checked os 3 .any (Rows.settlePlaysSpec.pre6 enc Tryz.prog Tryz.f3 Rows.settlePlaysRow.domain false) (Rows.settlePlaysSpec.post enc Tryz.prog Tryz.f3 false true false false):=by
 refine returnsInHanded_of_change (C:=Tryz.checked) own started (by kernel_rfl) Tryz.func3
  (ChangeSpec.witness6 (enc:=enc) (C:=Tryz.checked) false ⟨#[],#[.slice none 0 0,.slice none 0 0,.int .u64 0,.bool false,.agg #[.int .u64 0,.int .i64 0,.bool false,.slice none 0 0,.int .i64 0,.slice none 0 0,.slice none 0 0,.slice none 0 0]],[]⟩ 8 (by kernel_rfl) (by kernel_rfl) (by kernel_rfl) (by kernel_rfl)) ?_
 intro W base args ds gs before hval0 hW hcnd _
 have hval:∀ (j:Nat) t v,Tryz.f3.params[j]? = some t→args[j]? = some v→Value.okWide Tryz.prog W .any base t v:=hval0
 have hW':=hW
 obtain ⟨p,q,hA0,hV,rfl,hfz,hnd⟩:=hW
 have hA:DataW.TrodAll enc Tryz.prog W 0 (fun _=>true) true Tryz.f3.params.toList args.toList ds p:=hA0
 rw [Tryz.params3] at hA hval
 obtain ⟨v0,vs0,d0,ds0,p0,q0,hargs,rfl,rfl,h0,r0⟩:=trodAll_cons hA
 obtain ⟨v1,vs1,d1,ds1,p1,q1,rfl,rfl,rfl,h1,r1⟩:=trodAll_cons r0
 obtain ⟨v2,vs2,d2,ds2,p2,q2,rfl,rfl,rfl,h2,r2⟩:=trodAll_cons r1
 obtain ⟨v3,vs3,d3,ds3,p3,q3,rfl,rfl,rfl,h3,r3⟩:=trodAll_cons r2
 obtain ⟨v4,vs4,d4,ds4,p4,q4,rfl,rfl,rfl,h4,r4⟩:=trodAll_cons r3
 obtain ⟨rfl,rfl,rfl⟩:=trodAll_nil r4
 obtain rfl:args=#[v0,v1,v2,v3,v4]:=by cases args; simp_all
 obtain ⟨a0,c0,l0,rfl,R0,H0⟩:=X6 (hval 0 _ v0 rfl rfl) h0
 obtain ⟨a1,c1,l1,rfl,R1,H1⟩:=X7 (hval 1 _ v1 rfl rfl) h1
 obtain ⟨k2,rfl,rfl,rfl,hg2⟩:=open_int Tryz.underlying24 (hval 2 _ v2 rfl rfl) h2
 have hb2:0≤k2∧k2≤18446744073709551615:=HM hg2
 obtain ⟨k3,rfl,rfl,rfl⟩:=open_bool Tryz.underlying4 (hval 3 _ v3 rfl rfl) h3
 obtain ⟨r4,q4,rfl,R4,H4⟩:=Acd (hval 4 _ v4 rfl rfl) h4
 refine (Ny a0 a1 c0 c1 l0 l1 k2 k3 r4 q4 W R0 R1 ⟨hb2.1,by omega⟩ (fun d hd=>(H1 d hd).1) R4 H4.N).calls.mono ?_
 rintro e W' ⟨v,rfl,rfl,hx⟩
 exact ⟨_,rfl,MF PK rfl (by kernel_rfl) rfl Tryz.underlying4 (fun ds h=>match ds,h with | [_,_,_,_,_],_=>rfl) hW' hx⟩

theorem settlePlays_holds:Rows.SettlePlaysSaid :=
 OpenClaim.holds_of_wide 3 Tryz.f3 rfl rfl rfl rfl rfl rfl rfl ⟨rfl,rfl,rfl,rfl,rfl⟩ rfl rfl rfl rfl rfl (by kernel_rfl) Tryz.func3 (by kernel_rfl)
  (of_decide_eq_true (by kernel_rfl)) (by unfold Func.isWrapper; rw [if_neg (of_decide_eq_false (by kernel_rfl))]; exact ⟨rfl,rfl⟩)
  (fun os started H enc _=>Kk os started H enc)
#print axioms settlePlays_holds
end Go.Proofs.YtapphbmlkdhnmaaGreat
