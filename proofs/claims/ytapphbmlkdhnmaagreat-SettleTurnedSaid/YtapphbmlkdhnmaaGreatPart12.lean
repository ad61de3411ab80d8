/- Part 12 of the proof. -/
import Derived.Test.YtapphbmlkdhnmaaGreatPart2
import Derived.Test.YtapphbmlkdhnmaaGreatPart11
import Derived.Test.YtapphbmlkdhnmaaGreatPart3
/- A round, planned: the walk. -/
namespace Go.Proofs.YtapphbmlkdhnmaaGreat
open Go.GV
attribute [local irreducible] AL W Wq Wt

/-- What a plan is. -/
structure PlanR (acs:List Ac) (ds:List Du) (net:Bool) (r:Rnd):Prop where
 no:r.no=0
 day:r.day=0
 cmp:r.cmp=net
 ids:r.ids=(opn ds).map Du.id
 N:r.N=((acs.length+1:Nat):Int)
 es:r.es=BF (acs.map Ce) (opn ds) net
 chk:Ff r.N r.es r.fl r.pot=true
def rnd0:List Value:=[.int .u64 0,.int .i64 0,.bool false,.slice none 0 0,.int .i64 0,.slice none 0 0,.slice none 0 0,.slice none 0 0]
def YI (w:World) (acs:List Ac) (ds:List Du) (net:Bool) (v:Value) (w':World):Prop :=
 Ext [] w w'∧((CD (acs.map Ce) ds=false∧v = .tuple #[.agg rnd0.toArray,.int .i64 1]) ∨
  (CD (acs.map Ce) ds=true∧∃ r q,v = .tuple #[.agg (Br r q).toArray,.int .i64 0]∧PlanR acs ds net r∧RAt w' r q∧ROff q r (fun x=>x<w.heap.size)))
set_option maxRecDepth 20000 in
set_option maxHeartbeats 4000000 in
theorem TT {bx bd:Nat} {acs:List Ac} {ds:List Du} {nx:Int} (ha:DB acs=0) (hd:ofC ds nx=0) (net:Bool) (w:World) (A:AcAt w 116 bx acs) (D:DuAt w bd ds) :
  Ret Tryz.prog 12 #[ptr bx,ptr bd,.bool net] w (YI w acs ds net):=by
 obtain ⟨w0,rfl⟩:∃ w0,w0=w:=⟨_,rfl⟩
 have H:=Ctx.start w0 []
 have hn16:=(Dy.1 ha).1
 have hm64:=(D7.1 hd).1
 obtain ⟨rs,hrs⟩:∃ rs,rs=acs.map Ce:=⟨_,rfl⟩
 have hrl:rs.length=acs.length:=by rw [hrs,List.length_map]
 refine A9 (fn:=Tryz.f12) Tryz.func12 rfl [.pointer (some ⟨bx,0,none⟩),.pointer (some ⟨bd,0,none⟩),.bool net] rfl (by kernel_rfl) ?_
 refine Af (Bj rfl II H ?_)
 rintro b6 w - H
 refine Ae rfl rfl (Ab (Aa (An (Af (BD (α:=Unit) 516096 (fun _=>[(18,.bool (false))]) (fun _ w'=>Ctx w0 [] w' [(b6,Bl 33 rnd0)]) rfl ?_ ?_)))))
 ·refine A2 rfl rfl (CK rfl MO rfl ?_)
  refine Aw rfl rfl (AE 15 rfl ?_ ?_)
  ·intro h1
   refine Ag rfl (Ag rfl (AA rfl rfl (.bool _) rfl (Ab ?_)))
   exact ⟨rfl,(),rfl,⟨congrArg Value.bool (by simp_all),trivial⟩,H⟩
  ·intro h2
   refine A2 rfl rfl (CK rfl K8 rfl ?_)
   refine A6 rfl rfl (.bool _) rfl (Ab ?_)
   exact ⟨rfl,(),rfl,⟨congrArg Value.bool (by rfl),trivial⟩,H⟩
 rintro - j18 w H
 refine CJ rfl (Ao (Aa ?_))
 cases hbb:CD rs ds
 ·skip
  refine Af (A2 rfl rfl (Am rfl Qv (Ih ha _ (A.ext0 H.ext)) rfl ?_))
  rintro v w ⟨hx22,a2,c2,rfl,R2⟩
  rw [← hrs] at R2 ⊢
  replace H:=H.call hx22
  refine A2 rfl rfl (Am rfl K3 (FI hd _ (D.ext0 H.ext)) rfl ?_)
  rintro v w ⟨hx24,a3,c3,rfl,R3⟩
  replace H:=H.call hx24
  replace R2:=R2.ext0 hx24
  refine Aw rfl rfl (Am rfl NY (GA a2 a3 _ c2 _ c3 rs ds net _ R2 rfl (by omega) R3 rfl (by omega)) rfl ?_)
  rintro v w ⟨hx26,⟨-,rfl⟩ | ⟨hb1,-⟩⟩
  rotate_left
  (rw [hbb] at hb1; cases hb1)
  replace H:=H.call hx26
  refine B9 rfl rfl (A3 rfl rfl rfl (A3 rfl rfl rfl (A3 rfl rfl rfl (Bj rfl FO H ?_))))
  rintro b8 w - H
  refine B5 rfl BQ rfl rfl rfl (by simp [Bm]) H at0 rfl ?_
  rintro w H
  refine Az rfl rfl (Ae rfl rfl (Ab (Aa (An (Af (Ad rfl rfl (Cp rfl rfl rfl (Ab (Aa (Aq _ rfl ?_ ?_))))))))))
  ·intro h1
   replace h1:=CY h1
   refine Af (CE [.int .u64 0,.int .i64 0,.bool false,.slice none 0 0,.int .i64 0,.slice none 0 0,.slice none 0 0,.slice none 0 0] rfl Zi II (by kernel_rfl) ?_)
   refine Ad rfl rfl (B5 rfl DL rfl rfl rfl (by simp [Bm]) H at1 rfl ?_)
   rintro w H
   refine Ae rfl rfl (Ab (Aa (A8 (Al (Kv rfl rfl rfl FN DL H at1 rfl (show _=(.int _ _) from rfl) ?_)))))
   exact ⟨H.ext,.inl ⟨by rw [← hrs]; exact hbb,rfl⟩⟩
  ·intro h1
   replace h1:=CZ h1
   cases h1
 ·skip
  have hB:=(EV (by omega)).1 hbb
  obtain ⟨es,hes⟩:∃ es,es=BF rs (opn ds) net:=⟨_,rfl⟩
  refine Af (A2 rfl rfl (Am rfl Qv (Ih ha _ (A.ext0 H.ext)) rfl ?_))
  rintro v w ⟨hx22,a2,c2,rfl,R2⟩
  rw [← hrs] at R2 ⊢
  replace H:=H.call hx22
  refine A2 rfl rfl (Am rfl K3 (FI hd _ (D.ext0 H.ext)) rfl ?_)
  rintro v w ⟨hx24,a3,c3,rfl,R3⟩
  replace H:=H.call hx24
  replace R2:=R2.ext0 hx24
  refine Aw rfl rfl ?_
  have hlb:=H.lt at0
  refine Am rfl NY (GA a2 a3 _ c2 _ c3 rs ds net _ R2 rfl (by omega) R3 rfl (by omega)) rfl ?_
  rintro v w ⟨hx26,⟨hb1,-⟩ | ⟨-,aE,nE,cE,vI,rfl,SE,SI⟩⟩
  (rw [hbb] at hb1; cases hb1)
  replace H:=H.call hx26
  rw [← hes] at SE
  obtain ⟨aE,cE,hE1,-,RE,hEn⟩:=SE.ex
  obtain ⟨aI,cI,rfl,-,RI,hIn⟩:=SI.ex
  cases hE1
  have hx026:=H.ext
  have hb60:w0.heap.size≤b6:=(H.own _ (List.mem_cons_self ..)).elim (fun h=>by cases h) id
  obtain ⟨w26,rfl⟩:∃ z,z=w:=⟨_,rfl⟩
  replace H:=Ctx.lend (L1:=[_]) (L2:=[]) H
  dsimp only [List.map] at H
  have hs24:=hx26.size
  refine B9 rfl rfl (A3 rfl rfl rfl (A3 rfl rfl rfl (A3 rfl rfl rfl (Bj rfl FO H ?_))))
  rintro b8 w - H
  refine B5 rfl BQ rfl rfl rfl (by simp [Bm]) H at0 rfl ?_
  rintro w H
  refine Az rfl rfl (Ae rfl rfl (Ab (Aa (An (Af (Ad rfl rfl (Cp rfl rfl rfl (Ab (Aa (Aq _ rfl ?_ ?_))))))))))
  ·intro h1
   replace h1:=CY h1
   exact absurd rfl h1
  ·intro h1
   replace h1:=CZ h1
   have hri:Cb ((rs.length+1:Nat):Int) es=true:=by rw [hes]; exact hB.right net
   have hE6:es≠[]→(adr aE).block∉[b6]:=fun h=>by have:=hEn h; rw [List.mem_singleton]; omega
   have hI6:(opn ds).map Du.id≠[]→(adr aI).block∉[b6]:=fun h=>by have:=hIn h; rw [List.mem_singleton]; omega
   have hE26:=RE.lt' (fun _ _=>rfl) (by decide)
   have hI26:=RI.lt' (fun _ _=>rfl) (by decide)
   refine Ao (Aa (Af (B6 rfl Cm BQ rfl H at0 rfl ?_)))
   have hl8:=H.lt at0
   have hl6:=H.lt at1
   refine Am rfl ca_59 (YH (rs.length+1) aE cE es _ (RE.ext' H.ext hE6) hri) rfl ?_
   rintro v w ⟨bf,bp,x,p,k,rfl,hF,hov,hpb,HB⟩
   replace H:=H.call HB.ext
   have RF:Rd w (some ⟨bf,0,none⟩) 1 I1 (tab x es.length):=Cs (HB.get at0)
   have RP:Rd w (some ⟨bp,0,none⟩) 1 I1 (tab p (rs.length+1)):=Cs (HB.get at1)
   have hbf:=(HB.own _ (List.mem_of_getElem? at0)).elim (fun h=>by cases h) id
   have hbp:=(HB.own _ (List.mem_of_getElem? at1)).elim (fun h=>by cases h) id
   dsimp only at hbf hbp
   replace RE:=RE.ext' H.ext hE6
   replace RI:=RI.ext' H.ext hI6
   have hb80:=(H.own _ (List.mem_of_getElem? at0)).elim (fun h => .inl (List.mem_singleton.1 h)) Or.inr
   have hx036:=hx026.then H.ext (fun x hx => .inr (by rw [List.mem_singleton.1 hx]; exact hb60))
   have hs36:=HB.ext.size
   have hs26:=H.size
   obtain ⟨w36,rfl⟩:∃ z,z=w:=⟨_,rfl⟩
   replace H:=Ctx.lend (L1:=[_,_]) (L2:=[]) H
   dsimp only [List.map] at H
   refine B9 rfl rfl (A3 rfl rfl rfl (A3 rfl rfl rfl (A3 rfl rfl rfl (Bj rfl Wb H ?_))))
   rintro b11 w - H
   refine B5 rfl LA rfl rfl rfl (by simp [Bm]) H at0 rfl ?_
   rintro w H
   refine Ae rfl rfl (Ae rfl rfl (Ab (Aa (An (Af (Ad rfl rfl (Cp rfl rfl rfl (Ab (Aa (Aq _ rfl ?_ ?_))))))))))
   ·intro h2
    replace h2:=CY h2
    exact absurd rfl h2
   ·intro h2
    replace h2:=CZ h2
    obtain ⟨r,hr⟩:∃ r:Rnd,r=⟨0,0,net,(opn ds).map Du.id,((rs.length+1:Nat):Int),es,tab x es.length,tab p (rs.length+1)⟩:=⟨_,rfl⟩
    obtain ⟨q,hq⟩:∃ q:RSl,q=⟨aI,cI,aE,cE,some ⟨bf,0,none⟩,es.length,some ⟨bp,0,none⟩,rs.length+1⟩:=⟨_,rfl⟩
    have hcells:Br r q=[.int .u64 0,.int .i64 0,.bool net,.slice aI ((opn ds).map Du.id).length cI,.int .i64 ((rs.length+1:Nat):Int),.slice aE es.length cE,.slice (some ⟨bf,0,none⟩) es.length es.length,.slice (some ⟨bp,0,none⟩) (rs.length+1) (rs.length+1)]:=by
     rw [hr,hq]
     unfold Br
     dsimp only
     rw [CQ,CQ]
    refine Ao (Aa (Af (Aw rfl rfl (Aj rfl rfl (B6 rfl Cm BQ rfl H at1 rfl (B6 rfl NV LA rfl H at0 rfl (CE [.int .u64 0,.int .i64 0,.bool net,.slice aI ((opn ds).map Du.id).length cI,.int .i64 ((rs.length+1:Nat):Int),.slice aE es.length cE,.slice (some ⟨bf,0,none⟩) es.length es.length,.slice (some ⟨bp,0,none⟩) (rs.length+1) (rs.length+1)] rfl Zi II (by kernel_rfl) ?_)))))))
    refine B5 rfl DL rfl rfl rfl (by simp [Bm]) H at2 rfl ?_
    rintro w H
    refine Ae rfl rfl (Ab (Aa (A8 (Kv rfl rfl rfl FN DL H at2 rfl (show _=(.int _ _) from rfl) ?_))))
    have h8:w0.heap.size≤b8:=by rcases hb80 with h | h <;> omega
    have hxx:=hx036.then H.ext fun x hx => .inr (by simp only [List.mem_cons,List.not_mem_nil,or_false] at hx; omega)
    refine ⟨hxx,.inr ⟨by rw [← hrs]; exact hbb,r,q,by rw [hcells],⟨by rw [hr],by rw [hr],by rw [hr],by rw [hr],by rw [hr,hrl],by rw [hr,← hrs]; exact hes,?_⟩,⟨?_,?_,?_,?_,?_⟩,⟨?_,?_,?_,?_⟩⟩⟩
    ·rw [hr]; exact SK hri hF hov hpb
    ·rw [hr,hq]; exact RI.ext' H.ext fun h=>by have h1:=hI26 h; have h2:=hI6 h; rw [List.mem_singleton] at h2; simp only [List.mem_cons,List.not_mem_nil,or_false]; rcases hb80 with h3 | h3 <;> omega
    ·rw [hr,hq]; exact RE.ext' H.ext fun h=>by have h1:=hE26 h; have h2:=hE6 h; rw [List.mem_singleton] at h2; simp only [List.mem_cons,List.not_mem_nil,or_false]; rcases hb80 with h3 | h3 <;> omega
    ·rw [hr,hq]; exact RF.ext' H.ext fun _=>by show bf∉[b8,b6]; simp only [List.mem_cons,List.not_mem_nil,or_false]; omega
    ·rw [hr,hq]; exact RP.ext' H.ext fun _=>by show bp∉[b8,b6]; simp only [List.mem_cons,List.not_mem_nil,or_false]; omega
    ·rw [hr,hq]; dsimp only; rw [CQ]; exact Nat.le_refl _
    ·rw [hr,hq]; intro h; have:=hIn h; dsimp only; omega
    ·rw [hr,hq]; intro h; have:=hEn h; dsimp only; omega
    ·rw [hr,hq]; intro _; show ¬ bf<w0.heap.size; omega
    ·rw [hr,hq]; intro _; show ¬ bp<w0.heap.size; omega
end Go.Proofs.YtapphbmlkdhnmaaGreat

/- Whether a round is one of now: the walk. -/
namespace Go.Proofs.YtapphbmlkdhnmaaGreat
open Go.GV
attribute [local irreducible] AL W Wq Wt

/-- A round's net, as a call gives it. -/
def SM (w:World) (rs:List Int) (ds:List Du) (net:Bool) (N:Int) (aE:Option Addr) (nE:Nat) (vI:Value) (code:Int):Prop :=
 (CD rs ds=false∧code=1∧∃ aI nI cI,vI = .slice aI nI cI)∨(CD rs ds=true∧code=0∧N=((rs.length+1:Nat):Int)∧nE=(BF rs (opn ds) net).length∧Rd w aE 4 Cw (BF rs (opn ds) net)∧∃ aI cI,vI = .slice aI ((opn ds).map Du.id).length cI∧Rd w aI 1 U1 ((opn ds).map Du.id))
theorem RoundRes.uni {w w':World} {rs:List Int} {ds:List Du} {net:Bool} {v:Value} (h:RoundRes w rs ds net v w'):Ext [] w w'∧∃ N aE nE cE aI nI cI code,v = .tuple #[CS N aE nE cE,.slice aI nI cI,.int .i64 code]∧∀ (S:List Nat) (w2:World),(∀ x∈S,x<w.heap.size)→Ext S w' w2→SM w2 rs ds net N aE nE (.slice aI nI cI) code:=by
 obtain ⟨hx,⟨h1,rfl⟩ | ⟨h1,aE,nE,cE,vI,rfl,SE,SI⟩⟩:=h
 ·exact ⟨hx,_,_,_,_,_,_,_,_,rfl,fun _ _ _ _ => .inl ⟨h1,rfl,_,_,_,rfl⟩⟩
 ·obtain ⟨aE',cE',hE,-,RE,hEn⟩:=SE.ex
  obtain ⟨aI,cI,rfl,-,RI,hIn⟩:=SI.ex
  cases hE
  exact ⟨hx,_,_,_,_,_,_,_,_,rfl,fun S w2 hS he => .inr ⟨h1,rfl,rfl,rfl,RE.ext' he (fun hn hm=>by have:=hEn hn; have:=hS _ hm; omega),_,_,rfl,RI.ext' he (fun hn hm=>by have:=hIn hn; have:=hS _ hm; omega)⟩⟩
/-- A round that was made of accounts and dues, beside one that is held against it. -/
structure NowZ where
 b:Nat
 N:Int
 aE:Option Addr
 nE:Nat
 cE:Nat
 aI:Option Addr
 nI:Nat
 cI:Nat
 code:Int
def NowI (w0:World) (rs:List Int) (ds:List Du) (net:Bool) (b5:Nat) (o5:Obj) (z:NowZ) (w:World):Prop :=
 Ext [] w0 w∧w.heap[b5]? = some o5∧w.heap[z.b]? = some (Bl 28 [.int .i64 z.N,.slice z.aE z.nE z.cE])∧SM w rs ds net z.N z.aE z.nE (.slice z.aI z.nI z.cI) z.code
def IC (acs:List Ac) (ds:List Du) (r:Rnd):Bool :=
 CD (acs.map Ce) ds && (decide (((acs.length+1:Nat):Int)=r.N) && (decide (BF (acs.map Ce) (opn ds) r.cmp=r.es) && decide ((opn ds).map Du.id=r.ids)))
set_option maxRecDepth 20000 in
set_option maxHeartbeats 8000000 in
theorem Ab6 {bx bd:Nat} {acs:List Ac} {ds:List Du} {nx:Int} (ha:DB acs=0) (hd:ofC ds nx=0) {r:Rnd} {q:RSl} (w:World) (A:AcAt w 116 bx acs) (D:DuAt w bd ds) (RA:RAt w r q) (he:r.es.length≤1000000) (hi:r.ids.length≤1000000) :
  Ret Tryz.prog 67 #[ptr bx,ptr bd,.agg (Br r q).toArray] w fun v w'=>v = .bool (IC acs ds r)∧Ext [] w w':=by
 obtain ⟨w0,rfl⟩:∃ w0,w0=w:=⟨_,rfl⟩
 have H:=Ctx.start w0 []
 have hn16:=(Dy.1 ha).1
 have hm64:=(D7.1 hd).1
 obtain ⟨rs,hrs⟩:∃ rs,rs=acs.map Ce:=⟨_,rfl⟩
 have hrl:rs.length=acs.length:=by rw [hrs,List.length_map]
 refine A9 (fn:=Tryz.f67) Tryz.func67 rfl [.pointer (some ⟨bx,0,none⟩),.pointer (some ⟨bd,0,none⟩),.agg (Br r q).toArray] rfl (by kernel_rfl) ?_
 refine Af (BC rfl (Br r q) (.agg _) rfl rfl H ?_)
 rintro b5 w - H
 refine Ai rfl rfl (Ab (Aa ?_))
 have hx5:=H.ext
 have h5:=H.get at0
 obtain ⟨w5,rfl⟩:∃ z,z=w:=⟨_,rfl⟩
 refine El 2097024 (α:=NowZ) (fun z=>[(7,ptr z.b),(8,.slice z.aI z.nI z.cI),(9,.int .i64 z.code)]) (NowI w0 rs ds r.cmp b5 (Bl 33 (Br r q))) rfl ?_ ?_
 ·skip
  refine Tf (.two [0,2,4,5] 1 (.two [] 3 (.two [] 6 (.one [7,8,9,10] 11 (.one [] 12 (.one [] 13 (.one [] 14 .stop)))) 11 (.one [] 6 (.one [7,8,9,10] 12 (.one [] 13 (.one [] 14 .stop))))) 11 (.one [] 3 (.one [] 6 (.one [7,8,9,10] 12 (.one [] 13 (.one [] 14 .stop)))))) 11 (.one [] 1 (.one [] 3 (.one [] 6 (.one [7,8,9,10] 12 (.one [] 13 (.one [] 14 .stop))))))) (fun z=>Ext [] w5 z) B0 (by kernel_rfl) (Ext.drew [] w5) ?_
  refine IY rfl rfl rfl ?_
  refine Ch rfl rfl (Ch rfl rfl (AH rfl LY rfl (BP rfl Jf rfl (fun _ hx=>(by rw [Ay (hx.to h5 (by simp))]; rfl)) ?_)))
  refine Ba ?_
  have E:=Ext.drew [] w5
  refine ⟨?_,?_⟩
  ·skip
   refine Am rfl Qv (Ih ha _ (A.ext0 (hx5.trans E))) rfl ?_
   rintro v w ⟨hx12,a2,c2,rfl,R2⟩
   rw [← hrs] at R2 ⊢
   replace E:=E.trans hx12
   refine Ab (Ci (by exact E) ?_)
   refine IY rfl rfl rfl ?_
   refine Ba ?_
   refine ⟨?_,?_⟩
   ·skip
    refine Am rfl K3 (FI hd _ (D.ext0 (hx5.trans E))) rfl ?_
    rintro v w ⟨hx14,a3,c3,rfl,R3⟩
    replace E:=E.trans hx14
    replace R2:=R2.ext0 hx14
    refine Ab (Ci (by exact E) ?_)
    refine IY rfl rfl rfl ?_
    refine Ba ?_
    refine ⟨?_,?_⟩
    ·skip
     refine Am rfl NY (GA a2 a3 _ c2 _ c3 rs ds r.cmp _ R2 rfl (by omega) R3 rfl (by omega)) rfl ?_
     rintro v w hR
     obtain ⟨hx17,N,aE,nE,cE,aI,nI,cI,code,rfl,hU⟩:=hR.uni
     replace E:=E.trans hx17
     refine Ab (Ci (by exact E) ?_)
     refine Cg rfl rfl ?_
     refine Fo rfl rfl (BM rfl rfl rfl (BM rfl rfl rfl (BM rfl rfl rfl (Ba ?_))))
     have H:=Ctx.start w []
     refine Bj rfl FO H ?_
     rintro b7 w - H
     refine Ab (Ci (by exact E.trans H.ext) ?_)
     refine Cg rfl rfl ?_
     refine Ba (B5 rfl BQ rfl rfl rfl (by simp [Bm]) H at0 rfl ?_)
     rintro w H
     refine Ab (Ci (by exact E.trans H.ext) ?_)
     refine Cg rfl rfl ?_
     refine Ba (Az rfl rfl (Ab (Ci (by exact E.trans H.ext) ?_)))
     refine Cg rfl rfl ?_
     refine Ba (Ae rfl rfl (Ab (Ci (by exact E.trans H.ext) ?_)))
     refine Fm ?_
     refine Aa ?_
     exact ⟨⟨b7,N,aE,nE,cE,aI,nI,cI,code⟩,rfl,⟨rfl,rfl,rfl,trivial⟩,hx5.trans (E.trans H.ext),(E.trans H.ext).to h5 (by simp),H.get at0,hU [] _ (by simp) H.ext⟩
    ·skip
     have H:=Ctx.start w []
     refine Bj rfl FO H ?_
     rintro b7 w - H
     have hn7:w5.heap.size≤b7:=Nat.le_trans E.size ((H.own _ (List.mem_cons_self ..)).elim (fun h=>by cases h) id)
     replace E:=E.trans H.ext
     have hb7:=H.get at0
     replace R2:=R2.ext0 H.ext
     replace R3:=R3.ext0 H.ext
     refine Ab (Ci (by exact E) ?_)
     refine Cg rfl rfl ?_
     refine Ba ?_
     have hl7:=Bp hb7
     refine Am rfl NY (GA a2 a3 _ c2 _ c3 rs ds r.cmp _ R2 rfl (by omega) R3 rfl (by omega)) rfl ?_
     rintro v w hR
     obtain ⟨hx17,N,aE,nE,cE,aI,nI,cI,code,rfl,hU⟩:=hR.uni
     replace E:=E.trans hx17
     replace hb7:=hx17.to hb7 (by simp)
     have H:=Ctx.start1 hb7
     refine Ab (Ci (by exact E) ?_)
     refine Cg rfl rfl ?_
     refine Fo rfl rfl (BM rfl rfl rfl (BM rfl rfl rfl (BM rfl rfl rfl (Ba (B5 rfl BQ rfl rfl rfl (by simp [Bm]) H at0 rfl ?_)))))
     rintro w H
     refine Ab (Ci (by exact E.then H.ext (fun x hx => .inr (by rw [List.mem_singleton.1 hx]; exact hn7))) ?_)
     refine Cg rfl rfl ?_
     refine Ba (Az rfl rfl (Ab (Ci (by exact E.then H.ext (fun x hx => .inr (by rw [List.mem_singleton.1 hx]; exact hn7))) ?_)))
     refine Cg rfl rfl ?_
     refine Ba (Ae rfl rfl (Ab (Ci (by exact E.then H.ext (fun x hx => .inr (by rw [List.mem_singleton.1 hx]; exact hn7))) ?_)))
     refine Fm ?_
     refine Aa ?_
     have E2:=E.then H.ext fun x hx => .inr (by rw [List.mem_singleton.1 hx]; exact hn7)
     exact ⟨⟨b7,N,aE,nE,cE,aI,nI,cI,code⟩,rfl,⟨rfl,rfl,rfl,trivial⟩,hx5.trans E2,E2.to h5 (by simp),H.get at0,hU [b7] _ (by simpa using hl7) H.ext⟩
   ·skip
    have H:=Ctx.start w []
    refine Bj rfl FO H ?_
    rintro b7 w - H
    have hn7:w5.heap.size≤b7:=Nat.le_trans E.size ((H.own _ (List.mem_cons_self ..)).elim (fun h=>by cases h) id)
    replace E:=E.trans H.ext
    have hb7:=H.get at0
    replace R2:=R2.ext0 H.ext
    refine Ab (Ci (by exact E) ?_)
    refine Cg rfl rfl ?_
    refine Ba (Am rfl K3 (FI hd _ (D.ext0 (hx5.trans E))) rfl ?_)
    rintro v w ⟨hx14,a3,c3,rfl,R3⟩
    replace E:=E.trans hx14
    replace R2:=R2.ext0 hx14
    replace hb7:=hx14.to hb7 (by simp)
    refine Ab (Ci (by exact E) ?_)
    refine Cg rfl rfl ?_
    refine Ba ?_
    have hl7:=Bp hb7
    refine Am rfl NY (GA a2 a3 _ c2 _ c3 rs ds r.cmp _ R2 rfl (by omega) R3 rfl (by omega)) rfl ?_
    rintro v w hR
    obtain ⟨hx17,N,aE,nE,cE,aI,nI,cI,code,rfl,hU⟩:=hR.uni
    replace E:=E.trans hx17
    replace hb7:=hx17.to hb7 (by simp)
    have H:=Ctx.start1 hb7
    refine Ab (Ci (by exact E) ?_)
    refine Cg rfl rfl ?_
    refine Fo rfl rfl (BM rfl rfl rfl (BM rfl rfl rfl (BM rfl rfl rfl (Ba (B5 rfl BQ rfl rfl rfl (by simp [Bm]) H at0 rfl ?_)))))
    rintro w H
    refine Ab (Ci (by exact E.then H.ext (fun x hx => .inr (by rw [List.mem_singleton.1 hx]; exact hn7))) ?_)
    refine Cg rfl rfl ?_
    refine Ba (Az rfl rfl (Ab (Ci (by exact E.then H.ext (fun x hx => .inr (by rw [List.mem_singleton.1 hx]; exact hn7))) ?_)))
    refine Cg rfl rfl ?_
    refine Ba (Ae rfl rfl (Ab (Ci (by exact E.then H.ext (fun x hx => .inr (by rw [List.mem_singleton.1 hx]; exact hn7))) ?_)))
    refine Fm ?_
    refine Aa ?_
    have E2:=E.then H.ext fun x hx => .inr (by rw [List.mem_singleton.1 hx]; exact hn7)
    exact ⟨⟨b7,N,aE,nE,cE,aI,nI,cI,code⟩,rfl,⟨rfl,rfl,rfl,trivial⟩,hx5.trans E2,E2.to h5 (by simp),H.get at0,hU [b7] _ (by simpa using hl7) H.ext⟩
  ·skip
   have H:=Ctx.start (World.drew w5) []
   refine Bj rfl FO H ?_
   rintro b7 w - H
   have hn7:w5.heap.size≤b7:=Nat.le_trans E.size ((H.own _ (List.mem_cons_self ..)).elim (fun h=>by cases h) id)
   replace E:=E.trans H.ext
   have hb7:=H.get at0
   refine Ab (Ci (by exact E) ?_)
   refine Cg rfl rfl ?_
   refine Ba (Am rfl Qv (Ih ha _ (A.ext0 (hx5.trans E))) rfl ?_)
   rintro v w ⟨hx12,a2,c2,rfl,R2⟩
   rw [← hrs] at R2 ⊢
   replace E:=E.trans hx12
   replace hb7:=hx12.to hb7 (by simp)
   refine Ab (Ci (by exact E) ?_)
   refine Cg rfl rfl ?_
   refine Ba (Am rfl K3 (FI hd _ (D.ext0 (hx5.trans E))) rfl ?_)
   rintro v w ⟨hx14,a3,c3,rfl,R3⟩
   replace E:=E.trans hx14
   replace R2:=R2.ext0 hx14
   replace hb7:=hx14.to hb7 (by simp)
   refine Ab (Ci (by exact E) ?_)
   refine Cg rfl rfl ?_
   refine Ba ?_
   have hl7:=Bp hb7
   refine Am rfl NY (GA a2 a3 _ c2 _ c3 rs ds r.cmp _ R2 rfl (by omega) R3 rfl (by omega)) rfl ?_
   rintro v w hR
   obtain ⟨hx17,N,aE,nE,cE,aI,nI,cI,code,rfl,hU⟩:=hR.uni
   replace E:=E.trans hx17
   replace hb7:=hx17.to hb7 (by simp)
   have H:=Ctx.start1 hb7
   refine Ab (Ci (by exact E) ?_)
   refine Cg rfl rfl ?_
   refine Fo rfl rfl (BM rfl rfl rfl (BM rfl rfl rfl (BM rfl rfl rfl (Ba (B5 rfl BQ rfl rfl rfl (by simp [Bm]) H at0 rfl ?_)))))
   rintro w H
   refine Ab (Ci (by exact E.then H.ext (fun x hx => .inr (by rw [List.mem_singleton.1 hx]; exact hn7))) ?_)
   refine Cg rfl rfl ?_
   refine Ba (Az rfl rfl (Ab (Ci (by exact E.then H.ext (fun x hx => .inr (by rw [List.mem_singleton.1 hx]; exact hn7))) ?_)))
   refine Cg rfl rfl ?_
   refine Ba (Ae rfl rfl (Ab (Ci (by exact E.then H.ext (fun x hx => .inr (by rw [List.mem_singleton.1 hx]; exact hn7))) ?_)))
   refine Fm ?_
   refine Aa ?_
   have E2:=E.then H.ext fun x hx => .inr (by rw [List.mem_singleton.1 hx]; exact hn7)
   exact ⟨⟨b7,N,aE,nE,cE,aI,nI,cI,code⟩,rfl,⟨rfl,rfl,rfl,trivial⟩,hx5.trans E2,E2.to h5 (by simp),H.get at0,hU [b7] _ (by simpa using hl7) H.ext⟩
 ·rintro ⟨b7,N,aE,nE,cE,aI,nI,cI,code⟩ j1 w ⟨hx0,h5',hb7,hU⟩; dsimp only at hb7 hU; dsimp only
  obtain ⟨w1,rfl⟩:∃ z,z=w:=⟨_,rfl⟩
  have H:=Ctx.start w1 []
  have RA1:=RA.ext0 hx0
  rcases hU with ⟨hb,rfl,-⟩ | ⟨hb,rfl,rfl,rfl,RE,aI',cI',hI,RI⟩
  ·skip
   refine Af (Ad rfl rfl (Cu rfl rfl rfl (Aw rfl rfl (AE 23 rfl ?_ ?_))))
   ·intro g1
    replace g1:=AF g1
    exact absurd g1 (by decide)
   ·intro g1
    replace g1:=AG g1
    refine Ag rfl (Ag rfl (Ag rfl (Ag rfl (Ag rfl (Ag rfl (A6 rfl rfl (.bool _) rfl (Aw rfl rfl (Ag rfl (Ag rfl ?_)))))))))
    refine Ag rfl (Ag rfl (Ag rfl (Ag rfl (A6 rfl rfl (.bool _) rfl (Aw rfl rfl (Ag rfl (Ag rfl (Ag rfl (Ag rfl ?_)))))))))
    refine A6 rfl rfl (.bool _) rfl (Ai rfl rfl (Ab (Aa (A8 (AB (v:=(.bool _)) rfl rfl rfl ?_)))))
    exact ⟨congrArg Value.bool (by unfold IC; rw [← hrs,hb]; simp_all),hx0⟩
  ·skip
   cases hI
   have hel:(BF rs (opn ds) r.cmp).length≤1000000:=by have:=G4 ds; rw [Fc]; split <;> omega
   have hil:((opn ds).map Du.id).length≤1000000:=by have:=G4 ds; rw [List.length_map]; omega
   refine Af (Ad rfl rfl (Cu rfl rfl rfl (Aw rfl rfl (AE 23 rfl ?_ ?_))))
   ·intro h1
    replace h1:=AF h1
    refine Ah rfl D5 rfl (Bb rfl BV rfl ((by rw [Ay (H.ext.to hb7 (by simp))]; rfl)) ?_)
    refine Ah rfl FD rfl (Ah rfl D5 rfl (Bb rfl BV rfl ((by rw [Ay (H.ext.to h5' (by simp))]; rfl)) ?_))
    refine Cu rfl rfl rfl (AA rfl rfl (.bool _) rfl (Aw rfl rfl (AE 31 rfl ?_ ?_)))
    ·intro h2
     replace h2:=AF h2
     refine Ah rfl Cc rfl (Bb rfl Dh rfl ((by rw [Ay (H.ext.to hb7 (by simp))]; rfl)) ?_)
     refine Ah rfl FD rfl (Ah rfl Cc rfl (Bb rfl Dh rfl ((by rw [Ay (H.ext.to h5' (by simp))]; rfl)) ?_))
     refine Am rfl ZO (Ab3 aE q.aE _ cE _ q.cE (BF rs (opn ds) r.cmp) r.es _ (RE.ext0 H.ext) rfl hel (RA1.E.ext0 H.ext) rfl he) rfl ?_
     rintro v w ⟨rfl,hx37⟩
     replace H:=H.call hx37
     refine AA rfl rfl (.bool _) rfl (Aw rfl rfl (AE 39 rfl ?_ ?_))
     ·intro h3
      refine Aj rfl rfl (Ah rfl Ix rfl (Bb rfl Kz rfl ((by rw [Ay (H.ext.to h5' (by simp))]; rfl)) ?_))
      refine Am rfl ZP (Ab4 aI q.aI _ cI _ q.cI ((opn ds).map Du.id) r.ids _ (RI.ext0 H.ext) rfl hil (RA1.I.ext0 H.ext) rfl hi) rfl ?_
      rintro v w ⟨rfl,hx43⟩
      replace H:=H.call hx43
      refine AA rfl rfl (.bool _) rfl (Ai rfl rfl (Ab (Aa (A8 (AB (v:=(.bool _)) rfl rfl rfl ?_)))))
      exact ⟨congrArg Value.bool (by unfold IC; rw [← hrs,hb,← hrl]; simp_all),hx0.trans H.ext⟩
     ·intro h4
      refine Ag rfl (Ag rfl (Ag rfl (Ag rfl (A6 rfl rfl (.bool _) rfl (Ai rfl rfl (Ab (Aa (A8 (AB (v:=(.bool _)) rfl rfl rfl ?_)))))))))
      exact ⟨congrArg Value.bool (by unfold IC; rw [← hrs,hb,← hrl]; simp_all),hx0.trans H.ext⟩
    ·intro h5
     replace h5:=AG h5
     refine Ag rfl (Ag rfl (Ag rfl (Ag rfl (Ag rfl (Ag rfl (A6 rfl rfl (.bool _) rfl (Aw rfl rfl (Ag rfl (Ag rfl ?_)))))))))
     refine Ag rfl (Ag rfl (A6 rfl rfl (.bool _) rfl (Ai rfl rfl (Ab (Aa (A8 (AB (v:=(.bool _)) rfl rfl rfl ?_)))))))
     exact ⟨congrArg Value.bool (by unfold IC; rw [← hrs,hb,← hrl]; simp_all),hx0.trans H.ext⟩
   ·intro h6
    replace h6:=AG h6
    refine Ag rfl (Ag rfl (Ag rfl (Ag rfl (Ag rfl (Ag rfl (A6 rfl rfl (.bool _) rfl (Aw rfl rfl (Ag rfl (Ag rfl ?_)))))))))
    refine Ag rfl (Ag rfl (Ag rfl (Ag rfl (A6 rfl rfl (.bool _) rfl (Aw rfl rfl (Ag rfl (Ag rfl (Ag rfl (Ag rfl ?_)))))))))
    refine A6 rfl rfl (.bool _) rfl (Ai rfl rfl (Ab (Aa (A8 (AB (v:=(.bool _)) rfl rfl rfl ?_)))))
    exact ⟨congrArg Value.bool (by unfold IC; rw [← hrs,hb,← hrl]; simp_all),hx0.trans H.ext⟩
end Go.Proofs.YtapphbmlkdhnmaaGreat

/- A round's pays, one by one: the closure. -/
namespace Go.Proofs.YtapphbmlkdhnmaaGreat
open Go.GV
attribute [local irreducible] AL W Wq Wt

set_option maxRecDepth 20000 in
set_option maxHeartbeats 4000000 in
theorem YJ {c4 c7 by' bd b n:Nat} {nx:Int} {o:Obj} {ds:List Du} {d:Du} {x:Int} {f f':Nat→Int} (w:World)
  (h4:w.heap[c4]? = some (Bl 36 [ptr bd])) (h7:w.heap[c7]? = some (Bl 29 [.slice (some ⟨by',0,none⟩) n n])) (hd:w.heap[bd]? = some (Bl 123 (DU b nx))) (H0:Ctx w [by',b] w [(by',Bl 2 (BE f n)),(b,o)]) (hM:D8 .u64 (dm ds) o)
  (n4:c4∉[by',b]) (n7:c7∉[by',b]) (nd:bd∉[by',b]) (hf:DC ds d.id=some d) (hh:d.held=false) (hx:0≤x∧x≤d.am) (ham:SD ds) (hfr:0≤d.fr∧d.fr<n) (hto:0≤d.to∧d.to<n) (hn:n≤1000000)
  (hfb:∀ k,-1152921504606846976≤f k∧f k≤1152921504606846976) (hf':∀ k,f' k=f k+(one (d.to.toNat=k) - one (d.fr.toNat=k))*x) :
  Ret Tryz.prog 68 #[.int .u64 d.id,.int .i64 x,ptr c4,ptr c7] w fun v w'=>v = .int .i64 0∧∃ o',D8 .u64 (dm (FT ds d.id x)) o'∧Ctx w [by',b] w' [(by',Bl 2 (BE f' n)),(b,o')]:=by
 obtain ⟨w0,rfl⟩:∃ w0,w0=w:=⟨_,rfl⟩
 have H:=H0
 have hamd:=ham d (Ni hf).1
 obtain ⟨fn,hfn⟩:∃ fn:Nat,d.fr=fn:=⟨d.fr.toNat,by omega⟩
 obtain ⟨tn,htn⟩:∃ tn:Nat,d.to=tn:=⟨d.to.toNat,by omega⟩
 obtain ⟨f1,hf1⟩:∃ f1,f1=upd f fn (f fn - x):=⟨_,rfl⟩
 have hof:f1 fn=f fn - x:=by rw [hf1,CT]
 have hon:∀ q,q≠fn→f1 q=f q:=fun q hq=>by rw [hf1,DG hq]
 have hst:∀ q,f' q=upd f1 tn (f1 tn+x) q:=fun q=>by
  rw [hf',hfn,htn,Int.toNat_natCast,Int.toNat_natCast]
  by_cases h1:q=tn
  ·subst h1
   rw [CT,ET rfl]
   by_cases h2:fn=q
   ·subst h2; rw [ET rfl,hof]; omega
   ·rw [EB h2,hon q (Ne.symm h2)]; omega
  ·rw [DG h1,EB (Ne.symm h1)]
   by_cases h2:fn=q
   ·subst h2; rw [ET rfl,hof]; omega
   ·rw [EB h2,hon q (Ne.symm h2)]; omega
 have hb1:=hfb fn
 have hb2:=hfb tn
 have hot : -1157425104234217472≤f1 tn∧f1 tn≤1157425104234217472:=by
  by_cases h:tn=fn
  ·rw [h,hof]; omega
  ·rw [hon tn h]; omega
 have hbb:=H.ne at0 at1 (by decide)
 refine A9 (fn:=Tryz.f68) Tryz.func68 rfl [.int .u64 d.id,.int .i64 x,.pointer (some ⟨c4,0,none⟩),.pointer (some ⟨c7,0,none⟩)] rfl (by kernel_rfl) ?_
 refine Af (Ae rfl rfl (Ab (Aa (Af (Bb rfl Ts rfl ((H.old (Ay h4 _) n4)) ?_)))))
 refine Ad rfl rfl (Am rfl Ze (TP _ (H.ext.to hd nd) (H.get at1) hM) rfl ?_)
 rintro v w ⟨rfl,hx12⟩
 replace H:=H.call hx12
 rw [show LJ ds d.id=d by unfold LJ; rw [hf]; rfl]
 refine B9 rfl rfl (A3 rfl rfl rfl (A3 rfl rfl rfl (Bj rfl Eh H ?_)))
 rintro b7 w - H
 refine B5 rfl B2 rfl rfl rfl (by exact DM _) H at0 rfl ?_
 rintro w H
 refine Ai rfl rfl (Ab (Aa (Af (Bb rfl BX rfl ((H.old (Ay h7 _) n7)) ?_))))
 refine Ah rfl E1 rfl (AN rfl BV rfl H at0 rfl (Bg rfl AO Bu rfl rfl (by omega) (by omega) ?_))
 refine Pd fn _ rfl Bt rfl H at1 (by rw [hfn]; simp) (by omega) rfl ?_
 refine Ad rfl rfl (Be rfl rfl rfl (by omega) (by omega) ?_)
 refine Bg rfl AO Bu rfl rfl (by omega) (by omega) ?_
 refine BU fn (fun q => .int .i64 (f1 q)) (.int _ _) rfl Bu rfl rfl rfl H at1 (by rw [hfn]; simp) (by omega) (by rw [hof]) (fun q _ hq=>by rw [hon q hq]) ?_
 rintro w H
 refine Ab (Aa (Af (Bb rfl BX rfl ((H.old (Ay h7 _) n7)) ?_)))
 refine Ah rfl E3 rfl (AN rfl BV rfl H at0 rfl (Bg rfl AO Bu rfl rfl (by omega) (by omega) ?_))
 refine Pd tn _ rfl Bt rfl H at1 (by rw [htn]; simp) (by omega) rfl ?_
 refine Ad rfl rfl (Ap rfl rfl rfl (by omega) (by omega) ?_)
 refine Bg rfl AO Bu rfl rfl (by omega) (by omega) ?_
 refine BU tn (fun q => .int .i64 (f' q)) (.int _ _) rfl Bu rfl rfl rfl H at1 (by rw [htn]; simp) (by omega) (by rw [hst,CT]) (fun q _ hq=>by rw [hst,DG hq]) ?_
 rintro w H
 refine Ab (Aa (Af (Bb rfl Ts rfl ((H.old (Ay h4 _) n4)) ?_)))
 refine Ad rfl rfl (Ad rfl rfl ?_)
 obtain ⟨hc0,hS⟩:=OG (p:=(d,x)) ⟨hf,hh,hx.1,hx.2⟩
 dsimp only at hc0 hS
 have Hp:=H.perm (show List.Perm _ [_,_,_] from (List.Perm.swap _ _ _).trans ((List.Perm.swap _ _ _).cons _))
 refine Am rfl ca_69 (Y3 (k:=d.id) (x:=x) _ (H.ext.to hd nd) (H.get at2) hM (by intro h; exact nd (by rw [h]; simp)) ham) rfl ?_
 rintro v w ⟨rfl,o',hM',H2⟩
 rw [hc0]
 rw [hS] at hM'
 refine Ae rfl rfl (Ab (Aa (A8 (AB (v:=(.int _ _)) rfl rfl rfl ?_))))
 have HB:=Ctx.back (L1:=[_]) (L2:=[_,_]) (Hp.perm (List.Perm.swap _ _ _)) H2
 exact ⟨rfl,o',hM',(HB.perm (List.Perm.swap _ _ _)).left (L:=[_,_]) (L':=[_])⟩
end Go.Proofs.YtapphbmlkdhnmaaGreat

/- A round, applied. -/
namespace Go.Proofs.YtapphbmlkdhnmaaGreat
open Go.GV
attribute [local irreducible] AL W Wq Wt

theorem Zq {α:Type} (A B C p y q1 q2:α) (E:List α):(A::B::C::(E++[p,y,q1,q2])).Perm (y::C::A::B::p::q1::q2::E):=by
 have h1:(A::B::C::(E++[p,y,q1,q2])).Perm (A::B::C::p::y::q1::q2::E):=((List.perm_append_comm (l₁:=E) (l₂:=[p,y,q1,q2])).cons C |>.cons B).cons A
 have h2:(A::B::C::p::y::q1::q2::E).Perm (y::A::B::C::p::q1::q2::E):=List.perm_middle (l₁:=[A,B,C,p])
 have h3:(A::B::C::p::q1::q2::E).Perm (C::A::B::p::q1::q2::E):=List.perm_middle (l₁:=[A,B])
 exact h1.trans (h2.trans (h3.cons y))
theorem Ctx.turnEnt {w0 w w':World} {S:List Nat} {L:List (Nat × Obj)} {a:Option Addr} {t:TypeId} {full full':List Value} (H:Ctx w0 S w (L++ent a t full)) (he:Ext ((ent a t full).map (·.1)) w w') (hb:∀ x∈ent a t full',w'.heap[x.1]? = some x.2):Ctx w0 S w' (L++ent a t full'):=by
 have H':Ctx w ((ent a t full).map (·.1)) w' (ent a t full'):=⟨he,hb,Ir,fun x hx=>by
  cases a with
  | none=>simp [ent] at hx
  | some p =>
   simp only [ent,List.mem_singleton] at hx
   subst hx
   exact .inl (by simp [ent])⟩
 exact (Ctx.back (Ctx.comm H) H').comm
theorem Dr {w:World} {b:Nat} {t:TypeId} {l:List Value} (h:w.heap[b]? = some (Bl t l)) (o:Nat) (l':List Value) (hl:(l.drop o).take l'.length=l'):∀ j v,l'[j]? = some v→w.cell? ⟨b,o+j,none⟩=some v:=fun j v hv=>by
 rw [Ay h]
 have hj:=Cr hv
 rw [← hl,List.getElem?_take,if_pos hj,List.getElem?_drop] at hv
 exact hv
theorem ROff.or {q:RSl} {r:Rnd} {S T:Nat→Prop} (h:ROff q r S) (k:ROff q r T):ROff q r (fun x=>S x∨T x) :=
 ⟨fun g x=>x.elim (h.I g) (k.I g),fun g x=>x.elim (h.E g) (k.E g),fun g x=>x.elim (h.F g) (k.F g),fun g x=>x.elim (h.P g) (k.P g)⟩
/-- What a right round says. -/
structure ApF (acs:List Ac) (ds:List Du) (r:Rnd):Prop where
 B:Bright (acs.map Ce) ds
 N:r.N=(((acs.map Ce).length+1:Nat):Int)
 es:r.es=BF (acs.map Ce) (opn ds) r.cmp
 ids:r.ids=(opn ds).map Du.id
 pay:PayIn (opn ds) (r.fl.take (opn ds).length)
 len:r.fl.length=r.es.length
 by':∀ (k:Nat) (a:Ac),acs[k]? = some a→(r.cmp=true→byK (acs.map Ce) (opn ds) r.cmp r.fl k=0) ∧ -(Ce a)≤byK (acs.map Ce) (opn ds) r.cmp r.fl k∧byK (acs.map Ce) (opn ds) r.cmp r.fl k≤4503599627370496
 sum:B7 (byK (acs.map Ce) (opn ds) r.cmp r.fl) acs.length=0
 ok:JU ds ((opn ds).zip (r.fl.take (opn ds).length))
 all:G2 ds ((opn ds).zip (r.fl.take (opn ds).length))=DW ds (r.fl.take (opn ds).length)
theorem Xv {acs:List Ac} {ds:List Du} {nx:Int} {r:Rnd} (ha:DB acs=0) (hd:ofC ds nx=0) (hck:Ff r.N r.es r.fl r.pot=true) (hnow:IC acs ds r=true):ApF acs ds r:=by
 have hm64:=(D7.1 hd).1
 unfold IC at hnow
 simp only [Bool.and_eq_true,decide_eq_true_eq] at hnow
 obtain ⟨h1,h2,h3,h4⟩:=hnow
 have hB:=(EV (by omega)).1 h1
 have hN:r.N=(((acs.map Ce).length+1:Nat):Int):=by rw [List.length_map]; exact h2.symm
 have hf:=(JG.1 hck).1
 rw [hN,← h3] at hf
 obtain ⟨f1,f2,f3,f4⟩:=Xm (fun x hx=>(Da.1 (hB.may x hx)).1) hB.open'.due hf
 have hp:=YD f1 [] (by rw [List.nil_append]; exact QV hd)
 rw [List.nil_append] at hp
 rw [List.length_map] at f4
 exact ⟨hB,hN,h3.symm,h4.symm,f1,by rw [f2,h3],fun k a hk=>f3 k _ (by rw [List.getElem?_map,hk]; rfl),f4,hp.1,hp.2⟩
/-- What applying a round answers, and leaves. -/
def De (acs:List Ac) (ds:List Du) (r:Rnd):Int:=if Ff r.N r.es r.fl r.pot=false then 1 else if IC acs ds r=false then 3 else 0
def DY (acs:List Ac) (ds:List Du) (r:Rnd):List Ac:=if De acs ds r=0 then shA acs (tab (byK (acs.map Ce) (opn ds) r.cmp r.fl) acs.length) else acs
def Dz (acs:List Ac) (ds:List Du) (r:Rnd):List Du:=if De acs ds r=0 then DW ds (r.fl.take (opn ds).length) else ds
theorem E6 {acs:List Ac} {ds:List Du} {nx:Int} {r:Rnd} (ha:DB acs=0) (hd:ofC ds nx=0) (h:De acs ds r=0):ApF acs ds r:=by
 unfold De at h
 cases h1:Ff r.N r.es r.fl r.pot with
 | false=>rw [if_pos h1] at h; simp at h
 | true =>
  rw [if_neg (by rw [h1]; decide)] at h
  cases h2:IC acs ds r with
  | false=>rw [if_pos h2] at h; simp at h
  | true=>exact Xv ha hd h1 h2
theorem JH {acs:List Ac} {ds:List Du} {nx:Int} {r:Rnd} (ha:DB acs=0) (hd:ofC ds nx=0):DB (DY acs ds r)=0∧ofC (Dz acs ds r) nx=0∧(DY acs ds r).length=acs.length:=by
 unfold DY Dz
 by_cases h:De acs ds r=0
 ·rw [if_pos h,if_pos h]
  have F:=E6 ha hd h
  exact ⟨(Hu ha (fun k a hk=>(F.by' k a hk).2) F.sum).2,YC F.pay hd,PE⟩
 ·rw [if_neg h,if_neg h]
  exact ⟨ha,hd,rfl⟩
abbrev LX (bx:Nat) (a:Option Addr) (n c:Nat) (full:List Value) (bd b:Nat) (nx:Int) (o:Obj):List (Nat × Obj):=(bx,Bl 116 [.slice a n c])::(bd,Bl 123 (DU b nx))::(b,o)::ent a 64 full
structure AP7 where
 i:Nat
 o:Obj
set_option maxRecDepth 20000 in
set_option maxHeartbeats 8000000 in
theorem Xw {bx bd b c:Nat} {a:Option Addr} {full:List Value} {o:Obj} {acs:List Ac} {ds:List Du} {nx:Int} {r:Rnd} {q:RSl} (ha:DB acs=0) (hd:ofC ds nx=0) (w:World)
  (H0:Ctx w ((LX bx a acs.length c full bd b nx o).map (·.1)) w (LX bx a acs.length c full bd b nx o)) (O:OS a acs.length c 2 full (acs.flatMap CB)) (hM:D8 .u64 (dm ds) o) (RA:RAt w r q) (hoff:ROff q r (·∈(LX bx a acs.length c full bd b nx o).map (·.1)))
  (hN:I64 r.N) (he:r.es.length≤1000000) (hi:r.ids.length≤1000000) (hf:r.fl.length≤1000000) (hp:r.pot.length≤1000000) :
  Ret Tryz.prog 21 #[ptr bx,ptr bd,.agg (Br r q).toArray] w fun v w'=>v = .int .i64 (De acs ds r)∧∃ full' o',OS a acs.length c 2 full' ((DY acs ds r).flatMap CB)∧D8 .u64 (dm (Dz acs ds r)) o' ∧
   Ctx w ((LX bx a acs.length c full bd b nx o).map (·.1)) w' (LX bx a acs.length c full' bd b nx o'):=by
 obtain ⟨w0,rfl⟩:∃ w0,w0=w:=⟨_,rfl⟩
 have H:=Ctx.start w0 []
 have hn16:=(Dy.1 ha).1
 have hm64:=(D7.1 hd).1
 have hbx:=H0.get at0
 have hbd:=H0.get at1
 have hb:=H0.get at2
 have RAc:Rd w0 a 2 CB acs:=OS.rd O (fun x hx=>H0.blk x (List.mem_cons_of_mem _ (List.mem_cons_of_mem _ (List.mem_cons_of_mem _ hx)))) (fun _ _=>rfl) (by decide)
 have A:AcAt w0 116 bx acs:=⟨a,c,hbx,RAc⟩
 have D:DuAt w0 bd ds:=⟨b,nx,o,hbd,hb,hM⟩
 obtain ⟨ck,hck⟩:∃ ck,ck=Ff r.N r.es r.fl r.pot:=⟨_,rfl⟩
 obtain ⟨nw,hnw⟩:∃ nw,nw=IC acs ds r:=⟨_,rfl⟩
 refine A9 (fn:=Tryz.f21) Tryz.func21 rfl [.pointer (some ⟨bx,0,none⟩),.pointer (some ⟨bd,0,none⟩),.agg (Br r q).toArray] rfl (by kernel_rfl) ?_
 refine Af (BC rfl [ptr bd] (.pointer _) rfl rfl H ?_)
 rintro b4 w - H
 refine BC rfl (Br r q) (.agg _) rfl rfl H ?_
 rintro b5 w - H
 refine Ae rfl rfl (Ab (Aa (An (Au (Af (BD (α:=Unit) 520192 (fun _=>[(12,.bool (false))]) (fun _ w'=>Ctx w0 [] w' [(b5,Bl 33 (Br r q)),(b4,Bl 36 [ptr bd])]) rfl ?_ ?_))))))
 ·refine A2 rfl rfl (CK rfl MO rfl ?_)
  refine Aw rfl rfl (AE 15 rfl ?_ ?_)
  ·intro h1
   refine Ag rfl (Ag rfl (AA rfl rfl (.bool _) rfl (Ai rfl rfl (Ab ?_))))
   exact ⟨rfl,(),rfl,⟨congrArg Value.bool (by simp_all),trivial⟩,H⟩
  ·intro h2
   refine AN rfl Ts rfl H at1 rfl (CK rfl K8 rfl ?_)
   refine A6 rfl rfl (.bool _) rfl (Ai rfl rfl (Ab ?_))
   exact ⟨rfl,(),rfl,⟨congrArg Value.bool (by rfl),trivial⟩,H⟩
 rintro - j12 w H
 refine CJ rfl (Af (Ah rfl FD rfl (Cv _ rfl Cm BQ rfl rfl ((Dr (b:=b5) (t:=33) (l:=Br r q) (H.get at0) 4 [.int .i64 r.N,.slice q.aE r.es.length q.cE] rfl)) ?_)))
 refine Ah rfl FE rfl (Cv _ rfl NV LA rfl rfl ((Dr (b:=b5) (t:=33) (l:=Br r q) (H.get at0) 6 [.slice q.aF r.fl.length q.cF,.slice q.aP r.pot.length q.cP] rfl)) ?_)
 refine Am rfl ca_66 (Ws r.N q.aE q.aF q.aP _ q.cE _ q.cF _ q.cP r.es r.fl r.pot _ (RA.E.ext0 H.ext) rfl hN (RA.F.ext0 H.ext) rfl (by omega) (RA.P.ext0 H.ext) rfl (by omega)) rfl ?_
 rintro v w ⟨rfl,hx24⟩
 rw [← hck]
 replace H:=H.call hx24
 refine B1 rfl rfl (Ai rfl rfl (Ab (Aa (Aq _ rfl ?_ ?_))))
 ·intro h1
  replace h1:=Bv h1
  refine Af (Ae rfl rfl (Ab (Aa (A8 (A1 (Al (AB (v:=(.int _ _)) rfl rfl rfl ?_)))))))
  have h1':ck=false:=by simpa using h1
  have hC:De acs ds r=1:=by unfold De; rw [← hck,if_pos h1']
  unfold DY Dz
  rw [hC,if_neg (by decide),if_neg (by decide)]
  exact ⟨rfl,full,o,O,hM,H0.call H.ext⟩
 ·intro h1
  replace h1:=Bw h1
  have h1':ck=true:=by simpa using h1
  refine Af (A2 rfl rfl (AN rfl Ts rfl H at1 rfl (B6 rfl FN DL rfl H at0 rfl (Am rfl ca_67 (Ab6 ha hd _ (A.ext0 H.ext) (D.ext0 H.ext) (RA.ext0 H.ext) he hi) rfl ?_))))
  rintro v w ⟨rfl,hx30⟩
  rw [← hnw]
  replace H:=H.call hx30
  refine B1 rfl rfl (Ai rfl rfl (Ab (Aa (Aq _ rfl ?_ ?_))))
  ·intro h2
   replace h2:=Bv h2
   refine Af (Ae rfl rfl (Ab (Aa (A8 (A1 (Al (AB (v:=(.int _ _)) rfl rfl rfl ?_)))))))
   have h2':nw=false:=by simpa using h2
   have hC:De acs ds r=3:=by unfold De; rw [← hck,h1',if_neg (by decide),← hnw,if_pos h2']
   unfold DY Dz
   rw [hC,if_neg (by decide),if_neg (by decide)]
   exact ⟨rfl,full,o,O,hM,H0.call H.ext⟩
  ·intro h2
   replace h2:=Bw h2
   have h2':nw=true:=by simpa using h2
   have hC:De acs ds r=0:=by unfold De; rw [← hck,h1',if_neg (by decide),← hnw,h2',if_neg (by decide)]
   have F:=E6 ha hd hC
   unfold DY Dz
   rw [hC,if_pos rfl,if_pos rfl]
   have hSh:=(Hu ha (fun k a hk=>(F.by' k a hk).2) F.sum).1
   obtain ⟨f,hf0⟩:∃ f:Nat→Nat→Int,f=fun i=>Ee (grE (((acs.map Ce).length+1:Nat):Int) (BF (acs.map Ce) (opn ds) r.cmp)) (flE r.fl) i:=⟨_,rfl⟩
   have hfe:byK (acs.map Ce) (opn ds) r.cmp r.fl=f (opn ds).length:=by rw [hf0]; rfl
   rw [hfe] at hSh ⊢
   have hf00:f 0=fun _=>0:=by rw [hf0]; rfl
   obtain ⟨m,hm⟩:∃ m,m=(opn ds).length:=⟨_,rfl⟩
   have hml:m≤64:=by have:=G4 ds; omega
   have hmf:m≤r.fl.length:=by rw [F.len,F.es,Fc]; omega
   have hltm:(r.fl.take m).length=m:=by rw [List.length_take]; omega
   have hidl:r.ids.length=m:=by rw [F.ids,List.length_map,hm]
   have hcut:SA (r.ids.length:Int) r.fl.length=m:=by unfold SA; rw [hidl]; omega
   rw [← hm] at hSh ⊢
   refine Ao (A5 (Aa (Af (A2 rfl rfl (Am rfl NX (Ib (bd:=bx) a acs.length c acs _ (H.ext.to hbx (by simp)) (RAc.ext0 H.ext) rfl (by omega)) rfl ?_)))))
   rintro v w F33
   obtain ⟨a33,n33,c33,f33,rfl,O33,-⟩:=F33.ex
   obtain rfl:=O33.numN (fun _ _=>rfl) (by decide)
   replace H:=H.call F33.ext
   refine AV rfl CL rfl (F8 rfl AO Bu HN Fa rfl rfl (by omega) (by omega) (by omega) (by omega) H ?_)
   rintro b35 w - H
   rw [Int.toNat_natCast,DZ] at H
   rw [Int.toNat_natCast]
   refine Bj rfl Zm H ?_
   rintro b7 w - H
   refine Cy (.slice _ _ _) rfl Zk rfl rfl rfl H at0 (by decide) ?_
   rintro w H
   refine Ab (Aa (Af (Dn rfl [.pointer _,.pointer _] rfl (Df rfl (.func _ _ _) rfl ?_))))
   refine Ab (Aa (An (Af (Ah rfl FD rfl (Cv _ rfl Cm BQ rfl rfl ((Dr (b:=b5) (t:=33) (l:=Br r q) (H.get at2) 4 [.int .i64 r.N,.slice q.aE r.es.length q.cE] rfl)) ?_)))))
   refine Ah rfl FE rfl (Ah rfl FC rfl (AN rfl BX rfl H at2 rfl (Ah rfl Ix rfl (AN rfl Kz rfl H at2 rfl (AV rfl Bz rfl (Am rfl ca_70 (Y6 r.N q.aE q.aF r.es.length q.cE _ q.cF (r.ids.length:Int) r.fl _ (RA.F.ext0 H.ext) rfl RA.fc hf) rfl ?_))))))
   rintro v w F45
   rw [hcut] at F45
   obtain ⟨a45,n45,c45,f45,rfl,O45,hb45⟩:=F45.ex
   have hn45:=O45.num
   rw [List.length_take,Nat.min_eq_left hmf] at hn45
   rw [hn45] at O45 ⊢
   refine AV rfl AO rfl (Ad rfl rfl (Ab (Aa (Au ?_))))
   have HFp:=(Ctx.callEnt H0 H.ext (fun x hx=>⟨H.blk x hx,(H.own x hx).elim (fun h=>by cases h) id⟩) H.nd).perm (Zq _ _ _ _ _ _ _ _)
   have HF:=HFp.call F45.ext
   have E9:=H.ext.trans F45.ext
   obtain ⟨S9,hS9⟩:∃ S9,S9=((b35,Bl 2 (List.map (fun _=>Value.int .i64 0) (List.range acs.length)))::(b,o)::(bx,Bl 116 [.slice a acs.length c])::(bd,Bl 123 (DU b nx))::(b7,Bl 29 [.slice (some ⟨b35,0,none⟩) acs.length acs.length])::(b5,Bl 33 (Br r q))::(b4,Bl 36 [ptr bd])::ent a 64 full).map (·.1):=⟨_,rfl⟩
   have RPY:Rd w a45 1 I1 (r.fl.take m):=O45.rd1 fun x hx=>(hb45 x hx).1
   have hPY:r.fl.take m≠[]→(adr a45).block∉S9:=fun hne hm9=>by
    obtain ⟨z,rfl⟩:=O45.form (by have:=List.length_pos_iff.2 hne; rw [List.length_take] at this; omega)
    have h7:=(hb45 (z,Bl 2 f45) (List.mem_singleton.2 rfl)).2
    rw [hS9] at hm9
    obtain ⟨y,hy,hy2⟩:=List.mem_map.1 hm9
    have h8:=Bp (HFp.blk y hy)
    dsimp only at h7
    have h9:y.1=z:=hy2
    omega
   have RA9:=RA.ext0 E9
   have hoff9:ROff q r (·∈S9):=(hoff.or RA.lt).mono fun x hx=>by
    rw [hS9] at hx
    obtain ⟨y,hy,rfl⟩:=List.mem_map.1 hx
    exact HFp.own y hy
   clear HFp
   obtain ⟨w9,rfl⟩:∃ z,z=w:=⟨_,rfl⟩
   replace HF:Ctx w0 ((LX bx a acs.length c full bd b nx o).map (·.1)) w9 (((b35,Bl 2 (List.map (fun _=>Value.int .i64 0) (List.range acs.length)))::(b,o)::(bx,Bl 116 [.slice a acs.length c])::(bd,Bl 123 (DU b nx))::(b7,Bl 29 [.slice (some ⟨b35,0,none⟩) acs.length acs.length])::(b5,Bl 33 (Br r q))::(b4,Bl 36 [ptr bd])::ent a 64 full)++[]):=by rw [List.append_nil]; exact HF
   have H:Ctx w9 S9 w9 ((b35,Bl 2 (List.map (fun _=>Value.int .i64 0) (List.range acs.length)))::(b,o)::(bx,Bl 116 [.slice a acs.length c])::(bd,Bl 123 (DU b nx))::(b7,Bl 29 [.slice (some ⟨b35,0,none⟩) acs.length acs.length])::(b5,Bl 33 (Br r q))::(b4,Bl 36 [ptr bd])::ent a 64 full):=by rw [hS9]; exact Ctx.lend HF
   refine Bf 18446603336221199936 (α:=AP7) (fun t=>[(47,.int .i64 (t.i:Int))]) (fun t w'=>t.i≤m∧D8 .u64 (dm (G2 ds (((opn ds).zip (r.fl.take m)).take t.i))) t.o∧Ctx w9 S9 w' ((b35,Bl 2 (BE (f t.i) acs.length))::(b,t.o)::(bx,Bl 116 [.slice a acs.length c])::(bd,Bl 123 (DU b nx))::(b7,Bl 29 [.slice (some ⟨b35,0,none⟩) acs.length acs.length])::(b5,Bl 33 (Br r q))::(b4,Bl 36 [ptr bd])::ent a 64 full)) (fun t=>m - t.i) ⟨0,o⟩ rfl ?_ ?_ ?_
   ·exact ⟨rfl,trivial⟩
   ·refine ⟨Nat.zero_le _,hM,?_⟩
    dsimp only
    rw [hf00]
    exact H
   ·clear H
    rintro ⟨i,o1⟩ jj w ⟨hi7,hM1,H⟩; dsimp only at hi7 hM1 H; dsimp only
    refine Af (AZ rfl rfl rfl (Ab (Aa (An (Aq _ rfl ?_ ?_)))))
    ·intro h3
     replace h3:=AF h3
     obtain ⟨d,hdi⟩:=A0 (l:=opn ds) (i:=i) (by omega)
     obtain ⟨x,hxi⟩:=A0 (l:=r.fl) (i:=i) (by omega)
     have hxt:(r.fl.take m)[i]? = some x:=by rw [List.getElem?_take,if_pos (by omega)]; exact hxi
     have hid:r.ids[i]? = some d.id:=by rw [F.ids,List.getElem?_map,hdi]; rfl
     have hps:((opn ds).zip (r.fl.take m))[i]? = some (d,x):=by rw [List.getElem?_zip_eq_some]; exact ⟨hdi,hxt⟩
     have hok:=F.ok
     rw [← hm] at hok
     obtain ⟨⟨hfd,hheld,hx0,hx1⟩,hnext⟩:=Nk hok hps
     dsimp only at hfd hheld hx0 hx1 hnext
     have ham7:=(PD (TQ hd) hok i).1
     have hDI:=F.B.open'.due d (List.mem_of_getElem? hdi)
     rw [List.length_map] at hDI
     have hdm:=E5 hDI.1
     have hfb:∀ k,-1152921504606846976≤f i k∧f i k≤1152921504606846976:=fun k=>by
      have:=GS (g:=grE (((acs.map Ce).length+1:Nat):Int) (BF (acs.map Ce) (opn ds) r.cmp)) (x:=flE r.fl) (c:=4503599627370496) k (k:=i) fun j hj=>by
       obtain ⟨d',hd'⟩:=A0 (l:=opn ds) (i:=j) (by omega)
       obtain ⟨x',hx'⟩:=A0 (l:=r.fl) (i:=j) (by omega)
       have h1:=F.pay.2 j d' x' hd' (by rw [List.getElem?_take,if_pos (by omega)]; exact hx')
       have h2:=(E5 (F.B.open'.due d' (List.mem_of_getElem? hd')).1).2.2.2.1
       show 0≤r.fl.getD j 0∧r.fl.getD j 0≤_
       rw [Bn hx']
       omega
      rw [hf0]
      dsimp only
      omega
     have hfs:∀ k,f (i+1) k=f i k+(one (d.to.toNat=k) - one (d.fr.toNat=k))*x:=fun k=>by
      rw [hf0]
      dsimp only
      rw [G8,Nl (G3 hdi),Nm (G3 hdi),show flE r.fl i=x from Bn hxi]; rfl
     refine Ao (Aa (An (Au (Af (Ad rfl rfl (AK RPY rfl AO Bu rfl rfl (by omega) (by omega) (by omega) ?_))))))
     refine Bb rfl Bt rfl (((RPY.ext' H.ext hPY).fld hxt rfl (j:=0) rfl)) ?_
     refine Ae rfl rfl (Ae rfl rfl (Ab (Aa (Af (D0 rfl (.func _ _ _) rfl ?_)))))
     refine Ah rfl Ix rfl (AN rfl Kz rfl H at5 rfl (Ad rfl rfl (AK RA9.I rfl Bz Bo rfl rfl (by omega) (by omega) (by rfl) ?_)))
     refine Bb rfl BK rfl (((RA9.I.ext' H.ext hoff9.I).fld hid rfl (j:=0) rfl)) ?_
     refine Ad rfl rfl (IZ rfl rfl ca_68 (YJ (f:=f i) (f':=f (i+1)) (x:=x) (d:=d) _ (H.get at6) (H.get at4) (H.get at3) (Ctx.lend (L1:=[_,_]) (L2:=_) H) hM1 (fun h=>by simp only [List.mem_cons,List.not_mem_nil,or_false] at h; exact h.elim (H.ne at6 at0 (by decide)) (H.ne at6 at1 (by decide))) (fun h=>by simp only [List.mem_cons,List.not_mem_nil,or_false] at h; exact h.elim (H.ne at4 at0 (by decide)) (H.ne at4 at1 (by decide))) (fun h=>by simp only [List.mem_cons,List.not_mem_nil,or_false] at h; exact h.elim (H.ne at3 at0 (by decide)) (H.ne at3 at1 (by decide))) hfd hheld ⟨hx0,hx1⟩ ham7 ⟨hdm.1.1,hDI.2.1⟩ ⟨hdm.2.1.1,hDI.2.2⟩ (by omega) hfb hfs) rfl ?_)
     rintro v w ⟨rfl,o2,hM2,H2⟩
     replace H:=Ctx.back (L1:=[_,_]) (L2:=_) H H2
     rw [← hnext] at hM2
     refine Ae rfl rfl (Ab (Aa (Af (Ad rfl rfl (Cp rfl rfl rfl (Ab (Aa (Aq _ rfl ?_ ?_))))))))
     ·intro h4
      replace h4:=CY h4
      exact absurd rfl h4
     ·intro h4
      replace h4:=CZ h4
      refine Ao (A5 (Aa (Av (Ap rfl rfl rfl (by omega) (by omega) ?_))))
      refine Ad rfl rfl (Ab (Aa ?_))
      exact ⟨⟨i+1,o2⟩,rfl,⟨rfl,trivial⟩,⟨by dsimp only; omega,hM2,H⟩,by dsimp only; omega⟩
    ·intro h3
     replace h3:=AG h3
     obtain rfl:i=m:=by omega
     have hall:=F.all
     rw [← hm] at hall
     rw [List.take_of_length_le (by rw [List.length_zip,← hm,List.length_take]; omega),hall] at hM1
     refine Bc (Ak (Ak (AD (Aa (Af (A2 rfl rfl (AN rfl BX rfl H at4 rfl (Am rfl ca_71 (UJ (bd:=bx) a (some ⟨b35,0,none⟩) c acs.length acs.length full acs (tab (f i) acs.length) _ (H.get at2) O (fun x hx=>⟨H.blk x (List.mem_append_right [_,_,_,_,_,_,_] hx),fun h=>(List.pairwise_cons.1 H0.nd).1 x (List.mem_cons_of_mem _ (List.mem_cons_of_mem _ hx)) h.symm⟩) (by omega) (Cs (H.get at0)) (CQ _ _) (by omega)) rfl ?_))))))))
     rintro v w ⟨rfl,full',O',hb',hx66⟩
     rw [hSh]
     refine Ae rfl rfl (Ab (Aa (A8 (AB (v:=(.int _ _)) rfl rfl rfl ?_))))
     have HT:=Ctx.turnEnt (L:=[_,_,_,_,_,_,_]) H hx66 hb'
     rw [hS9] at HT
     have HB:=Ctx.back HF HT
     rw [List.append_nil] at HB
     exact ⟨rfl,full',o1,O',hM1,(HB.perm (Zq _ _ _ _ _ _ _ _).symm).left (L':=[_,_,_,_])⟩
end Go.Proofs.YtapphbmlkdhnmaaGreat

/- What a round keeps: plain law. -/
namespace Go.Proofs.YtapphbmlkdhnmaaGreat
open Go.GV
attribute [local irreducible] AL W Wq Wt

/-- How a due weighs in a bank's place. -/
def plc (k:Nat) (d:Du):Int:=one (d.to=(k:Int)) - one (d.fr=(k:Int))
theorem Ii {p q:Prop} [Decidable p] [Decidable q] (h:p↔q):one p=one q:=by
 by_cases hp:p
 ·rw [ET hp,ET (h.1 hp)]
 ·rw [EB hp,EB (fun hq=>hp (h.2 hq))]
/-- What a bank has, and is owed, less what it owes. -/
def Ki (acs:List Ac) (ds:List Du) (k:Nat):Int:=(acs.getD k a00).ba+CO (ds.map fun d=>plc k d*d.am)
theorem YK {rs:List Int} {os:List Du} {net:Bool} {fl:List Int} {k:Nat} (hos:∀ d∈os,0≤d.fr∧0≤d.to) (hl:os.length≤fl.length):byK rs os net fl k=CO (List.zipWith (fun d x=>plc k d*x) os (fl.take os.length)):=by
 unfold byK Ee
 rw [← QG]
 congr 1
 refine List.ext_getElem? fun i=>?_
 rcases Nat.lt_or_ge i os.length with hi | hi
 ·obtain ⟨d,hd⟩:=A0 hi
  obtain ⟨x,hx⟩:=A0 (l:=fl) (i:=i) (by omega)
  have he:=G3 (rs:=rs) (net:=net) hd
  have h0:=hos d (List.mem_of_getElem? hd)
  rw [BN hi,List.getElem?_zipWith,hd,List.getElem?_take,if_pos hi,hx,Nm he,Nl he]
  unfold flE
  rw [Bn hx]
  have h1:one ((Fu d).t.toNat=k)=one (d.to=(k:Int)):=Ii ⟨fun h=>by have:d.to.toNat=k:=h; omega,fun h=>by show d.to.toNat=k; omega⟩
  have h2:one ((Fu d).f.toNat=k)=one (d.fr=(k:Int)):=Ii ⟨fun h=>by have:d.fr.toNat=k:=h; omega,fun h=>by show d.fr.toNat=k; omega⟩
  rw [h1,h2]
  rfl
 ·rw [List.getElem?_eq_none (by rw [CQ]; omega),List.getElem?_eq_none (by rw [List.length_zipWith]; omega)]
theorem Mi {nx:Int} {ds:List Du} (hd:ofC ds nx=0) {d:Du} (h:d∈ds):(0≤d.fr∧d.fr<16)∧(0≤d.to∧d.to<16)∧d.fr≠d.to∧(1≤d.am∧d.am≤4503599627370496):=by
 have:=E5 (SB hd h).2.2
 exact ⟨this.1,this.2.1,this.2.2.1,this.2.2.2.1⟩
theorem GC {acs:List Ac} {ds:List Du} {nx:Int} {r:Rnd} (ha:DB acs=0) (hd:ofC ds nx=0) (hC:De acs ds r=0) {k:Nat} {a:Ac} (hk:acs[k]? = some a):(DY acs ds r)[k]? = some ⟨a.ba+byK (acs.map Ce) (opn ds) r.cmp r.fl k,a.re⟩:=by
 have F:=E6 ha hd hC
 unfold DY
 rw [if_pos hC]
 exact TR (Hu ha (fun k a hk=>(F.by' k a hk).2) F.sum).1 hk
/-- Each bank's place is what it was. -/
theorem SN {acs:List Ac} {ds:List Du} {nx:Int} {r:Rnd} (ha:DB acs=0) (hd:ofC ds nx=0) (hC:De acs ds r=0) {k:Nat} (hk:k<acs.length):Ki (DY acs ds r) (Dz acs ds r) k=Ki acs ds k:=by
 obtain ⟨a,hk⟩:=A0 hk
 have F:=E6 ha hd hC
 have hmf:(opn ds).length≤r.fl.length:=by rw [F.len,F.es,Fc]; omega
 have hb:=YK (rs:=acs.map Ce) (os:=opn ds) (net:=r.cmp) (fl:=r.fl) (k:=k) (fun d h=>by have:=Mi hd (Mg h).1; omega) hmf
 have hs:=QT (plc k) (fun _ _=>rfl) F.pay
 unfold Ki
 rw [Bn (GC ha hd hC hk),Bn hk,hb]
 unfold Dz
 rw [if_pos hC,hs]
 dsimp only
 omega
/-- What a planned round does: it can be applied. -/
theorem Lt {acs:List Ac} {ds:List Du} {net:Bool} {r:Rnd} (hb:CD (acs.map Ce) ds=true) (P:PlanR acs ds net r):De acs ds r=0:=by
 unfold De IC
 rw [P.chk,hb,P.cmp,P.es,P.ids,P.N]
 simp
theorem Xx {acs:List Ac} {ds:List Du} {nx:Int} {r:Rnd} (ha:DB acs=0) (hd:ofC ds nx=0) (hC:De acs ds r=0) {k:Nat} {a b:Ac} (hk:acs[k]? = some a) (hb:(DY acs ds r)[k]? = some b):min a.ba a.re≤b.ba∧b.re=a.re∧(r.cmp=true→b.ba=a.ba):=by
 have F:=E6 ha hd hC
 rw [GC ha hd hC hk] at hb
 injection hb with hb
 obtain ⟨h1,h2,-⟩:=F.by' k a hk
 subst hb
 refine ⟨?_,rfl,fun h=>by dsimp only; rw [h1 h]; omega⟩
 have h3:Ce a=max 0 (a.ba - a.re):=rfl
 rw [h3] at h2
 dsimp only
 omega
theorem KN:∀ {ds:List Du} {xs:List Int} {e:Du},e∈DW ds xs→∃ d∈ds,e.id=d.id
 | [],_,_,h=>by cases h
 | d::ds,[],e,h=>⟨e,h,rfl⟩
 | d::ds,x::xs,e,h=>by
  unfold DW at h
  split at h
  ·rcases List.mem_cons.1 h with rfl | h
   ·exact ⟨_,List.mem_cons_self ..,rfl⟩
   ·obtain ⟨d',h1,h2⟩:=KN h
    exact ⟨d',List.mem_cons_of_mem _ h1,h2⟩
  ·split at h
   ·obtain ⟨d',h1,h2⟩:=KN h
    exact ⟨d',List.mem_cons_of_mem _ h1,h2⟩
   ·rcases List.mem_cons.1 h with rfl | h
    ·exact ⟨d,List.mem_cons_self ..,rfl⟩
    ·obtain ⟨d',h1,h2⟩:=KN h
     exact ⟨d',List.mem_cons_of_mem _ h1,h2⟩
/-- How far the dues and what is left of them are gone through. -/
def MgI (ds left:List Du) (i j:Nat):Prop:=j≤left.length∧∃ xs,PayIn (opn (ds.drop i)) xs∧left.drop j=DW (ds.drop i) xs
theorem MgI.start {ds:List Du} {xs:List Int} (h:PayIn (opn ds) xs):MgI ds (DW ds xs) 0 0:=⟨Nat.zero_le _,xs,h,rfl⟩
theorem ID {α:Type} {l:List α} {i:Nat} {x:α} (h:l[i]? = some x):l.drop i=x::l.drop (i+1):=by
 obtain ⟨h1,rfl⟩:=List.getElem?_eq_some_iff.1 h
 exact List.drop_eq_getElem_cons h1
theorem ON {α:Type} {l m:List α} {j:Nat} {x:α} (h:l.drop j=x::m):l[j]? = some x∧l.drop (j+1)=m:=by
 have h1:(l.drop j)[0]? = some x:=by rw [h]; rfl
 rw [List.getElem?_drop,Nat.add_zero] at h1
 refine ⟨h1,?_⟩
 rw [ID h1] at h
 injection h
theorem MgI.step {ds left:List Du} {i j:Nat} {d:Du} (hs:(ds.map (·.id)).Pairwise (·<·)) (h:MgI ds left i j) (hd:ds[i]? = some d) (hp:1≤d.am) :
  (∃ e,left[j]? = some e∧e.id=d.id∧e.am≤d.am∧1≤e.am∧(d.held=true→e=d)∧MgI ds left (i+1) (j+1)) ∨
  (d.held=false∧(∀ e,left[j]? = some e→e.id≠d.id)∧MgI ds left (i+1) j):=by
 obtain ⟨hj,xs,hP,hl⟩:=h
 rw [ID hd] at hP hl
 rw [FH] at hP
 by_cases hh:d.held=true
 ·rw [if_pos hh] at hP
  have hl':left.drop j=d::DW (ds.drop (i+1)) xs:=by
   rw [hl]; exact Hf hh _ _
  obtain ⟨g1,g2⟩:=ON hl'
  exact .inl ⟨d,g1,rfl,Int.le_refl _,hp,fun _=>rfl,Cr g1,xs,hP,g2⟩
 ·rw [if_neg hh] at hP
  obtain ⟨x,xs,rfl⟩:=PayIn.cons hP
  obtain ⟨⟨h0,h1⟩,hP⟩:=PayIn.tail hP
  rw [Hg hh] at hl
  by_cases hx:d.am=x
  ·rw [if_pos hx,List.nil_append] at hl
   refine .inr ⟨by simpa using hh,fun e he hid=>?_,hj,xs,hP,hl⟩
   have h3:=ID he
   rw [hl] at h3
   obtain ⟨d',hd',hid'⟩:=KN (e:=e) (by rw [h3]; exact List.mem_cons_self ..)
   have hs':((ds.drop i).map (·.id)).Pairwise (·<·):=by rw [List.map_drop]; exact hs.drop
   rw [ID hd,List.map_cons,List.pairwise_cons] at hs'
   have:=hs'.1 d'.id (List.mem_map_of_mem hd')
   omega
  ·rw [if_neg hx,List.cons_append,List.nil_append] at hl
   obtain ⟨g1,g2⟩:=ON hl
   exact .inl ⟨_,g1,rfl,by dsimp only; omega,by dsimp only; omega,fun h=>absurd h hh,Cr g1,xs,hP,g2⟩
theorem MgI.ends {ds left:List Du} {j:Nat} (h:MgI ds left ds.length j):j=left.length:=by
 obtain ⟨hj,xs,-,hl⟩:=h
 rw [List.drop_length] at hl
 have:=congrArg List.length hl
 rw [List.length_drop] at this
 have h0:(DW [] xs).length=0:=rfl
 omega
end Go.Proofs.YtapphbmlkdhnmaaGreat

/- Nets that are the same but for the names: plain law of what a round is worth. -/
namespace Go.Proofs.YtapphbmlkdhnmaaGreat
open Go.GV
attribute [local irreducible] AL W Wq Wt

/-- A sum, gone through in another order. -/
theorem TU {F:Nat→Int} {E:Nat} {s:Nat→Nat} (h1:∀ i,i<E→s i<E) (h2:∀ i,i<E→s (s i)=i):B7 (fun i=>F (s i)) E=B7 F E:=by
 have e1:B7 (fun i=>F (s i)) E=B7 (fun i=>B7 (fun j=>one (s i=j)*F j) E) E:=C4 fun i hi=>(G1 F (h1 i hi)).symm
 have e2:=MQ (fun i j=>one (s i=j)*F j) E E
 have e3:B7 (fun j=>B7 (fun i=>one (s i=j)*F j) E) E=B7 F E:=C4 fun j hj=>by
  have:B7 (fun i=>one (s i=j)*F j) E=B7 (fun i=>one (s j=i)*F j) E:=C4 fun i hi=>by
   rw [Ii (p:=s i=j) (q:=s j=i) ⟨fun h=>by rw [← h,h2 i hi],fun h=>by rw [← h,h2 j hj]⟩]
  rw [this]
  exact G1 (fun _=>F j) (h1 j hj)
 rw [e1,← e3]
 exact e2
/-- Two nets that are one but for the names of edges and nodes. -/
structure Twin (g g':Gr) (cap cap':Nat→Int) (s p:Nat→Nat):Prop where
 N:g'.N=g.N
 E:g'.E=g.E
 s1:∀ i,i<g.E→s i<g.E
 s2:∀ i,i<g.E→s (s i)=i
 p1:∀ v,v<g.N→p v<g.N
 p2:∀ v,v<g.N→p (p v)=v
 f:∀ i,i<g.E→g'.f (s i)=p (g.f i)
 t:∀ i,i<g.E→g'.t (s i)=p (g.t i)
 co:∀ i,i<g.E→g'.co (s i)=g.co i
 cap:∀ i,i<g.E→cap' (s i)=cap i
theorem Twin.symm {g g':Gr} {cap cap':Nat→Int} {s p:Nat→Nat} (hg':g'.Ok) (hg:g.Ok) (T:Twin g g' cap cap' s p):Twin g' g cap' cap s p :=
 ⟨T.N.symm,T.E.symm,fun i hi=>by rw [T.E] at hi ⊢; exact T.s1 i hi,fun i hi=>by rw [T.E] at hi; exact T.s2 i hi,
  fun v hv=>by rw [T.N] at hv ⊢; exact T.p1 v hv,fun v hv=>by rw [T.N] at hv; exact T.p2 v hv,
  fun i hi=>by
   rw [T.E] at hi
   have h:=T.f (s i) (T.s1 i hi)
   rw [T.s2 i hi] at h
   rw [h,T.p2 _ (hg.f _ (T.s1 i hi))],
  fun i hi=>by
   rw [T.E] at hi
   have h:=T.t (s i) (T.s1 i hi)
   rw [T.s2 i hi] at h
   rw [h,T.p2 _ (hg.t _ (T.s1 i hi))],
  fun i hi=>by
   rw [T.E] at hi
   have h:=T.co (s i) (T.s1 i hi)
   rw [T.s2 i hi] at h
   exact h.symm,
  fun i hi=>by
   rw [T.E] at hi
   have h:=T.cap (s i) (T.s1 i hi)
   rw [T.s2 i hi] at h
   exact h.symm⟩
theorem Twin.le {g g':Gr} {cap cap' x x' p':Nat→Int} {q:Nat→Int} {s p:Nat→Nat} (T:Twin g g' cap cap' s p) (hg:g.Ok) (h:Fine g cap x q) (h0:∀ v,v<g.N→BA g x v=0) (h':Fine g' cap' x' p') (h0':∀ v,v<g'.N→BA g' x' v=0):Gh g x≤Gh g' x':=by
 have hc:Gh g (fun i=>x' (s i))=Gh g' x':=by
  unfold Gh
  rw [T.E,← TU (F:=fun i=>x' i*g'.co i) T.s1 T.s2]
  exact C4 fun i hi=>by rw [T.co i hi]
 rw [← hc]
 refine Fine.best hg h h0 (fun i hi=>?_) fun v hv=>?_
 ·have h1:=h'.in' (s i) (by rw [T.E]; exact T.s1 i hi)
  rw [T.cap i hi] at h1
  exact h1
 ·have h1:=h0' (p v) (by rw [T.N]; exact T.p1 v hv)
  rw [← h1]
  unfold BA Ee
  rw [T.E,← TU (F:=fun i=>(one (g'.t i=p v) - one (g'.f i=p v))*x' i) T.s1 T.s2]
  refine C4 fun i hi=>?_
  have hp:∀ u,u<g.N→(u=v↔p u=p v):=fun u hu=>⟨fun h=>by rw [h],fun h=>by rw [← T.p2 u hu,h,T.p2 v hv]⟩
  rw [T.t i hi,T.f i hi,Ii (hp _ (hg.t i hi)),Ii (hp _ (hg.f i hi))]
theorem Twin.eq {g g':Gr} {cap cap' x x' p':Nat→Int} {q:Nat→Int} {s p:Nat→Nat} (T:Twin g g' cap cap' s p) (hg:g.Ok) (hg':g'.Ok) (h:Fine g cap x q) (h0:∀ v,v<g.N→BA g x v=0) (h':Fine g' cap' x' p') (h0':∀ v,v<g'.N→BA g' x' v=0):Gh g x=Gh g' x' :=
 Int.le_antisymm (T.le hg h h0 h' h0') ((T.symm hg' hg).le hg' h' h0' h h0)
/-- The dues, named the other way round. -/
def PG (n:Nat) (a b:Du):Du:={ b with id:=a.id,fr:=(n:Int) - 1 - b.fr,to:=(n:Int) - 1 - b.to }
def EW (n:Nat) (ds:List Du):List Du:=List.zipWith (PG n) ds ds.reverse
def SO (n:Nat) (e:Ed):Ed:={ e with f:=(n:Int) - 1 - e.f,t:=(n:Int) - 1 - e.t }
theorem Vb (n:Nat) (a b:Du):Fu (PG n a b)=SO n (Fu b):=rfl
theorem Rh (n:Nat):∀ {xs bs:List Du},xs.length=bs.length→(opn (List.zipWith (PG n) xs bs)).map Fu=((opn bs).map Fu).map (SO n)
 | [],[],_=>rfl
 | [],_::_,h=>by cases h
 | _::_,[],h=>by cases h
 | a::xs,b::bs,h=>by
  have ih:=Rh n (xs:=xs) (bs:=bs) (by simpa using h)
  rw [List.zipWith_cons_cons,FH,FH]
  by_cases hb:b.held=true
  ·rw [if_pos (show (PG n a b).held=true from hb),if_pos hb]
   exact ih
  ·rw [if_neg (show ¬ (PG n a b).held=true from hb),if_neg hb]
   simp only [List.map_append,List.map_cons,List.map_nil,ih,Vb]
theorem Nr (n:Nat) (ds:List Du):(opn (EW n ds)).map Fu=(((opn ds).map Fu).map (SO n)).reverse:=by
 unfold EW
 rw [Rh n (by rw [List.length_reverse])]
 unfold opn
 rw [List.filter_reverse,List.map_reverse,List.map_reverse]
theorem KO (n:Nat) (ds:List Du):(opn (EW n ds)).length=(opn ds).length:=by
 have:=congrArg List.length (Nr n ds)
 rw [List.length_map,List.length_reverse,List.length_map,List.length_map] at this
 exact this
/-- Where an edge lies in the other one. -/
def PH (n m i:Nat):Nat:=if i<m then m - 1 - i else m+(2*(n - 1 - (i - m) / 2)+(i - m) % 2)
def piN (n v:Nat):Nat:=if v<n then n - 1 - v else v
theorem TV {α:Type} {l:List α} {i:Nat} {x:α} (h:l[i]? = some x):l.reverse[l.length - 1 - i]? = some x:=by
 have hl:=Cr h
 rw [List.getElem?_reverse (by omega),show l.length - 1 - (l.length - 1 - i)=i by omega]
 exact h
theorem YL {rs:List Int} {ds:List Du} {net:Bool} {i:Nat} {e:Ed} (he:(BF rs (opn ds) net)[i]? = some e) (hdu:∀ d∈opn ds,OH rs.length d) :
  ∃ e',(BF rs.reverse (opn (EW rs.length ds)) net)[PH rs.length (opn ds).length i]? = some e'∧e'.f.toNat=piN rs.length e.f.toNat∧e'.t.toNat=piN rs.length e.t.toNat∧e'.cap=e.cap∧e'.cost=e.cost:=by
 have hi:=Cr he
 rw [Fc] at hi
 unfold PH
 rcases Nat.lt_or_ge i (opn ds).length with h | h
 ·rw [if_pos h]
  obtain ⟨d,hd⟩:=A0 h
  rw [G3 hd] at he
  injection he with he
  subst he
  have hd':=hdu d (List.mem_of_getElem? hd)
  have hm:=E5 hd'.1
  refine ⟨SO rs.length (Fu d),?_,?_,?_,rfl,rfl⟩
  ·have h1:((opn (EW rs.length ds)).map Fu)[(opn ds).length - 1 - i]? = some (SO rs.length (Fu d)):=by
    rw [Nr]
    have:=TV (l:=((opn ds).map Fu).map (SO rs.length)) (i:=i) (x:=SO rs.length (Fu d)) (by rw [List.getElem?_map,List.getElem?_map,hd]; rfl)
    rw [List.length_map,List.length_map] at this
    exact this
   unfold BF
   rw [List.getElem?_append_left (Cr h1)]
   exact h1
  ·have h1:=hm.1
   have h2:=hd'.2.1
   unfold piN
   show ((rs.length:Int) - 1 - d.fr).toNat=if d.fr.toNat<rs.length then rs.length - 1 - d.fr.toNat else d.fr.toNat
   rw [if_pos (by omega)]
   omega
  ·have h1:=hm.2.1
   have h2:=hd'.2.2
   unfold piN
   show ((rs.length:Int) - 1 - d.to).toNat=if d.to.toNat<rs.length then rs.length - 1 - d.to.toNat else d.to.toNat
   rw [if_pos (by omega)]
   omega
 ·rw [if_neg (by omega)]
  cases net with
  | true=>rw [if_pos rfl] at hi; omega
  | false =>
   rw [if_neg (by decide)] at hi
   obtain ⟨j,rfl⟩:∃ j,i=(opn ds).length+j:=⟨i - (opn ds).length,by omega⟩
   rw [show (opn ds).length+j - (opn ds).length=j by omega]
   have hj:j<2*rs.length:=by omega
   obtain ⟨b,hb⟩:∃ b,b=j / 2:=⟨_,rfl⟩
   have hbn:b<rs.length:=by omega
   obtain ⟨x,hx⟩:=A0 hbn
   have hx':=TV hx
   have hlr:rs.reverse.length=rs.length:=List.length_reverse ..
   have ht:=KO rs.length ds
   rw [← hb]
   rcases Nat.mod_two_eq_zero_or_one j with h2 | h2
   ·have hj2:j=2*b:=by omega
    have h5:=Ht (os:=opn ds) (Ic hx)
    rw [← hj2,he] at h5
    injection h5 with h5
    subst h5
    have h6:=Ht (os:=opn (EW rs.length ds)) (Ic hx')
    rw [ht,hlr] at h6
    rw [h2,Nat.add_zero]
    refine ⟨_,h6,?_,?_,rfl,rfl⟩
    ·unfold piN; simp
    ·unfold piN; simp [hbn]
   ·have hj2:j=2*b+1:=by omega
    have h5:=Ht (os:=opn ds) (JF hbn)
    rw [← hj2,he] at h5
    injection h5 with h5
    subst h5
    have h6:=Ht (os:=opn (EW rs.length ds)) (JF (rs:=rs.reverse) (i:=rs.length - 1 - b) (by omega))
    rw [ht,hlr] at h6
    rw [h2]
    refine ⟨_,h6,?_,?_,rfl,rfl⟩
    ·unfold piN; simp [hbn]
    ·unfold piN; simp
theorem Ab7 {n m E i:Nat} (hE:E=m∨E=m+2*n) (hi:i<E):PH n m i<E:=by
 unfold PH
 split <;> omega
theorem YM {n m E i:Nat} (hE:E=m∨E=m+2*n) (hi:i<E):PH n m (PH n m i)=i:=by
 unfold PH
 split
 ·rw [if_pos (by omega)]; omega
 ·rw [if_neg (by omega)]; omega
theorem SP {rs:List Int} {ds:List Du} {net:Bool} (hdu:∀ d∈opn ds,OH rs.length d) :
  Twin (grE ((rs.length+1:Nat):Int) (BF rs (opn ds) net)) (grE ((rs.length+1:Nat):Int) (BF rs.reverse (opn (EW rs.length ds)) net)) (Co (BF rs (opn ds) net)) (Co (BF rs.reverse (opn (EW rs.length ds)) net)) (PH rs.length (opn ds).length) (piN rs.length):=by
 have hEl:(BF rs.reverse (opn (EW rs.length ds)) net).length=(BF rs (opn ds) net).length:=by rw [Fc,Fc,KO,List.length_reverse]
 have hE:(BF rs (opn ds) net).length=(opn ds).length∨(BF rs (opn ds) net).length=(opn ds).length+2*rs.length:=by
  rw [Fc]; split <;> simp
 have hg:∀ i,i<(BF rs (opn ds) net).length→∃ e e',(BF rs (opn ds) net)[i]? = some e∧(BF rs.reverse (opn (EW rs.length ds)) net)[PH rs.length (opn ds).length i]? = some e'∧e'.f.toNat=piN rs.length e.f.toNat∧e'.t.toNat=piN rs.length e.t.toNat∧e'.cap=e.cap∧e'.cost=e.cost:=fun i hi=>by
  obtain ⟨e,he⟩:=A0 hi
  obtain ⟨e',h⟩:=YL he hdu
  exact ⟨e,e',he,h⟩
 refine ⟨rfl,hEl,fun i hi=>Ab7 hE hi,fun i hi=>YM hE hi,fun v hv=>?_,fun v hv=>?_,fun i hi=>?_,fun i hi=>?_,fun i hi=>?_,fun i hi=>?_⟩
 ·have hv':v<rs.length+1:=hv
  show piN rs.length v<rs.length+1
  unfold piN
  split <;> omega
 ·have hv':v<rs.length+1:=hv
  unfold piN
  split
  ·rw [if_pos (by omega)]; omega
  ·rfl
 ·obtain ⟨e,e',h1,h2,h3,-⟩:=hg i hi
  rw [Nl h2,Nl h1,h3]
 ·obtain ⟨e,e',h1,h2,-,h3,-⟩:=hg i hi
  rw [Nm h2,Nm h1,h3]
 ·obtain ⟨e,e',h1,h2,-,-,-,h3⟩:=hg i hi
  rw [Nn h2,Nn h1,h3]
 ·obtain ⟨e,e',h1,h2,-,-,h3,-⟩:=hg i hi
  unfold Co
  rw [Bn h2,Bn h1,h3]
end Go.Proofs.YtapphbmlkdhnmaaGreat

/- What planned rounds are worth: plain law. -/
namespace Go.Proofs.YtapphbmlkdhnmaaGreat
open Go.GV
attribute [local irreducible] AL W Wq Wt

def Hh (r:Rnd):Int:=Gh (grE r.N r.es) (flE r.fl)
theorem Lu {N:Int} {es:List Ed} {fl:List Int} (k:Nat):B7 (fun i=>flE fl i*(grE N es).co i) (k+1)=B7 (fun i=>flE fl i*(grE N es).co i) k+flE fl k*(grE N es).co k:=rfl
theorem Ri {N:Int} {es:List Ed} {fl:List Int} (hw:BG N es fl=true):∀ k,k≤es.length → -((Ef (es.take k):Nat):Int)≤B7 (fun i=>flE fl i*(grE N es).co i) k∧B7 (fun i=>flE fl i*(grE N es).co i) k≤((Ef (es.take k):Nat):Int)
 | 0,_=>by
  show -((0:Nat):Int)≤0∧(0:Int)≤((0:Nat):Int)
  omega
 | k+1,hk=>by
  have ih:=Ri hw k (by omega)
  obtain ⟨hl,-,hin⟩:=BZ hw
  obtain ⟨e,he⟩:=A0 (l:=es) (i:=k) (by omega)
  obtain ⟨x,hx⟩:=A0 (l:=fl) (i:=k) (by omega)
  have h1:=hin k e x he hx
  have hp:(x*e.cost).natAbs≤Fe e:=by
   rw [Int.natAbs_mul]
   exact Nat.mul_le_mul_right _ (by omega)
  rw [Lu,I2 he,Nn he]
  unfold flE at ih ⊢
  rw [Bn hx]
  obtain ⟨z,hz⟩:∃ z,z=x*e.cost:=⟨_,rfl⟩
  rw [← hz] at hp ⊢
  omega
theorem TW {N:Int} {es:List Ed} {fl:List Int} (hw:BG N es fl=true) {k:Nat} (hk:k≤es.length) : -4611686018427387904≤B7 (fun i=>flE fl i*(grE N es).co i) k∧B7 (fun i=>flE fl i*(grE N es).co i) k≤4611686018427387904:=by
 have h1:=Ri hw k hk
 have h2:=(Cn (BZ hw).2.1).2.2.2.2
 have h3:=I3 es k
 omega
theorem YN {N:Int} {es:List Ed} {fl:List Int} (hw:BG N es fl=true) {i:Nat} {e:Ed} {x:Int} (he:es[i]? = some e) (hx:fl[i]? = some x) : -4611686018427387904≤e.cost*x∧e.cost*x≤4611686018427387904:=by
 have h1:=(BZ hw).2.2 i e x he hx
 have h2:=(Cn (BZ hw).2.1).2.2.2.2
 have h3:=I3 es (i+1)
 rw [I2 he] at h3
 have hp:(x*e.cost).natAbs≤Fe e:=by
  rw [Int.natAbs_mul]
  exact Nat.mul_le_mul_right _ (by omega)
 rw [Int.mul_comm]
 omega
theorem Ea {acs:List Ac} {ds:List Du} {net:Bool} {r:Rnd} (P:PlanR acs ds net r):Cb r.N r.es=true∧BG r.N r.es r.fl=true∧(∀ v,v<r.N.toNat→BA (grE r.N r.es) (flE r.fl) v=0)∧Fine (grE r.N r.es) (Co r.es) (flE r.fl) (EF r.pot):=by
 obtain ⟨h1,-,h3⟩:=JG.1 P.chk
 obtain ⟨h4,h5⟩:=Gj h1
 exact ⟨(BZ h4).2.1,h4,h5,h3⟩
/-- The banks and the dues named the other way round: it is worth the same. -/
theorem Rj {acs:List Ac} {ds:List Du} {net:Bool} {r s:Rnd} (hb:CD (acs.map Ce) ds=true) (hl:ds.length≤1000000) (P:PlanR acs ds net r) (Q:PlanR acs.reverse (EW acs.length ds) net s):Hh r=Hh s:=by
 have hB:=(EV hl).1 hb
 obtain ⟨p1,p2,p3,p4⟩:=Ea P
 obtain ⟨q1,q2,q3,q4⟩:=Ea Q
 have T:=SP (rs:=acs.map Ce) (ds:=ds) (net:=net) hB.open'.due
 have hN:r.N=(((acs.map Ce).length+1:Nat):Int):=by rw [P.N,List.length_map]
 have hN':s.N=(((acs.map Ce).length+1:Nat):Int):=by rw [Q.N,List.length_reverse,List.length_map]
 have hes':s.es=BF (acs.map Ce).reverse (opn (EW (acs.map Ce).length ds)) net:=by rw [Q.es,List.map_reverse,List.length_map]
 rw [← P.es,← hes',← hN] at T
 rw [hN',← hN] at q1 q3 q4
 unfold Hh
 rw [hN',← hN]
 exact T.eq (GY p1) (GY q1) p4 p3 q4 q3
theorem SQ (g:Gr):Gh g (fun _=>0)=0:=by
 exact (C4 fun i _=>Int.zero_mul _).trans (Gg g.E)
/-- No round costs anything. -/
theorem Xy {acs:List Ac} {ds:List Du} {net:Bool} {r:Rnd} (P:PlanR acs ds net r):Hh r≤0:=by
 obtain ⟨p1,p2,p3,p4⟩:=Ea P
 unfold Hh
 rw [← SQ (grE r.N r.es)]
 refine Fine.best (GY p1) p4 p3 (fun i hi=>⟨Int.le_refl _,?_⟩) fun v _=>Rc _ v
 have:=p4.in' i hi
 omega
theorem Ns {f g:Nat→Int} {m:Nat}:∀ n,m≤n→(∀ i,i<m→f i=g i)→(∀ i,m≤i→i<n→f i=0)→B7 f n=B7 g m
 | 0,h,_,_=>by
  obtain rfl:m=0:=by omega
  rfl
 | n+1,h,h1,h2=>by
  rcases Nat.lt_or_ge n m with h3 | h3
  ·obtain rfl:m=n+1:=by omega
   exact C4 h1
  ·show B7 f n+f n=_
   rw [Ns n h3 h1 fun i hi hn=>h2 i hi (by omega),h2 n h3 (by omega),Int.add_zero]
/-- A round costs no more than a compress. -/
theorem SR {acs:List Ac} {ds:List Du} {r s:Rnd} (P:PlanR acs ds false r) (Q:PlanR acs ds true s):Hh r≤Hh s:=by
 obtain ⟨p1,p2,p3,p4⟩:=Ea P
 obtain ⟨q1,q2,q3,q4⟩:=Ea Q
 have hN:r.N=s.N:=by rw [P.N,Q.N]
 have hes:s.es=(opn ds).map Fu:=by rw [Q.es]; unfold BF; rw [if_pos rfl,List.append_nil]
 have her:r.es=s.es++IP (acs.map Ce):=by rw [P.es,hes]; rfl
 have hle:s.es.length≤r.es.length:=by rw [her,List.length_append]; omega
 have hget:∀ i,i<s.es.length→r.es.getD i e0=s.es.getD i e0:=fun i hi=>by
  obtain ⟨e,he⟩:=A0 hi
  rw [Bn he,Bn (x:=e) (by rw [her,List.getElem?_append_left hi]; exact he)]
 obtain ⟨y,hy⟩:∃ y:Nat→Int,y=fun i=>if i<s.es.length then flE s.fl i else 0:=⟨_,rfl⟩
 have hy1:∀ i,i<s.es.length→y i=flE s.fl i:=fun i hi=>by rw [hy]; exact if_pos hi
 have hy0:∀ i,s.es.length≤i→y i=0:=fun i hi=>by rw [hy]; exact if_neg (by omega)
 have hc:Gh (grE r.N r.es) y=Hh s:=by
  unfold Hh Gh
  refine Ns (f:=fun i=>y i*(grE r.N r.es).co i) _ hle (fun i hi=>?_) fun i hi _=>?_
  ·rw [hy1 i hi]
   show _*(r.es.getD i e0).cost=_*(s.es.getD i e0).cost
   rw [hget i hi]
  ·rw [hy0 i hi,Int.zero_mul]
 rw [← hc]
 refine Fine.best (GY p1) p4 p3 (fun i hi=>?_) fun v hv=>?_
 ·rcases Nat.lt_or_ge i s.es.length with h | h
  ·rw [hy1 i h]
   have:=q4.in' i h
   unfold Co at this ⊢
   rw [hget i h]
   exact this
  ·rw [hy0 i h]
   have:=p4.in' i hi
   omega
 ·have h1:=q3 v (by rw [← hN]; exact hv)
  rw [← h1]
  unfold BA Ee
  refine Ns (f:=fun i=>(one ((grE r.N r.es).t i=v) - one ((grE r.N r.es).f i=v))*y i) _ hle (fun i hi=>?_) fun i hi _=>?_
  ·rw [hy1 i hi]
   show (one ((r.es.getD i e0).t.toNat=v) - one ((r.es.getD i e0).f.toNat=v))*_=(one ((s.es.getD i e0).t.toNat=v) - one ((s.es.getD i e0).f.toNat=v))*_
   rw [hget i hi]
  ·rw [hy0 i hi,Int.mul_zero]
end Go.Proofs.YtapphbmlkdhnmaaGreat

/- Nets that are the same; whether a round is one of now, as the reference has it. -/
namespace Go.Proofs.YtapphbmlkdhnmaaGreat
open Go.GV
attribute [local irreducible] AL W Wq Wt

def Nt (N M:Int) (xs ys:List Ed):Bool:=decide (N=M) && decide (xs=ys)
set_option maxRecDepth 20000 in
set_option maxHeartbeats 2000000 in
theorem Nu (N M:Int) (a b:Option Addr) (n c m d:Nat) (xs ys:List Ed) (w:World) (R:Rd w a 4 Cw xs) (hn:xs.length=n) (hn2:n≤1000000) (Ry:Rd w b 4 Cw ys) (hm:ys.length=m) (hm2:m≤1000000) :
  Ret Tryz.prog 19 #[CS N a n c,CS M b m d] w fun v w'=>v = .bool (Nt N M xs ys)∧Ext [] w w':=by
 subst hn hm
 obtain ⟨w0,rfl⟩:∃ w0,w0=w:=⟨_,rfl⟩
 have H:=Ctx.start w0 []
 refine A9 (fn:=Tryz.f19) Tryz.func19 rfl [CS N a xs.length c,CS M b ys.length d] rfl (by kernel_rfl) ?_
 refine Af (BC rfl [.int .i64 N,.slice a xs.length c] (.agg _) rfl rfl H ?_)
 rintro b2 w - H
 refine BC rfl [.int .i64 M,.slice b ys.length d] (.agg _) rfl rfl H ?_
 rintro b3 w - H
 refine Ai rfl rfl (Ab (Aa (An (Af (BD (α:=Unit) 1048512 (fun _=>[(19,.bool (!(decide (N=M) && decide (xs.length=ys.length))))]) (fun _ w'=>Ctx w0 [] w' [(b3,Bl 28 [.int .i64 M,.slice b ys.length d]),(b2,Bl 28 [.int .i64 N,.slice a xs.length c])]) rfl ?_ ?_)))))
 ·refine Ah rfl D5 rfl (AN rfl BV rfl H at1 rfl (Ah rfl D5 rfl (AN rfl BV rfl H at0 rfl (Cp rfl rfl rfl (Aw rfl rfl (AE 11 rfl ?_ ?_))))))
  ·intro h1
   replace h1:=CY h1
   refine Ag rfl (Ag rfl (Ag rfl (Ag rfl (Ag rfl (Ag rfl (Ag rfl (AA rfl rfl (.bool _) rfl (Ab ?_))))))))
   exact ⟨rfl,(),rfl,⟨congrArg Value.bool (by rw [Bool.eq_iff_iff]; simp_all; try omega),trivial⟩,H⟩
  ·intro h2
   replace h2:=CZ h2
   refine Ah rfl Cc rfl (AN rfl Dh rfl H at1 rfl (AV rfl C0 rfl (Ah rfl Cc rfl (AN rfl Dh rfl H at0 rfl (AV rfl C0 rfl (Cp rfl rfl rfl (A6 rfl rfl (.bool _) rfl (Ab ?_))))))))
   exact ⟨rfl,(),rfl,⟨congrArg Value.bool (by rw [Bool.eq_iff_iff]; simp_all; try omega),trivial⟩,H⟩
 rintro - j19 w H
 refine Aq _ rfl ?_ ?_
 ·intro h1
  replace h1:=Bv h1
  refine Af (Ai rfl rfl (Ab (Aa (A8 (Al (AB (v:=(.bool _)) rfl rfl rfl ?_))))))
  have h1':¬ (N=M∧xs.length=ys.length):=by simpa using h1
  refine ⟨congrArg Value.bool ?_,H.ext⟩
  unfold Nt
  by_cases h2:N=M
  ·rw [decide_eq_true h2,decide_eq_false (fun h=>h1' ⟨h2,by rw [h]⟩)]; rfl
  ·rw [decide_eq_false h2]; rfl
 ·intro h1
  replace h1:=Bw h1
  have h1':N=M∧xs.length=ys.length:=by simpa using h1
  have hsb:Nt N M xs ys=decide (xs=ys):=by unfold Nt; rw [decide_eq_true h1'.1]; rfl
  have hle:=h1'.2
  rw [hsb]
  refine Ao (Aa (An (Af (Ae rfl rfl (Ab (Aa (Au (Bf 274876858416 (α:=Nat) (fun i=>[(5,.int .i64 (i:Int))]) (fun i w'=>i≤xs.length∧Ctx w0 [] w' [(b3,Bl 28 [.int .i64 M,.slice b ys.length d]),(b2,Bl 28 [.int .i64 N,.slice a xs.length c])]∧∀ (k:Nat) (x y:Ed),k<i→xs[k]? = some x→ys[k]? = some y→x=y) (fun i=>xs.length - i) 0 rfl ?_ ?_ ?_))))))))
  ·exact ⟨rfl,trivial⟩
  ·exact ⟨Nat.zero_le _,H,fun k x y h=>absurd h (Nat.not_lt_zero _)⟩
  ·clear H
   rintro i j w ⟨hi,H,hb⟩
   refine An (Af (Ad rfl rfl (Ah rfl Cc rfl (AN rfl Dh rfl H at1 rfl (AV rfl C0 rfl (AZ rfl rfl rfl (Ab (Aa (Aq _ rfl ?_ ?_)))))))))
   ·intro h2
    replace h2:=AF h2
    obtain ⟨x,hx⟩:=A0 (l:=xs) (i:=i) (by omega)
    obtain ⟨y,hy⟩:=A0 (l:=ys) (i:=i) (by omega)
    refine Ao (Aa (An (Au (DE (fun x=>x=_) B0 (by kernel_rfl) rfl ?_))))
    refine A7 rfl Cc rfl (Cd rfl Dh rfl (by rintro _ rfl; exact H.drew) at1 rfl ?_)
    refine AP rfl rfl (Bs R rfl C0 CC rfl rfl (by omega) (by omega) (by rfl) ?_)
    refine FM _ rfl Ho CC rfl rfl (by rintro _ rfl; exact ((R.ext0 H.drew.ext).row hx rfl)) ?_
    refine A7 rfl Cc rfl (Cd rfl Dh rfl (by rintro _ rfl; exact H.drew) at0 rfl ?_)
    refine AP rfl rfl (Bs Ry rfl C0 CC rfl rfl (by omega) (by omega) (by rfl) ?_)
    refine FM _ rfl Ho CC rfl rfl (by rintro _ rfl; exact ((Ry.ext0 H.drew.ext).row hy rfl)) ?_
    refine Qq (ks:=[true,true,true,true]) (xs:=Cw x) (ys:=Cw y) (decide (x=y)) rfl (by kernel_rfl) rfl rfl ⟨rfl,rfl,rfl,rfl,trivial⟩ (QR x y) ?_
    refine BJ ?_
    rintro _ rfl
    replace H:=H.drew
    refine Aq _ rfl ?_ ?_
    ·intro h3
     refine Af (Ai rfl rfl (Ab (Aa (A8 (A1 (Al (Al (A1 (Al (AB (v:=(.bool _)) rfl rfl rfl ?_))))))))))
     have hne:¬ x=y:=by simpa using h3
     exact ⟨congrArg Value.bool (decide_eq_false fun h=>by subst h; rw [hx] at hy; injection hy with hy; exact hne hy).symm,H.ext⟩
    ·intro h3
     refine Ao (A5 (Aa (Av (Ad rfl rfl (Ap rfl rfl rfl (by omega) (by omega) ?_)))))
     refine Ae rfl rfl (Ab (Aa ?_))
     have heq:x=y:=by simpa using h3
     refine ⟨i+1,rfl,⟨rfl,trivial⟩,⟨by omega,H,fun k x' y' hk hx' hy'=>?_⟩,by omega⟩
     rcases Nat.lt_or_ge k i with h7 | h7
     ·exact hb k x' y' h7 hx' hy'
     ·obtain rfl:k=i:=by omega
      rw [hx] at hx'; rw [hy] at hy'
      cases hx'; cases hy'
      exact heq
   ·intro h2
    replace h2:=AG h2
    refine Bc (Ak (Ak (AD (Aa (Af (Ai rfl rfl (Ab (Aa (A8 (AB (v:=(.bool _)) rfl rfl rfl ?_))))))))))
    have hin:i=xs.length:=by omega
    rw [hin] at hb
    exact ⟨congrArg Value.bool (decide_eq_true (JC hle hb)).symm,H.ext⟩
/-- Dues of the reference, to be read. -/
def RdAt (w:World) (br:Nat) (ds:List Du):Prop:=∃ a c nx,w.heap[br]? = some (Bl 48 [.slice a ds.length c,.int .u64 nx])∧Rd w a 7 Cf ds
theorem RdAt.ext0 {w w':World} {br:Nat} {ds:List Du} (h:RdAt w br ds) (he:Ext [] w w'):RdAt w' br ds:=by
 obtain ⟨a,c,nx,h1,h2⟩:=h
 exact ⟨a,c,nx,he.to h1 (by simp),h2.ext0 he⟩
theorem IE {bx:Nat} {acs:List Ac} (ha:DB acs=0) (w:World) (A:AcAt w 52 bx acs) :
  Ret Tryz.prog 14 #[ptr bx] w fun v w'=>Ext [] w w'∧∃ a c,v = .slice a (acs.map Ce).length c∧Rd w' a 1 I1 (acs.map Ce):=by
 obtain ⟨h1,h2,-⟩:=Dy.1 ha
 obtain ⟨a,c,g1,g2⟩:=A
 refine Ret.mono (QM a acs.length c acs w g1 g2 rfl (by omega) h2) fun v w' F=>⟨F.ext,?_⟩
 obtain ⟨a',n',c',f',rfl,O,hb⟩:=F.ex
 obtain rfl:=O.num
 exact ⟨a',c',rfl,O.rd1 fun x hx=>(hb x hx).1⟩
set_option maxRecDepth 20000 in
set_option maxHeartbeats 8000000 in
theorem Vc {ba br:Nat} {acs:List Ac} {ds:List Du} {nx:Int} (ha:DB acs=0) (hd:ofC ds nx=0) {r:Rnd} {q:RSl} (w:World) (A:AcAt w 52 ba acs) (D:RdAt w br ds) (RA:RAt w r q) (he:r.es.length≤1000000) (hi:r.ids.length≤1000000) :
  Ret Tryz.prog 72 #[ptr ba,ptr br,.agg (Br r q).toArray] w fun v w'=>v = .bool (IC acs ds r)∧Ext [] w w':=by
 obtain ⟨w0,rfl⟩:∃ w0,w0=w:=⟨_,rfl⟩
 have H:=Ctx.start w0 []
 have hn16:=(Dy.1 ha).1
 have hm64:=(D7.1 hd).1
 obtain ⟨rs,hrs⟩:∃ rs,rs=acs.map Ce:=⟨_,rfl⟩
 have hrl:rs.length=acs.length:=by rw [hrs,List.length_map]
 obtain ⟨aD,cD,nx',hbr,RD⟩:=D
 refine A9 (fn:=Tryz.f72) Tryz.func72 rfl [.pointer (some ⟨ba,0,none⟩),.pointer (some ⟨br,0,none⟩),.agg (Br r q).toArray] rfl (by kernel_rfl) ?_
 refine Af (BC rfl (Br r q) (.agg _) rfl rfl H ?_)
 rintro b5 w - H
 refine Ai rfl rfl (Ab (Aa ?_))
 have hx5:=H.ext
 have h5:=H.get at0
 obtain ⟨w5,rfl⟩:∃ z,z=w:=⟨_,rfl⟩
 have hbr5:=hx5.to hbr (by simp)
 refine El 16776064 (α:=NowZ) (fun z=>[(7,ptr z.b),(8,.slice z.aI z.nI z.cI),(9,.int .i64 z.code)]) (NowI w0 rs ds r.cmp b5 (Bl 33 (Br r q))) rfl ?_ ?_
 ·skip
  refine Tf (.two [0,2,3,4,5,6,7] 1 (.two [] 8 (.one [9,10,11,12] 13 (.one [] 14 (.one [] 15 (.one [] 16 .stop)))) 13 (.one [] 8 (.one [9,10,11,12] 14 (.one [] 15 (.one [] 16 .stop))))) 13 (.one [] 1 (.one [] 8 (.one [9,10,11,12] 14 (.one [] 15 (.one [] 16 .stop)))))) (fun z=>Ext [] w5 z) B0 (by kernel_rfl) (Ext.drew [] w5) ?_
  refine IY rfl rfl rfl ?_
  refine Ch rfl rfl (Ch rfl rfl (B3 rfl rfl (AH rfl Ec rfl (BP rfl Gw rfl (fun _ hx=>(by rw [Ay (hx.to hbr5 (by simp))]; rfl)) ?_))))
  refine AH rfl LY rfl (BP rfl Jf rfl (fun _ hx=>(by rw [Ay (hx.to h5 (by simp))]; rfl)) ?_)
  refine Ba ?_
  have E:=Ext.drew [] w5
  refine ⟨?_,?_⟩
  ·skip
   refine Am rfl Tv (IE ha _ (A.ext0 (hx5.trans E))) rfl ?_
   rintro v w ⟨hx13,a2,c2,rfl,R2⟩
   rw [← hrs] at R2 ⊢
   replace E:=E.trans hx13
   refine Ab (Ci (by exact E) ?_)
   refine IY rfl rfl rfl ?_
   refine Ba ?_
   refine ⟨?_,?_⟩
   ·skip
    refine Am rfl NW (F5 a2 aD _ c2 _ cD rs ds r.cmp _ R2 rfl (by omega) (RD.ext0 (hx5.trans E)) rfl (by omega)) rfl ?_
    rintro v w hR
    obtain ⟨hx20,N,aE,nE,cE,aI,nI,cI,code,rfl,hU⟩:=hR.uni
    replace E:=E.trans hx20
    refine Ab (Ci (by exact E) ?_)
    refine Cg rfl rfl ?_
    refine Fo rfl rfl (BM rfl rfl rfl (BM rfl rfl rfl (BM rfl rfl rfl (Ba ?_))))
    have H:=Ctx.start w []
    refine Bj rfl FO H ?_
    rintro b7 w - H
    refine Ab (Ci (by exact E.trans H.ext) ?_)
    refine Cg rfl rfl ?_
    refine Ba (B5 rfl BQ rfl rfl rfl (by simp [Bm]) H at0 rfl ?_)
    rintro w H
    refine Ab (Ci (by exact E.trans H.ext) ?_)
    refine Cg rfl rfl ?_
    refine Ba (Az rfl rfl (Ab (Ci (by exact E.trans H.ext) ?_)))
    refine Cg rfl rfl ?_
    refine Ba (Ae rfl rfl (Ab (Ci (by exact E.trans H.ext) ?_)))
    refine Fm ?_
    refine Aa ?_
    exact ⟨⟨b7,N,aE,nE,cE,aI,nI,cI,code⟩,rfl,⟨rfl,rfl,rfl,trivial⟩,hx5.trans (E.trans H.ext),(E.trans H.ext).to h5 (by simp),H.get at0,hU [] _ (by simp) H.ext⟩
   ·skip
    have H:=Ctx.start w []
    refine Bj rfl FO H ?_
    rintro b7 w - H
    have hn7:w5.heap.size≤b7:=Nat.le_trans E.size ((H.own _ (List.mem_cons_self ..)).elim (fun h=>by cases h) id)
    replace E:=E.trans H.ext
    have hb7:=H.get at0
    replace R2:=R2.ext0 H.ext
    refine Ab (Ci (by exact E) ?_)
    refine Cg rfl rfl ?_
    refine Ba ?_
    have hl7:=Bp hb7
    refine Am rfl NW (F5 a2 aD _ c2 _ cD rs ds r.cmp _ R2 rfl (by omega) (RD.ext0 (hx5.trans E)) rfl (by omega)) rfl ?_
    rintro v w hR
    obtain ⟨hx20,N,aE,nE,cE,aI,nI,cI,code,rfl,hU⟩:=hR.uni
    replace E:=E.trans hx20
    replace hb7:=hx20.to hb7 (by simp)
    have H:=Ctx.start1 hb7
    refine Ab (Ci (by exact E) ?_)
    refine Cg rfl rfl ?_
    refine Fo rfl rfl (BM rfl rfl rfl (BM rfl rfl rfl (BM rfl rfl rfl (Ba (B5 rfl BQ rfl rfl rfl (by simp [Bm]) H at0 rfl ?_)))))
    rintro w H
    refine Ab (Ci (by exact E.then H.ext (fun x hx => .inr (by rw [List.mem_singleton.1 hx]; exact hn7))) ?_)
    refine Cg rfl rfl ?_
    refine Ba (Az rfl rfl (Ab (Ci (by exact E.then H.ext (fun x hx => .inr (by rw [List.mem_singleton.1 hx]; exact hn7))) ?_)))
    refine Cg rfl rfl ?_
    refine Ba (Ae rfl rfl (Ab (Ci (by exact E.then H.ext (fun x hx => .inr (by rw [List.mem_singleton.1 hx]; exact hn7))) ?_)))
    refine Fm ?_
    refine Aa ?_
    have E2:=E.then H.ext fun x hx => .inr (by rw [List.mem_singleton.1 hx]; exact hn7)
    exact ⟨⟨b7,N,aE,nE,cE,aI,nI,cI,code⟩,rfl,⟨rfl,rfl,rfl,trivial⟩,hx5.trans E2,E2.to h5 (by simp),H.get at0,hU [b7] _ (by simpa using hl7) H.ext⟩
  ·skip
   have H:=Ctx.start (World.drew w5) []
   refine Bj rfl FO H ?_
   rintro b7 w - H
   have hn7:w5.heap.size≤b7:=Nat.le_trans E.size ((H.own _ (List.mem_cons_self ..)).elim (fun h=>by cases h) id)
   replace E:=E.trans H.ext
   have hb7:=H.get at0
   refine Ab (Ci (by exact E) ?_)
   refine Cg rfl rfl ?_
   refine Ba (Am rfl Tv (IE ha _ (A.ext0 (hx5.trans E))) rfl ?_)
   rintro v w ⟨hx13,a2,c2,rfl,R2⟩
   rw [← hrs] at R2 ⊢
   replace E:=E.trans hx13
   replace hb7:=hx13.to hb7 (by simp)
   refine Ab (Ci (by exact E) ?_)
   refine Cg rfl rfl ?_
   refine Ba ?_
   have hl7:=Bp hb7
   refine Am rfl NW (F5 a2 aD _ c2 _ cD rs ds r.cmp _ R2 rfl (by omega) (RD.ext0 (hx5.trans E)) rfl (by omega)) rfl ?_
   rintro v w hR
   obtain ⟨hx20,N,aE,nE,cE,aI,nI,cI,code,rfl,hU⟩:=hR.uni
   replace E:=E.trans hx20
   replace hb7:=hx20.to hb7 (by simp)
   have H:=Ctx.start1 hb7
   refine Ab (Ci (by exact E) ?_)
   refine Cg rfl rfl ?_
   refine Fo rfl rfl (BM rfl rfl rfl (BM rfl rfl rfl (BM rfl rfl rfl (Ba (B5 rfl BQ rfl rfl rfl (by simp [Bm]) H at0 rfl ?_)))))
   rintro w H
   refine Ab (Ci (by exact E.then H.ext (fun x hx => .inr (by rw [List.mem_singleton.1 hx]; exact hn7))) ?_)
   refine Cg rfl rfl ?_
   refine Ba (Az rfl rfl (Ab (Ci (by exact E.then H.ext (fun x hx => .inr (by rw [List.mem_singleton.1 hx]; exact hn7))) ?_)))
   refine Cg rfl rfl ?_
   refine Ba (Ae rfl rfl (Ab (Ci (by exact E.then H.ext (fun x hx => .inr (by rw [List.mem_singleton.1 hx]; exact hn7))) ?_)))
   refine Fm ?_
   refine Aa ?_
   have E2:=E.then H.ext fun x hx => .inr (by rw [List.mem_singleton.1 hx]; exact hn7)
   exact ⟨⟨b7,N,aE,nE,cE,aI,nI,cI,code⟩,rfl,⟨rfl,rfl,rfl,trivial⟩,hx5.trans E2,E2.to h5 (by simp),H.get at0,hU [b7] _ (by simpa using hl7) H.ext⟩
 ·rintro ⟨b7,N,aE,nE,cE,aI,nI,cI,code⟩ j1 w ⟨hx0,h5',hb7,hU⟩; dsimp only at hb7 hU; dsimp only
  obtain ⟨w1,rfl⟩:∃ z,z=w:=⟨_,rfl⟩
  have H:=Ctx.start w1 []
  have RA1:=RA.ext0 hx0
  rcases hU with ⟨hb,rfl,-⟩ | ⟨hb,rfl,rfl,rfl,RE,aI',cI',hI,RI⟩
  ·skip
   refine An (Af (Ad rfl rfl (Cp rfl rfl rfl (Aw rfl rfl (AE 26 rfl ?_ ?_)))))
   ·intro g1
    replace g1:=CY g1
    refine Ag rfl (Ag rfl (Ag rfl (Ag rfl (Ag rfl (AA rfl rfl (.bool _) rfl (Aw rfl rfl (Ag rfl (Ag rfl (Ag rfl ?_)))))))))
    refine Ag rfl (Ag rfl (Ag rfl (AA rfl rfl (.bool _) rfl (Ab (Aa (Dj rfl (Af (Ai rfl rfl (Ab (Aa (A8 (Al (AB (v:=(.bool _)) rfl rfl rfl ?_)))))))))))))
    exact ⟨congrArg Value.bool (by unfold IC; rw [← hrs,hb]; rfl),hx0⟩
   ·intro g1
    replace g1:=CZ g1
    exact absurd g1 (by decide)
  ·skip
   cases hI
   obtain ⟨es,hes⟩:∃ es,es=BF rs (opn ds) r.cmp:=⟨_,rfl⟩
   obtain ⟨is,his⟩:∃ is,is=(opn ds).map Du.id:=⟨_,rfl⟩
   have hel:es.length≤1000000:=by have:=G4 ds; rw [hes,Fc]; split <;> omega
   have hil:is.length≤1000000:=by have:=G4 ds; rw [his,List.length_map]; omega
   have hB:IC acs ds r=(decide (((rs.length+1:Nat):Int)=r.N) && (decide (es=r.es) && decide (is=r.ids))):=by unfold IC; rw [← hrs,hb,← hrl,hes,his]; rfl
   rw [← hes] at RE hb7
   rw [← his] at RI ⊢
   rw [hB]
   refine An (Af (BD (α:=Unit) 2199006478336 (fun _=>[(40,.bool (!((decide (((rs.length+1:Nat):Int)=r.N) && decide (es=r.es)) && decide (is.length=r.ids.length))))]) (fun _ w'=>Ctx w1 [] w' []) rfl ?_ ?_))
   ·refine Ad rfl rfl (Cp rfl rfl rfl (Aw rfl rfl (AE 26 rfl ?_ ?_)))
    ·intro h1
     replace h1:=CY h1
     refine Ag rfl (Ag rfl (Ag rfl (Ag rfl (Ag rfl (AA rfl rfl (.bool _) rfl (Aw rfl rfl (Ag rfl (Ag rfl (Ag rfl ?_)))))))))
     refine Ag rfl (Ag rfl (Ag rfl (AA rfl rfl (.bool _) rfl (Ab ?_))))
     exact ⟨rfl,(),rfl,⟨congrArg Value.bool (by rw [Bool.eq_iff_iff]; simp_all; done),trivial⟩,H⟩
    ·intro h2
     replace h2:=CZ h2
     refine Cv _ rfl Cm BQ rfl rfl ((Dr (b:=b7) (t:=28) (l:=[.int .i64 ((rs.length+1:Nat):Int),.slice aE es.length cE]) (H.ext.to hb7 (by simp)) 0 [.int .i64 ((rs.length+1:Nat):Int),.slice aE es.length cE] rfl)) ?_
     refine Ah rfl FD rfl (Cv _ rfl Cm BQ rfl rfl ((Dr (b:=b5) (t:=33) (l:=Br r q) (H.ext.to h5' (by simp)) 4 [.int .i64 r.N,.slice q.aE r.es.length q.cE] rfl)) ?_)
     refine Am rfl YY (Nu _ r.N aE q.aE _ cE _ q.cE es r.es _ (RE.ext0 H.ext) rfl hel (RA1.E.ext0 H.ext) rfl he) rfl ?_
     rintro v w ⟨rfl,hx30⟩
     replace H:=H.call hx30
     rw [show Nt ((rs.length+1:Nat):Int) r.N es r.es=(decide (((rs.length+1:Nat):Int)=r.N) && decide (es=r.es)) from rfl]
     refine B1 rfl rfl (A6 rfl rfl (.bool _) rfl (Aw rfl rfl (AE 33 rfl ?_ ?_)))
     ·intro h3
      replace h3:=Bv h3
      refine Ag rfl (Ag rfl (Ag rfl (Ag rfl (Ag rfl (Ag rfl (AA rfl rfl (.bool _) rfl (Ab ?_)))))))
      exact ⟨rfl,(),rfl,⟨congrArg Value.bool (by rw [Bool.eq_iff_iff]; simp_all; grind),trivial⟩,H⟩
     ·intro h4
      replace h4:=Bw h4
      refine Aj rfl rfl (AV rfl Bz rfl (Ah rfl Ix rfl (Bb rfl Kz rfl ((by rw [Ay (H.ext.to h5' (by simp))]; rfl)) ?_)))
      refine AV rfl Bz rfl (Cp rfl rfl rfl (A6 rfl rfl (.bool _) rfl (Ab ?_)))
      exact ⟨rfl,(),rfl,⟨congrArg Value.bool (by rw [Bool.eq_iff_iff]; simp_all; omega),trivial⟩,H⟩
   rintro - j40 w H
   refine Aq _ rfl ?_ ?_
   ·intro h1
    replace h1:=Bv h1
    refine Af (Ai rfl rfl (Ab (Aa (A8 (Al (AB (v:=(.bool _)) rfl rfl rfl ?_))))))
    refine ⟨congrArg Value.bool ?_,hx0.trans H.ext⟩
    rw [← Bool.not_eq_true] at h1
    simp only [Bool.and_eq_true,decide_eq_true_eq] at h1
    symm
    rw [← Bool.not_eq_true]
    simp only [Bool.and_eq_true,decide_eq_true_eq]
    exact fun h=>h1 ⟨⟨h.1,h.2.1⟩,by rw [h.2.2]⟩
   ·intro h1
    replace h1:=Bw h1
    simp only [Bool.and_eq_true,decide_eq_true_eq] at h1
    obtain ⟨⟨g1,g2⟩,hle⟩:=h1
    rw [decide_eq_true g1,decide_eq_true g2,Bool.true_and,Bool.true_and]
    refine Ao (Aa (An (Af (Ae rfl rfl (Ab (Aa (Au (Bf 144112989052601408 (α:=Nat) (fun i=>[(10,.int .i64 (i:Int))]) (fun i w'=>i≤is.length∧Ctx w1 [] w' []∧∀ (k:Nat) (x y:Int),k<i→is[k]? = some x→r.ids[k]? = some y→x=y) (fun i=>is.length - i) 0 rfl ?_ ?_ ?_))))))))
    ·exact ⟨rfl,trivial⟩
    ·exact ⟨Nat.zero_le _,H,fun k x y h=>absurd h (Nat.not_lt_zero _)⟩
    ·clear H
     rintro i j w ⟨hi7,H,hb7'⟩
     refine An (Af (Ad rfl rfl (Aj rfl rfl (AV rfl Bz rfl (AZ rfl rfl rfl (Ab (Aa (Aq _ rfl ?_ ?_))))))))
     ·intro h2
      replace h2:=AF h2
      obtain ⟨x,hx⟩:=A0 (l:=is) (i:=i) (by omega)
      obtain ⟨y,hy⟩:=A0 (l:=r.ids) (i:=i) (by omega)
      have RII:=RA1.I
      refine Ao (Aa (An (Au (DE (fun x=>x=_) B0 (by kernel_rfl) rfl ?_))))
      refine Bx rfl rfl (AP rfl rfl (Bs RI rfl Bz Bo rfl rfl (by omega) (by omega) (by rfl) ?_))
      refine BR rfl BK rfl (by rintro _ rfl; exact (((RI.ext0 H.drew.ext).fld hx rfl (j:=0) rfl))) ?_
      refine A7 rfl Ix rfl (BR rfl Kz rfl (by rintro _ rfl; exact ((by rw [Ay (H.drew.ext.to h5' (by simp))]; rfl))) ?_)
      refine AP rfl rfl (Bs RII rfl Bz Bo rfl rfl (by omega) (by omega) (by rfl) ?_)
      refine BR rfl BK rfl (by rintro _ rfl; exact (((RII.ext0 H.drew.ext).fld hy rfl (j:=0) rfl))) ?_
      refine Ti rfl rfl rfl (BJ ?_)
      rintro _ rfl
      replace H:=H.drew
      refine Aq _ rfl ?_ ?_
      ·intro h3
       replace h3:=CY h3
       refine Af (Ai rfl rfl (Ab (Aa (A8 (A1 (Al (Al (A1 (Al (AB (v:=(.bool _)) rfl rfl rfl ?_))))))))))
       have hne:¬ x=y:=h3
       exact ⟨congrArg Value.bool (decide_eq_false fun h=>by subst h; rw [hx] at hy; injection hy with hy; exact hne hy).symm,hx0.trans H.ext⟩
      ·intro h3
       replace h3:=CZ h3
       refine Ao (A5 (Aa (Av (Ad rfl rfl (Ap rfl rfl rfl (by omega) (by omega) ?_)))))
       refine Ae rfl rfl (Ab (Aa ?_))
       have heq:x=y:=by omega
       refine ⟨i+1,rfl,⟨rfl,trivial⟩,⟨by omega,H,fun k x' y' hk hx' hy'=>?_⟩,by omega⟩
       rcases Nat.lt_or_ge k i with h7 | h7
       ·exact hb7' k x' y' h7 hx' hy'
       ·obtain rfl:k=i:=by omega
        rw [hx] at hx'; rw [hy] at hy'
        cases hx'; cases hy'
        exact heq
     ·intro h2
      replace h2:=AG h2
      refine Bc (Ak (Ak (AD (Aa (Af (Ai rfl rfl (Ab (Aa (A8 (AB (v:=(.bool _)) rfl rfl rfl ?_))))))))))
      have hin:i=is.length:=by omega
      rw [hin] at hb7'
      exact ⟨congrArg Value.bool (decide_eq_true (JC hle hb7')).symm,hx0.trans H.ext⟩
end Go.Proofs.YtapphbmlkdhnmaaGreat

/- A round, applied as the reference has it. -/
namespace Go.Proofs.YtapphbmlkdhnmaaGreat
open Go.GV
attribute [local irreducible] AL W Wq Wt

theorem Zr {α:Type} (A B C:α) (E R:List α):(A::B::C::(E++R)).Perm ((C::E)++(A::B::R)):=by
 classical exact List.perm_iff_count.2 fun x=>by simp only [List.count_append,List.count_cons]; omega
theorem permS {α:Type} (A B C D:α) (E F G:List α):(A::B::C::(E++D::(F++G))).Perm ((A::B::C::D::(E++G))++F):=by
 classical exact List.perm_iff_count.2 fun x=>by simp only [List.count_append,List.count_cons]; omega
theorem permF {α:Type} (A B C D:α) (E F G:List α):((A::B::C::D::(E++G))++F).Perm ((D::C::(E++F))++(A::B::G)):=by
 classical exact List.perm_iff_count.2 fun x=>by simp only [List.count_append,List.count_cons]; omega
theorem permI {α:Type} (A B C D:α) (E F G:List α):((A::B::G)++(D::C::(E++F))).Perm (A::B::C::(E++D::(F++G))):=by
 classical exact List.perm_iff_count.2 fun x=>by simp only [List.count_append,List.count_cons]; omega
abbrev RDU (ad:Option Addr) (m cd:Nat) (nx:Int):Obj:=Bl 48 [.slice ad m cd,.int .u64 nx]
/-- The reference's Pay, by what one knows of the heap. -/
theorem SU {bd:Nat} {nx k x:Int} {ds:List Du} {a:Option Addr} {c:Nat} {full:List Value} {w w0:World} {S:List Nat} {R:List (Nat × Obj)} (H:Ctx w0 S w (((bd,RDU a ds.length c nx)::ent a 62 full)++R)) (O:OS a ds.length c 7 full (ds.flatMap Cf)) (hn2:ds.length≤1000000) (ham:∀ d∈ds,0≤d.am∧d.am≤4503599627370496) :
  Ret Tryz.prog 73 #[ptr bd,.int .u64 k,.int .i64 x] w fun v w'=>v = .int .i64 (He ds k x)∧∃ a' c' full',OS a' (IM ds k x).length c' 7 full' ((IM ds k x).flatMap Cf)∧Ctx w0 S w' (((bd,RDU a' (IM ds k x).length c' nx)::ent a' 62 full')++R):=by
 have hnd:=(List.pairwise_append.1 H.nd).1
 rw [List.pairwise_cons] at hnd
 refine Ret.mono (UO a c full w (H.get at0) O (fun y hy=>⟨H.blk y (List.mem_append_left _ (List.mem_cons_of_mem _ hy)),fun h=>hnd.1 y hy h.symm⟩) hn2 ham) fun v w' h=>?_
 obtain ⟨h1,a',c',full',hb,O',hE,hx⟩:=h
 refine ⟨h1,a',c',full',O',Ctx.back H ⟨hx,fun y hy=>?_,?_,fun y hy=>?_⟩⟩
 ·rcases List.mem_cons.1 hy with rfl | hy
  ·exact hb
  ·exact (hE y hy).1
 ·exact List.pairwise_cons.2 ⟨fun y hy h=>(hE y hy).2.1 h.symm,Ir⟩
 ·rcases List.mem_cons.1 hy with rfl | hy
  ·exact .inl (List.mem_cons_self ..)
  ·rcases (hE y hy).2.2 with h | h
   ·exact .inl (List.mem_cons_of_mem _ h)
   ·exact .inr h
abbrev RX (ba:Nat) (a:Option Addr) (n c:Nat) (full:List Value) (br:Nat) (ad:Option Addr) (m cd:Nat) (nx:Int) (fd:List Value):List (Nat × Obj):=(ba,Bl 52 [.slice a n c])::(br,RDU ad m cd nx)::(ent ad 62 fd++ent a 64 full)
structure RP7 where
 i:Nat
 ad:Option Addr
 cd:Nat
 fd:List Value
set_option maxRecDepth 20000 in
set_option maxHeartbeats 8000000 in
theorem Rm {ba br:Nat} {a ad:Option Addr} {c cd:Nat} {full fd:List Value} {acs:List Ac} {ds:List Du} {nx:Int} {r:Rnd} {q:RSl} (ha:DB acs=0) (hd:ofC ds nx=0) (w:World)
  (H0:Ctx w ((RX ba a acs.length c full br ad ds.length cd nx fd).map (·.1)) w (RX ba a acs.length c full br ad ds.length cd nx fd)) (O:OS a acs.length c 2 full (acs.flatMap CB)) (OD:OS ad ds.length cd 7 fd (ds.flatMap Cf)) (RA:RAt w r q) (hoff:ROff q r (·∈(RX ba a acs.length c full br ad ds.length cd nx fd).map (·.1)))
  (he:r.es.length≤1000000) (hi:r.ids.length≤1000000) (hf:r.fl.length≤1000000) (hp:r.pot.length≤1000000) :
  Ret Tryz.prog 22 #[ptr ba,ptr br,.agg (Br r q).toArray] w fun v w'=>v = .int .i64 (De acs ds r)∧∃ full' ad' cd' fd',OS a acs.length c 2 full' ((DY acs ds r).flatMap CB)∧OS ad' (Dz acs ds r).length cd' 7 fd' ((Dz acs ds r).flatMap Cf) ∧
   Ctx w ((RX ba a acs.length c full br ad ds.length cd nx fd).map (·.1)) w' (RX ba a acs.length c full' br ad' (Dz acs ds r).length cd' nx fd'):=by
 obtain ⟨w0,rfl⟩:∃ w0,w0=w:=⟨_,rfl⟩
 have H:=Ctx.start w0 []
 have hn16:=(Dy.1 ha).1
 have hm64:=(D7.1 hd).1
 have hba:=H0.get at0
 have hbr:=H0.get at1
 have RAc:Rd w0 a 2 CB acs:=OS.rd O (fun x hx=>H0.blk x (List.mem_cons_of_mem _ (List.mem_cons_of_mem _ (List.mem_append_right _ hx)))) (fun _ _=>rfl) (by decide)
 have RDu:Rd w0 ad 7 Cf ds:=OS.rd OD (fun x hx=>H0.blk x (List.mem_cons_of_mem _ (List.mem_cons_of_mem _ (List.mem_append_left _ hx)))) (fun _ _=>rfl) (by decide)
 have A:AcAt w0 52 ba acs:=⟨a,c,hba,RAc⟩
 have D:RdAt w0 br ds:=⟨ad,cd,nx,hbr,RDu⟩
 obtain ⟨ck,hck⟩:∃ ck,ck=Ff r.N r.es r.fl r.pot:=⟨_,rfl⟩
 obtain ⟨nw,hnw⟩:∃ nw,nw=IC acs ds r:=⟨_,rfl⟩
 refine A9 (fn:=Tryz.f22) Tryz.func22 rfl [.pointer (some ⟨ba,0,none⟩),.pointer (some ⟨br,0,none⟩),.agg (Br r q).toArray] rfl (by kernel_rfl) ?_
 refine Af (BC rfl (Br r q) (.agg _) rfl rfl H ?_)
 rintro b5 w - H
 refine Ae rfl rfl (Ab (Aa (An (Af (Ah rfl FD rfl (Cv _ rfl Cm BQ rfl rfl ((Dr (b:=b5) (t:=33) (l:=Br r q) (H.get at0) 4 [.int .i64 r.N,.slice q.aE r.es.length q.cE] rfl)) ?_))))))
 refine Ah rfl FE rfl (Cv _ rfl NV LA rfl rfl ((Dr (b:=b5) (t:=33) (l:=Br r q) (H.get at0) 6 [.slice q.aF r.fl.length q.cF,.slice q.aP r.pot.length q.cP] rfl)) ?_)
 refine Am rfl YZ (LL r.N q.aE q.aF q.aP _ q.cE _ q.cF _ q.cP r.es r.fl r.pot _ (RA.E.ext0 H.ext) rfl (by omega) (RA.F.ext0 H.ext) rfl (by omega) (RA.P.ext0 H.ext) rfl (by omega)) rfl ?_
 rintro v w ⟨rfl,hx14⟩
 rw [← hck]
 replace H:=H.call hx14
 refine B1 rfl rfl (Ab (Aa (Aq _ rfl ?_ ?_)))
 ·intro h1
  replace h1:=Bv h1
  refine Af (Ae rfl rfl (Ab (Aa (A8 (Al (AB (v:=(.int _ _)) rfl rfl rfl ?_))))))
  have h1':ck=false:=by simpa using h1
  have hC:De acs ds r=1:=by unfold De; rw [← hck,if_pos h1']
  unfold DY Dz
  rw [hC,if_neg (by decide),if_neg (by decide)]
  exact ⟨rfl,full,ad,cd,fd,O,OD,H0.call H.ext⟩
 ·intro h1
  replace h1:=Bw h1
  have h1':ck=true:=by simpa using h1
  refine Ao (Aa (An (Af (A2 rfl rfl (A2 rfl rfl (B6 rfl FN DL rfl H at0 rfl (Am rfl ca_72 (Vc ha hd _ (A.ext0 H.ext) (D.ext0 H.ext) (RA.ext0 H.ext) he hi) rfl ?_)))))))
  rintro v w ⟨rfl,hx19⟩
  rw [← hnw]
  replace H:=H.call hx19
  refine B1 rfl rfl (Ab (Aa (Aq _ rfl ?_ ?_)))
  ·intro h2
   replace h2:=Bv h2
   refine Af (Ae rfl rfl (Ab (Aa (A8 (Al (AB (v:=(.int _ _)) rfl rfl rfl ?_))))))
   have h2':nw=false:=by simpa using h2
   have hC:De acs ds r=3:=by unfold De; rw [← hck,h1',if_neg (by decide),← hnw,if_pos h2']
   unfold DY Dz
   rw [hC,if_neg (by decide),if_neg (by decide)]
   exact ⟨rfl,full,ad,cd,fd,O,OD,H0.call H.ext⟩
  ·intro h2
   replace h2:=Bw h2
   have h2':nw=true:=by simpa using h2
   have hC:De acs ds r=0:=by unfold De; rw [← hck,h1',if_neg (by decide),← hnw,h2',if_neg (by decide)]
   have F:=E6 ha hd hC
   unfold DY Dz
   rw [hC,if_pos rfl,if_pos rfl]
   have hSh:=(Hu ha (fun k a hk=>(F.by' k a hk).2) F.sum).1
   obtain ⟨f,hf0⟩:∃ f:Nat→Nat→Int,f=fun i=>Ee (grE (((acs.map Ce).length+1:Nat):Int) (BF (acs.map Ce) (opn ds) r.cmp)) (flE r.fl) i:=⟨_,rfl⟩
   have hfe:byK (acs.map Ce) (opn ds) r.cmp r.fl=f (opn ds).length:=by rw [hf0]; rfl
   rw [hfe] at hSh ⊢
   have hf00:f 0=fun _=>0:=by rw [hf0]; rfl
   obtain ⟨m,hm⟩:∃ m,m=(opn ds).length:=⟨_,rfl⟩
   have hml:m≤64:=by have:=G4 ds; omega
   have hmf:m≤r.fl.length:=by rw [F.len,F.es,Fc]; omega
   have hltm:(r.fl.take m).length=m:=by rw [List.length_take]; omega
   rw [← hm] at hSh ⊢
   refine Ao (Aa (Af (A2 rfl rfl (AJ rfl rfl (Ah rfl Ec rfl (Bb rfl Gw rfl ((by rw [Ay (H.ext.to hbr (by simp))]; rfl)) ?_))))))
   refine Am rfl Zc (Nj ad _ cd ds _ (RDu.ext0 H.ext) rfl (by omega)) rfl ?_
   rintro v w F25
   obtain ⟨a7,n7,c7,f7,rfl,O7,hb7⟩:=F25.ex
   have hn7:=O7.numN (fun _ _=>rfl) (by decide)
   rw [← hm] at hn7
   have hn7':m=n7:=by omega
   subst hn7'
   replace H:=H.callEnt F25.ext hb7 Ir
   refine Az rfl rfl (Ab (Aa (Af (A2 rfl rfl (AJ rfl rfl (Ah rfl FG rfl (Bb rfl GK rfl ((by rw [Ay (H.ext.to hba (by simp))]; rfl)) ?_)))))))
   refine AV rfl CL rfl (F8 rfl AO Bu HN Fa rfl rfl (by omega) (by omega) (by omega) (by omega) H ?_)
   rintro b31 w - H
   rw [Int.toNat_natCast,DZ] at H
   rw [Int.toNat_natCast]
   refine Az rfl rfl (Ab (Aa (An (Af (Ae rfl rfl (Ab (Aa (Au ?_))))))))
   have E9:=H.ext
   obtain ⟨L9,hL9⟩:∃ L9,L9=((b31,Bl 2 (List.map (fun _=>Value.int .i64 0) (List.range acs.length)))::(b5,Bl 33 (Br r q))::(br,RDU ad ds.length cd nx)::(ent ad 62 fd++(ba,Bl 52 [.slice a acs.length c])::(ent a 64 full++ent a7 62 f7))):=⟨_,rfl⟩
   have HFp:Ctx w0 ((RX ba a acs.length c full br ad ds.length cd nx fd).map (·.1)) w L9:=by rw [hL9]; exact (Ctx.callEnt H0 H.ext (fun x hx=>⟨H.blk x hx,(H.own x hx).elim (fun h=>by cases h) id⟩) H.nd).comm.perm (permI _ _ _ _ _ _ _)
   obtain ⟨S9,hS9⟩:∃ S9,S9=L9.map (·.1):=⟨_,rfl⟩
   have RA9:=RA.ext0 E9
   have hoff9:ROff q r (·∈S9):=(hoff.or RA.lt).mono fun x hx=>by
    rw [hS9] at hx
    obtain ⟨y,hy,rfl⟩:=List.mem_map.1 hx
    exact HFp.own y hy
   obtain ⟨w9,rfl⟩:∃ z,z=w:=⟨_,rfl⟩
   have HF:Ctx w0 ((RX ba a acs.length c full br ad ds.length cd nx fd).map (·.1)) w9 (L9++[]):=by rw [List.append_nil]; exact HFp
   clear HFp
   have H:Ctx w9 S9 w9 L9:=by rw [hS9]; exact Ctx.lend HF
   refine Bf 9671406556917029102682624 (α:=RP7) (fun t=>[(9,.int .i64 (t.i:Int))]) (fun t w'=>t.i≤m∧OS t.ad (G2 ds (((opn ds).zip (r.fl.take m)).take t.i)).length t.cd 7 t.fd ((G2 ds (((opn ds).zip (r.fl.take m)).take t.i)).flatMap Cf)∧Ctx w9 S9 w' ((b31,Bl 2 (BE (f t.i) acs.length))::(b5,Bl 33 (Br r q))::(br,RDU t.ad (G2 ds (((opn ds).zip (r.fl.take m)).take t.i)).length t.cd nx)::(ent t.ad 62 t.fd++(ba,Bl 52 [.slice a acs.length c])::(ent a 64 full++ent a7 62 f7)))) (fun t=>m - t.i) ⟨0,ad,cd,fd⟩ rfl ?_ ?_ ?_
   ·exact ⟨rfl,trivial⟩
   ·refine ⟨Nat.zero_le _,OD,?_⟩
    dsimp only
    rw [hf00]
    rw [hL9] at H
    exact H
   ·clear H
    rintro ⟨i,ad1,cd1,fd1⟩ jj w ⟨hi7,OD1,H⟩; dsimp only at hi7 OD1 H; dsimp only
    have hmem:∀ x∈ent a7 62 f7,x∈((b31,Bl 2 (BE (f i) acs.length))::(b5,Bl 33 (Br r q))::(br,RDU ad1 (G2 ds (((opn ds).zip (r.fl.take m)).take i)).length cd1 nx)::(ent ad1 62 fd1++(ba,Bl 52 [.slice a acs.length c])::(ent a 64 full++ent a7 62 f7))):=fun x hx=>List.mem_cons_of_mem _ (List.mem_cons_of_mem _ (List.mem_cons_of_mem _ (List.mem_append_right _ (List.mem_cons_of_mem _ (List.mem_append_right _ hx)))))
    have RO1:Rd w a7 7 Cf (opn ds):=OS.rd O7 (fun x hx=>H.blk x (hmem x hx)) (fun _ _=>rfl) (by decide)
    refine An (Af (Ad rfl rfl (Aj rfl rfl (AV rfl B4 rfl (AZ rfl rfl rfl (Ab (Aa (Aq _ rfl ?_ ?_))))))))
    ·intro h3
     replace h3:=AF h3
     obtain ⟨d,hdi⟩:=A0 (l:=opn ds) (i:=i) (by omega)
     obtain ⟨x,hxi⟩:=A0 (l:=r.fl) (i:=i) (by omega)
     have hxt:(r.fl.take m)[i]? = some x:=by rw [List.getElem?_take,if_pos (by omega)]; exact hxi
     have hps:((opn ds).zip (r.fl.take m))[i]? = some (d,x):=by rw [List.getElem?_zip_eq_some]; exact ⟨hdi,hxt⟩
     have hok:=F.ok
     rw [← hm] at hok
     obtain ⟨⟨hfd,hheld,hx0,hx1⟩,hnext⟩:=Nk hok hps
     dsimp only at hfd hheld hx0 hx1 hnext
     obtain ⟨ham7,hlen7⟩:=PD (TQ hd) hok i
     have hDI:=F.B.open'.due d (List.mem_of_getElem? hdi)
     rw [List.length_map] at hDI
     have hdm:=E5 hDI.1
     have hfr7:d.fr<(acs.length:Int):=hDI.2.1
     have hto7:d.to<(acs.length:Int):=hDI.2.2
     have hfr8:=hdm.1.1
     have hto8:=hdm.2.1.1
     have hfb:∀ k,-1152921504606846976≤f i k∧f i k≤1152921504606846976:=fun k=>by
      have:=GS (g:=grE (((acs.map Ce).length+1:Nat):Int) (BF (acs.map Ce) (opn ds) r.cmp)) (x:=flE r.fl) (c:=4503599627370496) k (k:=i) fun j hj=>by
       obtain ⟨d',hd'⟩:=A0 (l:=opn ds) (i:=j) (by omega)
       obtain ⟨x',hx'⟩:=A0 (l:=r.fl) (i:=j) (by omega)
       have h1:=F.pay.2 j d' x' hd' (by rw [List.getElem?_take,if_pos (by omega)]; exact hx')
       have h2:=(E5 (F.B.open'.due d' (List.mem_of_getElem? hd')).1).2.2.2.1
       show 0≤r.fl.getD j 0∧r.fl.getD j 0≤_
       rw [Bn hx']
       omega
      rw [hf0]
      dsimp only
      omega
     have hfs:∀ k,f (i+1) k=f i k+(one (d.to.toNat=k) - one (d.fr.toNat=k))*x:=fun k=>by
      rw [hf0]
      dsimp only
      rw [G8,Nl (G3 hdi),Nm (G3 hdi),show flE r.fl i=x from Bn hxi]; rfl
     obtain ⟨fn,hfn⟩:∃ fn:Nat,d.fr=fn:=⟨d.fr.toNat,by omega⟩
     obtain ⟨tn,htn⟩:∃ tn:Nat,d.to=tn:=⟨d.to.toNat,by omega⟩
     obtain ⟨f1,hf1⟩:∃ f1,f1=upd (f i) fn (f i fn - x):=⟨_,rfl⟩
     have hof:f1 fn=f i fn - x:=by rw [hf1,CT]
     have hon:∀ q,q≠fn→f1 q=f i q:=fun q hq=>by rw [hf1,DG hq]
     have hst:∀ q,f (i+1) q=upd f1 tn (f1 tn+x) q:=fun q=>by
      rw [hfs,hfn,htn,Int.toNat_natCast,Int.toNat_natCast]
      by_cases h1:q=tn
      ·subst h1
       rw [CT,ET rfl]
       by_cases h2:fn=q
       ·subst h2; rw [ET rfl,hof]; omega
       ·rw [EB h2,hon q (Ne.symm h2)]; omega
      ·rw [DG h1,EB (Ne.symm h1)]
       by_cases h2:fn=q
       ·subst h2; rw [ET rfl,hof]; omega
       ·rw [EB h2,hon q (Ne.symm h2)]; omega
     have hb1:=hfb fn
     have hb2:=hfb tn
     have hot : -1157425104234217472≤f1 tn∧f1 tn≤1157425104234217472:=by
      by_cases h:tn=fn
      ·rw [h,hof]; omega
      ·rw [hon tn h]; omega
     have hp1:=Zr (b31,Bl 2 (BE (f (i+1)) acs.length)) (b5,Bl 33 (Br r q)) (br,RDU ad1 (G2 ds (((opn ds).zip (r.fl.take m)).take i)).length cd1 nx) (ent ad1 62 fd1) ((ba,Bl 52 [.slice a acs.length c])::(ent a 64 full++ent a7 62 f7))
     obtain ⟨R7,hR7⟩:∃ R7,R7=ent ad1 62 fd1++(ba,Bl 52 [.slice a acs.length c])::(ent a 64 full++ent a7 62 f7):=⟨_,rfl⟩
     rw [← hR7] at hp1 H hmem
     have RF9:=RA9.F
     refine Ao (Aa (An (Au (DK 16 B0 (by kernel_rfl) rfl rfl ?_))))
     refine Bx rfl rfl (Bx rfl rfl (AP rfl rfl (Bs RO1 rfl B4 B2 rfl rfl (by omega) (by omega) (by omega) ?_)))
     refine A7 rfl E1 rfl (BR rfl BV rfl (by rintro _ rfl; exact (((OS.rd O7 (fun x hx=>H.drew.blk x (by exact hmem x hx)) (fun _ _=>rfl) (by decide)).fld hdi rfl (j:=1) rfl))) ?_)
     refine AY rfl AO Bu rfl rfl (by omega) (by omega) ?_
     refine Tj fn _ rfl Bt rfl (by rintro _ rfl; exact H.drew) at0 (by rw [hfn]; simp) (by omega) rfl ?_
     refine A7 rfl FE rfl (A7 rfl FC rfl (Cd rfl BX rfl (by rintro _ rfl; exact H.drew) at1 rfl ?_))
     refine AP rfl rfl (Bs RF9 rfl AO Bu rfl rfl (by omega) (by omega) (by rfl) ?_)
     refine BR rfl Bt rfl (by rintro _ rfl; exact (((RF9.ext' H.drew.ext hoff9.F).fld hxi rfl (j:=0) rfl))) ?_
     refine Dq rfl rfl rfl (by omega) (by omega) ?_
     refine AY rfl AO Bu rfl rfl (by omega) (by omega) ?_
     refine BJ ?_
     replace H:=H.drew
     refine BU fn (fun q => .int .i64 (f1 q)) (.int _ _) rfl Bu rfl rfl rfl H at0 (by rw [hfn]; simp) (by omega) (by rw [hof]) (fun q _ hq=>by rw [hon q hq]) ?_
     rintro w H
     have hmem2:∀ x∈ent a7 62 f7,x∈((b31,Bl 2 (BE f1 acs.length))::(b5,Bl 33 (Br r q))::(br,RDU ad1 (G2 ds (((opn ds).zip (r.fl.take m)).take i)).length cd1 nx)::R7):=fun x hx=>List.mem_cons_of_mem _ (List.mem_cons_of_mem _ (List.mem_cons_of_mem _ (by rw [hR7]; exact List.mem_append_right _ (List.mem_cons_of_mem _ (List.mem_append_right _ hx)))))
     refine Ab (Aa (DK 16 B0 (by kernel_rfl) rfl rfl ?_))
     refine Bx rfl rfl (Bx rfl rfl (AP rfl rfl (Bs RO1 rfl B4 B2 rfl rfl (by omega) (by omega) (by omega) ?_)))
     refine A7 rfl E3 rfl (BR rfl BV rfl (by rintro _ rfl; exact (((OS.rd O7 (fun x hx=>H.drew.blk x (by exact hmem2 x hx)) (fun _ _=>rfl) (by decide)).fld hdi rfl (j:=2) rfl))) ?_)
     refine AY rfl AO Bu rfl rfl (by omega) (by omega) ?_
     refine Tj tn _ rfl Bt rfl (by rintro _ rfl; exact H.drew) at0 (by rw [htn]; simp) (by omega) rfl ?_
     refine A7 rfl FE rfl (A7 rfl FC rfl (Cd rfl BX rfl (by rintro _ rfl; exact H.drew) at1 rfl ?_))
     refine AP rfl rfl (Bs RF9 rfl AO Bu rfl rfl (by omega) (by omega) (by rfl) ?_)
     refine BR rfl Bt rfl (by rintro _ rfl; exact (((RF9.ext' H.drew.ext hoff9.F).fld hxi rfl (j:=0) rfl))) ?_
     refine C7 rfl rfl rfl (by omega) (by omega) ?_
     refine AY rfl AO Bu rfl rfl (by omega) (by omega) ?_
     refine BJ ?_
     replace H:=H.drew
     refine BU tn (fun q => .int .i64 (f (i+1) q)) (.int _ _) rfl Bu rfl rfl rfl H at0 (by rw [htn]; simp) (by omega) (by rw [hst,CT]) (fun q _ hq=>by rw [hst,DG hq]) ?_
     rintro w H
     have hmem3:∀ x∈ent a7 62 f7,x∈((b31,Bl 2 (BE (f (i+1)) acs.length))::(b5,Bl 33 (Br r q))::(br,RDU ad1 (G2 ds (((opn ds).zip (r.fl.take m)).take i)).length cd1 nx)::R7):=fun x hx=>List.mem_cons_of_mem _ (List.mem_cons_of_mem _ (List.mem_cons_of_mem _ (by rw [hR7]; exact List.mem_append_right _ (List.mem_cons_of_mem _ (List.mem_append_right _ hx)))))
     refine Ab (Aa (EM 12 B0 (by kernel_rfl) rfl rfl ?_))
     refine BS rfl rfl (Bx rfl rfl (AP rfl rfl (Bs RO1 rfl B4 B2 rfl rfl (by omega) (by omega) (by omega) ?_)))
     refine A7 rfl Dw rfl (BR rfl BK rfl (by rintro _ rfl; exact (((OS.rd O7 (fun x hx=>H.drew.blk x (by exact hmem3 x hx)) (fun _ _=>rfl) (by decide)).fld hdi rfl (j:=0) rfl))) ?_)
     refine A7 rfl FE rfl (A7 rfl FC rfl (Cd rfl BX rfl (by rintro _ rfl; exact H.drew) at1 rfl ?_))
     refine AP rfl rfl (Bs RF9 rfl AO Bu rfl rfl (by omega) (by omega) (by rfl) ?_)
     refine BR rfl Bt rfl (by rintro _ rfl; exact (((RF9.ext' H.drew.ext hoff9.F).fld hxi rfl (j:=0) rfl))) ?_
     refine BJ ?_
     replace H:=H.drew
     obtain ⟨hc0,hS⟩:=OG (p:=(d,x)) ⟨hfd,hheld,hx0,hx1⟩
     dsimp only at hc0 hS
     refine Am rfl ca_73 (SU (k:=d.id) (x:=x) (H.perm hp1) OD1 (by omega) ham7) rfl ?_
     rintro v w ⟨rfl,ad2,cd2,fd2,OD2,H2⟩
     rw [hS,← hnext] at OD2 H2
     replace H:=H2.perm (Zr _ _ _ _ _).symm
     refine Ab (A5 (Aa (Av (Ad rfl rfl (Ap rfl rfl rfl (by omega) (by omega) ?_)))))
     refine Ae rfl rfl (Ab (Aa ?_))
     exact ⟨⟨i+1,ad2,cd2,fd2⟩,rfl,⟨rfl,trivial⟩,⟨by dsimp only; omega,OD2,H⟩,by dsimp only; omega⟩
    ·intro h3
     replace h3:=AG h3
     obtain rfl:i=m:=by omega
     have hall:=F.all
     rw [← hm] at hall
     rw [List.take_of_length_le (by rw [List.length_zip,← hm,List.length_take]; omega),hall] at OD1 H
     replace H:=H.perm (permS _ _ _ _ _ _ _)
     have hnd:=List.pairwise_append.1 H.nd
     refine Bc (Ak (Ak (AD (Aa (Af (A2 rfl rfl (Aj rfl rfl (Am rfl ca_74 (QN (bd:=ba) a (some ⟨b31,0,none⟩) c acs.length acs.length full acs (tab (f i) acs.length) _ (H.get at3) O (fun x hx=>⟨H.blk x (List.mem_append_right _ hx),fun h=>hnd.2.2 _ (List.mem_cons_of_mem _ (List.mem_cons_of_mem _ (List.mem_cons_of_mem _ (List.mem_cons_self ..)))) x hx h.symm⟩) (by omega) (Cs (H.get at0)) (CQ _ _) (by omega)) rfl ?_))))))))
     rintro v w ⟨rfl,full',O',hb',hx85⟩
     refine Ab (Aa (Af (Ae rfl rfl (Ab (Aa (A8 (AB (v:=(.int _ _)) rfl rfl rfl ?_)))))))
     have HT:=Ctx.turnEnt H hx85 hb'
     rw [hS9] at HT
     have HB:=Ctx.back HF HT
     rw [List.append_nil] at HB
     exact ⟨rfl,full',ad1,cd1,fd1,O',OD1,(HB.perm (permF _ _ _ _ _ _ _)).left⟩
end Go.Proofs.YtapphbmlkdhnmaaGreat

/- Accounts and dues, of the program's and of the reference: what the laws begin with. -/
namespace Go.Proofs.YtapphbmlkdhnmaaGreat
open Go.GV
attribute [local irreducible] AL W Wq Wt

theorem SV {P:Program} {e:Env} {w:World} {fn:Func} {R:Value→World→Prop} {s1 s2 s3 s4 s5:Tmp} {v1 v2 v3 v4 v5:Value} (hr:fn.results=#[.tmp s1,.tmp s2,.tmp s3,.tmp s4,.tmp s5]) (hd:e.ds=[]) (h1:e.g s1=v1) (h2:e.g s2=v2) (h3:e.g s3=v3) (h4:e.g s4=v4) (h5:e.g s5=v5)
  (h:R (.tuple #[v1,v2,v3,v4,v5]) w):Mp P fn R .ret e w :=
 ⟨hd,fun tmps ht=>by
  have g1:=(ht s1).trans h1
  have g2:=(ht s2).trans h2
  have g3:=(ht s3).trans h3
  have g4:=(ht s4).trans h4
  have g5:=(ht s5).trans h5
  rw [Array.getD_eq_getD_getElem?] at g1 g2 g3 g4 g5
  exact ⟨_,by simp [results,hr,g1,g2,g3,g4,g5],h⟩⟩
theorem permB {α:Type} (A B C D E:α) (F G H:List α):(((([]++(A::F))++(B::G))++(C::H))++[D,E]).Perm ((C::D::E::H)++(A::B::(G++F))):=by
 classical exact List.perm_iff_count.2 fun x=>by simp only [List.count_append,List.count_cons,List.count_nil]; omega
theorem KP {b:Nat} {o:Obj} {a:Option Addr} {t:TypeId} {full:List Value} (h:∀ x∈ent a t full,x.1≠b):((b,o)::ent a t full).Pairwise fun x y=>x.1≠y.1 :=
 List.pairwise_cons.2 ⟨fun x hx=>(h x hx).symm,Ir⟩
/-- Accounts and dues, twice. -/
structure Four where
 bx:Nat
 a:Option Addr
 c:Nat
 full:List Value
 bd:Nat
 b:Nat
 o:Obj
 ba:Nat
 ra:Option Addr
 rc:Nat
 rfull:List Value
 br:Nat
 ad:Option Addr
 cd:Nat
 fd:List Value
def Four.L (z:Four) (acs:List Ac) (ds:List Du) (nx:Int):List (Nat × Obj):=LX z.bx z.a acs.length z.c z.full z.bd z.b nx z.o++RX z.ba z.ra acs.length z.rc z.rfull z.br z.ad ds.length z.cd nx z.fd
structure Four.Ok (z:Four) (acs:List Ac) (ds:List Du):Prop where
 O:OS z.a acs.length z.c 2 z.full (acs.flatMap CB)
 M:D8 .u64 (dm ds) z.o
 RO:OS z.ra acs.length z.rc 2 z.rfull (acs.flatMap CB)
 RD:OS z.ad ds.length z.cd 7 z.fd (ds.flatMap Cf)
def Rn (acs:List Ac) (ds:List Du) (nx:Int):Bool:=decide (DB acs=0) && decide (ofC ds nx=0)
def BothRes (w:World) (acs:List Ac) (ds:List Du) (nx:Int) (v:Value) (w':World):Prop :=
 (Rn acs ds nx=false∧v = .tuple #[.pointer none,.pointer none,.pointer none,.pointer none,.bool false]∧Ext [] w w') ∨
  (Rn acs ds nx=true∧∃ z:Four,v = .tuple #[ptr z.bx,ptr z.bd,ptr z.ba,ptr z.br,.bool true]∧z.Ok acs ds∧Ctx w [] w' (z.L acs ds nx))
theorem BothRes.uni' {w w':World} {acs:List Ac} {ds:List Du} {nx:Int} {v:Value} (h:BothRes w acs ds nx v w') (hb:Rn acs ds nx=true↔DB acs=0∧ofC ds nx=0):∃ (p1 p2 p3 p4:Option Addr) (is:Bool),v = .tuple #[.pointer p1,.pointer p2,.pointer p3,.pointer p4,.bool is]∧Ext [] w w' ∧
  (is=true→DB acs=0∧ofC ds nx=0∧∃ z:Four,p1=some ⟨z.bx,0,none⟩∧p2=some ⟨z.bd,0,none⟩∧p3=some ⟨z.ba,0,none⟩∧p4=some ⟨z.br,0,none⟩∧z.Ok acs ds∧Ctx w [] w' (z.L acs ds nx)):=by
 rcases h with ⟨-,rfl,hx⟩ | ⟨h1,z,rfl,h2,h3⟩
 ·exact ⟨_,_,_,_,_,rfl,hx,fun h=>by cases h⟩
 ·exact ⟨_,_,_,_,_,rfl,h3.ext,fun _=>⟨(hb.1 h1).1,(hb.1 h1).2,z,rfl,rfl,rfl,rfl,h2,h3⟩⟩
theorem FV {acs:List Ac} {ds:List Du} {nx:Int}:Rn acs ds nx=true↔DB acs=0∧ofC ds nx=0:=by
 unfold Rn
 rw [Bool.and_eq_true,decide_eq_true_eq,decide_eq_true_eq]
set_option maxRecDepth 20000 in
set_option maxHeartbeats 2000000 in
theorem JI (a b:Option Addr) (n c m e:Nat) (acs:List Ac) (ds:List Du) (nx:Int) (w:World) (R:Rd w a 2 CB acs) (hn:acs.length=n) (R':Rd w b 7 Cf ds) (hm:ds.length=m) (hnx:0≤nx∧nx<18446744073709551616) (hid:∀ d∈ds,0≤d.id∧d.id<18446744073709551616) :
  Ret Tryz.prog 11 #[.slice a n c,.slice b m e,.int .u64 nx] w (BothRes w acs ds nx):=by
 subst hn hm
 obtain ⟨w0,rfl⟩:∃ w0,w0=w:=⟨_,rfl⟩
 have H:=Ctx.start w0 []
 refine A9 (fn:=Tryz.f11) Tryz.func11 rfl [.slice a acs.length c,.slice b ds.length e,.int .u64 nx] rfl (by kernel_rfl) ?_
 refine Af (AW rfl rfl (AW rfl rfl (AW rfl rfl (AW rfl rfl (Ai rfl rfl (Ab (Aa (An (Af (BD (α:=Unit) 133693440 (fun _=>[(26,.bool ((decide (40<acs.length) || decide (100<ds.length))))]) (fun _ w'=>Ctx w0 [] w' []) rfl ?_ ?_))))))))))
 ·refine Aj rfl rfl (AV rfl CL rfl (Ck rfl rfl rfl (Aw rfl rfl (AE 22 rfl ?_ ?_))))
  ·intro h1
   replace h1:=AF h1
   refine Ag rfl (Ag rfl (Ag rfl (AA rfl rfl (.bool _) rfl (Ab ?_))))
   exact ⟨rfl,(),rfl,⟨congrArg Value.bool (by rw [Bool.eq_iff_iff]; simp_all; try omega),trivial⟩,H⟩
  ·intro h2
   replace h2:=AG h2
   refine Aj rfl rfl (AV rfl B4 rfl (Ck rfl rfl rfl (A6 rfl rfl (.bool _) rfl (Ab ?_))))
   exact ⟨rfl,(),rfl,⟨congrArg Value.bool (by rw [Bool.eq_iff_iff]; simp_all; try omega),trivial⟩,H⟩
 rintro - j26 w H
 refine Aq _ rfl ?_ ?_
 ·intro h1
  refine Af (AW rfl rfl (AW rfl rfl (AW rfl rfl (AW rfl rfl (Ai rfl rfl (Ab (Aa (A8 (Al (SV (v1:=(.pointer _)) (v2:=(.pointer _)) (v3:=(.pointer _)) (v4:=(.pointer _)) (v5:=(.bool _)) rfl rfl rfl rfl rfl rfl rfl ?_))))))))))
  refine .inl ⟨?_,rfl,H.ext⟩
  rw [Bool.or_eq_true,decide_eq_true_eq,decide_eq_true_eq] at h1
  rw [← Bool.not_eq_true,FV]
  rintro ⟨h2,h3⟩
  have h4:=(Dy.1 h2).1
  have h5:=(D7.1 h3).1
  omega
 ·intro h1
  have hx0:=H.ext
  have h1':acs.length≤40∧ds.length≤100:=by simpa using h1
  have hn2:acs.length≤1000000000:=by omega
  have hm2:ds.length≤1000000000:=by omega
  obtain ⟨ca,hca⟩:∃ ca,ca=DB acs:=⟨_,rfl⟩
  obtain ⟨cb,hcb⟩:∃ cb,cb=ofC ds nx:=⟨_,rfl⟩
  refine Ao (Aa (Af (Aj rfl rfl (Am rfl ca_55 (WU a _ c acs _ (R.ext0 H.ext) rfl hn2) rfl ?_))))
  rintro v w29 ⟨p29,rfl,hn29,hs29,hx29⟩
  rw [← hca] at hn29 hs29 ⊢
  obtain ⟨q29,hq29⟩:∃ q,p29 = .pointer q:=(Classical.em (ca=0)).elim (fun h=>(hs29 h).elim fun _ h=>h.elim fun _ h=>h.elim fun _ h=>h.elim fun _ h=>⟨_,h.1⟩) (fun h=>⟨_,hn29 h⟩)
  subst hq29
  replace H:=H.call hx29
  refine B9 rfl rfl (A3 rfl rfl rfl (A3 rfl rfl rfl (AW rfl rfl (Ae rfl rfl (Ab (Aa (Af (Aj rfl rfl (Ad rfl rfl (Am rfl ca_56 (WW b _ e ds nx _ (R'.ext0 H.ext) rfl hm2 hnx hid) rfl ?_))))))))))
  rintro v w35 ⟨p35,rfl,hn35,hs35,hx35⟩
  rw [← hcb] at hn35 hs35 ⊢
  obtain ⟨q35,hq35⟩:∃ q,p35 = .pointer q:=(Classical.em (cb=0)).elim (fun h=>(hs35 h).elim fun _ h=>h.elim fun _ h=>h.elim fun _ h=>h.elim fun _ h=>⟨_,h.1⟩) (fun h=>⟨_,hn35 h⟩)
  subst hq35
  replace H:=H.call hx35
  refine B9 rfl rfl (A3 rfl rfl rfl (A3 rfl rfl rfl (AW rfl rfl (Ae rfl rfl (Ab (Aa (An (Af (BD (α:=Unit) 17317308137472 (fun _=>[(43,.bool ((!decide (ca=0) || !decide (cb=0))))]) (fun _ w'=>Ctx w0 [] w' []∧w'=w35) rfl ?_ ?_)))))))))
  ·refine Ad rfl rfl (Cp rfl rfl rfl (Aw rfl rfl (AE 40 rfl ?_ ?_)))
   ·intro h3
    replace h3:=CY h3
    refine Ag rfl (Ag rfl (AA rfl rfl (.bool _) rfl (Ab ?_)))
    exact ⟨rfl,(),rfl,⟨congrArg Value.bool (by rw [Bool.eq_iff_iff]; simp_all),trivial⟩,⟨H,rfl⟩⟩
   ·intro h4
    replace h4:=CZ h4
    refine Ad rfl rfl (Cp rfl rfl rfl (A6 rfl rfl (.bool _) rfl (Ab ?_)))
    exact ⟨rfl,(),rfl,⟨congrArg Value.bool (by rw [Bool.eq_iff_iff]; simp_all),trivial⟩,⟨H,rfl⟩⟩
  rintro - j43 w ⟨H,rfl⟩
  refine Aq _ rfl ?_ ?_
  ·intro h2
   refine Af (AW rfl rfl (AW rfl rfl (AW rfl rfl (AW rfl rfl (Ai rfl rfl (Ab (Aa (A8 (Al (SV (v1:=(.pointer _)) (v2:=(.pointer _)) (v3:=(.pointer _)) (v4:=(.pointer _)) (v5:=(.bool _)) rfl rfl rfl rfl rfl rfl rfl ?_))))))))))
   refine .inl ⟨?_,rfl,H.ext⟩
   rw [← Bool.not_eq_true,FV,← hca,← hcb]
   rintro ⟨h3,h4⟩
   rw [h3,h4] at h2
   simp at h2
  ·intro h2
   have h2':ca=0∧cb=0:=by simpa using h2
   rw [hca,hcb] at h2'
   obtain ⟨ba,ra,rc,rfull,g0,g1,g2,g3,g4⟩:=hs29 (hca.trans h2'.1)
   obtain ⟨br,ad,cd,fd,k0,k1,k2,k3,k4⟩:=hs35 (hcb.trans h2'.2)
   cases g0; cases k0
   refine Ao (Aa (Af (Aj rfl rfl (Am rfl Zd (WO a _ c acs _ (R.ext0 H.ext) rfl hn2) rfl ?_))))
   rintro v w46 ⟨p46,rfl,hn46,hs46,hx46⟩
   obtain ⟨q46,hq46⟩:∃ q,p46 = .pointer q:=(Classical.em (DB acs=0)).elim (fun h=>(hs46 h).elim fun _ h=>h.elim fun _ h=>h.elim fun _ h=>h.elim fun _ h=>⟨_,h.1⟩) (fun h=>⟨_,hn46 h⟩)
   subst hq46
   replace H:=H.call hx46
   refine B9 rfl rfl (A3 rfl rfl rfl (A3 rfl rfl rfl (AW rfl rfl (Ae rfl rfl (Ab (Aa (Af (Aj rfl rfl (Ad rfl rfl (Am rfl Zf (WM b _ e ds nx _ (R'.ext0 H.ext) rfl hm2 hnx hid) rfl ?_))))))))))
   rintro v w52 ⟨p52,rfl,hn52,hs52,hx52⟩
   obtain ⟨q52,hq52⟩:∃ q,p52 = .pointer q:=(Classical.em (ofC ds nx=0)).elim (fun h=>(hs52 h).elim fun _ h=>h.elim fun _ h=>h.elim fun _ h=>⟨_,h.1⟩) (fun h=>⟨_,hn52 h⟩)
   subst hq52
   replace H:=H.call hx52
   refine B9 rfl rfl (A3 rfl rfl rfl (A3 rfl rfl rfl (AW rfl rfl (Ae rfl rfl (Ab (Aa (Af (A2 rfl rfl (A2 rfl rfl (A2 rfl rfl ?_))))))))))
   refine A2 rfl rfl (AW rfl rfl (AW rfl rfl (AW rfl rfl (AW rfl rfl (Ai rfl rfl (Ab (Aa (A8 (SV (v1:=(.pointer _)) (v2:=(.pointer _)) (v3:=(.pointer _)) (v4:=(.pointer _)) (v5:=(.bool _)) rfl rfl rfl rfl rfl rfl rfl ?_)))))))))
   obtain ⟨bx,a',c',full',i0,i1,i2,i3,i4⟩:=hs46 h2'.1
   obtain ⟨bd,bb,o,j0,j1,j2,j3,j4,j5,j6⟩:=hs52 h2'.2
   cases i0; cases j0
   refine .inr ⟨FV.2 h2',⟨bx,a',c',full',bd,bb,o,ba,ra,rc,rfull,br,ad,cd,fd⟩,rfl,⟨i2,j3,g2,k2⟩,?_⟩
   have H1:=((Ctx.start w0 []).call hx0).callEnt (E:=(ba,Bl 52 [.slice ra acs.length rc])::ent ra 64 rfull) hx29 (fun x hx=>by
    rcases List.mem_cons.1 hx with rfl | hx
    ·exact ⟨g1,g4⟩
    ·exact ⟨(g3 x hx).1,(g3 x hx).2.1⟩) (KP fun x hx=>(g3 x hx).2.2)
   have H2:=H1.callEnt (E:=(br,RDU ad ds.length cd nx)::ent ad 62 fd) hx35 (fun x hx=>by
    rcases List.mem_cons.1 hx with rfl | hx
    ·exact ⟨k1,k4⟩
    ·exact ⟨(k3 x hx).1,(k3 x hx).2.1⟩) (KP fun x hx=>(k3 x hx).2.2)
   have H3:=H2.callEnt (E:=(bx,Bl 116 [.slice a' acs.length c'])::ent a' 64 full') hx46 (fun x hx=>by
    rcases List.mem_cons.1 hx with rfl | hx
    ·exact ⟨i1,i4⟩
    ·exact ⟨(i3 x hx).1,(i3 x hx).2.1⟩) (KP fun x hx=>(i3 x hx).2.2)
   have H4:=H3.callEnt (E:=[(bd,Bl 123 (DU bb nx)),(bb,o)]) hx52 (fun x hx=>by
    simp only [List.mem_cons,List.not_mem_nil,or_false] at hx
    rcases hx with rfl | rfl
    ·exact ⟨j1,j4⟩
    ·exact ⟨j2,j5⟩) (by simpa using j6)
   exact H4.perm (permB _ _ _ _ _ _ _ _)
end Go.Proofs.YtapphbmlkdhnmaaGreat
