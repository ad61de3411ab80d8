/- Part 7 of the proof. -/
import Derived.Test.YtapphbmlkdhnmaaGreatPart2
import Derived.Test.YtapphbmlkdhnmaaGreatPart6
import Derived.Test.YtapphbmlkdhnmaaGreatPart3
/- The solver: a way is filled: the walk. -/
namespace Go.Proofs.YtapphbmlkdhnmaaGreat
open Go.GV
attribute [local irreducible] AL W Wq Wt

set_option maxRecDepth 20000 in
set_option maxHeartbeats 8000000 in
theorem Yw {w:World} {bs bf bp bo:Nat} {N:Nat} {ae:Option Addr} {ce:Nat} {kk:Int} {es:List Ed} {x p ov:Nat→Int} {full:List Value} (H0:Ctx w ((SL bs bf bp bo N ae es.length ce kk x p ov full).map (·.1)) w (SL bs bf bp bo N ae es.length ce kk x p ov full)) (O:OS ae es.length ce 4 full (es.flatMap Cw))
  (hr:Cb (N:Int) es=true) (hF:Fine (grE (N:Int) es) (Co es) x p) (hov:∀ v,v<N→ov v=BA (grE (N:Int) es) x v) (hpb:∀ v,v<N → -1073741824≤p v∧p v≤1073741824)
  (hxn:flE (tab x es.length)=x) (hpn:EF (tab p N)=p) :
  Ret Tryz.prog 120 #[ptr bs] w fun v w'=>∃ (b:Bool) (x' p' ov':Nat→Int) (kk':Int),v = .bool b∧Ctx w ((SL bs bf bp bo N ae es.length ce kk x p ov full).map (·.1)) w' (SL bs bf bp bo N ae es.length ce kk' x' p' ov' full)∧Fine (grE (N:Int) es) (Co es) x' p'∧(∀ v,v<N→ov' v=BA (grE (N:Int) es) x' v)∧(∀ v,v<N → -1073741824≤p' v∧p' v≤1073741824) ∧
   (b=false→∀ v,v<N→BA (grE (N:Int) es) x' v≤0)∧(b=true→GR (grE (N:Int) es) x'+1≤GR (grE (N:Int) es) x):=by
 obtain ⟨w0,rfl⟩:∃ w0,w0=w:=⟨_,rfl⟩
 obtain ⟨ids,hids⟩:∃ ids,ids=(SL bs bf bp bo N ae es.length ce kk x p ov full).map (·.1):=⟨_,rfl⟩
 rw [← hids] at H0 ⊢
 have H:=H0
 obtain ⟨hN1,hN40,hn200,hall,-⟩:=Cn hr
 have hI:I64 (N:Int):=by unfold I64; omega
 have hw:=LH hr hF
 have hpot:=Yu hpb
 have hfit:Hs (N:Int) es (tab x es.length) (tab p N)=true:=P6 hw hpot (by rw [hxn,hpn]; exact hF)
 obtain ⟨hsrc,hsnd,hsm⟩:=Abw (ov:=ov) (N:=N)
 have hRe:∀ {z:World},(∀ y∈ent ae 92 full,z.heap[y.1]? = some y.2)→Rd z ae 4 Cw es:=fun h=>O.rd h (fun _ _=>rfl) (by decide)
 obtain ⟨g,hg⟩:∃ g,g=grE (N:Int) es:=⟨_,rfl⟩
 have hgE:g.E=es.length:=by rw [hg]; rfl
 have hgN:g.N=N:=by rw [hg]; rfl
 have hgo:g.Ok:=by rw [hg]; exact GY hr
 have hxb:=hF.in'
 rw [← hg] at hF hov hxb ⊢
 rw [hgE] at hxb
 have hcb:=Md hr
 have hovb:∀ v,v<N → -900719925474099200≤ov v∧ov v≤900719925474099200:=fun v hv=>by
  rw [hov v hv]
  exact TG (by omega) (fun i hi=>by have h1:=hxb i (by omega); have h2:=hcb i (by omega); omega) v
 refine G5 (fn:=Tryz.f120) Tryz.func120 rfl [.pointer (some ⟨bs,0,none⟩)] rfl (by kernel_rfl) ?_
 refine Af (BC rfl _ (.pointer _) rfl rfl H ?_)
 rintro b1 w - H
 refine Ai rfl rfl (Ab (Aa (Af (AN rfl E0 rfl H at0 rfl (Am rfl Aac (Sr (H.get at1) (H.get (k:=4) rfl) (by omega)) rfl ?_)))))
 rintro v w ⟨⟨fr,fn,fc,ff,rfl,Of,hbf⟩,hx14⟩
 have hfn:=Of.num
 subst hfn
 have Rs:Rd w fr 1 I1 ((Hj ov N).map fun v:Nat=>(v:Int)):=Rd.map (Of.rd1 (f:=iN) fun y hy=>(hbf y hy).1)
 replace H:=H.call hx14
 refine Az rfl rfl (Ab (Aa (An (Af (Aj rfl rfl (AV rfl DX rfl (Cu rfl rfl rfl (Ab (Aa (Aq _ rfl ?_ ?_))))))))))
 ·intro h1
  replace h1:=AF h1
  refine Af (Ai rfl rfl (Ab (Aa (A8 (Al (Ku (v:=(.bool _)) rfl rfl ?_))))))
  have hp0:Hj ov N=[]:=List.eq_nil_of_length_eq_zero (by omega)
  have H2:=H.tail
  refine ⟨false,x,p,ov,kk,rfl,H2,hF,hov,hpb,fun _ v hv=>?_,fun h=>by cases h⟩
  rw [← hov v hv]
  rcases Int.lt_or_le 0 (ov v) with h | h
  ·have:=(hsm v).2 ⟨hv,h⟩
   rw [hp0] at this; cases this
  ·exact h
 ·intro h1
  replace h1:=AG h1
  have hs0:0<(Hj ov N).length:=by omega
  refine Ao (Aa (CP [([0,1,2,3,4,5,6,7,8,9,10,11,12],13),([14,15,16,17,18,19],20)] (fun z=>z.heap[b1]? = some (Bl 168 [ptr bs])∧z.heap[bs]? = some (Bl 170 (SC N ae es.length ce bf bp bo kk))) [] B0 (by kernel_rfl) (⟨H.drew.get at0,H.drew.get at1⟩) ?_))
  refine AU rfl rfl ?_
  refine BP rfl E0 rfl (fun _ hx=>(by rw [Ay hx.1]; rfl)) ?_
  refine B3 rfl rfl (AH rfl Ge rfl (GJ _ rfl Cm BQ rfl rfl (fun _ hx=>(HZ hx.2)) ?_))
  refine BP rfl E0 rfl (fun _ hx=>(by rw [Ay hx.1]; rfl)) ?_
  refine B3 rfl rfl (AH rfl E8 rfl (BP rfl BX rfl (fun _ hx=>(by rw [Ay hx.2]; rfl)) ?_))
  refine BP rfl E0 rfl (fun _ hx=>(by rw [Ay hx.1]; rfl)) ?_
  refine B3 rfl rfl (AH rfl EA rfl (BP rfl BX rfl (fun _ hx=>(by rw [Ay hx.2]; rfl)) ?_))
  refine Bi rfl rfl (Ba ?_)
  replace H:=H.drew
  refine Am rfl Aad (Yt (N:Int) ae (some ⟨bf,0,none⟩) (some ⟨bp,0,none⟩) fr es.length ce es.length es.length N N fc es (tab x es.length) (tab p N) (Hj ov N) _ (hRe fun y hy=>H.blk y (List.mem_append_right [_,_,_,_,_] hy)) rfl hI (Cs (H.get at2)) (CQ _ _) (by omega) (Cs (H.get at3)) (CQ _ _) (by omega) (Rs.ext0 (Ext.drew [] _)) hfit hsrc hsnd hs0) rfl ?_
  rintro rv w ⟨od,ob,s,by',hrv,DN,BY,hby,H3⟩
  rw [Int.toNat_natCast] at hrv DN H3
  subst hrv
  replace H:=Ctx.back (L1:=[]) (L2:=_::_::_::_::_::_) H H3
  refine Ab (BL (⟨H.get at2,H.get at3⟩) (AU rfl rfl ?_))
  refine Fo rfl rfl (BM rfl rfl rfl (BM rfl rfl rfl (BM rfl rfl rfl (NP rfl rfl (NP rfl rfl (Ba (Ae rfl rfl (Ab (BL (⟨H.get at2,H.get at3⟩) (BO ?_))))))))))
  refine An (Af (Ad rfl rfl (Cp rfl rfl rfl (Ab (Aa (Aq _ rfl ?_ ?_))))))
  ·intro h2
   replace h2:=CY h2
   exact absurd h2 (by decide)
  ·intro h2
   replace h2:=CZ h2
   have hlow:=DN.J.low
   have hds:∀ v,v∈Hj ov N→s.d v=0∧s.h v=0:=fun v hv=>(DN.J.src' v hv).2
   rw [← hg,hxn,hpn] at DN BY
   rw [← hgN] at DN
   refine Ao (Aa (Af (AN rfl E0 rfl H at2 rfl (Aj rfl rfl (Am rfl Aae (Ss (H.get at3) (H.get at6) (H.get at0) (by omega)) rfl ?_)))))
   rintro rv w ⟨⟨to,rfl,hto⟩,rfl⟩
   refine Ae rfl rfl (Ab (Aa (An (Af (Ad rfl rfl (AZ rfl rfl rfl (Ab (Aa (Aq _ rfl ?_ ?_)))))))))
   ·intro h3
    replace h3:=AF h3
    exfalso
    rcases hto with ⟨h,h7⟩ | ⟨tv,_,h,-,-⟩
    ·obtain ⟨v0,hv0⟩:=A0 hs0
     have hm:=List.mem_of_getElem? hv0
     have h8:=(hsm v0).1 hm
     obtain ⟨z,hz1,hz2,hz3⟩:=reach hgo hF DN (v:=v0) (by omega) (by rw [(hds v0 hm).1]; omega) (by rw [← hov v0 h8.1]; exact h8.2)
     rw [hgN] at hz1
     exact h7 z hz1 ⟨by rw [hov z hz1]; exact hz3,(hlow z).resolve_left hz2⟩
    ·omega
   ·intro h3
    replace h3:=AG h3
    obtain ⟨tv,htv,rfl,hov0,hd0⟩:∃ tv:Nat,tv<N∧to=tv∧ov tv<0∧0≤s.d tv:=by
     rcases hto with ⟨h,_⟩ | h
     ·omega
     ·exact h
    have hdt:s.d tv ≠ -1:=by omega
    have hovt:=hovb tv htv
    have hgot:(tab ov N)[tv]? = some (ov tv):=BN htv
    refine Ao (Aa (El 4494803534349056 (α:=Nat × Nat) (fun z=>[(8,ptr z.1),(9,ptr z.2)]) (fun z w'=>Ctx w0 ids w' ((z.1,Bl 3 [.int .i64 (tv:Int)])::(z.2,Bl 2 [.int .i64 (-ov tv)])::(od,Bl 2 (BE s.d N))::(ob,Bl 3 (BE by' N))::(b1,Bl 168 [ptr bs])::SL bs bf bp bo N ae es.length ce kk x p ov full)) rfl ?_ ?_))
    ·skip
     refine Tf (.two [0,1,2,3,4,5,6,7,8] 9 (.one [] 10 (.one [] 11 (.one [] 12 .stop))) 10 (.one [] 9 (.one [] 11 (.one [] 12 .stop)))) (fun z=>z.heap[b1]? = some (Bl 168 [ptr bs])∧z.heap[bs]? = some (Bl 170 (SC N ae es.length ce bf bp bo kk))∧z.heap[bo]? = some (Bl 2 (BE ov N))) B0 (by kernel_rfl) (⟨H.drew.get at2,H.drew.get at3,H.drew.get at6⟩) ?_
     refine IY rfl rfl rfl ?_
     refine AS rfl rfl (BP rfl E0 rfl (fun _ hx=>(by rw [Ay hx.1]; rfl)) ?_)
     refine B3 rfl rfl (AH rfl Gf rfl (BP rfl BX rfl (fun _ hx=>(by rw [Ay hx.2.1]; rfl)) ?_))
     refine AS rfl rfl (AM rfl AO Bu rfl rfl (by omega) (by omega) ?_)
     refine BP rfl Bt rfl (fun _ hx=>((Cs hx.2.2).fld hgot rfl (j:=0) rfl)) ?_
     refine NM rfl rfl (by omega) (by omega) ?_
     refine Ba ?_
     replace H:=H.drew
     refine ⟨?_,?_⟩
     ·skip
      refine Bj rfl Sm H ?_
      rintro b8 w - H
      refine Ab (Ci (⟨H.get at3,H.get at4,H.get at7⟩) (Cg rfl rfl ?_))
      refine Ba (Bj rfl Fa H ?_)
      rintro b9 w - H
      refine Ab (Ci (⟨H.get at4,H.get at5,H.get at8⟩) (Cg rfl rfl ?_))
      refine Ba (Cy (.int _ _) rfl Fs rfl rfl rfl H at1 (by decide) ?_)
      rintro w H
      refine Ab (Ci (⟨H.get at4,H.get at5,H.get at8⟩) (Cg rfl rfl ?_))
      refine Ba (Cy (.int _ _) rfl Bu rfl rfl rfl H at0 (by decide) ?_)
      rintro w H
      refine Ab (Ci (⟨H.get at4,H.get at5,H.get at8⟩) (Fm ?_))
      refine Aa ?_
      exact ⟨(b8,b9),rfl,⟨rfl,rfl,trivial⟩,H.perm (List.Perm.swap ..)⟩
     ·skip
      refine Bj rfl Fa H ?_
      rintro b9 w - H
      refine Ab (Ci (⟨H.get at3,H.get at4,H.get at7⟩) (Cg rfl rfl ?_))
      refine Ba (Bj rfl Sm H ?_)
      rintro b8 w - H
      refine Ab (Ci (⟨H.get at4,H.get at5,H.get at8⟩) (Cg rfl rfl ?_))
      refine Ba (Cy (.int _ _) rfl Fs rfl rfl rfl H at0 (by decide) ?_)
      rintro w H
      refine Ab (Ci (⟨H.get at4,H.get at5,H.get at8⟩) (Cg rfl rfl ?_))
      refine Ba (Cy (.int _ _) rfl Bu rfl rfl rfl H at1 (by decide) ?_)
      rintro w H
      refine Ab (Ci (⟨H.get at4,H.get at5,H.get at8⟩) (Fm ?_))
      refine Aa ?_
      exact ⟨(b8,b9),rfl,⟨rfl,rfl,trivial⟩,H⟩
    ·rintro ⟨b8,b9⟩ j w H; dsimp only at H; dsimp only
     obtain ⟨path,hpath⟩:∃ path,path=DT (byO by') g (s.h tv) tv:=⟨_,rfl⟩
     have BY':Bys g (Co es) x p s (byO by'):=BY
     obtain ⟨q1,q2,q3,q4⟩:=J8 BY' hdt rfl
     have hpe:=MR BY' hdt rfl
     have hwp:=Oj BY' hdt rfl
     rw [← hpath] at q1 hpe hwp
     have hsd0:=fun v=>DN.J.dist (by omega) (by omega) v
     refine An (Af (AN rfl E0 rfl H at4 rfl (Aj rfl rfl (Ad rfl rfl ?_))))
     have hlt:=Ctx.ltI H
     have hwb0:=H.size
     refine Am rfl VD (Q9 _ _ (some ⟨ob,0,none⟩) N N bs (tv:Int) _ rfl rfl) rfl ?_
     rintro rv w ⟨b3,b4,b5,rfl,hb3,hb4,hb5,s3,s4,s5,n53,n54,hx55⟩
     replace H:=H.call hx55
     refine Ab (Aa (Au ?_))
     obtain ⟨ws,rfl⟩:∃ z,z=w:=⟨_,rfl⟩
     have l3:=Bp hb3
     have l4:=Bp hb4
     have l5:=Bp hb5
     have hwsz:=H.size
     have h05:w0.heap.size≤b5:=Nat.le_trans hwb0 s5
     have n8:=hlt b8 (List.mem_cons_self ..)
     have n9:=hlt b9 (List.mem_cons_of_mem _ (List.mem_cons_self ..))
     refine Qd (gf:=196) rfl VI (QB (b3:=b3) (b4:=b4) (b5:=b5) (bs:=bs) (ob:=ob) (N:=N) (ae:=ae) (ce:=ce) (bf:=bf) (bp:=bp) (bo:=bo) (kk:=kk) (es:=es) (by':=by') (x:=x) (p:=p) (s:=s) hw (by rw [← hg]; exact BY') hby htv hdt rfl) (by kernel_rfl) (by kernel_rfl) (fun v hv=>by obtain ⟨p,-,rfl⟩:=List.mem_map.1 hv; rfl)
      (fun i M w'=>(M=fun y=>y=b8∨y=b9)∧(∃ mo:Int,Ctx w0 ids w' ((b8,Bl 3 [.int .i64 ((QC g tv (path.take i):Nat):Int)])::(b9,Bl 2 [.int .i64 (mo)])::(od,Bl 2 (BE s.d N))::(ob,Bl 3 (BE by' N))::(b1,Bl 168 [ptr bs])::SL bs bf bp bo N ae es.length ce kk (x) (p) (ov) full)∧0<mo∧mo ≤ -ov tv∧∀ a∈path.take i,mo≤CI (Co es) x a)∧w'.heap[b3]? = some (Bl 168 [ptr bs])∧w'.heap[b4]? = some (Bl 203 [.slice (some ⟨ob,0,none⟩) N N]))
      (fun _=>False) (by simp only [List.mem_singleton]; omega) (fun w2 hx2=>hx2.to hb5 (by simp))
      (fun w2 hx2 _=>⟨_,rfl,⟨-ov tv,H.call hx2,by omega,Int.le_refl _,fun a ha=>by cases ha⟩,hx2.to hb3 (by simp),hx2.to hb4 (by simp)⟩)
      (fun i M w' w'' hJ hx=>?_) (fun _ _ h _=>h) (fun i M w' hJ=>?_) ?_ ?_ (fun _ h _=>h.elim)
     ·obtain ⟨hM,⟨mo,HJ,m1,m2,m3⟩,g3,g4⟩:=hJ
      refine ⟨hM,⟨mo,HJ.step hx (fun y hy=>?_) (fun z hz => .inr ?_),m1,m2,m3⟩,hx.to g3 ?_,hx.to g4 ?_⟩
      ·have h7:=List.mem_map_of_mem (f:=(·.1)) hy
       have:=hlt y.1 h7
       simp only [List.mem_cons,List.not_mem_nil,or_false]; omega
      ·simp only [List.mem_cons,List.not_mem_nil,or_false] at hz; omega
      ·simp only [List.mem_cons,List.not_mem_nil,or_false]; omega
      ·simp only [List.mem_cons,List.not_mem_nil,or_false]; omega
     ·obtain ⟨hM,⟨mo,HJ,m1,m2,m3⟩,g3,g4⟩:=hJ
      refine ⟨fun y hy=>?_,g4,g3,HJ.get at5,HJ.get at3,hRe fun y hy=>HJ.blk y (List.mem_append_right [_,_,_,_,_,_,_,_,_] hy),?_⟩
      ·rw [hM] at hy
       rcases hy with rfl | rfl
       ·exact ⟨Bp (HJ.get at0),by omega,by omega⟩
       ·exact ⟨Bp (HJ.get at1),by omega,by omega⟩
      ·rw [hM]; dsimp only; omega
     ·rintro i v _ w hxv ⟨rfl,⟨mo,HJ,m1,m2,m3⟩,g3,g4⟩ hsz
      rw [← hg,← hpath,List.getElem?_map] at hxv
      obtain ⟨a,ha,rfl⟩:=Option.map_eq_some_iff.1 hxv
      obtain ⟨hWa,-⟩:=q1 a (List.mem_of_getElem? ha)
      have hWlt:=hWa.lt
      obtain ⟨-,hR,-⟩:=MZ hw (k:=a) (by omega)
      obtain ⟨w1,rfl⟩:∃ z,z=w:=⟨_,rfl⟩
      refine Af (Ae rfl rfl (Ab (Aa (Av (Ae rfl rfl (Ab ?_))))))
      refine ⟨Ext.refl _ _,fun wB hxB=>?_⟩
      have HB:=HJ.step hxB (fun y hy=>by have h7:=List.mem_map_of_mem (f:=(·.1)) hy; have:=hlt y.1 h7; rw [List.mem_singleton]; omega) (fun z hz => .inr (by rw [List.mem_singleton.1 hz]; omega))
      have e3:=hxB.to g3 (by rw [List.mem_singleton]; omega)
      have e4:=hxB.to g4 (by rw [List.mem_singleton]; omega)
      have k1:=HB.get at4
      have ks:=HB.get at5
      have kf:=HB.get at6
      have hn1:=Ga (L:=[_,_]) HB.nd (x:=(b1,_)) (List.mem_of_getElem? (i:=2) rfl)
      have hns:=Ga (L:=[_,_]) HB.nd (x:=(bs,_)) (List.mem_of_getElem? (i:=3) rfl)
      have hnf:=Ga (L:=[_,_]) HB.nd (x:=(bf,_)) (List.mem_of_getElem? (i:=4) rfl)
      have hke:∀ y∈ent ae 92 full,wB.heap[y.1]? = some y.2∧y.1∉[b8,b9]:=fun y hy=>⟨HB.blk y (List.mem_append_right [_,_,_,_,_,_,_,_,_] hy),Ga (L:=[_,_]) HB.nd (List.mem_append_right [_,_,_,_,_,_,_] hy)⟩
      obtain ⟨w2,rfl⟩:∃ z,z=wB:=⟨_,rfl⟩
      have H:=Ctx.lend (L1:=[_,_]) (L2:=_::_::_::_::_::_::_::_) HB
      refine Au (Fq [([0,1,2,3,4,5,6,7,8,9,10],11),([12],13),([],14)] (fun z=>z.heap[b9]? = some (Bl 2 [.int .i64 mo])∧z.heap[b1]? = some (Bl 168 [ptr bs])∧z.heap[bs]? = some (Bl 170 (SC N ae es.length ce bf bp bo kk))) [14] B0 (by kernel_rfl) (⟨H.drew.get at1,H.drew.ext.to k1 hn1,H.drew.ext.to ks hns⟩) ?_)
      refine AU rfl rfl ?_
      refine AS rfl rfl (BP rfl Bt rfl (fun _ hx=>(by rw [Ay hx.1]; rfl)) ?_)
      refine BP rfl E0 rfl (fun _ hx=>(by rw [Ay hx.2.1]; rfl)) ?_
      refine B3 rfl rfl (AH rfl Ge rfl (GJ _ rfl Cm BQ rfl rfl (fun _ hx=>(HZ hx.2.2)) ?_))
      refine BP rfl E0 rfl (fun _ hx=>(by rw [Ay hx.2.1]; rfl)) ?_
      refine B3 rfl rfl (AH rfl E8 rfl (BP rfl BX rfl (fun _ hx=>(by rw [Ay hx.2.2]; rfl)) ?_))
      refine AS rfl rfl (Ba ?_)
      replace H:=H.drew
      refine Am rfl Sc (Pz (N:Int) ae (some ⟨bf,0,none⟩) es.length ce es.length es.length es (tab x es.length) _ (hRe fun y hy=>H.ext.to (hke y hy).1 (hke y hy).2) rfl (by omega) hI (Cs (H.ext.to kf hnf)) (CQ _ _) (by omega) (a:Int)) rfl ?_
      rintro v w ⟨rfl,hx69⟩
      replace H:=H.call hx69
      rw [hR]
      refine Ab (BL (⟨H.get at1,H.ext.to k1 hn1,H.ext.to ks hns⟩) (AU rfl rfl ?_))
      refine Vr rfl rfl rfl ?_
      refine Ba (Cy (.int _ _) rfl Fs rfl rfl rfl H at0 (by (simp; done)) ?_)
      rintro w H
      refine Ab (BL (⟨H.get at1,H.ext.to k1 hn1,H.ext.to ks hns⟩) (AU rfl rfl ?_))
      refine Ba (Cy (.int _ _) rfl Bu rfl rfl rfl H at1 (by (simp; done)) ?_)
      rintro w H
      refine Ab (BW rfl (BO (A5 ?_)))
      have hrm:=hWa.room
      have HH:=Ctx.back (L1:=[_,_]) (L2:=_::_::_::_::_::_::_::_) HB H
      refine ⟨_,⟨rfl,⟨min mo (CI (Co es) x a),by rw [U7 ha]; exact HH,by omega,by omega,fun a' ha'=>?_⟩,H.ext.to e3 (by simp only [List.map_cons,List.map_nil,List.mem_cons,List.not_mem_nil,or_false]; omega),H.ext.to e4 (by simp only [List.map_cons,List.map_nil,List.mem_cons,List.not_mem_nil,or_false]; omega)⟩,fun x hx => .inl hx,_,H.ext,fun x hx => .inl (by simpa using hx)⟩
      rw [Eo ha] at ha'
      rcases List.mem_append.1 ha' with h | h
      ·have:=m3 a' h; omega
      ·rw [List.mem_singleton.1 h]; omega
     ·rintro M w ⟨-,⟨mo,HJ,m1,m2,m3⟩,-,-⟩ hD
      have hxl:(List.map (W6 (grE (N:Int) es)) (DT (byO by') (grE (N:Int) es) (s.h tv) tv)).length=path.length:=by rw [List.length_map,← hg,← hpath]
      rw [hxl,List.take_length] at HJ m3
      obtain ⟨f0,hf0⟩:∃ f0,f0=QC g tv path:=⟨_,rfl⟩
      rw [← hf0] at HJ hwp
      rw [← hwp] at q3 q4
      have hf0s:=(hsm f0).1 (by have h7:=DN.J.zero f0 q3 q4; rw [hgN] at h7; exact h7)
      have hovf:=hovb f0 hf0s.1
      have hgof:(tab ov N)[f0]? = some (ov f0):=BN hf0s.1
      have H:=HJ.add hD (.inr hwsz) (fun y hy e=>by have h7:=List.mem_map_of_mem (f:=(·.1)) hy; have:=hlt y.1 h7; omega)
      refine A5 (Aa (DK 9 B0 (by kernel_rfl) rfl rfl ?_))
      refine Cd rfl Bt rfl (by rintro _ rfl; exact H.drew) at2 rfl ?_
      refine Cd rfl E0 rfl (by rintro _ rfl; exact H.drew) at5 rfl ?_
      refine Bh rfl rfl (A7 rfl Gf rfl (Cd rfl BX rfl (by rintro _ rfl; exact H.drew) at6 rfl ?_))
      refine Cd rfl BV rfl (by rintro _ rfl; exact H.drew) at1 rfl ?_
      refine AY rfl AO Bu rfl rfl (by omega) (by omega) ?_
      refine BR rfl Bt rfl (by rintro _ rfl; exact (((Cs (H.drew.get at9)).fld hgof rfl (j:=0) rfl))) ?_
      refine Zu rfl rfl rfl ?_
      refine BJ ?_
      replace H:=H.drew
      refine Cy (.int _ _) rfl Bu rfl rfl rfl H at2 (by (simp; done)) ?_
      rintro w H
      refine Ab (Aa (An ?_))
      obtain ⟨mm,hmm⟩:∃ mm,mm=min mo (ov f0):=⟨_,rfl⟩
      rw [← hmm] at H
      have hmm0:0<mm∧mm≤ov f0∧mm ≤ -ov tv:=by omega
      refine Af (AN rfl E0 rfl H at5 rfl (Aj rfl rfl (Ad rfl rfl ?_)))
      have hlt2:=Ctx.ltI H
      have hwb2:=H.size
      refine Am rfl VD (Q9 _ _ (some ⟨ob,0,none⟩) N N bs (tv:Int) _ rfl rfl) rfl ?_
      rintro rv w ⟨c3,c4,c5,rfl,hc3,hc4,hc5,t3,t4,t5,nc53,nc54,hx83⟩
      replace H:=H.call hx83
      refine Ab (Aa (Au ?_))
      obtain ⟨wt,rfl⟩:∃ z,z=w:=⟨_,rfl⟩
      have j3:=Bp hc3
      have j4:=Bp hc4
      have j5:=Bp hc5
      have hwtz:=H.size
      have nbf:=hlt2 bf (List.mem_of_getElem? (i:=7) rfl)
      refine Qd (gf:=196) rfl VI (QB (b3:=c3) (b4:=c4) (b5:=c5) (bs:=bs) (ob:=ob) (N:=N) (ae:=ae) (ce:=ce) (bf:=bf) (bp:=bp) (bo:=bo) (kk:=kk) (es:=es) (by':=by') (x:=x) (p:=p) (s:=s) hw (by rw [← hg]; exact BY') hby htv hdt rfl) (by kernel_rfl) (by kernel_rfl) (fun v hv=>by obtain ⟨p,-,rfl⟩:=List.mem_map.1 hv; rfl)
       (fun i M w'=>(M=fun y=>y=bf)∧Ctx w0 ids w' ((ws.heap.size,.deferred (some []))::((b8,Bl 3 [.int .i64 (f0:Int)])::(b9,Bl 2 [.int .i64 (mm)])::(od,Bl 2 (BE s.d N))::(ob,Bl 3 (BE by' N))::(b1,Bl 168 [ptr bs])::SL bs bf bp bo N ae es.length ce kk (Fi mm x (path.take i)) (p) (ov) full))∧w'.heap[c3]? = some (Bl 168 [ptr bs])∧w'.heap[c4]? = some (Bl 203 [.slice (some ⟨ob,0,none⟩) N N]))
       (fun _=>False) (by simp only [List.mem_singleton]; omega) (fun w2 hx2=>hx2.to hc5 (by simp))
       (fun w2 hx2 _=>⟨_,rfl,H.call hx2,hx2.to hc3 (by simp),hx2.to hc4 (by simp)⟩)
       (fun i M w' w'' hJ hx=>?_) (fun _ _ h _=>h) (fun i M w' hJ=>?_) ?_ ?_ (fun _ h _=>h.elim)
      ·obtain ⟨hM,HJ,g3,g4⟩:=hJ
       refine ⟨hM,HJ.step hx (fun y hy=>?_) (fun z hz => .inr ?_),hx.to g3 ?_,hx.to g4 ?_⟩
       ·have h7:=List.mem_map_of_mem (f:=(·.1)) hy
        have:=hlt2 y.1 h7
        simp only [List.mem_cons,List.not_mem_nil,or_false]; omega
       ·simp only [List.mem_cons,List.not_mem_nil,or_false] at hz; omega
       ·simp only [List.mem_cons,List.not_mem_nil,or_false]; omega
       ·simp only [List.mem_cons,List.not_mem_nil,or_false]; omega
      ·obtain ⟨hM,HJ,g3,g4⟩:=hJ
       refine ⟨fun y hy=>?_,g4,g3,HJ.get at6,HJ.get at4,hRe fun y hy=>HJ.blk y (List.mem_append_right [_,_,_,_,_,_,_,_,_,_] hy),?_⟩
       ·rw [hM] at hy
        rw [hy]
        exact ⟨Bp (HJ.get at7),by omega,by omega⟩
       ·rw [hM]; dsimp only; omega
      ·rintro i v _ w hxv ⟨rfl,HJ,g3,g4⟩ hsz
       rw [← hg,← hpath,List.getElem?_map] at hxv
       obtain ⟨a,ha,rfl⟩:=Option.map_eq_some_iff.1 hxv
       have ham:=List.mem_of_getElem? ha
       obtain ⟨hWa,-⟩:=q1 a ham
       have hWlt:=hWa.lt
       have hai:a / 2<es.length:=by omega
       have hm4:=m3 a ham
       have hcb2:=hcb (a / 2) hai
       have hxb2:=hxb (a / 2) hai
       have hxa:Fi mm x (path.take i) (a / 2)=x (a / 2):=I0 fun b hb=>U9 hpe ha b hb
       have hgxa:(tab (Fi mm x (path.take i)) es.length)[a / 2]? = some (x (a / 2)):=by rw [BN hai,hxa]
       have hsuc:∀ z,Fi mm x (path.take (i+1)) z=if z=a / 2 then (if a % 2=0 then x (a / 2)+mm else x (a / 2) - mm) else Fi mm x (path.take i) z:=fun z=>by
        rw [U8 ha]
        unfold HQ
        by_cases e:z=a / 2
        ·rw [if_pos e,if_pos e,e,hxa]
        ·rw [if_neg e,if_neg e]
       have ha9:a<9223372036854775808:=by omega
       have hml:mm≤CI (Co es) x a:=by omega
       obtain ⟨w1,rfl⟩:∃ z,z=w:=⟨_,rfl⟩
       refine Av (Ae rfl rfl (Ab ?_))
       refine ⟨Ext.refl _ _,fun wB hxB=>?_⟩
       have HB:=HJ.step hxB (fun y hy=>by have h7:=List.mem_map_of_mem (f:=(·.1)) hy; have:=hlt2 y.1 h7; rw [List.mem_singleton]; omega) (fun z hz => .inr (by rw [List.mem_singleton.1 hz]; omega))
       have e3:=hxB.to g3 (by rw [List.mem_singleton]; omega)
       have e4:=hxB.to g4 (by rw [List.mem_singleton]; omega)
       have HP:=HB.perm (List.perm_middle (l₁:=[_,_,_,_,_,_,_]) (l₂:=_::_::_))
       have k1:=HP.get at6
       have ks:=HP.get at7
       have k9:=HP.get at3
       have hn1:=Ga (L:=[_]) HP.nd (x:=(b1,_)) (List.mem_of_getElem? (i:=5) rfl)
       have hns:=Ga (L:=[_]) HP.nd (x:=(bs,_)) (List.mem_of_getElem? (i:=6) rfl)
       have hn9:=Ga (L:=[_]) HP.nd (x:=(b9,_)) (List.mem_of_getElem? (i:=2) rfl)
       have hnc:bf≠c3∧bf≠c4:=by omega
       obtain ⟨w2,rfl⟩:∃ z,z=wB:=⟨_,rfl⟩
       have H:=Ctx.lend (L1:=[_]) (L2:=_::_::_::_::_::_::_::_::_::_) HP
       clear HJ g3 g4 hlt hlt2 m1 m2 m3 q1 hpe hwp hRe hall hxb hovb hsrc hsnd hsm hds hlow hto hfit hpot hw hov hpb DN BY BY' hby hd0 hovt hgot hgof hwb0 hwb2 hWa ham ha hxv hsz hxB hsd0 hcb q2 q3 q4 hF
       refine Au (Af (Ad rfl rfl (M9 (a:=a) (b:=1) rfl rfl rfl ha9 (by decide) ?_)))
       rw [Nat.and_one_is_mod]
       refine Cu rfl rfl rfl (Ab (Aa (Aq _ rfl ?_ ?_)))
       ·intro hpar
        replace hpar:=AF hpar
        have hp2:a % 2=0:=by omega
        unfold CI at hml
        rw [if_pos hp2] at hml
        refine Fq [([0,1,2,3,4,5,6,7,8,9,10],11)] (fun z=>z.heap[b1]? = some (Bl 168 [ptr bs])∧z.heap[bs]? = some (Bl 170 (SC N ae es.length ce bf bp bo kk))∧z.heap[b9]? = some (Bl 2 [.int .i64 mm])∧z.heap[bf]? = some (Bl 2 (BE (Fi mm x (path.take i)) es.length))) [11] B0 (by kernel_rfl) (⟨H.drew.ext.to k1 hn1,H.drew.ext.to ks hns,H.drew.ext.to k9 hn9,H.drew.get at0⟩) ?_
        refine AU rfl rfl ?_
        refine BP rfl E0 rfl (fun _ hx=>(by rw [Ay hx.1]; rfl)) ?_
        refine B3 rfl rfl (AH rfl E8 rfl (BP rfl BX rfl (fun _ hx=>(by rw [Ay hx.2.1]; rfl)) ?_))
        refine AS rfl rfl (NQ (a:=a) (n:=1) rfl rfl rfl (by decide) ?_)
        rw [Nat.pow_one]
        refine AM rfl AO Bu rfl rfl (by omega) (by omega) ?_
        refine BP rfl Bt rfl (fun _ hx=>((Cs hx.2.2.2).fld hgxa rfl (j:=0) rfl)) ?_
        refine BP rfl Bt rfl (fun _ hx=>(by rw [Ay hx.2.2.1]; rfl)) ?_
        refine Ep rfl rfl rfl (by omega) (by omega) ?_
        refine AM rfl AO Bu rfl rfl (by omega) (by omega) ?_
        refine Ba ?_
        replace H:=H.drew
        refine BU (a / 2) (fun z => .int .i64 (Fi mm x (path.take (i+1)) z)) (.int _ _) rfl Bu rfl rfl rfl H at0 (by omega) hai (by rw [hsuc,if_pos rfl,if_pos hp2]) (fun z _ hz=>by (try dsimp only); rw [hsuc,if_neg hz]) ?_
        rintro w H
        refine Ab (BW rfl (BO (A5 ?_)))
        have HH:=(Ctx.back (L1:=[_]) (L2:=_::_::_::_::_::_::_::_::_::_) HP H).perm (List.perm_middle (l₁:=[_,_,_,_,_,_,_]) (l₂:=_::_::_)).symm
        exact ⟨_,⟨rfl,HH,H.ext.to e3 (by rw [List.map_cons,List.map_nil,List.mem_singleton]; exact Ne.symm hnc.1),H.ext.to e4 (by rw [List.map_cons,List.map_nil,List.mem_singleton]; exact Ne.symm hnc.2)⟩,fun x hx => .inl hx,_,H.ext,fun x hx => .inl (List.mem_singleton.1 hx)⟩
       ·intro hpar
        replace hpar:=AG hpar
        have hp2:¬ a % 2=0:=by omega
        unfold CI at hml
        rw [if_neg hp2] at hml
        refine Fq [([0,1,2,3,4,5,6,7,8,9,10],11)] (fun z=>z.heap[b1]? = some (Bl 168 [ptr bs])∧z.heap[bs]? = some (Bl 170 (SC N ae es.length ce bf bp bo kk))∧z.heap[b9]? = some (Bl 2 [.int .i64 mm])∧z.heap[bf]? = some (Bl 2 (BE (Fi mm x (path.take i)) es.length))) [11] B0 (by kernel_rfl) (⟨H.drew.ext.to k1 hn1,H.drew.ext.to ks hns,H.drew.ext.to k9 hn9,H.drew.get at0⟩) ?_
        refine AU rfl rfl ?_
        refine BP rfl E0 rfl (fun _ hx=>(by rw [Ay hx.1]; rfl)) ?_
        refine B3 rfl rfl (AH rfl E8 rfl (BP rfl BX rfl (fun _ hx=>(by rw [Ay hx.2.1]; rfl)) ?_))
        refine AS rfl rfl (NQ (a:=a) (n:=1) rfl rfl rfl (by decide) ?_)
        rw [Nat.pow_one]
        refine AM rfl AO Bu rfl rfl (by omega) (by omega) ?_
        refine BP rfl Bt rfl (fun _ hx=>((Cs hx.2.2.2).fld hgxa rfl (j:=0) rfl)) ?_
        refine BP rfl Bt rfl (fun _ hx=>(by rw [Ay hx.2.2.1]; rfl)) ?_
        refine Er rfl rfl rfl (by omega) (by omega) ?_
        refine AM rfl AO Bu rfl rfl (by omega) (by omega) ?_
        refine Ba ?_
        replace H:=H.drew
        refine BU (a / 2) (fun z => .int .i64 (Fi mm x (path.take (i+1)) z)) (.int _ _) rfl Bu rfl rfl rfl H at0 (by omega) hai (by rw [hsuc,if_pos rfl,if_neg hp2]) (fun z _ hz=>by (try dsimp only); rw [hsuc,if_neg hz]) ?_
        rintro w H
        refine Ab (BW rfl (BO (A5 ?_)))
        have HH:=(Ctx.back (L1:=[_]) (L2:=_::_::_::_::_::_::_::_::_::_) HP H).perm (List.perm_middle (l₁:=[_,_,_,_,_,_,_]) (l₂:=_::_::_)).symm
        exact ⟨_,⟨rfl,HH,H.ext.to e3 (by rw [List.map_cons,List.map_nil,List.mem_singleton]; exact Ne.symm hnc.1),H.ext.to e4 (by rw [List.map_cons,List.map_nil,List.mem_singleton]; exact Ne.symm hnc.2)⟩,fun x hx => .inl hx,_,H.ext,fun x hx => .inl (List.mem_singleton.1 hx)⟩
      ·rintro M w ⟨-,HJ,-,-⟩ hD2
       rw [hxl,List.take_length] at HJ
       have H:=HJ.add hD2 (.inr hwtz) (fun y hy e=>by have h7:=List.mem_map_of_mem (f:=(·.1)) hy; have:=hlt2 y.1 h7; omega)
       replace H:=H.erase 5
       obtain ⟨x',hx'⟩:∃ x',x'=Fi mm x path:=⟨_,rfl⟩
       rw [← hx'] at H
       have FF:=Ur hF DN BY' hdt (m:=mm) (by omega) (fun a ha=>by have:=m3 a (hpath ▸ ha); omega)
       rw [← hpath,← hx'] at FF
       have hov':∀ z,BA g x' z=BA g x z+mm*(one (tv=z) - one (f0=z)):=fun z=>by rw [hx',hpath,hwp]; exact LD g mm BY' z x hdt rfl
       have hw':=LH hr (x:=x') (by rw [← hg]; exact FF)
       have hne:tv≠f0:=fun e=>by rw [e] at hov0; omega
       have hgo2:(tab (upd ov f0 (ov f0 - mm)) N)[tv]? = some (ov tv):=by rw [BN htv,DG hne]
       have hgdt:(tab s.d N)[tv]? = some (s.d tv):=BN htv
       have hsdt:=hsd0 tv
       have hpf:=Yv hpn hpb
       have hne0:es≠[]→(adr ae).block≠bp:=fun h e=>by
        obtain ⟨q,rfl⟩:=O.form (List.length_pos_iff.2 h)
        have h7:=Su (L:=[_,_,_,_]) H0.nd (x:=(bp,_)) (List.mem_of_getElem? (i:=2) rfl)
        exact h7 (by show bp∈[q]; rw [List.mem_singleton]; exact e.symm)
       have hex:=Us (g:=g) (x:=x) (x':=x') (u:=f0) (v:=tv) (m:=mm) (by omega) (by omega) (by rw [← hov f0 hf0s.1]; omega) (by rw [← hov tv htv]; omega) hov'
       refine A5 (Aa ?_)
       clear hlt hlt2 q1 hpe hall hxb hovb hsrc hsnd hsm hds hlow hto hfit hpot hw DN BY BY' hby hwb0 hwb2 hsd0 hcb q2 q3 q4 HJ
       refine DK 10 B0 (by kernel_rfl) rfl rfl ?_
       refine Cd rfl E0 rfl (by rintro _ rfl; exact H.drew) at5 rfl ?_
       refine Bh rfl rfl (A7 rfl Gf rfl (Cd rfl BX rfl (by rintro _ rfl; exact H.drew) at6 rfl ?_))
       refine Cd rfl BV rfl (by rintro _ rfl; exact H.drew) at2 rfl ?_
       refine AY rfl AO Bu rfl rfl (by omega) (by omega) ?_
       refine BR rfl Bt rfl (by rintro _ rfl; exact (((Cs (H.drew.get at9)).fld hgof rfl (j:=0) rfl))) ?_
       refine Cd rfl Bt rfl (by rintro _ rfl; exact H.drew) at3 rfl ?_
       refine Dq rfl rfl rfl (by omega) (by omega) ?_
       refine AY rfl AO Bu rfl rfl (by omega) (by omega) ?_
       refine BJ ?_
       replace H:=H.drew
       refine BU f0 (fun z => .int .i64 (upd ov f0 (ov f0 - mm) z)) (.int _ _) rfl Bu rfl rfl rfl H at9 (by simp) hf0s.1 (by rw [CT]) (fun z _ hz=>by (try dsimp only); rw [DG hz]) ?_
       rintro w H
       refine Ab (Aa (DK 10 B0 (by kernel_rfl) rfl rfl ?_))
       refine Cd rfl E0 rfl (by rintro _ rfl; exact H.drew) at5 rfl ?_
       refine Bh rfl rfl (A7 rfl Gf rfl (Cd rfl BX rfl (by rintro _ rfl; exact H.drew) at6 rfl ?_))
       refine AP rfl rfl (AY rfl AO Bu rfl rfl (by omega) (by omega) ?_)
       refine BR rfl Bt rfl (by rintro _ rfl; exact (((Cs (H.drew.get at9)).fld hgo2 rfl (j:=0) rfl))) ?_
       refine Cd rfl Bt rfl (by rintro _ rfl; exact H.drew) at3 rfl ?_
       refine C7 rfl rfl rfl (by omega) (by omega) ?_
       refine AY rfl AO Bu rfl rfl (by omega) (by omega) ?_
       refine BJ ?_
       replace H:=H.drew
       refine BU tv (fun z => .int .i64 (upd (upd ov f0 (ov f0 - mm)) tv (ov tv+mm) z)) (.int _ _) rfl Bu rfl rfl rfl H at9 (by simp) htv (by rw [CT]) (fun z _ hz=>by (try dsimp only); rw [DG hz]) ?_
       rintro w H
       refine Ab (Aa (DK 6 B0 (by kernel_rfl) rfl rfl ?_))
       refine Cd rfl E0 rfl (by rintro _ rfl; exact H.drew) at5 rfl ?_
       refine Bx rfl rfl (Bx rfl rfl (AP rfl rfl (AY rfl AO Bu rfl rfl (by omega) (by omega) ?_)))
       refine BR rfl Bt rfl (by rintro _ rfl; exact (((Cs (H.drew.get at4)).fld hgdt rfl (j:=0) rfl))) ?_
       refine BJ ?_
       replace H:=H.drew
       have Hp:=H.perm (List.perm_middle (l₁:=[_,_,_,_,_,_,_,_]) (l₂:=_::_))
       refine Am rfl Aaf (W3 (H.get at6) (H.get at8) (H.get at4) (H.ne at6 at8 (by decide)) (H.ne at4 at8 (by decide)) (by omega) ⟨by omega,by omega⟩ hpf) rfl ?_
       rintro rv w ⟨rfl,H2⟩
       replace H:=Ctx.back (L1:=[_]) (L2:=_::_::_::_::_::_::_::_::_::_) Hp H2
       refine Ab (Aa (Af (AN rfl E0 rfl H at6 rfl (Am rfl Aag (U2 (H.get at7) (hRe fun y hy=>H.blk y (List.mem_append_right [_,_,_,_,_,_,_,_,_,_] hy)) hne0 (H.get at8) (H.get at0) (H.ne at7 at0 (by decide)) (H.ne at8 at0 (by decide)) hw' (by rw [← hg]; exact FF)) rfl ?_))))
       rintro rv w ⟨rfl,p',FF2,hpb',H2⟩
       replace H:=Ctx.back (L1:=[_]) (L2:=_::_::_::_::_::_::_::_::_::_) H H2
       refine Ab (Aa (Af (AN rfl E0 rfl H at6 rfl (AJ rfl rfl (Ah rfl MJ rfl (AN rfl BV rfl H at7 rfl (LG rfl rfl rfl ?_)))))))
       intro kk2
       refine AJ rfl rfl (Ah rfl MJ rfl (Cy (.int _ _) rfl Fs rfl rfl rfl H at7 (by (simp; done)) ?_))
       rintro w H
       refine Ab (Aa (Af (Ai rfl rfl (Ab (Aa (A8 (Ku (v:=(.bool _)) rfl rfl (U6 (H.get at1) (H.get at2) (H.ne at2 at1 (by decide)) rfl fun wF hxF=>?_))))))))
       have HF:=(H.perm (List.perm_middle (l₁:=[_,_,_,_,_,_,_,_]) (l₂:=_::_)).symm)
       rw [← hg] at FF2
       refine ⟨true,x',p',upd (upd ov f0 (ov f0 - mm)) tv (ov tv+mm),kk2,rfl,(HF.drop 6).step hxF (fun y hy=>Ga (L:=[_,_]) HF.nd (List.mem_of_mem_drop (i:=4) hy)) (fun z hz => .inr ?_),FF2,fun z hz=>?_,hpb',(fun h=>by cases h),fun _=>by omega⟩
       ·simp only [List.mem_cons,List.not_mem_nil,or_false] at hz
        omega
       ·rw [hov',← hov z hz]
        by_cases e1:z=tv
        ·subst e1
         rw [CT,ET rfl,EB (Ne.symm hne)]; omega
        ·rw [DG e1,EB (Ne.symm e1)]
         by_cases e2:z=f0
         ·subst e2
          rw [CT,ET rfl]; omega
         ·rw [DG e2,EB (Ne.symm e2)]; omega

end Go.Proofs.YtapphbmlkdhnmaaGreat

/- How many bits; the solver's beginning. -/
namespace Go.Proofs.YtapphbmlkdhnmaaGreat
open Go.GV
attribute [local irreducible] AL W Wq Wt

def P7:List UInt8:=[0]++List.replicate 1 1++List.replicate 2 2++List.replicate 4 3++List.replicate 8 4++List.replicate 16 5++List.replicate 32 6++List.replicate 64 7++List.replicate 128 8
theorem UA:∀ i,i<256→∃ b:UInt8,P7[i]? = some b∧i<2 ^ b.toNat∧b.toNat≤8∧(0<i→2 ^ b.toNat≤2*i):=fun i hi=>by
 have h:(List.range 256).all (fun i=>match P7[i]? with | some b=>decide (i<2 ^ b.toNat) && (decide (b.toNat≤8) && (decide (i=0) || decide (2 ^ b.toNat≤2*i))) | none=>false)=true:=by kernel_rfl
 have h1:=List.all_eq_true.1 h i (List.mem_range.2 hi)
 cases hb:P7[i]? with
 | none=>rw [hb] at h1; cases h1
 | some b =>
  rw [hb] at h1
  simp only [Bool.and_eq_true,Bool.or_eq_true,decide_eq_true_eq] at h1
  exact ⟨b,rfl,h1.1,h1.2.1,fun h=>h1.2.2.resolve_left (by omega)⟩
theorem Sv {x k n:Nat} (h:x / 2 ^ k<2 ^ n):x<2 ^ (n+k):=by
 rw [Nat.pow_add]
 exact (Nat.div_lt_iff_lt_mul (Nat.two_pow_pos k)).1 h

theorem Sx {x k n:Nat} (h:2 ^ n≤2*(x / 2 ^ k)):2 ^ (n+k)≤2*x:=by
 rw [Nat.pow_add]
 have h1:2 ^ n*2 ^ k≤2*(x / 2 ^ k)*2 ^ k:=Nat.mul_le_mul_right _ h
 have h2:x / 2 ^ k*2 ^ k≤x:=Nat.div_mul_le_self x _
 rw [Nat.mul_assoc] at h1
 omega

set_option maxRecDepth 20000 in
theorem QD (x:Nat) (hx:x≤4503599627370496) (w:World):Ret Tryz.prog 118 #[.int .u64 (x:Int)] w fun v w'=>∃ r:Nat,v = .int .i64 (r:Int)∧x<2 ^ r∧r≤64∧(0<x→2 ^ r≤2*x)∧w=w':=by
 obtain ⟨w0,rfl⟩:∃ w0,w0=w:=⟨_,rfl⟩
 have H:=Ctx.start w0 []
 refine A9 (fn:=Tryz.f118) Tryz.func118 rfl [.int .u64 (x:Int)] rfl (by kernel_rfl) ?_
 refine Af (Ae rfl rfl (Ab (Aa (An (Af (Ad rfl rfl (Cx rfl rfl rfl (Ab (Aa (EI 101 (α:=Nat × Nat) (fun z=>[(0,.int .u64 (z.1:Int)),(2,.int .i64 (z.2:Int))]) (fun z w'=>w0=w'∧(∀ k,z.1<2 ^ k→x<2 ^ (k+z.2))∧(∀ k,2 ^ k≤2*z.1→2 ^ (k+z.2)≤2*x)∧(0<x→0<z.1)∧z.1<4294967296∧z.2≤32) rfl ?_ ?_))))))))))
 ·skip
  refine Aq _ rfl ?_ ?_
  ·intro h
   replace h:=AF h
   refine Af (Ad rfl rfl (EP (n:=32) rfl rfl rfl (by omega) ?_))
   refine Ae rfl rfl (Ab (Aa (Av (Ae rfl rfl (Ab (Aa ?_))))))
   exact ⟨(x / 2 ^ 32,32),rfl,⟨rfl,rfl,trivial⟩,rfl,fun k hk=>Sv hk,fun k hk=>Sx hk,fun _=>by dsimp only; omega,by dsimp only; omega,by dsimp only; omega⟩
  ·intro h
   replace h:=AG h
   refine Ao (Aa ?_)
   exact ⟨(x,0),rfl,⟨rfl,rfl,trivial⟩,rfl,fun k hk=>hk,fun k hk=>hk,fun h=>h,by dsimp only; omega,by dsimp only; omega⟩
 ·rintro ⟨y,n⟩ j w ⟨rfl,hk,hg,h0,hy,hn⟩; dsimp only at hk hg h0 hy hn; dsimp only
  refine An (Af (Ad rfl rfl (Cx rfl rfl rfl (Ab (Aa (EI 7685 (α:=Nat × Nat) (fun z=>[(0,.int .u64 (z.1:Int)),(2,.int .i64 (z.2:Int))]) (fun z w'=>w0=w'∧(∀ k,z.1<2 ^ k→x<2 ^ (k+z.2))∧(∀ k,2 ^ k≤2*z.1→2 ^ (k+z.2)≤2*x)∧(0<x→0<z.1)∧z.1<65536∧z.2≤48) rfl ?_ ?_))))))
  ·skip
   refine Aq _ rfl ?_ ?_
   ·intro h
    replace h:=AF h
    refine Af (Ad rfl rfl (EP (n:=16) rfl rfl rfl (by omega) ?_))
    refine Ae rfl rfl (Ab (Aa (Av (Ad rfl rfl (Ap rfl rfl rfl (by omega) (by omega) ?_)))))
    refine Ae rfl rfl (Ab (Aa ?_))
    exact ⟨(y / 2 ^ 16,n+16),rfl,⟨rfl,rfl,trivial⟩,rfl,fun k h7=>by have:=hk _ (Sv h7); rw [show k+(n+16)=k+16+n by omega]; exact this,(fun k h7=>by have:=hg _ (Sx h7); rw [show k+(n+16)=k+16+n by omega]; exact this),fun _=>by dsimp only; omega,by dsimp only; omega,by dsimp only; omega⟩
   ·intro h
    replace h:=AG h
    refine Ao (Aa ?_)
    exact ⟨(y,n),rfl,⟨rfl,rfl,trivial⟩,rfl,hk,hg,h0,by dsimp only; omega,by dsimp only; omega⟩
  ·rintro ⟨y,n⟩ j2 w ⟨rfl,hk,hg,h0,hy,hn⟩; dsimp only at hk hg h0 hy hn; dsimp only
   refine An (Af (Ad rfl rfl (Cx rfl rfl rfl (Ab (Aa (EI 491525 (α:=Nat × Nat) (fun z=>[(0,.int .u64 (z.1:Int)),(2,.int .i64 (z.2:Int))]) (fun z w'=>w0=w'∧(∀ k,z.1<2 ^ k→x<2 ^ (k+z.2))∧(∀ k,2 ^ k≤2*z.1→2 ^ (k+z.2)≤2*x)∧(0<x→0<z.1)∧z.1<256∧z.2≤56) rfl ?_ ?_))))))
   ·skip
    refine Aq _ rfl ?_ ?_
    ·intro h
     replace h:=AF h
     refine Af (Ad rfl rfl (EP (n:=8) rfl rfl rfl (by omega) ?_))
     refine Ae rfl rfl (Ab (Aa (Av (Ad rfl rfl (Ap rfl rfl rfl (by omega) (by omega) ?_)))))
     refine Ae rfl rfl (Ab (Aa ?_))
     exact ⟨(y / 2 ^ 8,n+8),rfl,⟨rfl,rfl,trivial⟩,rfl,fun k h7=>by have:=hk _ (Sv h7); rw [show k+(n+8)=k+8+n by omega]; exact this,(fun k h7=>by have:=hg _ (Sx h7); rw [show k+(n+8)=k+8+n by omega]; exact this),fun _=>by dsimp only; omega,by dsimp only; omega,by dsimp only; omega⟩
    ·intro h
     replace h:=AG h
     refine Ao (Aa ?_)
     exact ⟨(y,n),rfl,⟨rfl,rfl,trivial⟩,rfl,hk,hg,h0,by dsimp only; omega,by dsimp only; omega⟩
   ·rintro ⟨y,n⟩ j3 w ⟨rfl,hk,hg,h0,hy,hn⟩; dsimp only at hk hg h0 hy hn; dsimp only
    obtain ⟨b,hb,hb1,hb2,hb3⟩:=UA y hy
    have hb0:(bv b) = .int .u8 ((b.toNat:Nat):Int):=rfl
    refine Af (Ad rfl rfl (Ad rfl rfl (RK rfl rfl Gx un_5 (by omega) (by omega) ?_)))
    refine Ui (l:=P7) b rfl un_9 (by kernel_rfl) rfl (by omega) hb ?_
    rw [hb0]
    refine L4 rfl rfl un_5 Qx (by omega) (by omega) ?_
    refine Ap rfl rfl rfl (by omega) (by omega) ?_
    refine Ae rfl rfl (Ab (Aa (A8 (AB (v:=(.int _ _)) rfl rfl rfl ?_))))
    refine ⟨n+b.toNat,congrArg (Value.int .i64) (by omega),?_,by omega,fun hx0=>?_,rfl⟩
    ·have:=hk _ hb1
     rw [Nat.add_comm]; exact this
    ·have:=hg _ (hb3 (h0 hx0))
     rw [Nat.add_comm]; exact this

structure Bk where
 b:Nat
 c:Nat
 f:List Value
instance:Inhabited Bk:=⟨⟨0,0,[]⟩⟩
/-- The blocks that Best makes, by the operation that makes them. -/
def Gt:Nat→List Nat
 | 1=>[0] | 4=>[3] | 5=>[2,4,3] | 6=>[1,0,5,2,4,3] | 8=>[7] | 9=>[8,7] | 10=>[9,8,7] | 12=>[11] | 13=>[12,11] | 15=>[14] | 16=>[15,14]
 | 17=>[6,1,0,5,2,4,3,10,9,8,7,13,12,11,16,15,14] | 18=>[17,6,1,0,5,2,4,3,10,9,8,7,13,12,11,16,15,14] | 19=>[18,17,6,1,0,5,2,4,3,10,9,8,7,13,12,11,16,15,14] | _=>[]
/-- The edges' own array. -/
def sQ (n:Nat) (B:Nat→Bk):Bk:=if n=0 then ⟨(B 2).b,0,[]⟩ else B 5
def sSC (N n:Nat) (B:Nat→Bk):List Value:=SC N (some ⟨(sQ n B).b,0,none⟩) n (sQ n B).c (B 10).b (B 13).b (B 16).b 0
def QE (b1:Nat) (N n:Nat) (a:Option Addr) (c:Nat) (i:Nat) (B:Nat→Bk):Value :=
 if i=0∨i=11∨i=14 then .pointer (some ⟨b1,0+0,none⟩) else if i=1∨i=12∨i=15 then .int .i64 (N:Int)
 else if i=2 then .slice (some ⟨(B 2).b,0,none⟩) 0 0 else if i=3∨i=7 then .pointer (some ⟨b1,0+1,none⟩) else if i=4∨i=8 then .slice a n c
 else if i=5 then .slice (some ⟨(sQ n B).b,0,none⟩) n (sQ n B).c else if i=6 then .agg #[.int .i64 (N:Int),.slice (some ⟨(sQ n B).b,0,none⟩) n (sQ n B).c]
 else if i=9 then .int .i64 (n:Int) else if i=10 then .slice (some ⟨(B 10).b,0,none⟩) n n else if i=13 then .slice (some ⟨(B 13).b,0,none⟩) N N
 else if i=16 then .slice (some ⟨(B 16).b,0,none⟩) N N else if i=17 then .agg (sSC N n B).toArray else ptr (B 18).b
def Gu (N n:Nat) (i:Nat):Option ((Nat→Bk)→Obj) :=
 if i=2 then some fun _=>Bl 92 [] else if i=5 then (if n=0 then none else some fun B=>Bl 92 (B 5).f) else if i=10 then some fun _=>Bl 2 (BE (fun _=>0) n) else if i=13∨i=16 then some fun _=>Bl 2 (BE (fun _=>0) N)
 else if i=18 then some fun B=>Bl 170 (sSC N n B) else none
def Zn (n:Nat) (es:List Ed) (i:Nat) (b:Bk):Prop:=i=5→n=0∨OS (some ⟨b.b,0,none⟩) n b.c 4 b.f (es.flatMap Cw)
theorem sStab (b1 N n:Nat) (a:Option Addr) (c i k:Nat) (b:Bk) (B:Nat→Bk) (hi:i<19) (hki:k≠i) (hka:k∉Gt i):QE b1 N n a c i (Jd B k b)=QE b1 N n a c i B∧∀ ob,Gu N n i=some ob→ob (Jd B k b)=ob B:=by
 have hne:∀ j,k≠j→Jd B k b j=B j:=fun j h=>Iw (Ne.symm h)
 have hq:k≠2→k≠5→sQ n (Jd B k b)=sQ n B:=fun h2 h5=>by unfold sQ; rw [hne 2 h2,hne 5 h5]
 have hcs:i=0∨i=1∨i=2∨i=3∨i=4∨i=5∨i=6∨i=7∨i=8∨i=9∨i=10∨i=11∨i=12∨i=13∨i=14∨i=15∨i=16∨i=17∨i=18:=by omega
 have hs:(k≠2∧k≠5∧k≠10∧k≠13∧k≠16)→sSC N n (Jd B k b)=sSC N n B:=fun h=>by unfold sSC; rw [hq h.1 h.2.1,hne 10 h.2.2.1,hne 13 h.2.2.2.1,hne 16 h.2.2.2.2]
 rcases hcs with rfl | rfl | rfl | rfl | rfl | rfl | rfl | rfl | rfl | rfl | rfl | rfl | rfl | rfl | rfl | rfl | rfl | rfl | rfl <;> simp only [Gt,List.mem_cons,List.not_mem_nil,or_false,not_or,not_false_eq_true] at hka <;> (try simp [QE,Gu]) <;> (try rw [hne _ hki]) <;> (try rw [hq (by omega) (by omega)]) <;> (try rw [hs (by omega)]) <;> (try (constructor)) <;> (try rfl) <;> (try (split <;> simp)) <;> (try (intro ob h; subst h; rw [hne _ hki])) <;> (try (intro ob h; subst h; rw [hs (by omega)])) <;> (try exact ⟨rfl,rfl⟩) <;> (try (intro _; rfl))

end Go.Proofs.YtapphbmlkdhnmaaGreat

/- Sorting numbers of 64 bits: plain law of swaps; the comparison; insertion. -/
namespace Go.Proofs.YtapphbmlkdhnmaaGreat
open Go.GV
attribute [local irreducible] AL W Wq Wt

abbrev CH (f:Nat→Int) (m:Nat):List Value:=(List.range m).map fun i => .int .u64 (f i)
theorem C1 {w:World} {q m i:Nat} {f:Nat→Int} (h:w.heap[q]? = some (Bl 24 (CH f m))) (hi:i<m):w.cell? ⟨q,0+i*1,none⟩=some (.int .u64 (f i)):=by
 rw [Ay h,Nat.zero_add,Nat.mul_one,D3 hi]
def sw (f:Nat→Int) (i j k:Nat):Int:=if k=j then f i else if k=i then f j else f k
theorem DH (f:Nat→Int) (i j:Nat):sw f i j j=f i:=if_pos rfl
theorem DA {f:Nat→Int} {i j k:Nat} (h:k≠j):sw f i j k=if k=i then f j else f k:=if_neg h
theorem GZ (f:Nat→Int) (i j:Nat):sw f i j i=f j:=by
 unfold sw
 by_cases e:i=j
 ·subst e; rw [if_pos rfl]
 ·rw [if_neg e,if_pos rfl]
theorem Ex {f:Nat→Int} {i j k:Nat} (h1:k≠i) (h2:k≠j):sw f i j k=f k:=by unfold sw; rw [if_neg h2,if_neg h1]
/-- By swaps of what lies there. -/
inductive Sw (a b:Nat):(Nat→Int)→(Nat→Int)→Prop
 | refl (f:Nat→Int):Sw a b f f
 | step {f g:Nat→Int} (h:Sw a b f g) (i j:Nat) (hi:a≤i∧i<b) (hj:a≤j∧j<b):Sw a b f (sw g i j)
theorem Sw.trans {a b:Nat} {f g h:Nat→Int} (h1:Sw a b f g) (h2:Sw a b g h):Sw a b f h:=by
 induction h2 with
 | refl=>exact h1
 | step _ i j hi hj ih=>exact ih.step i j hi hj
theorem Sw.mono {a b a' b':Nat} {f g:Nat→Int} (h:Sw a b f g) (ha:a'≤a) (hb:b≤b'):Sw a' b' f g:=by
 induction h with
 | refl=>exact .refl _
 | step _ i j hi hj ih=>exact ih.step i j ⟨by omega,by omega⟩ ⟨by omega,by omega⟩
theorem Sw.out {a b:Nat} {f g:Nat→Int} (h:Sw a b f g):∀ k,(k<a∨b≤k)→g k=f k:=by
 induction h with
 | refl=>exact fun _ _=>rfl
 | step _ i j hi hj ih=>exact fun k hk=>by rw [Ex (by omega) (by omega)]; exact ih k hk
/-- What lies there lay there. -/
theorem Sw.mem {a b:Nat} {f g:Nat→Int} (h:Sw a b f g):∀ k,a≤k→k<b→∃ k',a≤k'∧k'<b∧g k=f k':=by
 induction h with
 | refl=>exact fun k h1 h2=>⟨k,h1,h2,rfl⟩
 | @step g h i j hi hj ih =>
  intro k h1 h2
  by_cases e2:k=j
  ·rw [e2,DH]; exact ih i hi.1 hi.2
  ·by_cases e1:k=i
   ·rw [e1,GZ]; exact ih j hj.1 hj.2
   ·rw [Ex e1 e2]; exact ih k h1 h2
theorem Abx {f:Nat→Int} {n i j:Nat} (hi:i<n) (hj:j<n):(tab (sw f i j) n).Perm (tab f n):=by
 have h:=Lk (L:=tab f n) (i:=i) (j:=j) (x:=f i) (y:=f j) (BN hi) (BN hj)
 have e:((tab f n).set i (f j)).set j (f i)=tab (sw f i j) n:=by
  unfold tab
  rw [HI (g:=fun k=>if k=i then f j else f k) (if_pos rfl) (fun k _ hk=>if_neg hk),HI (g:=sw f i j) (DH f i j) (fun k _ hk=>DA hk)]
 rw [e] at h
 exact h
theorem Sw.perm {a b n:Nat} {f g:Nat→Int} (h:Sw a b f g) (hb:b≤n):(tab g n).Perm (tab f n):=by
 induction h with
 | refl=>exact .refl _
 | step _ i j hi hj ih=>exact (Abx (by omega) (by omega)).trans ih
def IL (f:Nat→Int) (a b:Nat):Prop:=∀ x y,a≤x→x<y→y<b→f x≤f y
/-- Sorted up to i, but for the one at j that moves down. -/
def InsU (f:Nat→Int) (a j i:Nat):Prop:=∀ x y,a≤x→x<y→y≤i→y≠j→f x≤f y
theorem InsU.step {f:Nat→Int} {a j i:Nat} (h:InsU f a j i) (ha:a<j) (hi:j≤i) (hlt:f j<f (j - 1)):InsU (sw f j (j - 1)) a (j - 1) i:=fun x y hx hxy hy hne=>by
 by_cases e1:y=j
 ·subst e1
  rw [GZ]
  by_cases e2:x=y - 1
  ·rw [e2,DH]; omega
  ·rw [Ex (by omega) e2]
   exact h x (y - 1) hx (by omega) (by omega) (by omega)
 ·rw [Ex e1 hne]
  by_cases e2:x=j - 1
  ·rw [e2,DH]; exact h j y (by omega) (by omega) hy e1
  ·by_cases e3:x=j
   ·rw [e3,GZ]; exact h (j - 1) y (by omega) (by omega) hy e1
   ·rw [Ex e3 e2]; exact h x y hx hxy hy e1
theorem InsU.done {f:Nat→Int} {a j i:Nat} (h:InsU f a j i) (hj:a≤j) (hj0:a<j→f (j - 1)≤f j):IL f a (i+1):=fun x y hx hxy hy=>by
 by_cases e:y=j
 ·subst e
  have h1:=hj0 (by omega)
  by_cases e2:x=y - 1
  ·rw [e2]; exact h1
  ·exact Int.le_trans (h x (y - 1) hx (by omega) (by omega) (by omega)) h1
 ·exact h x y hx hxy (by omega) e

theorem EL (x y:Int) (w:World):Ret Tryz.prog 206 #[.int .u64 x,.int .u64 y] w fun v w'=>v = .bool (decide (x<y))∧w=w':=by
 have nan:∀ (x:Int) (w:World),Ret Tryz.prog 223 #[.int .u64 x] w fun v w'=>v = .bool false∧w=w':=fun x w=>by
  refine A9 (fn:=Tryz.f223) Tryz.func223 rfl [.int .u64 x] rfl (by kernel_rfl) ?_
  refine Af (Ai rfl rfl (Ab (Aa (Af (Ad rfl rfl (Ad rfl rfl (Cp rfl rfl rfl (Ai rfl rfl (Ab (Aa (A8 (AB (v:=(.bool _)) rfl rfl rfl ?_))))))))))))
  exact ⟨congrArg Value.bool (by simp),rfl⟩
 refine A9 (fn:=Tryz.f206) Tryz.func206 rfl [.int .u64 x,.int .u64 y] rfl (by kernel_rfl) ?_
 refine Af (Ai rfl rfl (Ab (Aa (Af (Ad rfl rfl (Am rfl VQ (nan x w) rfl ?_))))))
 rintro v w ⟨rfl,rfl⟩
 refine Aw rfl rfl (AE 7 rfl ?_ ?_)
 ·intro h1
  refine Ad rfl rfl (Am rfl VQ (nan y _) rfl ?_)
  rintro v w ⟨rfl,rfl⟩
  refine B1 rfl rfl (AA rfl rfl (.bool _) rfl (Aw rfl rfl (AE 12 rfl ?_ ?_)))
  ·intro h2
   replace h2:=Bv h2
   refine Ag rfl (Ag rfl (Ag rfl (AA rfl rfl (.bool _) rfl (Ai rfl rfl (Ab (Aa (A8 (AB (v:=(.bool _)) rfl rfl rfl ?_))))))))
   exact ⟨congrArg Value.bool (by simp_all),rfl⟩
  ·intro h3
   replace h3:=Bw h3
   refine Ad rfl rfl (Ad rfl rfl (AZ rfl rfl rfl (A6 rfl rfl (.bool _) rfl (Ai rfl rfl (Ab (Aa (A8 (AB (v:=(.bool _)) rfl rfl rfl ?_))))))))
   exact ⟨congrArg Value.bool (by simp_all),rfl⟩
 ·intro h4
  refine Ag rfl (Ag rfl (Ag rfl (A6 rfl rfl (.bool _) rfl (Aw rfl rfl (Ad rfl rfl (Ad rfl rfl (AZ rfl rfl rfl (A6 rfl rfl (.bool _) rfl (Ai rfl rfl ?_)))))))))
  refine Ab (Aa (A8 (AB (v:=(.bool _)) rfl rfl rfl ?_)))
  exact ⟨congrArg Value.bool (by simp_all),rfl⟩

section
variable {w:World} {q n c m a b:Nat} {f:Nat→Int}

set_option maxRecDepth 20000 in
set_option maxHeartbeats 2000000 in
theorem P8 (hd:w.heap[q]? = some (Bl 24 (CH f m))) (hab:a≤b) (hb:b≤n) (hn:n≤m) (hm:n≤1000000000) :
  Ret Tryz.prog 200 #[.slice (some ⟨q,0,none⟩) n c,.int .i64 (a:Int),.int .i64 (b:Int)] w fun v w'=>v = .tuple #[]∧∃ g,Sw a b f g∧IL g a b∧Ctx w [q] w' [(q,Bl 24 (CH g m))]:=by
 obtain ⟨w0,rfl⟩:∃ w0,w0=w:=⟨_,rfl⟩
 have H:=Ctx.start1 hd
 refine A9 (fn:=Tryz.f200) Tryz.func200 rfl [.slice (some ⟨q,0,none⟩) n c,.int .i64 (a:Int),.int .i64 (b:Int)] rfl (by kernel_rfl) ?_
 refine Af (Ad rfl rfl (Ap rfl rfl rfl (by omega) (by omega) ?_))
 refine Ae rfl rfl (Ab (Aa (Au (Bf 562949953420480 (α:=Nat × (Nat→Int)) (fun t=>[(6,.int .i64 (t.1:Int))]) (fun t w'=>a+1≤t.1∧t.1≤max b (a+1)∧Sw a b f t.2∧IL t.2 a t.1∧Ctx w0 [q] w' [(q,Bl 24 (CH t.2 m))]) (fun t=>b - t.1) (a+1,f) rfl ?_ ?_ ?_))))
 ·exact ⟨congrArg (Value.int .i64) (by dsimp only; omega),trivial⟩
 ·exact ⟨Nat.le_refl _,by dsimp only; omega,.refl _,fun x y h1 h2 h3=>by dsimp only at h3; omega,H⟩
 ·rintro ⟨i,g⟩ j0 w ⟨hi1,hi2,hS,hO,H⟩; dsimp only at hi1 hi2 hS hO H; dsimp only
  refine An (Af (Ad rfl rfl (Ad rfl rfl (AZ rfl rfl rfl (Ab (Aa (Aq _ rfl ?_ ?_)))))))
  ·intro h1
   replace h1:=AF h1
   refine Ao (Aa (An (Au (Af (Ad rfl rfl (Ae rfl rfl (Ab (Aa (Au (Bf 562949953355904 (α:=Nat × (Nat→Int)) (fun t=>[(7,.int .i64 (t.1:Int))]) (fun t w'=>a≤t.1∧t.1≤i∧Sw a b f t.2∧InsU t.2 a t.1 i∧Ctx w0 [q] w' [(q,Bl 24 (CH t.2 m))]) (fun t=>t.1) (i,g) rfl ?_ ?_ ?_))))))))))
   ·exact ⟨rfl,trivial⟩
   ·exact ⟨by dsimp only; omega,Nat.le_refl _,hS,fun x y hx hxy hy hne=>hO x y hx hxy (by dsimp only at hne; omega),H⟩
   ·rintro ⟨j,g⟩ j1 w ⟨hj1,hj2,hS,hI,H⟩; dsimp only at hj1 hj2 hS hI H; dsimp only
    have e1:(j:Int).toNat=j:=rfl
    have e2:((j:Int) - 1).toNat=j - 1:=by omega
    refine An (DK 13 B0 (by kernel_rfl) rfl rfl ?_)
    refine AP rfl rfl (AP rfl rfl (PY rfl rfl rfl (CW rfl rfl (Dg 19 rfl ?_ ?_))))
    ·intro h2
     replace h2:=AF h2
     refine Bx rfl rfl (AP rfl rfl (AY rfl Bz Bo rfl rfl (by omega) (by omega) ?_))
     refine BR rfl BK rfl (by rintro _ rfl; exact ((C1 (H.drew.get at0) (by omega)))) ?_
     refine Bx rfl rfl (AP rfl rfl (Dq rfl rfl rfl (by omega) (by omega) ?_))
     refine AY rfl Bz Bo rfl rfl (by omega) (by omega) ?_
     refine BR rfl BK rfl (by rintro _ rfl; exact ((C1 (H.drew.get at0) (by omega)))) ?_
     refine BJ ?_
     replace H:=H.drew
     refine Am rfl FA (EL _ _ _) rfl ?_
     rintro v w ⟨rfl,rfl⟩
     refine AA rfl rfl (.bool _) rfl (Ab (Aa (Aq _ rfl ?_ ?_)))
     ·intro h3
      rw [e1,e2] at h3
      have h3:=of_decide_eq_true h3
      refine Ao (Aa (An (Au (Fq [([0,1,2,3,4,5,6,7,8,9,10,11,12,13,14],15),([16],17)] (fun z=>z.heap[q]? = some (Bl 24 (CH g m))) [15,17] B0 (by kernel_rfl) (H.drew.get at0) ?_))))
      refine AU rfl rfl ?_
      refine Bi rfl rfl (AS rfl rfl (Bi rfl rfl (AS rfl rfl (Er rfl rfl rfl (by omega) (by omega) ?_))))
      refine Bi rfl rfl (AS rfl rfl (Er rfl rfl rfl (by omega) (by omega) ?_))
      refine AM rfl Bz Bo rfl rfl (by omega) (by omega) ?_
      refine BP rfl BK rfl (fun _ hx=>(C1 hx (by omega))) ?_
      refine Bi rfl rfl (AS rfl rfl (AM rfl Bz Bo rfl rfl (by omega) (by omega) ?_))
      refine BP rfl BK rfl (fun _ hx=>(C1 hx (by omega))) ?_
      refine AM rfl Bz Bo rfl rfl (by omega) (by omega) ?_
      refine Ba ?_
      replace H:=H.drew
      refine BU j (fun k => .int .u64 (if k=j then g (j - 1) else g k)) (.int _ _) rfl Bo rfl rfl rfl H at0 (by omega) (by omega) (by rw [if_pos rfl]; exact congrArg (fun z=>Value.int .u64 (g z)) (by omega)) (fun k _ hk=>by rw [if_neg hk]) ?_
      rintro w H
      refine Ab (BW rfl (AU rfl rfl ?_))
      refine AM rfl Bz Bo rfl rfl (by omega) (by omega) ?_
      refine Ba (BU (j - 1) (fun k => .int .u64 (sw g j (j - 1) k)) (.int _ _) rfl Bo rfl rfl rfl H at0 (by omega) (by omega) (by rw [DH]; rfl) (fun k _ hk=>by rw [DA hk]) ?_)
      rintro w H
      refine Ab (BW rfl (BO (A5 (Aa (Av (Ad rfl rfl (Be rfl rfl rfl (by omega) (by omega) ?_)))))))
      refine Ae rfl rfl (Ab (Aa ?_))
      exact ⟨(j - 1,sw g j (j - 1)),rfl,⟨congrArg (Value.int .i64) (by dsimp only; omega),trivial⟩,⟨by dsimp only; omega,by dsimp only; omega,hS.step j (j - 1) ⟨by omega,by omega⟩ ⟨by omega,by omega⟩,hI.step (by omega) hj2 h3,H⟩,by dsimp only; omega⟩
     ·intro h3
      rw [e1,e2] at h3
      have h3:=of_decide_eq_false h3
      refine Bc (Ak (Ak (AD (A5 (Aa (Av (Ad rfl rfl (Ap rfl rfl rfl (by omega) (by omega) ?_))))))))
      refine Ae rfl rfl (Ab (Aa ?_))
      exact ⟨(i+1,g),rfl,⟨rfl,trivial⟩,⟨by dsimp only; omega,by dsimp only; omega,hS,hI.done hj1 fun _=>by omega,H⟩,by dsimp only; omega⟩
    ·intro h2
     replace h2:=AG h2
     refine Ax rfl (Ax rfl (Ax rfl (Ax rfl (Ax rfl (Ax rfl (Ax rfl (Ax rfl (Ax rfl (BJ ?_)))))))))
     replace H:=H.drew
     refine Ag rfl (A6 rfl rfl (.bool _) rfl (Ab (Aa (CJ rfl (Bc (Ak (Ak (AD (A5 (Aa (Av (Ad rfl rfl (Ap rfl rfl rfl (by omega) (by omega) ?_)))))))))))))
     refine Ae rfl rfl (Ab (Aa ?_))
     exact ⟨(i+1,g),rfl,⟨rfl,trivial⟩,⟨by dsimp only; omega,by dsimp only; omega,hS,hI.done hj1 fun h=>by omega,H⟩,by dsimp only; omega⟩
  ·intro h1
   replace h1:=AG h1
   refine Bc (Ak (Ak (AD (Db rfl rfl ?_))))
   exact ⟨rfl,g,hS,fun x y hx hxy hy=>hO x y hx hxy (by omega),H⟩
end

end Go.Proofs.YtapphbmlkdhnmaaGreat

/- Sorting numbers of 64 bits: by a heap. -/
namespace Go.Proofs.YtapphbmlkdhnmaaGreat
open Go.GV
attribute [local irreducible] AL W Wq Wt

def HeapU (g:Nat→Int) (o lo hi:Nat):Prop:=∀ i c,lo≤i→(c=2*i+1∨c=2*i+2)→c<hi→g (o+c)≤g (o+i)
structure SiftU (g:Nat→Int) (o lo r hi:Nat):Prop where
 oth:∀ i c,lo≤i→i≠r→(c=2*i+1∨c=2*i+2)→c<hi→g (o+c)≤g (o+i)
 up:∀ p c,lo≤p→(r=2*p+1∨r=2*p+2)→(c=2*r+1∨c=2*r+2)→c<hi→g (o+c)≤g (o+p)
theorem SiftU.start {g:Nat→Int} {o lo hi:Nat} (h:HeapU g o (lo+1) hi):SiftU g o lo lo hi:=⟨fun i c hi hne hc hh=>h i c (by omega) hc hh,fun p c hp hr _ _=>by omega⟩
theorem SiftU.done {g:Nat→Int} {o lo r hi:Nat} (h:SiftU g o lo r hi) (hr:∀ c,(c=2*r+1∨c=2*r+2)→c<hi→g (o+c)≤g (o+r)):HeapU g o lo hi:=fun i c hl hc hh=>by
 by_cases e:i=r
 ·subst e; exact hr c hc hh
 ·exact h.oth i c hl e hc hh
theorem SiftU.step {g:Nat→Int} {o lo r hi c:Nat} (h:SiftU g o lo r hi) (hl:lo≤r) (hc:c=2*r+1∨c=2*r+2) (hch:c<hi) (hmax:∀ d,(d=2*r+1∨d=2*r+2)→d<hi→g (o+d)≤g (o+c)) (hlt:g (o+r)<g (o+c)):SiftU (sw g (o+r) (o+c)) o lo c hi:=by
 refine ⟨fun i d hi' hne hd hh=>?_,fun p e hp hcp he hh=>?_⟩
 ·by_cases e1:i=r
  ·rw [e1,GZ]
   by_cases e2:d=c
   ·rw [e2,DH]; omega
   ·rw [Ex (by omega) (by omega)]; exact hmax d (by omega) hh
  ·rw [Ex (k:=o+i) (by omega) (by omega)]
   by_cases e2:d=r
   ·rw [e2,GZ]; exact h.up i c hi' (by omega) hc hch
   ·rw [Ex (by omega) (by omega)]; exact h.oth i d hi' e1 hd hh
 ·have e1:p=r:=by omega
  rw [e1,GZ,Ex (by omega) (by omega)]
  exact h.oth c e (by omega) (by omega) he hh
/-- The root is the greatest. -/
theorem HeapU.root {g:Nat→Int} {o hi:Nat} (h:HeapU g o 0 hi):∀ i,i<hi→g (o+i)≤g (o+0):=fun i=>by
 induction i using Nat.strongRecOn with
 | _ i ih =>
  intro hi'
  rcases Nat.eq_zero_or_pos i with h0 | h0
  ·rw [h0]; exact Int.le_refl _
  ·exact Int.le_trans (h ((i - 1) / 2) i (Nat.zero_le _) (by omega) hi') (ih ((i - 1) / 2) (by omega) (by omega))

section
variable {w:World} {q n c m:Nat} {f:Nat→Int}

set_option maxRecDepth 20000 in
set_option maxHeartbeats 2000000 in
theorem TI {lo hi o:Nat} (hd:w.heap[q]? = some (Bl 24 (CH f m))) (hb:o+hi≤n) (hn:n≤m) (hm:n≤1000000000) (hl:lo≤1000000000) (hH:HeapU f o (lo+1) hi) :
  Ret Tryz.prog 218 #[.slice (some ⟨q,0,none⟩) n c,.int .i64 (lo:Int),.int .i64 (hi:Int),.int .i64 (o:Int)] w fun v w'=>v = .tuple #[]∧∃ g,Sw o (o+hi) f g∧HeapU g o lo hi∧Ctx w [q] w' [(q,Bl 24 (CH g m))]:=by
 obtain ⟨w0,rfl⟩:∃ w0,w0=w:=⟨_,rfl⟩
 have H:=Ctx.start1 hd
 refine A9 (fn:=Tryz.f218) Tryz.func218 rfl [.slice (some ⟨q,0,none⟩) n c,.int .i64 (lo:Int),.int .i64 (hi:Int),.int .i64 (o:Int)] rfl (by kernel_rfl) ?_
 refine Af (Ad rfl rfl (Ae rfl rfl (Ab (Aa (Au (Bf 75557863725914323417856 (α:=Nat × (Nat→Int)) (fun t=>[(8,.int .i64 (t.1:Int))]) (fun t w'=>lo≤t.1∧t.1≤1000000000∧Sw o (o+hi) f t.2∧SiftU t.2 o lo t.1 hi∧Ctx w0 [q] w' [(q,Bl 24 (CH t.2 m))]) (fun t=>1000000000 - t.1) (lo,f) rfl ?_ ?_ ?_))))))
 ·exact ⟨rfl,trivial⟩
 ·exact ⟨Nat.le_refl _,hl,.refl _,.start hH,H⟩
 ·rintro ⟨r,g⟩ j0 w ⟨hr1,hr2,hS,hD,H⟩; dsimp only at hr1 hr2 hS hD H; dsimp only
  refine Au (Af (Ad rfl rfl (Dd rfl rfl rfl (by omega) (by omega) ?_)))
  refine Ap rfl rfl rfl (by omega) (by omega) ?_
  rw [show 2*(r:Int)+1=((2*r+1:Nat):Int) by omega]
  refine Ae rfl rfl (Ab (Aa (An (Af (Ad rfl rfl (Ad rfl rfl (Cx rfl rfl rfl (Ab (Aa (Aq _ rfl ?_ ?_))))))))))
  ·intro h1
   replace h1:=AF h1
   refine Bc (Ak (EX rfl (Ak (AD (Db rfl rfl ?_)))))
   exact ⟨rfl,g,hS,hD.done fun c hc hh=>by omega,H⟩
  ·intro h1
   replace h1:=AG h1
   have e1:((o:Int)+((2*r+1:Nat):Int)).toNat=o+(2*r+1):=by omega
   have e2:((o:Int)+((2*r+1:Nat):Int)+1).toNat=o+(2*r+2):=by omega
   refine Ao (Aa (An (El 137438822400 (α:=Unit) (fun _=>[(36,.bool (decide (2*r+2<hi∧g (o+(2*r+1))<g (o+(2*r+2)))))]) (fun _ w'=>Ctx w0 [q] w' [(q,Bl 24 (CH g m))]) rfl ?_ ?_)))
   ·skip
    refine EM 18 B0 (by kernel_rfl) rfl rfl ?_
    refine AP rfl rfl (C7 rfl rfl rfl (by omega) (by omega) ?_)
    refine AP rfl rfl (IH rfl rfl rfl (CW rfl rfl (Dg 21 rfl ?_ ?_)))
    ·intro h1
     replace h1:=AF h1
     refine Bx rfl rfl (AP rfl rfl (AP rfl rfl (C7 rfl rfl rfl (by omega) (by omega) ?_)))
     refine AY rfl Bz Bo rfl rfl (by omega) (by omega) ?_
     refine BR rfl BK rfl (by rintro _ rfl; exact ((C1 (H.drew.get at0) (by omega)))) ?_
     refine Bx rfl rfl (AP rfl rfl (AP rfl rfl (C7 rfl rfl rfl (by omega) (by omega) ?_)))
     refine C7 rfl rfl rfl (by omega) (by omega) ?_
     refine AY rfl Bz Bo rfl rfl (by omega) (by omega) ?_
     refine BR rfl BK rfl (by rintro _ rfl; exact ((C1 (H.drew.get at0) (by omega)))) ?_
     refine BJ ?_
     replace H:=H.drew
     refine Am rfl FA (EL _ _ _) rfl ?_
     rintro v w ⟨rfl,rfl⟩
     rw [e1,e2]
     refine AA rfl rfl (.bool _) rfl (Ab (Aa ?_))
     exact ⟨(),rfl,⟨congrArg Value.bool (by rw [Bool.eq_iff_iff]; simp_all; try omega),trivial⟩,H⟩
    ·intro h2
     replace h2:=AG h2
     refine Ax rfl (Ax rfl (Ax rfl (Ax rfl (Ax rfl (Ax rfl (Ax rfl (Ax rfl (Ax rfl (Ax rfl ?_)))))))))
     refine Ax rfl (Ax rfl (Ax rfl (BJ ?_)))
     replace H:=H.drew
     refine Ag rfl (A6 rfl rfl (.bool _) rfl (Ab (Aa ?_)))
     exact ⟨(),rfl,⟨congrArg Value.bool (by rw [Bool.eq_iff_iff]; simp_all; try omega),trivial⟩,H⟩
   ·rintro - j1 w H
    refine EI 412316860928 (α:=Nat) (fun d=>[(9,.int .i64 (d:Int))]) (fun d w'=>(d=2*r+1∨d=2*r+2)∧d<hi∧(∀ e,(e=2*r+1∨e=2*r+2)→e<hi→g (o+e)≤g (o+d))∧Ctx w0 [q] w' [(q,Bl 24 (CH g m))]) rfl ?_ ?_
    ·skip
     refine Aq _ rfl ?_ ?_
     ·intro h2
      have h2:=of_decide_eq_true h2
      refine Av (Ad rfl rfl (Ap rfl rfl rfl (by omega) (by omega) ?_))
      refine Ae rfl rfl (Ab (Aa ?_))
      refine ⟨2*r+2,rfl,⟨congrArg (Value.int .i64) (by omega),trivial⟩,.inr rfl,h2.1,fun e he _=>?_,H⟩
      rcases he with rfl | rfl
      ·omega
      ·omega
     ·intro h2
      have h2:=of_decide_eq_false h2
      refine Ao (Aa ?_)
      refine ⟨2*r+1,rfl,⟨rfl,trivial⟩,.inl rfl,by omega,fun e he hh=>?_,H⟩
      rcases he with rfl | rfl
      ·omega
      ·rcases Int.lt_or_le (g (o+(2*r+1))) (g (o+(2*r+2))) with h7 | h7
       ·exact absurd ⟨hh,h7⟩ h2
       ·exact h7
    ·rintro d j2 w ⟨hd1,hd2,hmax,H⟩
     have e3:((o:Int)+(r:Int)).toNat=o+r:=by omega
     have e4:((o:Int)+(d:Int)).toNat=o+d:=by omega
     refine An (DK 12 B0 (by kernel_rfl) rfl rfl ?_)
     refine Bx rfl rfl (AP rfl rfl (AP rfl rfl (C7 rfl rfl rfl (by omega) (by omega) ?_)))
     refine AY rfl Bz Bo rfl rfl (by omega) (by omega) ?_
     refine BR rfl BK rfl (by rintro _ rfl; exact ((C1 (H.drew.get at0) (by omega)))) ?_
     refine Bx rfl rfl (AP rfl rfl (AP rfl rfl (C7 rfl rfl rfl (by omega) (by omega) ?_)))
     refine AY rfl Bz Bo rfl rfl (by omega) (by omega) ?_
     refine BR rfl BK rfl (by rintro _ rfl; exact ((C1 (H.drew.get at0) (by omega)))) ?_
     refine BJ ?_
     replace H:=H.drew
     refine Am rfl FA (EL _ _ _) rfl ?_
     rintro v w ⟨rfl,rfl⟩
     rw [e3,e4]
     refine B1 rfl rfl (Ab (Aa (Aq _ rfl ?_ ?_)))
     ·intro h3
      replace h3:=Bv h3
      refine A8 (Al (A1 (Al (A1 (Fp rfl rfl ?_)))))
      have h3:¬ g (o+r)<g (o+d):=by simpa using h3
      exact ⟨rfl,g,hS,hD.done fun c hc hh=>Int.le_trans (hmax c hc hh) (by omega),H⟩
     ·intro h3
      replace h3:=Bw h3
      have h3:g (o+r)<g (o+d):=by simpa using h3
      refine Ao (Aa (CP [([0,1,2,3,4,5,6,7,8,9,10,11,12,13,14,15,16,17,18,19,20],21),([22],23)] (fun z=>z.heap[q]? = some (Bl 24 (CH g m))) [21,23] B0 (by kernel_rfl) (H.drew.get at0) ?_))
      refine AU rfl rfl ?_
      refine Bi rfl rfl (AS rfl rfl (AS rfl rfl (Ep rfl rfl rfl (by omega) (by omega) ?_)))
      refine Bi rfl rfl (AS rfl rfl (AS rfl rfl (Ep rfl rfl rfl (by omega) (by omega) ?_)))
      refine Bi rfl rfl (AS rfl rfl (AS rfl rfl (Ep rfl rfl rfl (by omega) (by omega) ?_)))
      refine AM rfl Bz Bo rfl rfl (by omega) (by omega) ?_
      refine BP rfl BK rfl (fun _ hx=>(C1 hx (by omega))) ?_
      refine Bi rfl rfl (AS rfl rfl (AS rfl rfl (Ep rfl rfl rfl (by omega) (by omega) ?_)))
      refine AM rfl Bz Bo rfl rfl (by omega) (by omega) ?_
      refine BP rfl BK rfl (fun _ hx=>(C1 hx (by omega))) ?_
      refine AM rfl Bz Bo rfl rfl (by omega) (by omega) ?_
      refine Ba ?_
      replace H:=H.drew
      refine BU (o+r) (fun k => .int .u64 (if k=o+r then g (o+d) else g k)) (.int _ _) rfl Bo rfl rfl rfl H at0 (by omega) (by omega) (by rw [if_pos rfl]; exact congrArg (fun z=>Value.int .u64 (g z)) (by omega)) (fun k _ hk=>by rw [if_neg hk]) ?_
      rintro w H
      refine Ab (BW rfl (AU rfl rfl ?_))
      refine AM rfl Bz Bo rfl rfl (by omega) (by omega) ?_
      refine Ba (BU (o+d) (fun k => .int .u64 (sw g (o+r) (o+d) k)) (.int _ _) rfl Bo rfl rfl rfl H at0 (by omega) (by omega) (by rw [DH]; exact congrArg (fun z=>Value.int .u64 (g z)) (by omega)) (fun k _ hk=>by rw [DA hk]) ?_)
      rintro w H
      refine Ab (BW rfl (BO (Av (Ad rfl rfl (Ae rfl rfl (Ab (A5 (Aa ?_))))))))
      exact ⟨(d,sw g (o+r) (o+d)),rfl,⟨rfl,trivial⟩,⟨by dsimp only; omega,by dsimp only; omega,hS.step _ _ ⟨by omega,by omega⟩ ⟨by omega,by omega⟩,hD.step hr1 hd1 hd2 hmax h3,H⟩,by dsimp only; omega⟩

/-- Sorted behind i, and what is ahead is no greater. -/
structure HsU (g:Nat→Int) (a i b:Nat):Prop where
 srt:IL g (a+i) b
 le:∀ x y,x<i→a+i≤y→y<b→g (a+x)≤g y
set_option maxRecDepth 20000 in
set_option maxHeartbeats 2000000 in
theorem QF {a b:Nat} (hd:w.heap[q]? = some (Bl 24 (CH f m))) (hab:a<b) (hb:b≤n) (hn:n≤m) (hm:n≤1000000000) :
  Ret Tryz.prog 201 #[.slice (some ⟨q,0,none⟩) n c,.int .i64 (a:Int),.int .i64 (b:Int)] w fun v w'=>v = .tuple #[]∧∃ g,Sw a b f g∧IL g a b∧Ctx w [q] w' [(q,Bl 24 (CH g m))]:=by
 obtain ⟨w0,rfl⟩:∃ w0,w0=w:=⟨_,rfl⟩
 have H:=Ctx.start1 hd
 obtain ⟨l,rfl⟩:∃ l,b=a+l:=⟨b - a,by omega⟩
 have hl:((a+l:Nat):Int) - (a:Int)=(l:Int):=by omega
 have hl1:(l:Int) - 1=((l - 1:Nat):Int):=by omega
 refine A9 (fn:=Tryz.f201) Tryz.func201 rfl [.slice (some ⟨q,0,none⟩) n c,.int .i64 (a:Int),.int .i64 ((a+l:Nat):Int)] rfl (by kernel_rfl) ?_
 refine Af (Ad rfl rfl (Ae rfl rfl (Ab (Aa (Af (Ae rfl rfl (Ab (Aa (Af (Ad rfl rfl (Ad rfl rfl ?_)))))))))))
 refine Be rfl rfl rfl (by omega) (by omega) ?_
 rw [hl]
 refine Ae rfl rfl (Ab (Aa (An (Af (Ad rfl rfl (Be rfl rfl rfl (by omega) (by omega) ?_))))))
 refine Hw rfl rfl rfl (by omega) (by omega) (show _≤(9223372036854775807:Int) by omega) ?_
 refine Ae rfl rfl (Ab (Aa (Au (Bf 133956096 (α:=Nat × (Nat→Int)) (fun t=>[(9,.int .i64 ((t.1:Int) - 1))]) (fun t w'=>t.1≤l+1∧Sw a (a+l) f t.2∧HeapU t.2 a t.1 l∧Ctx w0 [q] w' [(q,Bl 24 (CH t.2 m))]) (fun t=>t.1) ((l - 1) / 2+1,f) rfl ?_ ?_ ?_))))
 ·exact ⟨congrArg (Value.int .i64) (by dsimp only; omega),trivial⟩
 ·exact ⟨by dsimp only; omega,.refl _,fun i c h1 h2 h3=>by dsimp only at h1; omega,H⟩
 ·rintro ⟨k,g⟩ j0 w ⟨hk,hS,hP,H⟩; dsimp only at hk hS hP H; dsimp only
  rcases k with _ | k
  ·skip
   refine An (Af (Ad rfl rfl (Cx rfl rfl rfl (Ab (Aa (Aq _ rfl ?_ ?_))))))
   ·intro h1
    replace h1:=AF h1
    omega
   ·intro h1
    replace h1:=AG h1
    refine Bc (Ak (Ak (AD (Aa (Af (Ad rfl rfl (Be rfl rfl rfl (by omega) (by omega) ?_)))))))
    refine Ae rfl rfl (Ab (Aa (Au (Bf 72057593501058048 (α:=Nat × (Nat→Int)) (fun t=>[(10,.int .i64 ((t.1:Int) - 1))]) (fun t w'=>t.1≤l∧Sw a (a+l) f t.2∧HeapU t.2 a 0 t.1∧HsU t.2 a t.1 (a+l)∧Ctx w0 [q] w' [(q,Bl 24 (CH t.2 m))]) (fun t=>t.1) (l,g) rfl ?_ ?_ ?_))))
    ·exact ⟨rfl,trivial⟩
    ·exact ⟨Nat.le_refl _,hS,hP,⟨fun x y h1 h2 h3=>by dsimp only at h1; omega,fun x y h1 h2 h3=>by dsimp only at h2; omega⟩,H⟩
    ·rintro ⟨k,g⟩ j1 w ⟨hk,hS,hP,hQ,H⟩; dsimp only at hk hS hP hQ H; dsimp only
     rcases k with _ | k
     ·skip
      refine An (Af (Ad rfl rfl (Cx rfl rfl rfl (Ab (Aa (Aq _ rfl ?_ ?_))))))
      ·intro h2
       replace h2:=AF h2
       omega
      ·intro h2
       replace h2:=AG h2
       refine Bc (Ak (Ak (AD (Db rfl rfl ?_))))
       exact ⟨rfl,g,hS,hQ.srt,H⟩
     ·rw [show ((k+1:Nat):Int) - 1=(k:Int) by omega]
      refine An (Af (Ad rfl rfl (Cx rfl rfl rfl (Ab (Aa (Aq _ rfl ?_ ?_))))))
      ·intro h2
       replace h2:=AF h2
       refine Ao (Aa (An (Au (CP [([0,1,2,3,4,5,6,7,8,9,10,11,12,13,14,15,16],17),([18],19)] (fun z=>z.heap[q]? = some (Bl 24 (CH g m))) [17,19] B0 (by kernel_rfl) (H.drew.get at0) ?_))))
       refine AU rfl rfl ?_
       refine Bi rfl rfl (AS rfl rfl (Bi rfl rfl (AS rfl rfl (AS rfl rfl (Ep rfl rfl rfl (by omega) (by omega) ?_)))))
       refine Bi rfl rfl (AS rfl rfl (AS rfl rfl (Ep rfl rfl rfl (by omega) (by omega) ?_)))
       refine AM rfl Bz Bo rfl rfl (by omega) (by omega) ?_
       refine BP rfl BK rfl (fun _ hx=>(C1 hx (by omega))) ?_
       refine Bi rfl rfl (AS rfl rfl (AM rfl Bz Bo rfl rfl (by omega) (by omega) ?_))
       refine BP rfl BK rfl (fun _ hx=>(C1 hx (by omega))) ?_
       refine AM rfl Bz Bo rfl rfl (by omega) (by omega) ?_
       refine Ba ?_
       replace H:=H.drew
       refine BU (a+0) (fun z => .int .u64 (if z=a+0 then g (a+k) else g z)) (.int _ _) rfl Bo rfl rfl rfl H at0 (by omega) (by omega) (by rw [if_pos rfl]; exact congrArg (fun z=>Value.int .u64 (g z)) (by omega)) (fun z _ hz=>by rw [if_neg hz]) ?_
       rintro w H
       refine Ab (BW rfl (AU rfl rfl ?_))
       refine AM rfl Bz Bo rfl rfl (by omega) (by omega) ?_
       refine Ba (BU (a+k) (fun z => .int .u64 (sw g (a+0) (a+k) z)) (.int _ _) rfl Bo rfl rfl rfl H at0 (by omega) (by omega) (by rw [DH]; exact congrArg (fun z=>Value.int .u64 (g z)) (by omega)) (fun z _ hz=>by rw [DA hz]) ?_)
       rintro w H
       refine Ab (BW rfl (BO (Av (Aj rfl rfl (Ad rfl rfl (Ad rfl rfl (Ad rfl rfl (Am rfl VO (TI (lo:=0) (hi:=k) (o:=a) (f:=sw g (a+0) (a+k)) (H.get at0) (by omega) hn hm (by omega) (fun i c h1 h2 h3=>by rw [Ex (by omega) (by omega),Ex (by omega) (by omega)]; exact hP i c (by omega) h2 (by omega))) rfl ?_))))))))
       rintro rv w ⟨rfl,g2,hS2,hP2,H2⟩
       replace H:=Ctx.back (L1:=[_]) (L2:=[]) H H2
       refine Ab (A5 (Aa (Av (Ad rfl rfl (Be rfl rfl rfl (by omega) (by omega) ?_)))))
       refine Ae rfl rfl (Ab (Aa ?_))
       have hout:=fun z hz=>hS2.out z hz
       have hk2:g2 (a+k)=g (a+0):=by rw [hout _ (.inr (Nat.le_refl _)),DH]
       have hot:∀ z,a+k<z→g2 z=g z:=fun z hz=>by rw [hout _ (.inr (by omega)),Ex (by omega) (by omega)]
       refine ⟨(k,g2),rfl,⟨rfl,trivial⟩,⟨by dsimp only; omega,(hS.step (a+0) (a+k) ⟨by omega,by omega⟩ ⟨by omega,by omega⟩).trans (hS2.mono (Nat.le_refl _) (by omega)),hP2,⟨fun x y h1 h2 h3=>?_,fun x y h1 h2 h3=>?_⟩,H⟩,by dsimp only; omega⟩
       ·dsimp only at h1 ⊢
        rw [hot y (by omega)]
        by_cases e:x=a+k
        ·rw [e,hk2]; exact hQ.le 0 y (by omega) (by omega) h3
        ·rw [hot x (by omega)]; exact hQ.srt x y (by omega) h2 h3
       ·dsimp only at h1 h2 ⊢
        obtain ⟨z,hz1,hz2,hz3⟩:=hS2.mem (a+x) (by omega) (by omega)
        obtain ⟨u,hu1,hu2⟩:∃ u,u<k+1∧g2 (a+x)=g (a+u):=by
         by_cases e:z=a+0
         ·exact ⟨k,by omega,by rw [hz3,e,GZ]⟩
         ·exact ⟨z - a,by omega,by rw [hz3,Ex e (by omega)]; congr 1; omega⟩
        rw [hu2]
        by_cases e:y=a+k
        ·rw [e,hk2]; exact hP.root u hu1
        ·rw [hot y (by omega)]; exact hQ.le u y hu1 (by omega) h3
      ·intro h2
       replace h2:=AG h2
       omega
  ·rw [show ((k+1:Nat):Int) - 1=(k:Int) by omega]
   refine An (Af (Ad rfl rfl (Cx rfl rfl rfl (Ab (Aa (Aq _ rfl ?_ ?_))))))
   ·intro h1
    replace h1:=AF h1
    refine Ao (Aa (An (Au (Av (Aj rfl rfl (Ad rfl rfl (Ad rfl rfl (Ad rfl rfl (Am rfl VO (TI (lo:=k) (hi:=l) (o:=a) (f:=g) (H.get at0) (by omega) hn hm (by omega) hP) rfl ?_)))))))))
    rintro rv w ⟨rfl,g2,hS2,hP2,H2⟩
    replace H:=Ctx.back (L1:=[_]) (L2:=[]) H H2
    refine Ab (A5 (Aa (Av (Ad rfl rfl (Be rfl rfl rfl (by omega) (by omega) ?_)))))
    refine Ae rfl rfl (Ab (Aa ?_))
    exact ⟨(k,g2),rfl,⟨rfl,trivial⟩,⟨by dsimp only; omega,hS.trans hS2,hP2,H⟩,by dsimp only; omega⟩
   ·intro h1
    replace h1:=AG h1
    omega
end

end Go.Proofs.YtapphbmlkdhnmaaGreat

/- Sorting numbers of 64 bits: which one is the pivot. -/
namespace Go.Proofs.YtapphbmlkdhnmaaGreat
open Go.GV
attribute [local irreducible] AL W Wq Wt

section
variable {w:World} {q n c m s:Nat} {k:Int} {f:Nat→Int}

set_option maxRecDepth 20000 in
theorem Lm {i j:Nat} (hd:w.heap[q]? = some (Bl 24 (CH f m))) (hs:w.heap[s]? = some (Bl 3 [.int .i64 k])) (hi:i<n) (hj:j<n) (hn:n≤m) (hm:n≤1000000000) :
  Ret Tryz.prog 227 #[.slice (some ⟨q,0,none⟩) n c,.int .i64 (i:Int),.int .i64 (j:Int),ptr s] w fun v w'=>∃ (x y:Nat) (k':Int),((x=i∧y=j)∨(x=j∧y=i))∧v = .tuple #[.int .i64 (x:Int),.int .i64 (y:Int)]∧Ctx w [s] w' [(s,Bl 3 [.int .i64 k'])]:=by
 obtain ⟨w0,rfl⟩:∃ w0,w0=w:=⟨_,rfl⟩
 have H:=Ctx.start1 hs
 refine A9 (fn:=Tryz.f227) Tryz.func227 rfl [.slice (some ⟨q,0,none⟩) n c,.int .i64 (i:Int),.int .i64 (j:Int),.pointer (some ⟨s,0,none⟩)] rfl (by kernel_rfl) ?_
 refine Af (Ae rfl rfl (Ae rfl rfl (Ab (Aa (An (DK 8 B0 (by kernel_rfl) rfl rfl ?_))))))
 refine Bx rfl rfl (AP rfl rfl (AY rfl Bz Bo rfl rfl (by omega) (by omega) ?_))
 refine BR rfl BK rfl (by rintro _ rfl; exact ((C1 (w:=w0.drew) hd (by omega)))) ?_
 refine Bx rfl rfl (AP rfl rfl (AY rfl Bz Bo rfl rfl (by omega) (by omega) ?_))
 refine BR rfl BK rfl (by rintro _ rfl; exact ((C1 (w:=w0.drew) hd (by omega)))) ?_
 refine BJ ?_
 replace H:=H.drew
 refine Am rfl FA (EL _ _ _) rfl ?_
 rintro v w ⟨rfl,rfl⟩
 refine Ab (Aa (Aq _ rfl ?_ ?_))
 ·intro h1
  refine Af (A2 rfl rfl (AJ rfl rfl (AN rfl BV rfl H at0 rfl (LG rfl rfl rfl ?_))))
  intro k2
  refine AJ rfl rfl (Cy (.int _ _) rfl Fs rfl rfl rfl H at0 (by (simp; done)) ?_)
  rintro w H
  refine Ab (Aa (Af (Ad rfl rfl (Ad rfl rfl (Ae rfl rfl (Ae rfl rfl (Ab (Aa (A8 (Al (Cq (v1:=(.int _ _)) (v2:=(.int _ _)) rfl rfl rfl rfl ?_)))))))))))
  exact ⟨j,i,k2,.inr ⟨rfl,rfl⟩,rfl,H⟩
 ·intro h1
  refine Ao (Aa (Af (Ad rfl rfl (Ad rfl rfl (Ae rfl rfl (Ae rfl rfl (Ab (Aa (A8 (Cq (v1:=(.int _ _)) (v2:=(.int _ _)) rfl rfl rfl rfl ?_))))))))))
  exact ⟨i,j,k,.inl ⟨rfl,rfl⟩,rfl,H⟩

set_option maxRecDepth 20000 in
theorem Om {i j l:Nat} (hd:w.heap[q]? = some (Bl 24 (CH f m))) (hs:w.heap[s]? = some (Bl 3 [.int .i64 k])) (hne:q≠s) (hi:i<n) (hj:j<n) (hl:l<n) (hn:n≤m) (hm:n≤1000000000) :
  Ret Tryz.prog 222 #[.slice (some ⟨q,0,none⟩) n c,.int .i64 (i:Int),.int .i64 (j:Int),.int .i64 (l:Int),ptr s] w fun v w'=>∃ (x:Nat) (k':Int),(x=i∨x=j∨x=l)∧v = .int .i64 (x:Int)∧Ctx w [s] w' [(s,Bl 3 [.int .i64 k'])]:=by
 obtain ⟨w0,rfl⟩:∃ w0,w0=w:=⟨_,rfl⟩
 have H:=Ctx.start1 hs
 have hq:q∉[s]:=by rw [List.mem_singleton]; exact hne
 refine A9 (fn:=Tryz.f222) Tryz.func222 rfl [.slice (some ⟨q,0,none⟩) n c,.int .i64 (i:Int),.int .i64 (j:Int),.int .i64 (l:Int),.pointer (some ⟨s,0,none⟩)] rfl (by kernel_rfl) ?_
 refine Af (Ae rfl rfl (Ab (Aa (Af (Aj rfl rfl (Ad rfl rfl (Ad rfl rfl (A2 rfl rfl (Am rfl Sh (Lm (i:=i) (j:=j) (H.ext.to hd hq) (H.get at0) hi hj hn hm) rfl ?_)))))))))
 rintro v w ⟨x1,y1,k1,h1,rfl,H2⟩
 replace H:=Ctx.back (L1:=[_]) (L2:=[]) H H2
 refine B9 rfl rfl (A3 rfl rfl rfl (A3 rfl rfl rfl (Ae rfl rfl (Ae rfl rfl (Ab (Aa (Af (Aj rfl rfl (Ad rfl rfl (Ad rfl rfl ?_))))))))))
 refine A2 rfl rfl (Am rfl Sh (Lm (i:=y1) (j:=l) (H.ext.to hd hq) (H.get at0) (by omega) hl hn hm) rfl ?_)
 rintro v w ⟨x2,y2,k2,h2,rfl,H2⟩
 replace H:=Ctx.back (L1:=[_]) (L2:=[]) H H2
 refine B9 rfl rfl (A3 rfl rfl rfl (A3 rfl rfl rfl (Ae rfl rfl (Ae rfl rfl (Ab (Aa (Af (Aj rfl rfl (Ad rfl rfl (Ad rfl rfl ?_))))))))))
 refine A2 rfl rfl (Am rfl Sh (Lm (i:=x1) (j:=x2) (H.ext.to hd hq) (H.get at0) (by omega) (by omega) hn hm) rfl ?_)
 rintro v w ⟨x3,y3,k3,h3,rfl,H2⟩
 replace H:=Ctx.back (L1:=[_]) (L2:=[]) H H2
 refine B9 rfl rfl (A3 rfl rfl rfl (A3 rfl rfl rfl (Ae rfl rfl (Ae rfl rfl (Ab (Aa (Af (Ad rfl rfl (Ae rfl rfl (Ab (Aa ?_)))))))))))
 refine A8 (AB (v:=(.int _ _)) rfl rfl rfl ?_)
 exact ⟨y3,k3,by omega,rfl,H⟩

set_option maxRecDepth 20000 in
theorem IA {i:Nat} (hd:w.heap[q]? = some (Bl 24 (CH f m))) (hs:w.heap[s]? = some (Bl 3 [.int .i64 k])) (hne:q≠s) (hi0:0<i) (hi:i+1<n) (hn:n≤m) (hm:n≤1000000000) :
  Ret Tryz.prog 221 #[.slice (some ⟨q,0,none⟩) n c,.int .i64 (i:Int),ptr s] w fun v w'=>∃ (x:Nat) (k':Int),(x+1=i∨x=i∨x=i+1)∧v = .int .i64 (x:Int)∧Ctx w [s] w' [(s,Bl 3 [.int .i64 k'])]:=by
 obtain ⟨w0,rfl⟩:∃ w0,w0=w:=⟨_,rfl⟩
 refine A9 (fn:=Tryz.f221) Tryz.func221 rfl [.slice (some ⟨q,0,none⟩) n c,.int .i64 (i:Int),.pointer (some ⟨s,0,none⟩)] rfl (by kernel_rfl) ?_
 refine Af (Ae rfl rfl (Ab (Aa (Af (Aj rfl rfl (Ad rfl rfl (Be rfl rfl rfl (by omega) (by omega) ?_)))))))
 rw [show (i:Int) - 1=((i - 1:Nat):Int) by omega]
 refine Ad rfl rfl (Ad rfl rfl (Ap rfl rfl rfl (by omega) (by omega) ?_))
 rw [show (i:Int)+1=((i+1:Nat):Int) by omega]
 refine A2 rfl rfl (Am rfl VP (Om (i:=i - 1) (j:=i) (l:=i+1) hd hs hne (by omega) (by omega) (by omega) hn hm) rfl ?_)
 rintro v w ⟨x1,k1,h1,rfl,H⟩
 refine Ae rfl rfl (Ab (Aa (A8 (AB (v:=(.int _ _)) rfl rfl rfl ?_))))
 exact ⟨x1,k1,by omega,rfl,H⟩

set_option maxRecDepth 20000 in
set_option maxHeartbeats 2000000 in
theorem WA {a b:Nat} (hd:w.heap[q]? = some (Bl 24 (CH f m))) (hab:a<b) (hb:b≤n) (hn:n≤m) (hm:n≤1000000000) :
  Ret Tryz.prog 203 #[.slice (some ⟨q,0,none⟩) n c,.int .i64 (a:Int),.int .i64 (b:Int)] w fun v w'=>∃ (x:Nat) (h:Int),a≤x∧x<b∧v = .tuple #[.int .i64 (x:Int),.int .i64 h]∧Ext [] w w':=by
 obtain ⟨w0,rfl⟩:∃ w0,w0=w:=⟨_,rfl⟩
 have H:=Ctx.start w0 []
 obtain ⟨l,rfl⟩:∃ l,b=a+l:=⟨b - a,by omega⟩
 have hl:((a+l:Nat):Int) - (a:Int)=(l:Int):=by omega
 have hql:=Bp hd
 refine A9 (fn:=Tryz.f203) Tryz.func203 rfl [.slice (some ⟨q,0,none⟩) n c,.int .i64 (a:Int),.int .i64 ((a+l:Nat):Int)] rfl (by kernel_rfl) ?_
 refine Af (Ae rfl rfl (Ae rfl rfl (Ab (Aa (Af (Ad rfl rfl (Ad rfl rfl (Be rfl rfl rfl (by omega) (by omega) ?_))))))))
 rw [hl]
 refine Ae rfl rfl (Ab (Aa (Af (Bj rfl Sm H ?_))))
 rintro b9 w - H
 refine Ab (Aa (Af (Ad rfl rfl (Ad rfl rfl (Hw rfl rfl rfl (by omega) (by omega) (show _≤(9223372036854775807:Int) by omega) ?_)))))
 refine Dd rfl rfl rfl (by omega) (by omega) ?_
 refine Ap rfl rfl rfl (by omega) (by omega) ?_
 rw [show (a:Int)+(l:Int) / 4*1=((a+l / 4:Nat):Int) by omega]
 refine Ae rfl rfl (Ab (Aa (Af (Ad rfl rfl (Ad rfl rfl (Hw rfl rfl rfl (by omega) (by omega) (show _≤(9223372036854775807:Int) by omega) ?_))))))
 refine Dd rfl rfl rfl (by omega) (by omega) ?_
 refine Ap rfl rfl rfl (by omega) (by omega) ?_
 rw [show (a:Int)+(l:Int) / 4*2=((a+l / 4*2:Nat):Int) by omega]
 refine Ae rfl rfl (Ab (Aa (Af (Ad rfl rfl (Ad rfl rfl (Hw rfl rfl rfl (by omega) (by omega) (show _≤(9223372036854775807:Int) by omega) ?_))))))
 refine Dd rfl rfl rfl (by omega) (by omega) ?_
 refine Ap rfl rfl rfl (by omega) (by omega) ?_
 rw [show (a:Int)+(l:Int) / 4*3=((a+l / 4*3:Nat):Int) by omega]
 refine Ae rfl rfl (Ab (Aa (An (Af (Ad rfl rfl (Cx rfl rfl rfl (Ab (Aa ?_))))))))
 have hqs:=H.own _ (List.mem_cons_self ..)
 have hne:q≠b9:=fun e=>by subst e; rcases hqs with h | h; cases h; dsimp only at h; omega
 refine EI 562941363493888 (α:=Nat × Int) (fun z=>[(11,.int .i64 (z.1:Int))]) (fun z w'=>a≤z.1∧z.1<a+l∧Ctx w0 [] w' [(b9,Bl 3 [.int .i64 z.2])]) rfl ?_ ?_
 ·skip
  refine Aq _ rfl ?_ ?_
  ·intro h1
   replace h1:=AF h1
   refine An (Af (Ad rfl rfl (Cx rfl rfl rfl (Ab (Aa (EI 17557826313216 (α:=Nat × Nat × Nat × Int) (fun z=>[(10,.int .i64 (z.1:Int)),(11,.int .i64 (z.2.1:Int)),(12,.int .i64 (z.2.2.1:Int))]) (fun z w'=>(a≤z.1∧z.1<a+l)∧(a≤z.2.1∧z.2.1<a+l)∧(a≤z.2.2.1∧z.2.2.1<a+l)∧Ctx w0 [] w' [(b9,Bl 3 [.int .i64 z.2.2.2])]) rfl ?_ ?_))))))
   ·skip
    refine Aq _ rfl ?_ ?_
    ·intro h2
     replace h2:=AF h2
     refine Af (Aj rfl rfl (Ad rfl rfl (Am rfl Sf (IA (i:=a+l / 4) (H.ext.to hd (by simp)) (H.get at0) hne (by omega) (by omega) hn hm) rfl ?_)))
     rintro v w ⟨x1,k1,h3,rfl,H2⟩
     replace H:=Ctx.back (L1:=[_]) (L2:=[]) H H2
     refine Ae rfl rfl (Ab (Aa (Af (Aj rfl rfl (Ad rfl rfl (Am rfl Sf (IA (i:=a+l / 4*2) (H.ext.to hd (by simp)) (H.get at0) hne (by omega) (by omega) hn hm) rfl ?_))))))
     rintro v w ⟨x2,k2,h4,rfl,H2⟩
     replace H:=Ctx.back (L1:=[_]) (L2:=[]) H H2
     refine Ae rfl rfl (Ab (Aa (Av (Aj rfl rfl (Ad rfl rfl (Am rfl Sf (IA (i:=a+l / 4*3) (H.ext.to hd (by simp)) (H.get at0) hne (by omega) (by omega) hn hm) rfl ?_))))))
     rintro v w ⟨x3,k3,h5,rfl,H2⟩
     replace H:=Ctx.back (L1:=[_]) (L2:=[]) H H2
     refine Ae rfl rfl (Ab (Aa ?_))
     exact ⟨(x1,x2,x3,k3),rfl,⟨rfl,rfl,rfl,trivial⟩,by dsimp only; omega,by dsimp only; omega,by dsimp only; omega,H⟩
    ·intro h2
     replace h2:=AG h2
     refine Ao (Aa ?_)
     exact ⟨(a+l / 4,a+l / 4*2,a+l / 4*3,_),rfl,⟨rfl,rfl,rfl,trivial⟩,by dsimp only; omega,by dsimp only; omega,by dsimp only; omega,H⟩
   ·rintro ⟨x1,x2,x3,k1⟩ j1 w ⟨g1,g2,g3,H⟩; dsimp only at g1 g2 g3 H; dsimp only
    refine Av (Aj rfl rfl (Ad rfl rfl (Ad rfl rfl (Ad rfl rfl (Am rfl VP (Om (i:=x1) (j:=x2) (l:=x3) (H.ext.to hd (by simp)) (H.get at0) hne (by omega) (by omega) (by omega) hn hm) rfl ?_)))))
    rintro v w ⟨x4,k4,h3,rfl,H2⟩
    replace H:=Ctx.back (L1:=[_]) (L2:=[]) H H2
    refine Ae rfl rfl (Ab (Aa ?_))
    exact ⟨(x4,k4),rfl,⟨rfl,trivial⟩,by dsimp only; omega,by dsimp only; omega,H⟩
  ·intro h1
   replace h1:=AG h1
   refine Ao (Aa ?_)
   exact ⟨(a+l / 4*2,_),rfl,⟨rfl,trivial⟩,by dsimp only; omega,by dsimp only; omega,H⟩
 ·rintro ⟨x,k⟩ j w ⟨g1,g2,H⟩; dsimp only at g1 g2 H; dsimp only
  refine Af (AN rfl BV rfl H at0 rfl (Ab (Aa (Au (Af (Cu rfl rfl rfl (Ai rfl rfl (Ab (Aa (Aq _ rfl ?_ ?_))))))))))
  ·intro h1
   replace h1:=AF h1
   refine Af (Ad rfl rfl (Ae rfl rfl (Ae rfl rfl (Ab (Aa (A8 (A1 (Cq (v1:=(.int _ _)) (v2:=(.int _ _)) rfl rfl rfl rfl ?_))))))))
   exact ⟨x,_,g1,g2,rfl,H.ext⟩
  ·intro h2
   replace h2:=AG h2
   refine Af (Cu rfl rfl rfl (Ai rfl rfl (Ab (Aa (Aq _ rfl ?_ ?_)))))
   ·intro h3
    replace h3:=AF h3
    refine Af (Ad rfl rfl (Ae rfl rfl (Ae rfl rfl (Ab (Aa (A8 (A1 (Cq (v1:=(.int _ _)) (v2:=(.int _ _)) rfl rfl rfl rfl ?_))))))))
    exact ⟨x,_,g1,g2,rfl,H.ext⟩
   ·intro h4
    replace h4:=AG h4
    refine Af (Ad rfl rfl (Ae rfl rfl (Ae rfl rfl (Ab (Aa (A8 (A1 (Cq (v1:=(.int _ _)) (v2:=(.int _ _)) rfl rfl rfl rfl ?_))))))))
    exact ⟨x,_,g1,g2,rfl,H.ext⟩

set_option maxRecDepth 20000 in
set_option maxHeartbeats 2000000 in
theorem Sy {a b:Nat} (hd:w.heap[q]? = some (Bl 24 (CH f m))) (hab:a<b) (hb:b≤n) (hn:n≤m) (hm:n≤1000000000) :
  Ret Tryz.prog 204 #[.slice (some ⟨q,0,none⟩) n c,.int .i64 (a:Int),.int .i64 (b:Int)] w fun v w'=>v = .tuple #[]∧∃ g,Sw a b f g∧Ctx w [q] w' [(q,Bl 24 (CH g m))]:=by
 obtain ⟨w0,rfl⟩:∃ w0,w0=w:=⟨_,rfl⟩
 have H:=Ctx.start1 hd
 refine A9 (fn:=Tryz.f204) Tryz.func204 rfl [.slice (some ⟨q,0,none⟩) n c,.int .i64 (a:Int),.int .i64 (b:Int)] rfl (by kernel_rfl) ?_
 refine Af (Ad rfl rfl (Ae rfl rfl (Ab (Aa (Af (Ad rfl rfl (Be rfl rfl rfl (by omega) (by omega) ?_)))))))
 rw [show (b:Int) - 1=((b - 1:Nat):Int) by omega]
 refine Ae rfl rfl (Ab (Aa (Au (Bf 4294965440 (α:=Nat × Nat × (Nat→Int)) (fun t=>[(6,.int .i64 (t.1:Int)),(7,.int .i64 (t.2.1:Int))]) (fun t w'=>a≤t.1∧t.2.1<b∧t.1≤b∧Sw a b f t.2.2∧Ctx w0 [q] w' [(q,Bl 24 (CH t.2.2 m))]) (fun t=>b - t.1) (a,b - 1,f) rfl ?_ ?_ ?_))))
 ·exact ⟨rfl,rfl,trivial⟩
 ·exact ⟨Nat.le_refl _,by dsimp only; omega,by dsimp only; omega,.refl _,H⟩
 ·rintro ⟨i,j,g⟩ j0 w ⟨g1,g2,g3,hS,H⟩; dsimp only at g1 g2 g3 hS H; dsimp only
  refine An (Af (Ad rfl rfl (Ad rfl rfl (AZ rfl rfl rfl (Ab (Aa (Aq _ rfl ?_ ?_)))))))
  ·intro h1
   replace h1:=AF h1
   refine Ao (Aa (Au (CP [([0,1,2,3,4,5,6,7,8,9,10,11,12],13),([14],15)] (fun z=>z.heap[q]? = some (Bl 24 (CH g m))) [13,15] B0 (by kernel_rfl) (H.drew.get at0) ?_)))
   refine AU rfl rfl ?_
   refine Bi rfl rfl (AS rfl rfl (Bi rfl rfl (AS rfl rfl (Bi rfl rfl (AS rfl rfl (AM rfl Bz Bo rfl rfl (by omega) (by omega) ?_))))))
   refine BP rfl BK rfl (fun _ hx=>(C1 hx (by omega))) ?_
   refine Bi rfl rfl (AS rfl rfl (AM rfl Bz Bo rfl rfl (by omega) (by omega) ?_))
   refine BP rfl BK rfl (fun _ hx=>(C1 hx (by omega))) ?_
   refine AM rfl Bz Bo rfl rfl (by omega) (by omega) ?_
   refine Ba ?_
   replace H:=H.drew
   refine BU i (fun z => .int .u64 (if z=i then g j else g z)) (.int _ _) rfl Bo rfl rfl rfl H at0 (by omega) (by omega) (by rw [if_pos rfl]; exact congrArg (fun z=>Value.int .u64 (g z)) (by omega)) (fun z _ hz=>by rw [if_neg hz]) ?_
   rintro w H
   refine Ab (BW rfl (AU rfl rfl ?_))
   refine AM rfl Bz Bo rfl rfl (by omega) (by omega) ?_
   refine Ba (BU j (fun z => .int .u64 (sw g i j z)) (.int _ _) rfl Bo rfl rfl rfl H at0 (by omega) (by omega) (by rw [DH]; exact congrArg (fun z=>Value.int .u64 (g z)) (by omega)) (fun z _ hz=>by rw [DA hz]) ?_)
   rintro w H
   refine Ab (BW rfl (BO (Af (Ad rfl rfl (Ap rfl rfl rfl (by omega) (by omega) ?_)))))
   refine Ae rfl rfl (Ab (Aa (Av (Ad rfl rfl (Be rfl rfl rfl (by omega) (by omega) ?_)))))
   refine Ae rfl rfl (Ab (A5 (Aa ?_)))
   exact ⟨(i+1,j - 1,sw g i j),rfl,⟨congrArg (Value.int .i64) (by dsimp only; omega),congrArg (Value.int .i64) (by dsimp only; omega),trivial⟩,⟨by dsimp only; omega,by dsimp only; omega,by dsimp only; omega,hS.step i j ⟨by omega,by omega⟩ ⟨by omega,by omega⟩,H⟩,by dsimp only; omega⟩
  ·intro h1
   replace h1:=AG h1
   refine Bc (Ak (Ak (AD (Db rfl rfl ?_))))
   exact ⟨rfl,g,hS,H⟩
end

end Go.Proofs.YtapphbmlkdhnmaaGreat

/- Sorting numbers of 64 bits: parted by a pivot. -/
namespace Go.Proofs.YtapphbmlkdhnmaaGreat
open Go.GV
attribute [local irreducible] AL W Wq Wt

/-- What stands ahead of one is no greater, what stands behind it no less. -/
structure PartU (g:Nat→Int) (a mid b:Nat):Prop where
 le:∀ x,a≤x→x<mid→g x≤g mid
 ge:∀ y,mid<y→y<b→g mid≤g y
theorem Oo {g:Nat→Int} {a j b:Nat} (hj:a≤j) (h1:∀ x,a<x→x≤j→g x<g a) (h2:∀ y,j<y→y<b→g a≤g y):PartU (sw g j a) a j b:=by
 have hv:sw g j a j=g a:=GZ g j a
 refine ⟨fun x hx hxj=>?_,fun y hy hyb=>?_⟩
 ·rw [hv]
  by_cases e:x=a
  ·rw [e,DH]
   exact Int.le_of_lt (h1 j (by omega) (Nat.le_refl _))
  ·rw [Ex (by omega) e]; exact Int.le_of_lt (h1 x (by omega) (by omega))
 ·rw [hv,Ex (by omega) (by omega)]; exact h2 y hy hyb
theorem Oq {g:Nat→Int} {a i j b:Nat} (h:a+1≤i∧i≤j+1∧j<b∧(∀ x,a<x→x<i→g x<g a)∧∀ y,j<y→y<b→g a≤g y) (hij:i<j) (hi:g a≤g i) (hj:g j<g a) :
  a+1≤i+1∧i+1≤j - 1+1∧j - 1<b∧(∀ x,a<x→x<i+1→sw g i j x<sw g i j a)∧∀ y,j - 1<y→y<b→sw g i j a≤sw g i j y:=by
 obtain ⟨h1,h2,h3,h4,h5⟩:=h
 have ha:sw g i j a=g a:=Ex (by omega) (by omega)
 rw [ha]
 refine ⟨by omega,by omega,by omega,fun x hx hxi=>?_,fun y hy hyb=>?_⟩
 ·by_cases e:x=i
  ·rw [e,GZ]; exact hj
  ·rw [Ex e (by omega)]; exact h4 x hx (by omega)
 ·by_cases e:y=j
  ·rw [e,DH]; exact hi
  ·rw [Ex (by omega) e]; exact h5 y (by omega) hyb

section
variable {w:World} {q n c m:Nat} {f:Nat→Int}
set_option maxRecDepth 20000 in
set_option maxHeartbeats 4000000 in
theorem P9 {a b p:Nat} (hd:w.heap[q]? = some (Bl 24 (CH f m))) (hab:a<b) (hb:b≤n) (hn:n≤m) (hm:n≤1000000000) (hp:a≤p∧p<b) :
  Ret Tryz.prog 208 #[.slice (some ⟨q,0,none⟩) n c,.int .i64 (a:Int),.int .i64 (b:Int),.int .i64 (p:Int)] w fun v w'=>∃ (mid:Nat) (t:Bool) (g:Nat→Int),v = .tuple #[.int .i64 (mid:Int),.bool t]∧Sw a b f g∧a≤mid∧mid<b∧PartU g a mid b∧Ctx w [q] w' [(q,Bl 24 (CH g m))]:=by
 obtain ⟨w0,rfl⟩:∃ w0,w0=w:=⟨_,rfl⟩
 have H:=Ctx.start1 hd
 refine A9 (fn:=Tryz.f208) Tryz.func208 rfl [.slice (some ⟨q,0,none⟩) n c,.int .i64 (a:Int),.int .i64 (b:Int),.int .i64 (p:Int)] rfl (by kernel_rfl) ?_
 refine Af (Ae rfl rfl (Ai rfl rfl (Ab (Aa (CP [([0,1,2,3,4,5,6,7,8,9,10,11,12],13),([14],15)] (fun z=>z.heap[q]? = some (Bl 24 (CH (f) m))) [13,15] B0 (by kernel_rfl) (H.drew.get at0) ?_)))))
 refine AU rfl rfl ?_
 refine Bi rfl rfl (AS rfl rfl (Bi rfl rfl (AS rfl rfl (Bi rfl rfl (AS rfl rfl (AM rfl Bz Bo rfl rfl (by omega) (by omega) ?_))))))
 refine BP rfl BK rfl (fun _ hx=>(C1 hx (by omega))) ?_
 refine Bi rfl rfl (AS rfl rfl (AM rfl Bz Bo rfl rfl (by omega) (by omega) ?_))
 refine BP rfl BK rfl (fun _ hx=>(C1 hx (by omega))) ?_
 refine AM rfl Bz Bo rfl rfl (by omega) (by omega) ?_
 refine Ba ?_
 replace H:=H.drew
 refine BU (a) (fun z => .int .u64 (if z=a then (f) (p) else (f) z)) (.int _ _) rfl Bo rfl rfl rfl H at0 (by omega) (by omega) (by rw [if_pos rfl]; exact congrArg (fun z=>Value.int .u64 ((f) z)) (by omega)) (fun z _ hz=>by rw [if_neg hz]) ?_
 rintro w H
 refine Ab (BW rfl (AU rfl rfl ?_))
 refine AM rfl Bz Bo rfl rfl (by omega) (by omega) ?_
 refine Ba (BU (p) (fun z => .int .u64 (sw (f) (a) (p) z)) (.int _ _) rfl Bo rfl rfl rfl H at0 (by omega) (by omega) (by rw [DH]; exact congrArg (fun z=>Value.int .u64 ((f) z)) (by omega)) (fun z _ hz=>by rw [DA hz]) ?_)
 rintro w H
 refine Ab (BW rfl (BO ?_))
 have hS0:=(Sw.refl (a:=a) (b:=b) f).step a p ⟨by omega,by omega⟩ hp
 obtain ⟨g,hg⟩:∃ g,g=sw f a p:=⟨_,rfl⟩
 rw [← hg] at hS0 H
 have hi0:a+1≤(a+1)∧(a+1)≤(b - 1)+1∧(b - 1)<b∧(∀ x,a<x→x<(a+1)→(g) x<(g) a)∧∀ y,(b - 1)<y→y<b→(g) a≤(g) y:=⟨Nat.le_refl _,by omega,by omega,fun x h1 h2=>by omega,fun y h1 h2=>by omega⟩
 refine Af (Ad rfl rfl (Ap rfl rfl rfl (by omega) (by omega) ?_))
 rw [show (a:Int)+1=((a+1:Nat):Int) by omega]
 refine Ad rfl rfl (Be rfl rfl rfl (by omega) (by omega) ?_)
 rw [show (b:Int) - 1=((b - 1:Nat):Int) by omega]
 refine Ae rfl rfl (Ae rfl rfl (Ab (Aa (An (Au (Bf 70367670436864 (α:=Nat) (fun i=>[(10,.int .i64 (i:Int))]) (fun i w'=>(a+1≤i∧i≤(b - 1)+1∧(b - 1)<b∧(∀ x,a<x→x<i→(g) x<(g) a)∧∀ y,(b - 1)<y→y<b→(g) a≤(g) y)∧Ctx w0 [q] w' [(q,Bl 24 (CH (g) m))]) (fun i=>b - i) (a+1) rfl ?_ ?_ ?_))))))
 ·exact ⟨by rfl,trivial⟩
 ·exact ⟨by assumption,H⟩
 ·rintro i jx w ⟨hiv,H⟩
  refine An (El 17591112302592 (α:=Unit) (fun _=>[(43,.bool (decide (i≤b - 1∧g i<g a)))]) (fun _ w'=>Ctx w0 [q] w' [(q,Bl 24 (CH (g) m))]) rfl ?_ ?_)
  ·skip
   refine EM 12 B0 (by kernel_rfl) rfl rfl ?_
   refine AP rfl rfl (AP rfl rfl (NI rfl rfl rfl (CW rfl rfl (Dg 33 rfl ?_ ?_))))
   ·intro h1
    replace h1:=AF h1
    refine Bx rfl rfl (AP rfl rfl (AY rfl Bz Bo rfl rfl (by omega) (by omega) ?_))
    refine BR rfl BK rfl (by rintro _ rfl; exact ((C1 (H.drew.get at0) (by omega)))) ?_
    refine Bx rfl rfl (AP rfl rfl (AY rfl Bz Bo rfl rfl (by omega) (by omega) ?_))
    refine BR rfl BK rfl (by rintro _ rfl; exact ((C1 (H.drew.get at0) (by omega)))) ?_
    refine BJ ?_
    replace H:=H.drew
    refine Am rfl FA (EL _ _ _) rfl ?_
    rintro v w ⟨rfl,rfl⟩
    simp only [Int.toNat_natCast]
    refine AA rfl rfl (.bool _) rfl (Ab (Aa ?_))
    exact ⟨(),rfl,⟨congrArg Value.bool (by clear hiv; rw [Bool.eq_iff_iff]; simp_all; try omega),trivial⟩,H⟩
   ·intro h2
    replace h2:=AG h2
    refine Ax rfl (Ax rfl (Ax rfl (Ax rfl (Ax rfl (Ax rfl (Ax rfl (Ax rfl (BJ ?_))))))))
    replace H:=H.drew
    refine Ag rfl (A6 rfl rfl (.bool _) rfl (Ab (Aa ?_)))
    exact ⟨(),rfl,⟨congrArg Value.bool (by clear hiv; rw [Bool.eq_iff_iff]; simp_all; try omega),trivial⟩,H⟩
  ·rintro - jy w H
   refine Aq _ rfl ?_ ?_
   ·intro hc
    have hc:=of_decide_eq_true hc
    refine Ao (Aa (Au (Av (Ad rfl rfl (Ap rfl rfl rfl (by omega) (by omega) ?_)))))
    refine Ae rfl rfl (Ab (A5 (Aa ?_)))
    exact ⟨i+1,rfl,⟨congrArg (Value.int .i64) (by omega),trivial⟩,⟨⟨by omega,by omega,by omega,fun x h1 h2=>(if e:x=i then by rw [e]; exact hc.2 else hiv.2.2.2.1 x h1 (by omega)),hiv.2.2.2.2⟩,H⟩,by omega⟩
   ·intro hc
    have hc:=of_decide_eq_false hc
    have hci:=hc
    have hi0:=hiv
    refine Bc (Ak (Ak (AD (Aa (An (Au (Bf 9223301668110600192 (α:=Nat) (fun j=>[(11,.int .i64 (j:Int))]) (fun j w'=>(a+1≤i∧i≤j+1∧j<b∧(∀ x,a<x→x<i→(g) x<(g) a)∧∀ y,j<y→y<b→(g) a≤(g) y)∧Ctx w0 [q] w' [(q,Bl 24 (CH (g) m))]) (fun j=>j) (b - 1) rfl ?_ ?_ ?_)))))))
    ·exact ⟨by rfl,trivial⟩
    ·exact ⟨by assumption,H⟩
    ·rintro j jx w ⟨hiv,H⟩
     refine An (El 2305772640469516288 (α:=Unit) (fun _=>[(60,.bool (decide (i≤j∧g a≤g j)))]) (fun _ w'=>Ctx w0 [q] w' [(q,Bl 24 (CH (g) m))]) rfl ?_ ?_)
     ·skip
      refine EM 12 B0 (by kernel_rfl) rfl rfl ?_
      refine AP rfl rfl (AP rfl rfl (NI rfl rfl rfl (CW rfl rfl (Dg 49 rfl ?_ ?_))))
      ·intro h3
       replace h3:=AF h3
       refine Bx rfl rfl (AP rfl rfl (AY rfl Bz Bo rfl rfl (by omega) (by omega) ?_))
       refine BR rfl BK rfl (by rintro _ rfl; exact ((C1 (H.drew.get at0) (by omega)))) ?_
       refine Bx rfl rfl (AP rfl rfl (AY rfl Bz Bo rfl rfl (by omega) (by omega) ?_))
       refine BR rfl BK rfl (by rintro _ rfl; exact ((C1 (H.drew.get at0) (by omega)))) ?_
       refine BJ ?_
       replace H:=H.drew
       refine Am rfl FA (EL _ _ _) rfl ?_
       rintro v w ⟨rfl,rfl⟩
       simp only [Int.toNat_natCast]
       refine B1 rfl rfl (AA rfl rfl (.bool _) rfl (Ab (Aa ?_)))
       exact ⟨(),rfl,⟨congrArg Value.bool (by clear hiv; rw [Bool.eq_iff_iff]; simp_all; try omega),trivial⟩,H⟩
      ·intro h4
       replace h4:=AG h4
       refine Ax rfl (Ax rfl (Ax rfl (Ax rfl (Ax rfl (Ax rfl (Ax rfl (Ax rfl (BJ ?_))))))))
       replace H:=H.drew
       refine Ag rfl (Ag rfl (A6 rfl rfl (.bool _) rfl (Ab (Aa ?_))))
       exact ⟨(),rfl,⟨congrArg Value.bool (by clear hiv; rw [Bool.eq_iff_iff]; simp_all; try omega),trivial⟩,H⟩
     ·rintro - jy w H
      refine Aq _ rfl ?_ ?_
      ·intro hc
       have hc:=of_decide_eq_true hc
       refine Ao (Aa (Au (Av (Ad rfl rfl (Be rfl rfl rfl (by omega) (by omega) ?_)))))
       refine Ae rfl rfl (Ab (A5 (Aa ?_)))
       exact ⟨j - 1,rfl,⟨congrArg (Value.int .i64) (by omega),trivial⟩,⟨⟨by omega,by omega,by omega,hiv.2.2.2.1,fun y h1 h2=>(if e:y=j then by rw [e]; exact hc.2 else hiv.2.2.2.2 y (by omega) h2)⟩,H⟩,by omega⟩
      ·intro hc
       have hc:=of_decide_eq_false hc
       have hci:¬ (i≤j∧g i<g a):=fun h=>hci ⟨by omega,h.2⟩
       refine Bc (Ak (Ak (AD (Aa (An (Af (Ad rfl rfl (Ad rfl rfl (Ck rfl rfl rfl (Ab (Aa (Aq _ rfl ?_ ?_))))))))))))
       ·intro h5
        replace h5:=AF h5
        have hji:j+1=i:=by omega
        refine CP [([0,1,2,3,4,5,6,7,8,9,10,11,12],13),([14],15)] (fun z=>z.heap[q]? = some (Bl 24 (CH (g) m))) [13,15] B0 (by kernel_rfl) (H.drew.get at0) ?_
        refine AU rfl rfl ?_
        refine Bi rfl rfl (AS rfl rfl (Bi rfl rfl (AS rfl rfl (Bi rfl rfl (AS rfl rfl (AM rfl Bz Bo rfl rfl (by omega) (by omega) ?_))))))
        refine BP rfl BK rfl (fun _ hx=>(C1 hx (by omega))) ?_
        refine Bi rfl rfl (AS rfl rfl (AM rfl Bz Bo rfl rfl (by omega) (by omega) ?_))
        refine BP rfl BK rfl (fun _ hx=>(C1 hx (by omega))) ?_
        refine AM rfl Bz Bo rfl rfl (by omega) (by omega) ?_
        refine Ba ?_
        replace H:=H.drew
        refine BU (j) (fun z => .int .u64 (if z=j then (g) (a) else (g) z)) (.int _ _) rfl Bo rfl rfl rfl H at0 (by omega) (by omega) (by rw [if_pos rfl]; exact congrArg (fun z=>Value.int .u64 ((g) z)) (by omega)) (fun z _ hz=>by rw [if_neg hz]) ?_
        rintro w H
        refine Ab (BW rfl (AU rfl rfl ?_))
        refine AM rfl Bz Bo rfl rfl (by omega) (by omega) ?_
        refine Ba (BU (a) (fun z => .int .u64 (sw (g) (j) (a) z)) (.int _ _) rfl Bo rfl rfl rfl H at0 (by omega) (by omega) (by rw [DH]; exact congrArg (fun z=>Value.int .u64 ((g) z)) (by omega)) (fun z _ hz=>by rw [DA hz]) ?_)
        rintro w H
        refine Ab (BW rfl (BO (Af (Ad rfl rfl (Ae rfl rfl (Ai rfl rfl (Ab (Aa (A8 (Al (Cq (v1:=(.int _ _)) (v2:=(.bool _)) rfl rfl rfl rfl ?_)))))))))))
        exact ⟨j,true,sw g j a,rfl,hS0.step j a ⟨by omega,by omega⟩ ⟨by omega,by omega⟩,by omega,by omega,Oo (by omega) (fun x h1 h2=>hiv.2.2.2.1 x h1 (by omega)) hiv.2.2.2.2,H⟩
       ·intro h5
        replace h5:=AG h5
        have hne:i<j:=by
         rcases Nat.lt_or_ge i j with h | h
         ·exact h
         ·obtain rfl:i=j:=by omega
          exact absurd ⟨Nat.le_refl i,by rcases Int.lt_or_le (g i) (g a) with h7 | h7; exact absurd ⟨Nat.le_refl i,h7⟩ hci; exact h7⟩ hc
        have hgi:g a≤g i:=by rcases Int.lt_or_le (g i) (g a) with h7 | h7; exact absurd ⟨by omega,h7⟩ hci; exact h7
        have hgj:g j<g a:=by rcases Int.lt_or_le (g j) (g a) with h7 | h7; exact h7; exact absurd ⟨by omega,h7⟩ hc
        refine Ao (Aa (CP [([0,1,2,3,4,5,6,7,8,9,10,11,12],13),([14],15)] (fun z=>z.heap[q]? = some (Bl 24 (CH (g) m))) [13,15] B0 (by kernel_rfl) (H.drew.get at0) ?_))
        refine AU rfl rfl ?_
        refine Bi rfl rfl (AS rfl rfl (Bi rfl rfl (AS rfl rfl (Bi rfl rfl (AS rfl rfl (AM rfl Bz Bo rfl rfl (by omega) (by omega) ?_))))))
        refine BP rfl BK rfl (fun _ hx=>(C1 hx (by omega))) ?_
        refine Bi rfl rfl (AS rfl rfl (AM rfl Bz Bo rfl rfl (by omega) (by omega) ?_))
        refine BP rfl BK rfl (fun _ hx=>(C1 hx (by omega))) ?_
        refine AM rfl Bz Bo rfl rfl (by omega) (by omega) ?_
        refine Ba ?_
        replace H:=H.drew
        refine BU (i) (fun z => .int .u64 (if z=i then (g) (j) else (g) z)) (.int _ _) rfl Bo rfl rfl rfl H at0 (by omega) (by omega) (by rw [if_pos rfl]; exact congrArg (fun z=>Value.int .u64 ((g) z)) (by omega)) (fun z _ hz=>by rw [if_neg hz]) ?_
        rintro w H
        refine Ab (BW rfl (AU rfl rfl ?_))
        refine AM rfl Bz Bo rfl rfl (by omega) (by omega) ?_
        refine Ba (BU (j) (fun z => .int .u64 (sw (g) (i) (j) z)) (.int _ _) rfl Bo rfl rfl rfl H at0 (by omega) (by omega) (by rw [DH]; exact congrArg (fun z=>Value.int .u64 ((g) z)) (by omega)) (fun z _ hz=>by rw [DA hz]) ?_)
        rintro w H
        refine Ab (BW rfl (BO (Af (Ad rfl rfl (Ap rfl rfl rfl (by omega) (by omega) ?_)))))
        refine Ae rfl rfl (Ab (Aa (Af (Ad rfl rfl (Be rfl rfl rfl (by omega) (by omega) ?_)))))
        refine Ae rfl rfl (Ab (Aa (An (Au (Bf 11417981541647678414640987641481260342710373376 (α:=Nat × Nat × (Nat→Int)) (fun t=>[(10,.int .i64 (t.1:Int)),(11,.int .i64 (t.2.1:Int))]) (fun t w'=>(a+1≤t.1∧t.1≤t.2.1+1∧t.2.1<b∧(∀ x,a<x→x<t.1→(t.2.2) x<(t.2.2) a)∧∀ y,t.2.1<y→y<b→(t.2.2) a≤(t.2.2) y)∧Sw a b f t.2.2∧Ctx w0 [q] w' [(q,Bl 24 (CH t.2.2 m))]) (fun t=>b - t.1) (i+1,j - 1,sw g i j) rfl ?_ ?_ ?_)))))
        ·exact ⟨rfl,congrArg (Value.int .i64) (by dsimp only; omega),trivial⟩
        ·exact ⟨Oq hiv hne hgi hgj,hS0.step i j ⟨by omega,by omega⟩ ⟨by omega,by omega⟩,H⟩
        ·rintro ⟨i,j,g⟩ j0 w ⟨hi0,hS0,H⟩; dsimp only at hi0 hS0 H; dsimp only
         obtain ⟨i0,hi0e⟩:∃ i0,i0=i:=⟨_,rfl⟩
         obtain ⟨j1,hj1e⟩:∃ j1,j1=j:=⟨_,rfl⟩
         have hi1:i0≤i∧a+1≤i∧i≤j+1∧j<b∧(∀ x,a<x→x<i→(g) x<(g) a)∧∀ y,j<y→y<b→(g) a≤(g) y:=⟨by omega,hi0⟩
         refine Au (An (Au (Bf 41537741042978506913543222282159104 (α:=Nat) (fun i=>[(10,.int .i64 (i:Int))]) (fun i w'=>(i0≤i∧a+1≤i∧i≤j+1∧j<b∧(∀ x,a<x→x<i→(g) x<(g) a)∧∀ y,j<y→y<b→(g) a≤(g) y)∧Ctx w0 [q] w' [(q,Bl 24 (CH (g) m))]) (fun i=>j+1 - i) i rfl ?_ ?_ ?_)))
         ·exact ⟨by rfl,trivial⟩
         ·exact ⟨hi1,H⟩
         ·rintro i jx w ⟨hiv,H⟩
          refine An (El 10383959891769541142360244306837504 (α:=Unit) (fun _=>[(112,.bool (decide (i≤j∧g i<g a)))]) (fun _ w'=>Ctx w0 [q] w' [(q,Bl 24 (CH (g) m))]) rfl ?_ ?_)
          ·skip
           refine EM 12 B0 (by kernel_rfl) rfl rfl ?_
           refine AP rfl rfl (AP rfl rfl (NI rfl rfl rfl (CW rfl rfl (Dg 102 rfl ?_ ?_))))
           ·intro h5
            replace h5:=AF h5
            refine Bx rfl rfl (AP rfl rfl (AY rfl Bz Bo rfl rfl (by omega) (by omega) ?_))
            refine BR rfl BK rfl (by rintro _ rfl; exact ((C1 (H.drew.get at0) (by omega)))) ?_
            refine Bx rfl rfl (AP rfl rfl (AY rfl Bz Bo rfl rfl (by omega) (by omega) ?_))
            refine BR rfl BK rfl (by rintro _ rfl; exact ((C1 (H.drew.get at0) (by omega)))) ?_
            refine BJ ?_
            replace H:=H.drew
            refine Am rfl FA (EL _ _ _) rfl ?_
            rintro v w ⟨rfl,rfl⟩
            simp only [Int.toNat_natCast]
            refine AA rfl rfl (.bool _) rfl (Ab (Aa ?_))
            exact ⟨(),rfl,⟨congrArg Value.bool (by clear hiv; rw [Bool.eq_iff_iff]; simp_all; try omega),trivial⟩,H⟩
           ·intro h6
            replace h6:=AG h6
            refine Ax rfl (Ax rfl (Ax rfl (Ax rfl (Ax rfl (Ax rfl (Ax rfl (Ax rfl (BJ ?_))))))))
            replace H:=H.drew
            refine Ag rfl (A6 rfl rfl (.bool _) rfl (Ab (Aa ?_)))
            exact ⟨(),rfl,⟨congrArg Value.bool (by clear hiv; rw [Bool.eq_iff_iff]; simp_all; try omega),trivial⟩,H⟩
          ·rintro - jy w H
           refine Aq _ rfl ?_ ?_
           ·intro hc
            have hc:=of_decide_eq_true hc
            refine Ao (Aa (Au (Av (Ad rfl rfl (Ap rfl rfl rfl (by omega) (by omega) ?_)))))
            refine Ae rfl rfl (Ab (A5 (Aa ?_)))
            exact ⟨i+1,rfl,⟨congrArg (Value.int .i64) (by omega),trivial⟩,⟨⟨by omega,by omega,by omega,by omega,fun x h1 h2=>(if e:x=i then by rw [e]; exact hc.2 else hiv.2.2.2.2.1 x h1 (by omega)),hiv.2.2.2.2.2⟩,H⟩,by omega⟩
           ·intro hc
            have hc:=of_decide_eq_false hc
            have hci:=hc
            have hi2:j≤j1∧a+1≤i∧i≤j+1∧j<b∧(∀ x,a<x→x<i→(g) x<(g) a)∧∀ y,j<y→y<b→(g) a≤(g) y:=⟨by omega,hiv.2⟩
            have hi3:=hiv.1
            refine Bc (Ak (Ak (AD (Aa (An (Au (Bf 5444476332360147136792965474937657624576 (α:=Nat) (fun j=>[(11,.int .i64 (j:Int))]) (fun j w'=>(j≤j1∧a+1≤i∧i≤j+1∧j<b∧(∀ x,a<x→x<i→(g) x<(g) a)∧∀ y,j<y→y<b→(g) a≤(g) y)∧Ctx w0 [q] w' [(q,Bl 24 (CH (g) m))]) (fun j=>j) j rfl ?_ ?_ ?_)))))))
            ·exact ⟨by rfl,trivial⟩
            ·exact ⟨hi2,H⟩
            ·rintro j jx w ⟨hiv,H⟩
             refine An (El 1361087929308885575232470185756439085056 (α:=Unit) (fun _=>[(129,.bool (decide (i≤j∧g a≤g j)))]) (fun _ w'=>Ctx w0 [q] w' [(q,Bl 24 (CH (g) m))]) rfl ?_ ?_)
             ·skip
              refine EM 12 B0 (by kernel_rfl) rfl rfl ?_
              refine AP rfl rfl (AP rfl rfl (NI rfl rfl rfl (CW rfl rfl (Dg 118 rfl ?_ ?_))))
              ·intro h7
               replace h7:=AF h7
               refine Bx rfl rfl (AP rfl rfl (AY rfl Bz Bo rfl rfl (by omega) (by omega) ?_))
               refine BR rfl BK rfl (by rintro _ rfl; exact ((C1 (H.drew.get at0) (by omega)))) ?_
               refine Bx rfl rfl (AP rfl rfl (AY rfl Bz Bo rfl rfl (by omega) (by omega) ?_))
               refine BR rfl BK rfl (by rintro _ rfl; exact ((C1 (H.drew.get at0) (by omega)))) ?_
               refine BJ ?_
               replace H:=H.drew
               refine Am rfl FA (EL _ _ _) rfl ?_
               rintro v w ⟨rfl,rfl⟩
               simp only [Int.toNat_natCast]
               refine B1 rfl rfl (AA rfl rfl (.bool _) rfl (Ab (Aa ?_)))
               exact ⟨(),rfl,⟨congrArg Value.bool (by clear hiv; rw [Bool.eq_iff_iff]; simp_all; try omega),trivial⟩,H⟩
              ·intro h8
               replace h8:=AG h8
               refine Ax rfl (Ax rfl (Ax rfl (Ax rfl (Ax rfl (Ax rfl (Ax rfl (Ax rfl (BJ ?_))))))))
               replace H:=H.drew
               refine Ag rfl (Ag rfl (A6 rfl rfl (.bool _) rfl (Ab (Aa ?_))))
               exact ⟨(),rfl,⟨congrArg Value.bool (by clear hiv; rw [Bool.eq_iff_iff]; simp_all; try omega),trivial⟩,H⟩
             ·rintro - jy w H
              refine Aq _ rfl ?_ ?_
              ·intro hc
               have hc:=of_decide_eq_true hc
               refine Ao (Aa (Au (Av (Ad rfl rfl (Be rfl rfl rfl (by omega) (by omega) ?_)))))
               refine Ae rfl rfl (Ab (A5 (Aa ?_)))
               exact ⟨j - 1,rfl,⟨congrArg (Value.int .i64) (by omega),trivial⟩,⟨⟨by omega,by omega,by omega,by omega,hiv.2.2.2.2.1,fun y h1 h2=>(if e:y=j then by rw [e]; exact hc.2 else hiv.2.2.2.2.2 y (by omega) h2)⟩,H⟩,by omega⟩
              ·intro hc
               have hc:=of_decide_eq_false hc
               have hci:¬ (i≤j∧g i<g a):=fun h=>hci ⟨by omega,h.2⟩
               replace hiv:=hiv.2
               refine Bc (Ak (Ak (AD (Aa (An (Af (Ad rfl rfl (Ad rfl rfl (Ck rfl rfl rfl (Ab (Aa (Aq _ rfl ?_ ?_))))))))))))
               ·intro h5
                replace h5:=AF h5
                have hji:j+1=i:=by omega
                refine Bc (Ak (EX rfl (Ak (AD (Aa (CP [([0,1,2,3,4,5,6,7,8,9,10,11,12],13),([14],15)] (fun z=>z.heap[q]? = some (Bl 24 (CH (g) m))) [13,15] B0 (by kernel_rfl) (H.drew.get at0) ?_))))))
                refine AU rfl rfl ?_
                refine Bi rfl rfl (AS rfl rfl (Bi rfl rfl (AS rfl rfl (Bi rfl rfl (AS rfl rfl (AM rfl Bz Bo rfl rfl (by omega) (by omega) ?_))))))
                refine BP rfl BK rfl (fun _ hx=>(C1 hx (by omega))) ?_
                refine Bi rfl rfl (AS rfl rfl (AM rfl Bz Bo rfl rfl (by omega) (by omega) ?_))
                refine BP rfl BK rfl (fun _ hx=>(C1 hx (by omega))) ?_
                refine AM rfl Bz Bo rfl rfl (by omega) (by omega) ?_
                refine Ba ?_
                replace H:=H.drew
                refine BU (j) (fun z => .int .u64 (if z=j then (g) (a) else (g) z)) (.int _ _) rfl Bo rfl rfl rfl H at0 (by omega) (by omega) (by rw [if_pos rfl]; exact congrArg (fun z=>Value.int .u64 ((g) z)) (by omega)) (fun z _ hz=>by rw [if_neg hz]) ?_
                rintro w H
                refine Ab (BW rfl (AU rfl rfl ?_))
                refine AM rfl Bz Bo rfl rfl (by omega) (by omega) ?_
                refine Ba (BU (a) (fun z => .int .u64 (sw (g) (j) (a) z)) (.int _ _) rfl Bo rfl rfl rfl H at0 (by omega) (by omega) (by rw [DH]; exact congrArg (fun z=>Value.int .u64 ((g) z)) (by omega)) (fun z _ hz=>by rw [DA hz]) ?_)
                rintro w H
                refine Ab (BW rfl (BO (Af (Ad rfl rfl (Ae rfl rfl (Ai rfl rfl (Ab (Aa (A8 (Cq (v1:=(.int _ _)) (v2:=(.bool _)) rfl rfl rfl rfl ?_))))))))))
                exact ⟨j,false,sw g j a,rfl,hS0.step j a ⟨by omega,by omega⟩ ⟨by omega,by omega⟩,by omega,by omega,Oo (by omega) (fun x h1 h2=>hiv.2.2.2.1 x h1 (by omega)) hiv.2.2.2.2,H⟩
               ·intro h5
                replace h5:=AG h5
                have hne:i<j:=by
                 rcases Nat.lt_or_ge i j with h | h
                 ·exact h
                 ·obtain rfl:i=j:=by omega
                  exact absurd ⟨Nat.le_refl i,by rcases Int.lt_or_le (g i) (g a) with h7 | h7; exact absurd ⟨Nat.le_refl i,h7⟩ hci; exact h7⟩ hc
                refine Ao (Aa (CP [([0,1,2,3,4,5,6,7,8,9,10,11,12],13),([14],15)] (fun z=>z.heap[q]? = some (Bl 24 (CH (g) m))) [13,15] B0 (by kernel_rfl) (H.drew.get at0) ?_))
                refine AU rfl rfl ?_
                refine Bi rfl rfl (AS rfl rfl (Bi rfl rfl (AS rfl rfl (Bi rfl rfl (AS rfl rfl (AM rfl Bz Bo rfl rfl (by omega) (by omega) ?_))))))
                refine BP rfl BK rfl (fun _ hx=>(C1 hx (by omega))) ?_
                refine Bi rfl rfl (AS rfl rfl (AM rfl Bz Bo rfl rfl (by omega) (by omega) ?_))
                refine BP rfl BK rfl (fun _ hx=>(C1 hx (by omega))) ?_
                refine AM rfl Bz Bo rfl rfl (by omega) (by omega) ?_
                refine Ba ?_
                replace H:=H.drew
                refine BU (i) (fun z => .int .u64 (if z=i then (g) (j) else (g) z)) (.int _ _) rfl Bo rfl rfl rfl H at0 (by omega) (by omega) (by rw [if_pos rfl]; exact congrArg (fun z=>Value.int .u64 ((g) z)) (by omega)) (fun z _ hz=>by rw [if_neg hz]) ?_
                rintro w H
                refine Ab (BW rfl (AU rfl rfl ?_))
                refine AM rfl Bz Bo rfl rfl (by omega) (by omega) ?_
                refine Ba (BU (j) (fun z => .int .u64 (sw (g) (i) (j) z)) (.int _ _) rfl Bo rfl rfl rfl H at0 (by omega) (by omega) (by rw [DH]; exact congrArg (fun z=>Value.int .u64 ((g) z)) (by omega)) (fun z _ hz=>by rw [DA hz]) ?_)
                rintro w H
                refine Ab (BW rfl (BO (Af (Ad rfl rfl (Ap rfl rfl rfl (by omega) (by omega) ?_)))))
                refine Ae rfl rfl (Ab (Aa (Av (Ad rfl rfl (Be rfl rfl rfl (by omega) (by omega) ?_)))))
                refine Ae rfl rfl (Ab (A5 (Aa ?_)))
                have hgi:g a≤g i:=by rcases Int.lt_or_le (g i) (g a) with h7 | h7; exact absurd ⟨by omega,h7⟩ hci; exact h7
                have hgj:g j<g a:=by rcases Int.lt_or_le (g j) (g a) with h7 | h7; exact h7; exact absurd ⟨by omega,h7⟩ hc
                exact ⟨(i+1,j - 1,sw g i j),rfl,⟨rfl,congrArg (Value.int .i64) (by dsimp only; omega),trivial⟩,⟨Oq hiv hne hgi hgj,hS0.step i j ⟨by omega,by omega⟩ ⟨by omega,by omega⟩,H⟩,by dsimp only; omega⟩
end

end Go.Proofs.YtapphbmlkdhnmaaGreat
