/- Part 7 of the proof. -/
import Derived.Test.YtdagmpmdcgedcaaGreatPart2
import Derived.Test.YtdagmpmdcgedcaaGreatPart6
import Derived.Test.YtdagmpmdcgedcaaGreatPart4
import Derived.Test.YtdagmpmdcgedcaaGreatPart3
namespace Go.Proofs.YtdagmpmdcgedcaaGreat
open Go.GV
attribute [local irreducible] AB W Wq Wt
set_option maxRecDepth 20000 in
set_option maxHeartbeats 8000000 in
theorem Aea {w:World} {bs bf bp bo:Nat} {N:Nat} {ae:Option Addr} {ce:Nat} {kk:Int} {es:List Ed} {x p ov:Nat→Int} {full:List Value} (H0:Ctx w ((SL bs bf bp bo N ae es.length ce kk x p ov full).map (·.1)) w (SL bs bf bp bo N ae es.length ce kk x p ov full)) (O:OS ae es.length ce 4 full (es.flatMap CI))
  (hr:Cw (N:Int) es=true) (hF:Fine (grE (N:Int) es) (Cr es) x p) (hov:∀ v,v<N→ov v=BC (grE (N:Int) es) x v) (hpb:∀ v,v<N → -1073741824≤p v∧p v≤1073741824)
  (hxn:flE (tab x es.length)=x) (hpn:ES (tab p N)=p) :
  Ret Tryz.prog 212 #[ptr bs] w fun v w'=>∃ (b:Bool) (x' p' ov':Nat→Int) (kk':Int),v = .bool b∧Ctx w ((SL bs bf bp bo N ae es.length ce kk x p ov full).map (·.1)) w' (SL bs bf bp bo N ae es.length ce kk' x' p' ov' full)∧Fine (grE (N:Int) es) (Cr es) x' p'∧(∀ v,v<N→ov' v=BC (grE (N:Int) es) x' v)∧(∀ v,v<N → -1073741824≤p' v∧p' v≤1073741824) ∧
   (b=false→∀ v,v<N→BC (grE (N:Int) es) x' v≤0)∧(b=true→Hx (grE (N:Int) es) x'+1≤Hx (grE (N:Int) es) x):=by
 obtain ⟨w0,rfl⟩:∃ w0,w0=w:=⟨_,rfl⟩;obtain ⟨ids,hids⟩:∃ ids,ids=(SL bs bf bp bo N ae es.length ce kk x p ov full).map (·.1):=⟨_,rfl⟩;rw [← hids] at H0 ⊢;have H:=H0;obtain ⟨hN1,hN40,hn200,hall,-⟩:=CD hr;have hI:I64 (N:Int):=by unfold I64; omega
 have hw:=Nr hr hF;have hpot:=Ad8 hpb;have hfit:Ij (N:Int) es (tab x es.length) (tab p N)=true:=Sb hw hpot (by rw [hxn,hpn]; exact hF);obtain ⟨hsrc,hsnd,hsm⟩:=Ajq (ov:=ov) (N:=N);have hRe:∀ {z:World},(∀ y∈ent ae 59 full,z.heap[y.1]? = some y.2)→Rd z ae 4 CI es:=fun h=>O.rd h (fun _ _=>rfl) (by decide);obtain ⟨g,hg⟩:∃ g,g=grE (N:Int) es:=⟨_,rfl⟩;have hgE:g.E=es.length:=by rw [hg]; rfl
 have hgN:g.N=N:=by rw [hg]; rfl
 have hgo:g.Ok:=by rw [hg]; exact Kg hr
 have hxb:=hF.in';rw [← hg] at hF hov hxb ⊢;rw [hgE] at hxb;have hcb:=NI hr
 have hovb:∀ v,v<N → -900719925474099200≤ov v∧ov v≤900719925474099200:=fun v hv=>by
  rw [hov v hv];exact Wi (fun i hi=>by have h1:=hxb i (by omega); have h2:=hcb i (by omega); omega) v
 refine He (fn:=Tryz.f212) Tryz.func212 U [.pointer (some ⟨bs,0,none⟩)] U (by kernel_rfl) ?_;refine Af (Bv _ (.pointer _) U U H ?_);rintro b1 w - H;refine Ai U (Ab (Aa (Af (AM EB U H at0 U (Al Aii (Va (H.get at1) (H.get (k:=4) U)) U ?_)))));rintro v w ⟨⟨fr,fn,fc,ff,rfl,Of,hbf⟩,hx14⟩;have hfn:=Of.num;subst hfn;have Rs:Rd w fr 1 I1 ((HW ov N).map fun v:Nat=>(v:Int)):=Rd.map (Of.rd1 (f:=iN) fun y hy=>(hbf y hy).1);replace H:=H.call hx14;refine A1 U (Ab (Aa (Aq (Af (A3 U (Bi Fu U (Cf U U (Ab (Aa (Ap _ U ?_ ?_))))))))))
 ·intro h1;replace h1:=AJ h1;refine Af (Ai U (Ab (Aa (A4 (Ao (L9 (v:=(.bool _)) U U ?_))))));have hp0:HW ov N=[]:=List.eq_nil_of_length_eq_zero (by omega);have H2:=H.tail;refine ⟨false,x,p,ov,kk,rfl,H2,hF,hov,hpb,fun _ v hv=>?_,fun h=>by cases h⟩;rw [← hov v hv]
  rcases Int.lt_or_le 0 (ov v) with h | h
  ·have:=(hsm v).2 ⟨hv,h⟩;rw [hp0] at this; cases this
  ·exact h
 ·intro h1;replace h1:=AK h1;have hs0:0<(HW ov N).length:=by omega
  refine Au (Aa (Cq [([0,1,2,3,4,5,6,7,8,9,10,11,12],13),([14,15,16,17,18,19],20)] (fun z=>z.heap[b1]? = some (Bl 252 [ptr bs])∧z.heap[bs]? = some (Bl 254 (SC N ae es.length ce bf bp bo kk))) [] Bs (by kernel_rfl) (⟨H.drew.get at0,H.drew.get at1⟩) ?_));refine AF U U ?_;refine B0 EB U (fun _ hx=>(by rw [Aj hx.1]; rfl)) ?_;refine Bd U (An U G7 U (G5 _ Df CL U U (fun _ hx=>(IR hx.2)) ?_));refine B0 EB U (fun _ hx=>(by rw [Aj hx.1]; rfl)) ?_;refine Bd U (An U EI U (B0 Cg U (fun _ hx=>(by rw [Aj hx.2]; rfl)) ?_));refine B0 EB U (fun _ hx=>(by rw [Aj hx.1]; rfl)) ?_;refine Bd U (An U EJ U (B0 Cg U (fun _ hx=>(by rw [Aj hx.2]; rfl)) ?_));refine B2 U (AP ?_);replace H:=H.drew
  refine Al Aij (Ad7 (N:Int) ae (some ⟨bf,0,none⟩) (some ⟨bp,0,none⟩) fr es.length ce es.length es.length N N fc es (tab x es.length) (tab p N) (HW ov N) _ (hRe fun y hy=>H.blk y (List.mem_append_right [_,_,_,_,_] hy)) U hI (Cx (H.get at2)) (CV _ _) (Cx (H.get at3)) (CV _ _) (Rs.ext0 (Ext.drew [] _)) hfit hsrc hsnd hs0) U ?_;rintro rv w ⟨od,ob,s,by',hrv,DN,BY,hby,H3⟩;rw [Int.toNat_natCast] at hrv DN H3;subst hrv;replace H:=Ctx.back (L1:=[]) (L2:=_::_::_::_::_::_) H H3;refine Ab (BR (⟨H.get at2,H.get at3⟩) (AF U U ?_));refine DA U (Bu U U (Bu U U (Bu U U (DB U (DB U (AP (Ad U (Ab (BR (⟨H.get at2,H.get at3⟩) (BH ?_))))))))));refine Aq (Af (Ae U (C9 U U (Ab (Aa (Ap _ U ?_ ?_))))))
  ·intro h2;replace h2:=CR h2;exact absurd h2 (by decide)
  ·intro h2;replace h2:=CS h2;have hlow:=DN.J.low;have hds:∀ v,v∈HW ov N→s.d v=0∧s.h v=0:=fun v hv=>(DN.J.src' v hv).2;rw [← hg,hxn,hpn] at DN BY;rw [← hgN] at DN;refine Au (Aa (Af (AM EB U H at2 U (A3 U (Al Aik (Vb (H.get at3) (H.get at6) (H.get at0)) U ?_)))));rintro rv w ⟨⟨to,rfl,hto⟩,rfl⟩;refine Ad U (Ab (Aa (Aq (Af (Ae U (Bj U U (Ab (Aa (Ap _ U ?_ ?_)))))))))
   ·intro h3;replace h3:=AJ h3;exfalso
    rcases hto with ⟨h,h7⟩ | ⟨tv,_,h,-,-⟩
    ·obtain ⟨v0,hv0⟩:=A8 (h:=hs0);have hm:=List.mem_of_getElem? hv0;have h8:=(hsm v0).1 hm;obtain ⟨z,hz1,hz2,hz3⟩:=reach hgo hF DN (v:=v0) (by omega) (by rw [(hds v0 hm).1]; omega) (by rw [← hov v0 h8.1]; exact h8.2);rw [hgN] at hz1;exact h7 z hz1 ⟨by rw [hov z hz1]; exact hz3,(hlow z).resolve_left hz2⟩
    ·omega
   ·intro h3;replace h3:=AK h3
    obtain ⟨tv,htv,rfl,hov0,hd0⟩:∃ tv:Nat,tv<N∧to=tv∧ov tv<0∧0≤s.d tv:=by
     rcases hto with ⟨h,_⟩ | h
     ·omega
     ·exact h
    have hdt:s.d tv ≠ -1:=by omega
    have hovt:=hovb tv htv;have hgot:(tab ov N)[tv]? = some (ov tv):=BT htv;refine Au (Aa (DC 4494803534349056 (α:=Nat × Nat) (fun z=>[(8,ptr z.1),(9,ptr z.2)]) (fun z w'=>Ctx w0 ids w' ((z.1,Bl 3 [.int .i64 (tv:Int)])::(z.2,Bl 2 [.int .i64 (-ov tv)])::(od,Bl 2 (BS s.d N))::(ob,Bl 3 (BS by' N))::(b1,Bl 252 [ptr bs])::SL bs bf bp bo N ae es.length ce kk x p ov full)) U ?_ ?_))
    ·skip
     refine NW (.two [0,1,2,3,4,5,6,7,8] 9 (.one [] 10 (.one [] 11 (.one [] 12 .stop))) 10 (.one [] 9 (.one [] 11 (.one [] 12 .stop)))) (fun z=>z.heap[b1]? = some (Bl 252 [ptr bs])∧z.heap[bs]? = some (Bl 254 (SC N ae es.length ce bf bp bo kk))∧z.heap[bo]? = some (Bl 2 (BS ov N))) Bs (by kernel_rfl) (⟨H.drew.get at2,H.drew.get at3,H.drew.get at6⟩) ?_;refine It U U U ?_;refine Be U (B0 EB U (fun _ hx=>(by rw [Aj hx.1]; rfl)) ?_);refine Bd U (An U G8 U (B0 Cg U (fun _ hx=>(by rw [Aj hx.2.1]; rfl)) ?_));refine Be U (AH Bg B6 U U ?_);refine B0 Bw U (fun _ hx=>((Cx hx.2.2).fld hgot rfl (j:=0) rfl)) ?_;refine WV U U ?_;refine AP ?_;replace H:=H.drew;refine ⟨?_,?_⟩
     ·skip
      refine AX US H ?_;rintro b8 w - H;refine Ab (BP (⟨H.get at3,H.get at4,H.get at7⟩) (BO U U ?_));refine AP (AX EK H ?_);rintro b9 w - H;refine Ab (BP (⟨H.get at4,H.get at5,H.get at8⟩) (BO U U ?_));refine AP (Cp (.int _ _) FY U U U H at1 (by decide) ?_);rintro w H;refine Ab (BP (⟨H.get at4,H.get at5,H.get at8⟩) (BO U U ?_));refine AP (Cp (.int _ _) B6 U U U H at0 (by decide) ?_);rintro w H;refine Ab (BP (⟨H.get at4,H.get at5,H.get at8⟩) (DT ?_));refine Aa ?_;exact ⟨(b8,b9),rfl,⟨rfl,rfl,trivial⟩,H.perm (List.Perm.swap ..)⟩
     ·skip
      refine AX EK H ?_;rintro b9 w - H;refine Ab (BP (⟨H.get at3,H.get at4,H.get at7⟩) (BO U U ?_));refine AP (AX US H ?_);rintro b8 w - H;refine Ab (BP (⟨H.get at4,H.get at5,H.get at8⟩) (BO U U ?_));refine AP (Cp (.int _ _) FY U U U H at0 (by decide) ?_);rintro w H;refine Ab (BP (⟨H.get at4,H.get at5,H.get at8⟩) (BO U U ?_));refine AP (Cp (.int _ _) B6 U U U H at1 (by decide) ?_);rintro w H;refine Ab (BP (⟨H.get at4,H.get at5,H.get at8⟩) (DT ?_));refine Aa ?_;exact ⟨(b8,b9),rfl,⟨rfl,rfl,trivial⟩,H⟩
    ·rintro ⟨b8,b9⟩ j w H; dsimp only at H; dsimp only;obtain ⟨path,hpath⟩:∃ path,path=Ea (byO by') g (s.h tv) tv:=⟨_,rfl⟩;have BY':Bys g (Cr es) x p s (byO by'):=BY;obtain ⟨q1,q2,q3,q4⟩:=K5 BY' hdt rfl;have hpe:=OV BY' hdt rfl;have hwp:=Q0 BY' hdt rfl;rw [← hpath] at q1 hpe hwp;have hsd0:=fun v=>DN.J.dist (by omega) (by omega) v;refine Aq (Af (AM EB U H at4 U (A3 U (Ae U ?_))));have hlt:=Ctx.ltI H;have hwb0:=H.size;refine Al YV (Tz _ _ (some ⟨ob,0,none⟩) N N bs (tv:Int) _ U U) U ?_;rintro rv w ⟨b3,b4,b5,rfl,hb3,hb4,hb5,s3,s4,s5,n53,n54,hx55⟩;replace H:=H.call hx55;refine Ab (Aa (A0 ?_));obtain ⟨ws,rfl⟩:∃ z,z=w:=⟨_,rfl⟩;have l3:=Ba hb3;have l4:=Ba hb4;have l5:=Ba hb5;have hwsz:=H.size;have h05:w0.heap.size≤b5:=Nat.le_trans hwb0 s5;have n8:=hlt b8 (List.mem_cons_self ..);have n9:=hlt b9 (List.mem_cons_of_mem _ (List.mem_cons_self ..))
     refine SX (gf:=271) U Zb (T5 (b3:=b3) (b4:=b4) (b5:=b5) (bs:=bs) (ob:=ob) (N:=N) (ae:=ae) (ce:=ce) (bf:=bf) (bp:=bp) (bo:=bo) (kk:=kk) (es:=es) (by':=by') (x:=x) (p:=p) (s:=s) hw (by rw [← hg]; exact BY') hby htv hdt U) (by kernel_rfl) (by kernel_rfl) (fun v hv=>by obtain ⟨p,-,rfl⟩:=List.mem_map.1 hv; rfl)
      (fun i M w'=>(M=fun y=>y=b8∨y=b9)∧(∃ mo:Int,Ctx w0 ids w' ((b8,Bl 3 [.int .i64 ((T6 g tv (path.take i):Nat):Int)])::(b9,Bl 2 [.int .i64 (mo)])::(od,Bl 2 (BS s.d N))::(ob,Bl 3 (BS by' N))::(b1,Bl 252 [ptr bs])::SL bs bf bp bo N ae es.length ce kk (x) (p) (ov) full)∧0<mo∧mo ≤ -ov tv∧∀ a∈path.take i,mo≤CC (Cr es) x a)∧w'.heap[b3]? = some (Bl 252 [ptr bs])∧w'.heap[b4]? = some (Bl 94 [.slice (some ⟨ob,0,none⟩) N N]))
      (fun _=>False) (by simp only [List.mem_singleton]; omega) (fun w2 hx2=>hx2.to hb5 (by simp))
      (fun w2 hx2 _=>⟨_,rfl,⟨-ov tv,H.call hx2,by omega,Int.le_refl _,fun a ha=>by cases ha⟩,hx2.to hb3 (by simp),hx2.to hb4 (by simp)⟩)
      (fun i M w' w'' hJ hx=>?_) (fun _ _ h _=>h) (fun i M w' hJ=>?_) ?_ ?_ (fun _ h _=>h.elim)
     ·obtain ⟨hM,⟨mo,HJ,m1,m2,m3⟩,g3,g4⟩:=hJ;refine ⟨hM,⟨mo,HJ.step hx (fun y hy=>?_) (fun z hz => .inr ?_),m1,m2,m3⟩,hx.to g3 ?_,hx.to g4 ?_⟩
      ·have h7:=List.mem_map_of_mem (f:=(·.1)) hy;have:=hlt y.1 h7;simp only [List.mem_cons,List.not_mem_nil,or_false]; omega
      ·simp only [List.mem_cons,List.not_mem_nil,or_false] at hz; omega
      ·simp only [List.mem_cons,List.not_mem_nil,or_false]; omega
      ·simp only [List.mem_cons,List.not_mem_nil,or_false]; omega
     ·obtain ⟨hM,⟨mo,HJ,m1,m2,m3⟩,g3,g4⟩:=hJ;refine ⟨fun y hy=>?_,g4,g3,HJ.get at5,HJ.get at3,hRe fun y hy=>HJ.blk y (List.mem_append_right [_,_,_,_,_,_,_,_,_] hy),?_⟩
      ·rw [hM] at hy
       rcases hy with rfl | rfl
       ·exact ⟨Ba (HJ.get at0),by omega,by omega⟩
       ·exact ⟨Ba (HJ.get at1),by omega,by omega⟩
      ·rw [hM]; dsimp only; omega
     ·rintro i v _ w hxv ⟨rfl,⟨mo,HJ,m1,m2,m3⟩,g3,g4⟩ hsz;rw [← hg,← hpath,List.getElem?_map] at hxv;obtain ⟨a,ha,rfl⟩:=Option.map_eq_some_iff.1 hxv;obtain ⟨hWa,-⟩:=q1 a (List.mem_of_getElem? ha);have hWlt:=hWa.lt;obtain ⟨-,hR,-⟩:=Pe hw (k:=a) (by omega);obtain ⟨w1,rfl⟩:∃ z,z=w:=⟨_,rfl⟩;refine Af (Ad U (Ab (Aa (Az (Ad U (Ab ?_))))));refine ⟨Ext.refl _ _,fun wB hxB=>?_⟩;have HB:=HJ.step hxB (fun y hy=>by have h7:=List.mem_map_of_mem (f:=(·.1)) hy; have:=hlt y.1 h7; rw [List.mem_singleton]; omega) (fun z hz => .inr (by rw [List.mem_singleton.1 hz]; omega));have e3:=hxB.to g3 (by rw [List.mem_singleton]; omega);have e4:=hxB.to g4 (by rw [List.mem_singleton]; omega);have k1:=HB.get at4;have ks:=HB.get at5;have kf:=HB.get at6;have hn1:=G0 (L:=[_,_]) HB.nd (x:=(b1,_)) (List.mem_of_getElem? (i:=2) rfl);have hns:=G0 (L:=[_,_]) HB.nd (x:=(bs,_)) (List.mem_of_getElem? (i:=3) rfl)
      have hnf:=G0 (L:=[_,_]) HB.nd (x:=(bf,_)) (List.mem_of_getElem? (i:=4) rfl);have hke:∀ y∈ent ae 59 full,wB.heap[y.1]? = some y.2∧y.1∉[b8,b9]:=fun y hy=>⟨HB.blk y (List.mem_append_right [_,_,_,_,_,_,_,_,_] hy),G0 (L:=[_,_]) HB.nd (List.mem_append_right [_,_,_,_,_,_,_] hy)⟩;obtain ⟨w2,rfl⟩:∃ z,z=wB:=⟨_,rfl⟩;have H:=Ctx.lend (L1:=[_,_]) (L2:=_::_::_::_::_::_::_::_) HB;refine A0 (ER [([0,1,2,3,4,5,6,7,8,9,10],11),([12],13),([],14)] (fun z=>z.heap[b9]? = some (Bl 2 [.int .i64 mo])∧z.heap[b1]? = some (Bl 252 [ptr bs])∧z.heap[bs]? = some (Bl 254 (SC N ae es.length ce bf bp bo kk))) [14] Bs (by kernel_rfl) (⟨H.drew.get at1,H.drew.ext.to k1 hn1,H.drew.ext.to ks hns⟩) ?_);refine AF U U ?_;refine Be U (B0 Bw U (fun _ hx=>(by rw [Aj hx.1]; rfl)) ?_);refine B0 EB U (fun _ hx=>(by rw [Aj hx.2.1]; rfl)) ?_;refine Bd U (An U G7 U (G5 _ Df CL U U (fun _ hx=>(IR hx.2.2)) ?_))
      refine B0 EB U (fun _ hx=>(by rw [Aj hx.2.1]; rfl)) ?_;refine Bd U (An U EI U (B0 Cg U (fun _ hx=>(by rw [Aj hx.2.2]; rfl)) ?_));refine Be U (AP ?_);replace H:=H.drew;refine Al UL (RV (N:Int) ae (some ⟨bf,0,none⟩) es.length ce es.length es.length es (tab x es.length) _ (hRe fun y hy=>H.ext.to (hke y hy).1 (hke y hy).2) U hI (Cx (H.ext.to kf hnf)) (CV _ _) (a:Int)) U ?_;rintro v w ⟨rfl,hx69⟩;replace H:=H.call hx69;rw [hR];refine Ab (BR (⟨H.get at1,H.ext.to k1 hn1,H.ext.to ks hns⟩) (AF U U ?_));refine Y0 U U U ?_;refine AP (Cp (.int _ _) FY U U U H at0 (by (simp; done)) ?_);rintro w H;refine Ab (BR (⟨H.get at1,H.ext.to k1 hn1,H.ext.to ks hns⟩) (AF U U ?_));refine AP (Cp (.int _ _) B6 U U U H at1 (by (simp; done)) ?_);rintro w H;refine Ab (Bz U (BH (A5 ?_)));have hrm:=hWa.room;have HH:=Ctx.back (L1:=[_,_]) (L2:=_::_::_::_::_::_::_::_) HB H
      refine ⟨_,⟨rfl,⟨min mo (CC (Cr es) x a),by rw [Xy ha]; exact HH,by omega,by omega,fun a' ha'=>?_⟩,H.ext.to e3 (by simp only [List.map_cons,List.map_nil,List.mem_cons,List.not_mem_nil,or_false]; omega),H.ext.to e4 (by simp only [List.map_cons,List.map_nil,List.mem_cons,List.not_mem_nil,or_false]; omega)⟩,fun x hx => .inl hx,_,H.ext,fun x hx => .inl (by simpa using hx)⟩;rw [Fj ha] at ha'
      rcases List.mem_append.1 ha' with h | h
      ·have:=m3 a' h; omega
      ·rw [List.mem_singleton.1 h]; omega
     ·rintro M w ⟨-,⟨mo,HJ,m1,m2,m3⟩,-,-⟩ hD;have hxl:(List.map (ZT (grE (N:Int) es)) (Ea (byO by') (grE (N:Int) es) (s.h tv) tv)).length=path.length:=by rw [List.length_map,← hg,← hpath]
      rw [hxl,List.take_length] at HJ m3;obtain ⟨f0,hf0⟩:∃ f0,f0=T6 g tv path:=⟨_,rfl⟩;rw [← hf0] at HJ hwp;rw [← hwp] at q3 q4;have hf0s:=(hsm f0).1 (by have h7:=DN.J.zero f0 q3 q4; rw [hgN] at h7; exact h7);have hovf:=hovb f0 hf0s.1;have hgof:(tab ov N)[f0]? = some (ov f0):=BT hf0s.1;have H:=HJ.add hD (.inr hwsz) (fun y hy e=>by have h7:=List.mem_map_of_mem (f:=(·.1)) hy; have:=hlt y.1 h7; omega);refine A5 (Aa (Eb 9 Bs (by kernel_rfl) U U ?_));refine Cn Bw U (by rintro _ rfl; exact H.drew) at2 U ?_;refine Cn EB U (by rintro _ rfl; exact H.drew) at5 U ?_;refine Bb U (A7 G8 U (Cn Cg U (by rintro _ rfl; exact H.drew) at6 U ?_));refine Cn Ca U (by rintro _ rfl; exact H.drew) at1 U ?_;refine Bf Bg B6 U U ?_;refine BX Bw U (by rintro _ rfl; exact (((Cx (H.drew.get at9)).fld hgof rfl (j:=0) rfl))) ?_;refine Agh U U U ?_;refine BW ?_;replace H:=H.drew
      refine Cp (.int _ _) B6 U U U H at2 (by (simp; done)) ?_;rintro w H;refine Ab (Aa (Aq ?_));obtain ⟨mm,hmm⟩:∃ mm,mm=min mo (ov f0):=⟨_,rfl⟩;rw [← hmm] at H;have hmm0:0<mm∧mm≤ov f0∧mm ≤ -ov tv:=by omega
      refine Af (AM EB U H at5 U (A3 U (Ae U ?_)));have hlt2:=Ctx.ltI H;have hwb2:=H.size;refine Al YV (Tz _ _ (some ⟨ob,0,none⟩) N N bs (tv:Int) _ U U) U ?_;rintro rv w ⟨c3,c4,c5,rfl,hc3,hc4,hc5,t3,t4,t5,nc53,nc54,hx83⟩;replace H:=H.call hx83;refine Ab (Aa (A0 ?_));obtain ⟨wt,rfl⟩:∃ z,z=w:=⟨_,rfl⟩;have j3:=Ba hc3;have j4:=Ba hc4;have j5:=Ba hc5;have hwtz:=H.size;have nbf:=hlt2 bf (List.mem_of_getElem? (i:=7) rfl)
      refine SX (gf:=271) U Zb (T5 (b3:=c3) (b4:=c4) (b5:=c5) (bs:=bs) (ob:=ob) (N:=N) (ae:=ae) (ce:=ce) (bf:=bf) (bp:=bp) (bo:=bo) (kk:=kk) (es:=es) (by':=by') (x:=x) (p:=p) (s:=s) hw (by rw [← hg]; exact BY') hby htv hdt U) (by kernel_rfl) (by kernel_rfl) (fun v hv=>by obtain ⟨p,-,rfl⟩:=List.mem_map.1 hv; rfl)
       (fun i M w'=>(M=fun y=>y=bf)∧Ctx w0 ids w' ((ws.heap.size,.deferred (some []))::((b8,Bl 3 [.int .i64 (f0:Int)])::(b9,Bl 2 [.int .i64 (mm)])::(od,Bl 2 (BS s.d N))::(ob,Bl 3 (BS by' N))::(b1,Bl 252 [ptr bs])::SL bs bf bp bo N ae es.length ce kk (F6 mm x (path.take i)) (p) (ov) full))∧w'.heap[c3]? = some (Bl 252 [ptr bs])∧w'.heap[c4]? = some (Bl 94 [.slice (some ⟨ob,0,none⟩) N N]))
       (fun _=>False) (by simp only [List.mem_singleton]; omega) (fun w2 hx2=>hx2.to hc5 (by simp))
       (fun w2 hx2 _=>⟨_,rfl,H.call hx2,hx2.to hc3 (by simp),hx2.to hc4 (by simp)⟩)
       (fun i M w' w'' hJ hx=>?_) (fun _ _ h _=>h) (fun i M w' hJ=>?_) ?_ ?_ (fun _ h _=>h.elim)
      ·obtain ⟨hM,HJ,g3,g4⟩:=hJ;refine ⟨hM,HJ.step hx (fun y hy=>?_) (fun z hz => .inr ?_),hx.to g3 ?_,hx.to g4 ?_⟩
       ·have h7:=List.mem_map_of_mem (f:=(·.1)) hy;have:=hlt2 y.1 h7;simp only [List.mem_cons,List.not_mem_nil,or_false]; omega
       ·simp only [List.mem_cons,List.not_mem_nil,or_false] at hz; omega
       ·simp only [List.mem_cons,List.not_mem_nil,or_false]; omega
       ·simp only [List.mem_cons,List.not_mem_nil,or_false]; omega
      ·obtain ⟨hM,HJ,g3,g4⟩:=hJ;refine ⟨fun y hy=>?_,g4,g3,HJ.get at6,HJ.get at4,hRe fun y hy=>HJ.blk y (List.mem_append_right [_,_,_,_,_,_,_,_,_,_] hy),?_⟩
       ·rw [hM] at hy;rw [hy];exact ⟨Ba (HJ.get at7),by omega,by omega⟩
       ·rw [hM]; dsimp only; omega
      ·rintro i v _ w hxv ⟨rfl,HJ,g3,g4⟩ hsz;rw [← hg,← hpath,List.getElem?_map] at hxv;obtain ⟨a,ha,rfl⟩:=Option.map_eq_some_iff.1 hxv;have ham:=List.mem_of_getElem? ha;obtain ⟨hWa,-⟩:=q1 a ham;have hWlt:=hWa.lt;have hai:a / 2<es.length:=by omega
       have hm4:=m3 a ham;have hcb2:=hcb (a / 2) hai;have hxb2:=hxb (a / 2) hai;have hxa:F6 mm x (path.take i) (a / 2)=x (a / 2):=Jq fun b hb=>X0 hpe ha b hb;have hgxa:(tab (F6 mm x (path.take i)) es.length)[a / 2]? = some (x (a / 2)):=by rw [BT hai,hxa]
       have hsuc:∀ z,F6 mm x (path.take (i+1)) z=if z=a / 2 then (if a % 2=0 then x (a / 2)+mm else x (a / 2) - mm) else F6 mm x (path.take i) z:=fun z=>by
        rw [Xz ha];unfold IK
        by_cases e:z=a / 2
        ·rw [if_pos e,if_pos e,e,hxa]
        ·rw [if_neg e,if_neg e]
       have ha9:a<9223372036854775808:=by omega
       have hml:mm≤CC (Cr es) x a:=by omega
       obtain ⟨w1,rfl⟩:∃ z,z=w:=⟨_,rfl⟩;refine Az (Ad U (Ab ?_));refine ⟨Ext.refl _ _,fun wB hxB=>?_⟩;have HB:=HJ.step hxB (fun y hy=>by have h7:=List.mem_map_of_mem (f:=(·.1)) hy; have:=hlt2 y.1 h7; rw [List.mem_singleton]; omega) (fun z hz => .inr (by rw [List.mem_singleton.1 hz]; omega));have e3:=hxB.to g3 (by rw [List.mem_singleton]; omega);have e4:=hxB.to g4 (by rw [List.mem_singleton]; omega);have HP:=HB.perm (List.perm_middle (l₁:=[_,_,_,_,_,_,_]) (l₂:=_::_::_));have k1:=HP.get at6;have ks:=HP.get at7;have k9:=HP.get at3;have hn1:=G0 (L:=[_]) HP.nd (x:=(b1,_)) (List.mem_of_getElem? (i:=5) rfl);have hns:=G0 (L:=[_]) HP.nd (x:=(bs,_)) (List.mem_of_getElem? (i:=6) rfl);have hn9:=G0 (L:=[_]) HP.nd (x:=(b9,_)) (List.mem_of_getElem? (i:=2) rfl);have hnc:bf≠c3∧bf≠c4:=by omega
       obtain ⟨w2,rfl⟩:∃ z,z=wB:=⟨_,rfl⟩;have H:=Ctx.lend (L1:=[_]) (L2:=_::_::_::_::_::_::_::_::_::_) HP;clear HJ g3 g4 hlt hlt2 m1 m2 m3 q1 hpe hwp hRe hall hxb hovb hsrc hsnd hsm hds hlow hto hfit hpot hw hov hpb DN BY BY' hby hd0 hovt hgot hgof hwb0 hwb2 hWa ham ha hxv hsz hxB hsd0 hcb q2 q3 q4 hF;refine A0 (Af (Ae U (Om (a:=a) (b:=1) U U U ha9 (by decide) ?_)));rw [Nat.and_one_is_mod];refine Cf U U (Ab (Aa (Ap _ U ?_ ?_)))
       ·intro hpar;replace hpar:=AJ hpar;have hp2:a % 2=0:=by omega
        unfold CC at hml;rw [if_pos hp2] at hml;refine ER [([0,1,2,3,4,5,6,7,8,9,10],11)] (fun z=>z.heap[b1]? = some (Bl 252 [ptr bs])∧z.heap[bs]? = some (Bl 254 (SC N ae es.length ce bf bp bo kk))∧z.heap[b9]? = some (Bl 2 [.int .i64 mm])∧z.heap[bf]? = some (Bl 2 (BS (F6 mm x (path.take i)) es.length))) [11] Bs (by kernel_rfl) (⟨H.drew.ext.to k1 hn1,H.drew.ext.to ks hns,H.drew.ext.to k9 hn9,H.drew.get at0⟩) ?_;refine AF U U ?_;refine B0 EB U (fun _ hx=>(by rw [Aj hx.1]; rfl)) ?_;refine Bd U (An U EI U (B0 Cg U (fun _ hx=>(by rw [Aj hx.2.1]; rfl)) ?_));refine Be U (Qi (a:=a) (n:=1) U U U (by decide) ?_);rw [Nat.pow_one];refine AH Bg B6 U U ?_;refine B0 Bw U (fun _ hx=>((Cx hx.2.2.2).fld hgxa rfl (j:=0) rfl)) ?_;refine B0 Bw U (fun _ hx=>(by rw [Aj hx.2.2.1]; rfl)) ?_;refine Eg U U ?_;refine AH Bg B6 U U ?_
        refine AP ?_;replace H:=H.drew;refine Cc (a / 2) (fun z => .int .i64 (F6 mm x (path.take (i+1)) z)) (.int _ _) B6 U U U H at0 (by omega) (hk:=hai) (by rw [hsuc,if_pos rfl,if_pos hp2]) (fun z _ hz=>by (try dsimp only); rw [hsuc,if_neg hz]) ?_;rintro w H;refine Ab (Bz U (BH (A5 ?_)));have HH:=(Ctx.back (L1:=[_]) (L2:=_::_::_::_::_::_::_::_::_::_) HP H).perm (List.perm_middle (l₁:=[_,_,_,_,_,_,_]) (l₂:=_::_::_)).symm;exact ⟨_,⟨rfl,HH,H.ext.to e3 (by rw [List.map_cons,List.map_nil,List.mem_singleton]; exact Ne.symm hnc.1),H.ext.to e4 (by rw [List.map_cons,List.map_nil,List.mem_singleton]; exact Ne.symm hnc.2)⟩,fun x hx => .inl hx,_,H.ext,fun x hx => .inl (List.mem_singleton.1 hx)⟩
       ·intro hpar;replace hpar:=AK hpar;have hp2:¬ a % 2=0:=by omega
        unfold CC at hml;rw [if_neg hp2] at hml;refine ER [([0,1,2,3,4,5,6,7,8,9,10],11)] (fun z=>z.heap[b1]? = some (Bl 252 [ptr bs])∧z.heap[bs]? = some (Bl 254 (SC N ae es.length ce bf bp bo kk))∧z.heap[b9]? = some (Bl 2 [.int .i64 mm])∧z.heap[bf]? = some (Bl 2 (BS (F6 mm x (path.take i)) es.length))) [11] Bs (by kernel_rfl) (⟨H.drew.ext.to k1 hn1,H.drew.ext.to ks hns,H.drew.ext.to k9 hn9,H.drew.get at0⟩) ?_;refine AF U U ?_;refine B0 EB U (fun _ hx=>(by rw [Aj hx.1]; rfl)) ?_;refine Bd U (An U EI U (B0 Cg U (fun _ hx=>(by rw [Aj hx.2.1]; rfl)) ?_));refine Be U (Qi (a:=a) (n:=1) U U U (by decide) ?_);rw [Nat.pow_one];refine AH Bg B6 U U ?_;refine B0 Bw U (fun _ hx=>((Cx hx.2.2.2).fld hgxa rfl (j:=0) rfl)) ?_;refine B0 Bw U (fun _ hx=>(by rw [Aj hx.2.2.1]; rfl)) ?_;refine EP U U ?_;refine AH Bg B6 U U ?_
        refine AP ?_;replace H:=H.drew;refine Cc (a / 2) (fun z => .int .i64 (F6 mm x (path.take (i+1)) z)) (.int _ _) B6 U U U H at0 (by omega) (hk:=hai) (by rw [hsuc,if_pos rfl,if_neg hp2]) (fun z _ hz=>by (try dsimp only); rw [hsuc,if_neg hz]) ?_;rintro w H;refine Ab (Bz U (BH (A5 ?_)));have HH:=(Ctx.back (L1:=[_]) (L2:=_::_::_::_::_::_::_::_::_::_) HP H).perm (List.perm_middle (l₁:=[_,_,_,_,_,_,_]) (l₂:=_::_::_)).symm;exact ⟨_,⟨rfl,HH,H.ext.to e3 (by rw [List.map_cons,List.map_nil,List.mem_singleton]; exact Ne.symm hnc.1),H.ext.to e4 (by rw [List.map_cons,List.map_nil,List.mem_singleton]; exact Ne.symm hnc.2)⟩,fun x hx => .inl hx,_,H.ext,fun x hx => .inl (List.mem_singleton.1 hx)⟩
      ·rintro M w ⟨-,HJ,-,-⟩ hD2;rw [hxl,List.take_length] at HJ;have H:=HJ.add hD2 (.inr hwtz) (fun y hy e=>by have h7:=List.mem_map_of_mem (f:=(·.1)) hy; have:=hlt2 y.1 h7; omega);replace H:=H.erase 5;obtain ⟨x',hx'⟩:∃ x',x'=F6 mm x path:=⟨_,rfl⟩;rw [← hx'] at H;have FF:=Xj hF DN BY' hdt (m:=mm) (fun a ha=>by have:=m3 a (hpath ▸ ha); omega);rw [← hpath,← hx'] at FF;have hov':∀ z,BC g x' z=BC g x z+mm*(one (tv=z) - one (f0=z)):=fun z=>by rw [hx',hpath,hwp]; exact Nl g mm BY' z x hdt rfl
       have hw':=Nr hr (x:=x') (by rw [← hg]; exact FF);have hne:tv≠f0:=fun e=>by rw [e] at hov0; omega
       have hgo2:(tab (upd ov f0 (ov f0 - mm)) N)[tv]? = some (ov tv):=by rw [BT htv,Et hne]
       have hgdt:(tab s.d N)[tv]? = some (s.d tv):=BT htv;have hsdt:=hsd0 tv;have hpf:=Ad9 hpn hpb
       have hne0:es≠[]→(adr ae).block≠bp:=fun h e=>by
        obtain ⟨q,rfl⟩:=O.form (List.length_pos_iff.2 h);have h7:=Vc (L:=[_,_,_,_]) H0.nd (x:=(bp,_)) (List.mem_of_getElem? (i:=2) rfl);exact h7 (by show bp∈[q]; rw [List.mem_singleton]; exact e.symm)
       have hex:=Xk (g:=g) (x:=x) (x':=x') (u:=f0) (v:=tv) (m:=mm) (by rw [← hov f0 hf0s.1]; omega) (by rw [← hov tv htv]; omega) hov';refine A5 (Aa ?_);clear hlt hlt2 q1 hpe hall hxb hovb hsrc hsnd hsm hds hlow hto hfit hpot hw DN BY BY' hby hwb0 hwb2 hsd0 hcb q2 q3 q4 HJ;refine Eb 10 Bs (by kernel_rfl) U U ?_;refine Cn EB U (by rintro _ rfl; exact H.drew) at5 U ?_;refine Bb U (A7 G8 U (Cn Cg U (by rintro _ rfl; exact H.drew) at6 U ?_));refine Cn Ca U (by rintro _ rfl; exact H.drew) at2 U ?_;refine Bf Bg B6 U U ?_;refine BX Bw U (by rintro _ rfl; exact (((Cx (H.drew.get at9)).fld hgof rfl (j:=0) rfl))) ?_;refine Cn Bw U (by rintro _ rfl; exact H.drew) at3 U ?_;refine D8 U U ?_;refine Bf Bg B6 U U ?_;refine BW ?_;replace H:=H.drew
       refine Cc f0 (fun z => .int .i64 (upd ov f0 (ov f0 - mm) z)) (.int _ _) B6 U U U H at9 (by simp) (hk:=hf0s.1) (by rw [Di]) (fun z _ hz=>by (try dsimp only); rw [Et hz]) ?_;rintro w H;refine Ab (Aa (Eb 10 Bs (by kernel_rfl) U U ?_));refine Cn EB U (by rintro _ rfl; exact H.drew) at5 U ?_;refine Bb U (A7 G8 U (Cn Cg U (by rintro _ rfl; exact H.drew) at6 U ?_));refine Bh U (Bf Bg B6 U U ?_);refine BX Bw U (by rintro _ rfl; exact (((Cx (H.drew.get at9)).fld hgo2 rfl (j:=0) rfl))) ?_;refine Cn Bw U (by rintro _ rfl; exact H.drew) at3 U ?_;refine De U U ?_;refine Bf Bg B6 U U ?_;refine BW ?_;replace H:=H.drew;refine Cc tv (fun z => .int .i64 (upd (upd ov f0 (ov f0 - mm)) tv (ov tv+mm) z)) (.int _ _) B6 U U U H at9 (by simp) (hk:=htv) (by rw [Di]) (fun z _ hz=>by (try dsimp only); rw [Et hz]) ?_;rintro w H
       refine Ab (Aa (Eb 6 Bs (by kernel_rfl) U U ?_));refine Cn EB U (by rintro _ rfl; exact H.drew) at5 U ?_;refine Cz U (Cz U (Bh U (Bf Bg B6 U U ?_)));refine BX Bw U (by rintro _ rfl; exact (((Cx (H.drew.get at4)).fld hgdt rfl (j:=0) rfl))) ?_;refine BW ?_;replace H:=H.drew;have Hp:=H.perm (List.perm_middle (l₁:=[_,_,_,_,_,_,_,_]) (l₂:=_::_));refine Al Ail (ZQ (H.get at6) (H.get at8) (H.get at4) (H.ne at6 at8 (by decide)) (H.ne at4 at8 (by decide)) ⟨by omega,by omega⟩ hpf) U ?_;rintro rv w ⟨rfl,H2⟩;replace H:=Ctx.back (L1:=[_]) (L2:=_::_::_::_::_::_::_::_::_::_) Hp H2;refine Ab (Aa (Af (AM EB U H at6 U (Al Aim (Xt (H.get at7) (hRe fun y hy=>H.blk y (List.mem_append_right [_,_,_,_,_,_,_,_,_,_] hy)) hne0 (H.get at8) (H.get at0) (H.ne at7 at0 (by decide)) (H.ne at8 at0 (by decide)) hw' (by rw [← hg]; exact FF)) U ?_))))
       rintro rv w ⟨rfl,p',FF2,hpb',H2⟩;replace H:=Ctx.back (L1:=[_]) (L2:=_::_::_::_::_::_::_::_::_::_) H H2;refine Ab (Aa (Af (AM EB U H at6 U (A9 U (Ag OD U (AM Ca U H at7 U (Nq U U U ?_)))))));intro kk2;refine A9 U (Ag OD U (Cp (.int _ _) FY U U U H at7 (by (simp; done)) ?_));rintro w H;refine Ab (Aa (Af (Ai U (Ab (Aa (A4 (L9 (v:=(.bool _)) U U (Xx (H.get at1) (H.get at2) (H.ne at2 at1 (by decide)) U fun wF hxF=>?_))))))));have HF:=(H.perm (List.perm_middle (l₁:=[_,_,_,_,_,_,_,_]) (l₂:=_::_)).symm);rw [← hg] at FF2;refine ⟨true,x',p',upd (upd ov f0 (ov f0 - mm)) tv (ov tv+mm),kk2,rfl,(HF.drop 6).step hxF (fun y hy=>G0 (L:=[_,_]) HF.nd (List.mem_of_mem_drop (i:=4) hy)) (fun z hz => .inr ?_),FF2,fun z hz=>?_,hpb',(fun h=>by cases h),fun _=>by omega⟩
       ·simp only [List.mem_cons,List.not_mem_nil,or_false] at hz;omega
       ·rw [hov',← hov z hz]
        by_cases e1:z=tv
        ·subst e1;rw [Di,Fv rfl,EW (Ne.symm hne)]; omega
        ·rw [Et e1,EW (Ne.symm e1)]
         by_cases e2:z=f0
         ·subst e2;rw [Di,Fv rfl]; omega
         ·rw [Et e2,EW (Ne.symm e2)]; omega
end Go.Proofs.YtdagmpmdcgedcaaGreat
namespace Go.Proofs.YtdagmpmdcgedcaaGreat
open Go.GV
attribute [local irreducible] AB W Wq Wt
def Sc:List UInt8:=[0]++List.replicate 1 1++List.replicate 2 2++List.replicate 4 3++List.replicate 8 4++List.replicate 16 5++List.replicate 32 6++List.replicate 64 7++List.replicate 128 8
theorem X1:∀ i,i<256→∃ b:UInt8,Sc[i]? = some b∧i<2 ^ b.toNat∧b.toNat≤8∧(0<i→2 ^ b.toNat≤2*i):=fun i hi=>by
 have h:(List.range 256).all (fun i=>match Sc[i]? with | some b=>decide (i<2 ^ b.toNat) && (decide (b.toNat≤8) && (decide (i=0) || decide (2 ^ b.toNat≤2*i))) | none=>false)=true:=by kernel_rfl
 have h1:=List.all_eq_true.1 h i (List.mem_range.2 hi)
 cases hb:Sc[i]? with
 | none=>rw [hb] at h1; cases h1
 | some b =>
  rw [hb] at h1;simp only [Bool.and_eq_true,Bool.or_eq_true,decide_eq_true_eq] at h1;exact ⟨b,rfl,h1.1,h1.2.1,fun h=>h1.2.2.resolve_left (by omega)⟩
theorem Vd {x k n:Nat} (h:x / 2 ^ k<2 ^ n):x<2 ^ (n+k):=by
 rw [Nat.pow_add];exact (Nat.div_lt_iff_lt_mul (Nat.two_pow_pos k)).1 h
theorem Ve {x k n:Nat} (h:2 ^ n≤2*(x / 2 ^ k)):2 ^ (n+k)≤2*x:=by
 rw [Nat.pow_add];have h1:2 ^ n*2 ^ k≤2*(x / 2 ^ k)*2 ^ k:=Nat.mul_le_mul_right _ h;have h2:x / 2 ^ k*2 ^ k≤x:=Nat.div_mul_le_self x _;rw [Nat.mul_assoc] at h1;omega
set_option maxRecDepth 20000 in
theorem T7 (x:Nat) (hx:x≤4503599627370496) (w:World):Ret Tryz.prog 210 #[.int .u64 (x:Int)] w fun v w'=>∃ r:Nat,v = .int .i64 (r:Int)∧x<2 ^ r∧r≤64∧(0<x→2 ^ r≤2*x)∧w=w':=by
 obtain ⟨w0,rfl⟩:∃ w0,w0=w:=⟨_,rfl⟩;have H:=Ctx.start w0 [];refine Aw (fn:=Tryz.f210) Tryz.func210 U [.int .u64 (x:Int)] U (by kernel_rfl) ?_;refine Af (Ad U (Ab (Aa (Aq (Af (Ae U (C4 U U (Ab (Aa (F8 101 (α:=Nat × Nat) (fun z=>[(0,.int .u64 (z.1:Int)),(2,.int .i64 (z.2:Int))]) (fun z w'=>w0=w'∧(∀ k,z.1<2 ^ k→x<2 ^ (k+z.2))∧(∀ k,2 ^ k≤2*z.1→2 ^ (k+z.2)≤2*x)∧(0<x→0<z.1)∧z.1<4294967296∧z.2≤32) U ?_ ?_))))))))))
 ·skip
  refine Ap _ U ?_ ?_
  ·intro h;replace h:=AJ h;refine Af (Ae U (EZ (n:=32) U U ?_));refine Ad U (Ab (Aa (Az (Ad U (Ab (Aa ?_))))));exact ⟨(x / 2 ^ 32,32),rfl,⟨rfl,rfl,trivial⟩,rfl,fun k hk=>Vd hk,fun k hk=>Ve hk,fun _=>by dsimp only; omega,by dsimp only; omega,by dsimp only; omega⟩
  ·intro h;replace h:=AK h;refine Au (Aa ?_);exact ⟨(x,0),rfl,⟨rfl,rfl,trivial⟩,rfl,fun k hk=>hk,fun k hk=>hk,fun h=>h,by dsimp only; omega,by dsimp only; omega⟩
 ·rintro ⟨y,n⟩ j w ⟨rfl,hk,hg,h0,hy,hn⟩; dsimp only at hk hg h0 hy hn; dsimp only;refine Aq (Af (Ae U (C4 U U (Ab (Aa (F8 7685 (α:=Nat × Nat) (fun z=>[(0,.int .u64 (z.1:Int)),(2,.int .i64 (z.2:Int))]) (fun z w'=>w0=w'∧(∀ k,z.1<2 ^ k→x<2 ^ (k+z.2))∧(∀ k,2 ^ k≤2*z.1→2 ^ (k+z.2)≤2*x)∧(0<x→0<z.1)∧z.1<65536∧z.2≤48) U ?_ ?_))))))
  ·skip
   refine Ap _ U ?_ ?_
   ·intro h;replace h:=AJ h;refine Af (Ae U (EZ (n:=16) U U ?_));refine Ad U (Ab (Aa (Az (Ae U (Ax U U ?_)))));refine Ad U (Ab (Aa ?_));exact ⟨(y / 2 ^ 16,n+16),rfl,⟨rfl,rfl,trivial⟩,rfl,fun k h7=>by have:=hk _ (Vd h7); rw [show k+(n+16)=k+16+n by omega]; exact this,(fun k h7=>by have:=hg _ (Ve h7); rw [show k+(n+16)=k+16+n by omega]; exact this),fun _=>by dsimp only; omega,by dsimp only; omega,by dsimp only; omega⟩
   ·intro h;replace h:=AK h;refine Au (Aa ?_);exact ⟨(y,n),rfl,⟨rfl,rfl,trivial⟩,rfl,hk,hg,h0,by dsimp only; omega,by dsimp only; omega⟩
  ·rintro ⟨y,n⟩ j2 w ⟨rfl,hk,hg,h0,hy,hn⟩; dsimp only at hk hg h0 hy hn; dsimp only;refine Aq (Af (Ae U (C4 U U (Ab (Aa (F8 491525 (α:=Nat × Nat) (fun z=>[(0,.int .u64 (z.1:Int)),(2,.int .i64 (z.2:Int))]) (fun z w'=>w0=w'∧(∀ k,z.1<2 ^ k→x<2 ^ (k+z.2))∧(∀ k,2 ^ k≤2*z.1→2 ^ (k+z.2)≤2*x)∧(0<x→0<z.1)∧z.1<256∧z.2≤56) U ?_ ?_))))))
   ·skip
    refine Ap _ U ?_ ?_
    ·intro h;replace h:=AJ h;refine Af (Ae U (EZ (n:=8) U U ?_));refine Ad U (Ab (Aa (Az (Ae U (Ax U U ?_)))));refine Ad U (Ab (Aa ?_));exact ⟨(y / 2 ^ 8,n+8),rfl,⟨rfl,rfl,trivial⟩,rfl,fun k h7=>by have:=hk _ (Vd h7); rw [show k+(n+8)=k+8+n by omega]; exact this,(fun k h7=>by have:=hg _ (Ve h7); rw [show k+(n+8)=k+8+n by omega]; exact this),fun _=>by dsimp only; omega,by dsimp only; omega,by dsimp only; omega⟩
    ·intro h;replace h:=AK h;refine Au (Aa ?_);exact ⟨(y,n),rfl,⟨rfl,rfl,trivial⟩,rfl,hk,hg,h0,by dsimp only; omega,by dsimp only; omega⟩
   ·rintro ⟨y,n⟩ j3 w ⟨rfl,hk,hg,h0,hy,hn⟩; dsimp only at hk hg h0 hy hn; dsimp only;obtain ⟨b,hb,hb1,hb2,hb3⟩:=X1 y hy;have hb0:(bv b) = .int .u8 ((b.toNat:Nat):Int):=rfl;refine Af (Ae U (Ae U (U2 U U EV un_5 ?_)));refine WX (l:=Sc) b U un_9 (by kernel_rfl) U hb ?_;rw [hb0];refine G3 U U un_5 OM ?_;refine Ax U U ?_;refine Ad U (Ab (Aa (A4 (AD (v:=(.int _ _)) U U U ?_))));refine ⟨n+b.toNat,congrArg (Value.int .i64) (by omega),?_,by omega,fun hx0=>?_,rfl⟩
    ·have:=hk _ hb1;rw [Nat.add_comm]; exact this
    ·have:=hg _ (hb3 (h0 hx0));rw [Nat.add_comm]; exact this
structure Bk where
 b:Nat
 c:Nat
 f:List Value
instance:Inhabited Bk:=⟨⟨0,0,[]⟩⟩
def GI:Nat→List Nat
 | 1=>[0] | 4=>[3] | 5=>[2,4,3] | 6=>[1,0,5,2,4,3] | 8=>[7] | 9=>[8,7] | 10=>[9,8,7] | 12=>[11] | 13=>[12,11] | 15=>[14] | 16=>[15,14]
 | 17=>[6,1,0,5,2,4,3,10,9,8,7,13,12,11,16,15,14] | 18=>[17,6,1,0,5,2,4,3,10,9,8,7,13,12,11,16,15,14] | 19=>[18,17,6,1,0,5,2,4,3,10,9,8,7,13,12,11,16,15,14] | _=>[]
def sQ (n:Nat) (B:Nat→Bk):Bk:=if n=0 then ⟨(B 2).b,0,[]⟩ else B 5
def sSC (N n:Nat) (B:Nat→Bk):List Value:=SC N (some ⟨(sQ n B).b,0,none⟩) n (sQ n B).c (B 10).b (B 13).b (B 16).b 0
def T8 (b1:Nat) (N n:Nat) (a:Option Addr) (c:Nat) (i:Nat) (B:Nat→Bk):Value :=
 if i=0∨i=11∨i=14 then .pointer (some ⟨b1,0+0,none⟩) else if i=1∨i=12∨i=15 then .int .i64 (N:Int)
 else if i=2 then .slice (some ⟨(B 2).b,0,none⟩) 0 0 else if i=3∨i=7 then .pointer (some ⟨b1,0+1,none⟩) else if i=4∨i=8 then .slice a n c
 else if i=5 then .slice (some ⟨(sQ n B).b,0,none⟩) n (sQ n B).c else if i=6 then .agg #[.int .i64 (N:Int),.slice (some ⟨(sQ n B).b,0,none⟩) n (sQ n B).c]
 else if i=9 then .int .i64 (n:Int) else if i=10 then .slice (some ⟨(B 10).b,0,none⟩) n n else if i=13 then .slice (some ⟨(B 13).b,0,none⟩) N N
 else if i=16 then .slice (some ⟨(B 16).b,0,none⟩) N N else if i=17 then .agg (sSC N n B).toArray else ptr (B 18).b
def GJ (N n:Nat) (i:Nat):Option ((Nat→Bk)→Obj) :=
 if i=2 then some fun _=>Bl 59 [] else if i=5 then (if n=0 then none else some fun B=>Bl 59 (B 5).f) else if i=10 then some fun _=>Bl 2 (BS (fun _=>0) n) else if i=13∨i=16 then some fun _=>Bl 2 (BS (fun _=>0) N)
 else if i=18 then some fun B=>Bl 254 (sSC N n B) else none
def Af6 (n:Nat) (es:List Ed) (i:Nat) (b:Bk):Prop:=i=5→n=0∨OS (some ⟨b.b,0,none⟩) n b.c 4 b.f (es.flatMap CI)
theorem sStab (b1 N n:Nat) (a:Option Addr) (c i k:Nat) (b:Bk) (B:Nat→Bk) (hi:i<19) (hki:k≠i) (hka:k∉GI i):T8 b1 N n a c i (JO B k b)=T8 b1 N n a c i B∧∀ ob,GJ N n i=some ob→ob (JO B k b)=ob B:=by
 have hne:∀ j,k≠j→JO B k b j=B j:=fun j h=>Jm (Ne.symm h);have hq:k≠2→k≠5→sQ n (JO B k b)=sQ n B:=fun h2 h5=>by unfold sQ; rw [hne 2 h2,hne 5 h5]
 have hcs:i=0∨i=1∨i=2∨i=3∨i=4∨i=5∨i=6∨i=7∨i=8∨i=9∨i=10∨i=11∨i=12∨i=13∨i=14∨i=15∨i=16∨i=17∨i=18:=by omega
 have hs:(k≠2∧k≠5∧k≠10∧k≠13∧k≠16)→sSC N n (JO B k b)=sSC N n B:=fun h=>by unfold sSC; rw [hq h.1 h.2.1,hne 10 h.2.2.1,hne 13 h.2.2.2.1,hne 16 h.2.2.2.2]
 rcases hcs with rfl | rfl | rfl | rfl | rfl | rfl | rfl | rfl | rfl | rfl | rfl | rfl | rfl | rfl | rfl | rfl | rfl | rfl | rfl <;> simp only [GI,List.mem_cons,List.not_mem_nil,or_false,not_or,not_false_eq_true] at hka <;> (try simp [T8,GJ]) <;> (try rw [hne _ hki]) <;> (try rw [hq (by omega) (by omega)]) <;> (try rw [hs (by omega)]) <;> (try (constructor)) <;> (try rfl) <;> (try (split <;> simp)) <;> (try (intro ob h; subst h; rw [hne _ hki])) <;> (try (intro ob h; subst h; rw [hs (by omega)])) <;> (try exact ⟨rfl,rfl⟩) <;> (try (intro _; rfl))
end Go.Proofs.YtdagmpmdcgedcaaGreat
namespace Go.Proofs.YtdagmpmdcgedcaaGreat
open Go.GV
attribute [local irreducible] AB W Wq Wt
abbrev CB (f:Nat→Int) (m:Nat):List Value:=(List.range m).map fun i => .int .u64 (f i)
theorem Cy {w:World} {q m i:Nat} {f:Nat→Int} (h:w.heap[q]? = some (Bl 28 (CB f m))) (hi:i<m:=by omega):w.cell? ⟨q,0+i*1,none⟩=some (.int .u64 (f i)):=by
 rw [Aj h,Nat.zero_add,Nat.mul_one,DO hi]
def sw (f:Nat→Int) (i j k:Nat):Int:=if k=j then f i else if k=i then f j else f k
theorem DL (f:Nat→Int) (i j:Nat):sw f i j j=f i:=if_pos rfl
theorem DH {f:Nat→Int} {i j k:Nat} (h:k≠j):sw f i j k=if k=i then f j else f k:=if_neg h
theorem HD (f:Nat→Int) (i j:Nat):sw f i j i=f j:=by
 unfold sw
 by_cases e:i=j
 ·subst e; rw [if_pos rfl]
 ·rw [if_neg e,if_pos rfl]
theorem E6 {f:Nat→Int} {i j k:Nat} (h1:k≠i:=by omega) (h2:k≠j:=by omega):sw f i j k=f k:=by unfold sw; rw [if_neg h2,if_neg h1]
inductive Sw (a b:Nat):(Nat→Int)→(Nat→Int)→Prop
 | refl (f:Nat→Int):Sw a b f f
 | step {f g:Nat→Int} (h:Sw a b f g) (i j:Nat) (hi:a≤i∧i<b) (hj:a≤j∧j<b):Sw a b f (sw g i j)
theorem Sw.trans {a b:Nat} {f g h:Nat→Int} (h1:Sw a b f g) (h2:Sw a b g h):Sw a b f h:=by
 induction h2 with
 | refl=>exact h1
 | step _ i j hi hj ih=>exact ih.step i j hi hj
theorem Sw.mono {a b a' b':Nat} {f g:Nat→Int} (h:Sw a b f g) (ha:a'≤a) (hb:b≤b'):Sw a' b' f g:=by
 induction h with
 | refl=>exact .refl _
 | step _ i j hi hj ih=>exact ih.step i j ⟨by omega,by omega⟩ ⟨by omega,by omega⟩
theorem Sw.out {a b:Nat} {f g:Nat→Int} (h:Sw a b f g):∀ k,(k<a∨b≤k)→g k=f k:=by
 induction h with
 | refl=>exact fun _ _=>rfl
 | step _ i j hi hj ih=>exact fun k hk=>by rw [E6]; exact ih k hk
theorem Sw.mem {a b:Nat} {f g:Nat→Int} (h:Sw a b f g):∀ k,a≤k→k<b→∃ k',a≤k'∧k'<b∧g k=f k':=by
 induction h with
 | refl=>exact fun k h1 h2=>⟨k,h1,h2,rfl⟩
 | @step g h i j hi hj ih =>
  intro k h1 h2
  by_cases e2:k=j
  ·rw [e2,DL]; exact ih i hi.1 hi.2
  ·by_cases e1:k=i
   ·rw [e1,HD]; exact ih j hj.1 hj.2
   ·rw [E6 (h1:=e1) (h2:=e2)]; exact ih k h1 h2
theorem Ajr {f:Nat→Int} {n i j:Nat} (hi:i<n:=by omega) (hj:j<n:=by omega):(tab (sw f i j) n).Perm (tab f n):=by
 have h:=MG (L:=tab f n) (i:=i) (j:=j) (x:=f i) (y:=f j) (BT hi) (BT hj)
 have e:((tab f n).set i (f j)).set j (f i)=tab (sw f i j) n:=by
  unfold tab;rw [IC (g:=fun k=>if k=i then f j else f k) (if_pos rfl) (fun k _ hk=>if_neg hk),IC (g:=sw f i j) (DL f i j) (fun k _ hk=>DH hk)]
 rw [e] at h;exact h
theorem Sw.perm {a b n:Nat} {f g:Nat→Int} (h:Sw a b f g) (hb:b≤n):(tab g n).Perm (tab f n):=by
 induction h with
 | refl=>exact .refl _
 | step _ i j hi hj ih=>exact (Ajr).trans ih
def JE (f:Nat→Int) (a b:Nat):Prop:=∀ x y,a≤x→x<y→y<b→f x≤f y
def InsU (f:Nat→Int) (a j i:Nat):Prop:=∀ x y,a≤x→x<y→y≤i→y≠j→f x≤f y
theorem InsU.step {f:Nat→Int} {a j i:Nat} (h:InsU f a j i) (ha:a<j) (hi:j≤i) (hlt:f j<f (j - 1)):InsU (sw f j (j - 1)) a (j - 1) i:=fun x y hx hxy hy hne=>by
 by_cases e1:y=j
 ·subst e1;rw [HD]
  by_cases e2:x=y - 1
  ·rw [e2,DL]; omega
  ·rw [E6 (h2:=e2)];exact h x (y - 1) hx (by omega) (by omega) (by omega)
 ·rw [E6 (h1:=e1) (h2:=hne)]
  by_cases e2:x=j - 1
  ·rw [e2,DL]; exact h j y (by omega) (by omega) hy e1
  ·by_cases e3:x=j
   ·rw [e3,HD]; exact h (j - 1) y (by omega) (by omega) hy e1
   ·rw [E6 (h1:=e3) (h2:=e2)]; exact h x y hx hxy hy e1
theorem InsU.done {f:Nat→Int} {a j i:Nat} (h:InsU f a j i) (hj:a≤j) (hj0:a<j→f (j - 1)≤f j):JE f a (i+1):=fun x y hx hxy hy=>by
 by_cases e:y=j
 ·subst e;have h1:=hj0 (by omega)
  by_cases e2:x=y - 1
  ·rw [e2]; exact h1
  ·exact Int.le_trans (h x (y - 1) hx (by omega) (by omega) (by omega)) h1
 ·exact h x y hx hxy (by omega) e
theorem EX (x y:Int) (w:World):Ret Tryz.prog 236 #[.int .u64 x,.int .u64 y] w fun v w'=>v = .bool (decide (x<y))∧w=w':=by
 have nan:∀ (x:Int) (w:World),Ret Tryz.prog 261 #[.int .u64 x] w fun v w'=>v = .bool false∧w=w':=fun x w=>by
  refine Aw (fn:=Tryz.f261) Tryz.func261 U [.int .u64 x] U (by kernel_rfl) ?_;refine Af (Ai U (Ab (Aa (Af (Ae U (Ae U (C9 U U (Ai U (Ab (Aa (A4 (AD (v:=(.bool _)) U U U ?_))))))))))));exact ⟨congrArg Value.bool (by simp),rfl⟩
 refine Aw (fn:=Tryz.f236) Tryz.func236 U [.int .u64 x,.int .u64 y] U (by kernel_rfl) ?_;refine Af (Ai U (Ab (Aa (Af (Ae U (Al YY (nan x w) U ?_))))));rintro v w ⟨rfl,rfl⟩;refine AE U (AY 7 U ?_ ?_)
 ·intro h1;refine Ae U (Al YY (nan y _) U ?_);rintro v w ⟨rfl,rfl⟩;refine BA U (AN U (.bool _) U (AE U (AY 12 U ?_ ?_)))
  ·intro h2;replace h2:=BE h2;refine Ah U (Ah U (Ah U (AN U (.bool _) U (Ai U (Ab (Aa (A4 (AD (v:=(.bool _)) U U U ?_))))))));exact ⟨congrArg Value.bool (by simp_all),rfl⟩
  ·intro h3;replace h3:=BF h3;refine Ae U (Ae U (Bj U U (AU U (.bool _) U (Ai U (Ab (Aa (A4 (AD (v:=(.bool _)) U U U ?_))))))));exact ⟨congrArg Value.bool (by simp_all),rfl⟩
 ·intro h4;refine Ah U (Ah U (Ah U (AU U (.bool _) U (AE U (Ae U (Ae U (Bj U U (AU U (.bool _) U (Ai U ?_)))))))));refine Ab (Aa (A4 (AD (v:=(.bool _)) U U U ?_)));exact ⟨congrArg Value.bool (by simp_all),rfl⟩
section
variable {w:World} {q n c m a b:Nat} {f:Nat→Int}
set_option maxRecDepth 20000 in
set_option maxHeartbeats 2000000 in
theorem Sd (hd:w.heap[q]? = some (Bl 28 (CB f m))) (hab:a≤b) (hn:n≤m) (hm:n≤1000000000)  (hb:b≤n:=by omega):
  Ret Tryz.prog 230 #[.slice (some ⟨q,0,none⟩) n c,.int .i64 (a:Int),.int .i64 (b:Int)] w fun v w'=>v = .tuple #[]∧∃ g,Sw a b f g∧JE g a b∧Ctx w [q] w' [(q,Bl 28 (CB g m))]:=by
 obtain ⟨w0,rfl⟩:∃ w0,w0=w:=⟨_,rfl⟩;have H:=Ctx.start1 hd;refine Aw (fn:=Tryz.f230) Tryz.func230 U [.slice (some ⟨q,0,none⟩) n c,.int .i64 (a:Int),.int .i64 (b:Int)] U (by kernel_rfl) ?_;refine Af (Ae U (Ax U U ?_));refine Ad U (Ab (Aa (A0 (Bt 562949953420480 (α:=Nat × (Nat→Int)) (fun t=>[(6,.int .i64 (t.1:Int))]) (fun t w'=>a+1≤t.1∧t.1≤max b (a+1)∧Sw a b f t.2∧JE t.2 a t.1∧Ctx w0 [q] w' [(q,Bl 28 (CB t.2 m))]) (fun t=>b - t.1) (a+1,f) U ?_ ?_ ?_))))
 ·exact ⟨congrArg (Value.int .i64) (by dsimp only; omega),trivial⟩
 ·exact ⟨Nat.le_refl _,by dsimp only; omega,.refl _,fun x y h1 h2 h3=>by dsimp only at h3; omega,H⟩
 ·rintro ⟨i,g⟩ j0 w ⟨hi1,hi2,hS,hO,H⟩; dsimp only at hi1 hi2 hS hO H; dsimp only;refine Aq (Af (Ae U (Ae U (Bj U U (Ab (Aa (Ap _ U ?_ ?_)))))))
  ·intro h1;replace h1:=AJ h1;refine Au (Aa (Aq (A0 (Af (Ae U (Ad U (Ab (Aa (A0 (Bt 562949953355904 (α:=Nat × (Nat→Int)) (fun t=>[(7,.int .i64 (t.1:Int))]) (fun t w'=>a≤t.1∧t.1≤i∧Sw a b f t.2∧InsU t.2 a t.1 i∧Ctx w0 [q] w' [(q,Bl 28 (CB t.2 m))]) (fun t=>t.1) (i,g) U ?_ ?_ ?_))))))))))
   ·exact ⟨rfl,trivial⟩
   ·exact ⟨by dsimp only; omega,Nat.le_refl _,hS,fun x y hx hxy hy hne=>hO x y hx hxy (by dsimp only at hne; omega),H⟩
   ·rintro ⟨j,g⟩ j1 w ⟨hj1,hj2,hS,hI,H⟩; dsimp only at hj1 hj2 hS hI H; dsimp only;have e1:(j:Int).toNat=j:=rfl;have e2:((j:Int) - 1).toNat=j - 1:=by omega
    refine Aq (Eb 13 Bs (by kernel_rfl) U U ?_);refine Bh U (Bh U (Qe U U U (CU U (Dw 19 U ?_ ?_))))
    ·intro h2;replace h2:=AJ h2;refine Cz U (Bh U (Bf Bx Bp U U ?_));refine BX B5 U (by rintro _ rfl; exact ((Cy (H.drew.get at0)))) ?_;refine Cz U (Bh U (D8 U U ?_));refine Bf Bx Bp U U ?_;refine BX B5 U (by rintro _ rfl; exact ((Cy (H.drew.get at0)))) ?_;refine BW ?_;replace H:=H.drew;refine Al FU (EX _ _ _) U ?_;rintro v w ⟨rfl,rfl⟩;refine AN U (.bool _) U (Ab (Aa (Ap _ U ?_ ?_)))
     ·intro h3;rw [e1,e2] at h3;have h3:=of_decide_eq_true h3;refine Au (Aa (Aq (A0 (ER [([0,1,2,3,4,5,6,7,8,9,10,11,12,13,14],15),([16],17)] (fun z=>z.heap[q]? = some (Bl 28 (CB g m))) [15,17] Bs (by kernel_rfl) (H.drew.get at0) ?_))));refine AF U U ?_;refine B2 U (Be U (B2 U (Be U (EP U U ?_))));refine B2 U (Be U (EP U U ?_));refine AH Bx Bp U U ?_;refine B0 B5 U (fun _ hx=>(Cy hx)) ?_;refine B2 U (Be U (AH Bx Bp U U ?_));refine B0 B5 U (fun _ hx=>(Cy hx)) ?_;refine AH Bx Bp U U ?_;refine AP ?_;replace H:=H.drew
      refine Cc j (fun k => .int .u64 (if k=j then g (j - 1) else g k)) (.int _ _) Bp U U U H at0 (by omega) (by rw [if_pos rfl]; exact congrArg (fun z=>Value.int .u64 (g z)) (by omega)) (fun k _ hk=>by rw [if_neg hk]) ?_;rintro w H;refine Ab (Bz U (AF U U ?_));refine AH Bx Bp U U ?_;refine AP (Cc (j - 1) (fun k => .int .u64 (sw g j (j - 1) k)) (.int _ _) Bp U U U H at0 (by omega) (by rw [DL]; rfl) (fun k _ hk=>by rw [DH hk]) ?_);rintro w H;refine Ab (Bz U (BH (A5 (Aa (Az (Ae U (Br U U ?_)))))));refine Ad U (Ab (Aa ?_));exact ⟨(j - 1,sw g j (j - 1)),rfl,⟨congrArg (Value.int .i64) (by dsimp only; omega),trivial⟩,⟨by dsimp only; omega,by dsimp only; omega,hS.step j (j - 1) ⟨by omega,by omega⟩ ⟨by omega,by omega⟩,hI.step (by omega) hj2 h3,H⟩,by dsimp only; omega⟩
     ·intro h3;rw [e1,e2] at h3;have h3:=of_decide_eq_false h3;refine Bq (Am (Am (AG (A5 (Aa (Az (Ae U (Ax U U ?_))))))));refine Ad U (Ab (Aa ?_));exact ⟨(i+1,g),rfl,⟨rfl,trivial⟩,⟨by dsimp only; omega,by dsimp only; omega,hS,hI.done hj1 fun _=>by omega,H⟩,by dsimp only; omega⟩
    ·intro h2;replace h2:=AK h2;refine A2 U (A2 U (A2 U (A2 U (A2 U (A2 U (A2 U (A2 U (A2 U (BW ?_)))))))));replace H:=H.drew;refine Ah U (AU U (.bool _) U (Ab (Aa (Fg U (Bq (Am (Am (AG (A5 (Aa (Az (Ae U (Ax U U ?_)))))))))))));refine Ad U (Ab (Aa ?_));exact ⟨(i+1,g),rfl,⟨rfl,trivial⟩,⟨by dsimp only; omega,by dsimp only; omega,hS,hI.done hj1 fun h=>by omega,H⟩,by dsimp only; omega⟩
  ·intro h1;replace h1:=AK h1;refine Bq (Am (Am (AG (CF U U ?_))));exact ⟨rfl,g,hS,fun x y hx hxy hy=>hO x y hx hxy (by omega),H⟩
end
end Go.Proofs.YtdagmpmdcgedcaaGreat
namespace Go.Proofs.YtdagmpmdcgedcaaGreat
open Go.GV
attribute [local irreducible] AB W Wq Wt
def HeapU (g:Nat→Int) (o lo hi:Nat):Prop:=∀ i c,lo≤i→(c=2*i+1∨c=2*i+2)→c<hi→g (o+c)≤g (o+i)
structure SiftU (g:Nat→Int) (o lo r hi:Nat):Prop where
 oth:∀ i c,lo≤i→i≠r→(c=2*i+1∨c=2*i+2)→c<hi→g (o+c)≤g (o+i)
 up:∀ p c,lo≤p→(r=2*p+1∨r=2*p+2)→(c=2*r+1∨c=2*r+2)→c<hi→g (o+c)≤g (o+p)
theorem SiftU.start {g:Nat→Int} {o lo hi:Nat} (h:HeapU g o (lo+1) hi):SiftU g o lo lo hi:=⟨fun i c hi hne hc hh=>h i c (by omega) hc hh,fun p c hp hr _ _=>by omega⟩
theorem SiftU.done {g:Nat→Int} {o lo r hi:Nat} (h:SiftU g o lo r hi) (hr:∀ c,(c=2*r+1∨c=2*r+2)→c<hi→g (o+c)≤g (o+r)):HeapU g o lo hi:=fun i c hl hc hh=>by
 by_cases e:i=r
 ·subst e; exact hr c hc hh
 ·exact h.oth i c hl e hc hh
theorem SiftU.step {g:Nat→Int} {o lo r hi c:Nat} (h:SiftU g o lo r hi) (_hl:lo≤r) (hc:c=2*r+1∨c=2*r+2) (hch:c<hi) (hmax:∀ d,(d=2*r+1∨d=2*r+2)→d<hi→g (o+d)≤g (o+c)) (hlt:g (o+r)<g (o+c)):SiftU (sw g (o+r) (o+c)) o lo c hi:=by
 refine ⟨fun i d hi' hne hd hh=>?_,fun p e hp hcp he hh=>?_⟩
 ·by_cases e1:i=r
  ·rw [e1,HD]
   by_cases e2:d=c
   ·rw [e2,DL]; omega
   ·rw [E6]; exact hmax d (by omega) hh
  ·rw [E6 (k:=o+i)]
   by_cases e2:d=r
   ·rw [e2,HD]; exact h.up i c hi' (by omega) hc hch
   ·rw [E6]; exact h.oth i d hi' e1 hd hh
 ·have e1:p=r:=by omega
  rw [e1,HD,E6];exact h.oth c e (by omega) (by omega) he hh
theorem HeapU.root {g:Nat→Int} {o hi:Nat} (h:HeapU g o 0 hi):∀ i,i<hi→g (o+i)≤g (o+0):=fun i=>by
 induction i using Nat.strongRecOn with
 | _ i ih =>
  intro hi'
  rcases Nat.eq_zero_or_pos i with h0 | h0
  ·rw [h0]; exact Int.le_refl _
  ·exact Int.le_trans (h ((i - 1) / 2) i (Nat.zero_le _) (by omega) hi') (ih ((i - 1) / 2) (by omega) (by omega))
section
variable {w:World} {q n c m:Nat} {f:Nat→Int}
set_option maxRecDepth 20000 in
set_option maxHeartbeats 2000000 in
theorem Wk {lo hi o:Nat} (hd:w.heap[q]? = some (Bl 28 (CB f m))) (hn:n≤m) (hm:n≤1000000000) (hH:HeapU f o (lo+1) hi)  (hb:o+hi≤n:=by omega) (hl:lo≤1000000000:=by omega):
  Ret Tryz.prog 256 #[.slice (some ⟨q,0,none⟩) n c,.int .i64 (lo:Int),.int .i64 (hi:Int),.int .i64 (o:Int)] w fun v w'=>v = .tuple #[]∧∃ g,Sw o (o+hi) f g∧HeapU g o lo hi∧Ctx w [q] w' [(q,Bl 28 (CB g m))]:=by
 obtain ⟨w0,rfl⟩:∃ w0,w0=w:=⟨_,rfl⟩;have H:=Ctx.start1 hd;refine Aw (fn:=Tryz.f256) Tryz.func256 U [.slice (some ⟨q,0,none⟩) n c,.int .i64 (lo:Int),.int .i64 (hi:Int),.int .i64 (o:Int)] U (by kernel_rfl) ?_;refine Af (Ae U (Ad U (Ab (Aa (A0 (Bt 75557863725914323417856 (α:=Nat × (Nat→Int)) (fun t=>[(8,.int .i64 (t.1:Int))]) (fun t w'=>lo≤t.1∧t.1≤1000000000∧Sw o (o+hi) f t.2∧SiftU t.2 o lo t.1 hi∧Ctx w0 [q] w' [(q,Bl 28 (CB t.2 m))]) (fun t=>1000000000 - t.1) (lo,f) U ?_ ?_ ?_))))))
 ·exact ⟨rfl,trivial⟩
 ·exact ⟨Nat.le_refl _,hl,.refl _,.start hH,H⟩
 ·rintro ⟨r,g⟩ j0 w ⟨hr1,hr2,hS,hD,H⟩; dsimp only at hr1 hr2 hS hD H; dsimp only;refine A0 (Af (Ae U (DE U U ?_)));refine Ax U U ?_;rw [show 2*(r:Int)+1=((2*r+1:Nat):Int) by omega];refine Ad U (Ab (Aa (Aq (Af (Ae U (Ae U (C4 U U (Ab (Aa (Ap _ U ?_ ?_))))))))))
  ·intro h1;replace h1:=AJ h1;refine Bq (Am (Fh U (Am (AG (CF U U ?_)))));exact ⟨rfl,g,hS,hD.done fun c hc hh=>by omega,H⟩
  ·intro h1;replace h1:=AK h1;have e1:((o:Int)+((2*r+1:Nat):Int)).toNat=o+(2*r+1):=by omega
   have e2:((o:Int)+((2*r+1:Nat):Int)+1).toNat=o+(2*r+2):=by omega
   refine Au (Aa (Aq (DC 137438822400 (α:=Unit) (fun _=>[(36,.bool (decide (2*r+2<hi∧g (o+(2*r+1))<g (o+(2*r+2)))))]) (fun _ w'=>Ctx w0 [q] w' [(q,Bl 28 (CB g m))]) U ?_ ?_)))
   ·skip
    refine FC 18 Bs (by kernel_rfl) U U ?_;refine Bh U (De U U ?_);refine Bh U (KI U U (CU U (Dw 21 U ?_ ?_)))
    ·intro h1;replace h1:=AJ h1;refine Cz U (Bh U (Bh U (De U U ?_)));refine Bf Bx Bp U U ?_;refine BX B5 U (by rintro _ rfl; exact ((Cy (H.drew.get at0)))) ?_;refine Cz U (Bh U (Bh U (De U U ?_)));refine De U U ?_;refine Bf Bx Bp U U ?_;refine BX B5 U (by rintro _ rfl; exact ((Cy (H.drew.get at0)))) ?_;refine BW ?_;replace H:=H.drew;refine Al FU (EX _ _ _) U ?_;rintro v w ⟨rfl,rfl⟩;rw [e1,e2];refine AN U (.bool _) U (Ab (Aa ?_));exact ⟨(),rfl,⟨congrArg Value.bool (by rw [Bool.eq_iff_iff]; simp_all; try omega),trivial⟩,H⟩
    ·intro h2;replace h2:=AK h2;refine A2 U (A2 U (A2 U (A2 U (A2 U (A2 U (A2 U (A2 U (A2 U (A2 U ?_)))))))));refine A2 U (A2 U (A2 U (BW ?_)));replace H:=H.drew;refine Ah U (AU U (.bool _) U (Ab (Aa ?_)));exact ⟨(),rfl,⟨congrArg Value.bool (by rw [Bool.eq_iff_iff]; simp_all; try omega),trivial⟩,H⟩
   ·rintro - j1 w H;refine F8 412316860928 (α:=Nat) (fun d=>[(9,.int .i64 (d:Int))]) (fun d w'=>(d=2*r+1∨d=2*r+2)∧d<hi∧(∀ e,(e=2*r+1∨e=2*r+2)→e<hi→g (o+e)≤g (o+d))∧Ctx w0 [q] w' [(q,Bl 28 (CB g m))]) U ?_ ?_
    ·skip
     refine Ap _ U ?_ ?_
     ·intro h2;have h2:=of_decide_eq_true h2;refine Az (Ae U (Ax U U ?_));refine Ad U (Ab (Aa ?_));refine ⟨2*r+2,rfl,⟨congrArg (Value.int .i64) (by omega),trivial⟩,.inr rfl,h2.1,fun e he _=>?_,H⟩
      rcases he with rfl | rfl
      ·omega
      ·omega
     ·intro h2;have h2:=of_decide_eq_false h2;refine Au (Aa ?_);refine ⟨2*r+1,rfl,⟨rfl,trivial⟩,.inl rfl,by omega,fun e he hh=>?_,H⟩
      rcases he with rfl | rfl
      ·omega
      ·rcases Int.lt_or_le (g (o+(2*r+1))) (g (o+(2*r+2))) with h7 | h7
       ·exact absurd ⟨hh,h7⟩ h2
       ·exact h7
    ·rintro d j2 w ⟨hd1,hd2,hmax,H⟩;have e3:((o:Int)+(r:Int)).toNat=o+r:=by omega
     have e4:((o:Int)+(d:Int)).toNat=o+d:=by omega
     refine Aq (Eb 12 Bs (by kernel_rfl) U U ?_);refine Cz U (Bh U (Bh U (De U U ?_)));refine Bf Bx Bp U U ?_;refine BX B5 U (by rintro _ rfl; exact ((Cy (H.drew.get at0)))) ?_;refine Cz U (Bh U (Bh U (De U U ?_)));refine Bf Bx Bp U U ?_;refine BX B5 U (by rintro _ rfl; exact ((Cy (H.drew.get at0)))) ?_;refine BW ?_;replace H:=H.drew;refine Al FU (EX _ _ _) U ?_;rintro v w ⟨rfl,rfl⟩;rw [e3,e4];refine BA U (Ab (Aa (Ap _ U ?_ ?_)))
     ·intro h3;replace h3:=BE h3;refine A4 (Ao (AA (Ao (AA (FA U U ?_)))));have h3:¬ g (o+r)<g (o+d):=by simpa using h3
      exact ⟨rfl,g,hS,hD.done fun c hc hh=>Int.le_trans (hmax c hc hh) (by omega),H⟩
     ·intro h3;replace h3:=BF h3;have h3:g (o+r)<g (o+d):=by simpa using h3
      refine Au (Aa (Cq [([0,1,2,3,4,5,6,7,8,9,10,11,12,13,14,15,16,17,18,19,20],21),([22],23)] (fun z=>z.heap[q]? = some (Bl 28 (CB g m))) [21,23] Bs (by kernel_rfl) (H.drew.get at0) ?_));refine AF U U ?_;refine B2 U (Be U (Be U (Eg U U ?_)));refine B2 U (Be U (Be U (Eg U U ?_)));refine B2 U (Be U (Be U (Eg U U ?_)));refine AH Bx Bp U U ?_;refine B0 B5 U (fun _ hx=>(Cy hx)) ?_;refine B2 U (Be U (Be U (Eg U U ?_)));refine AH Bx Bp U U ?_;refine B0 B5 U (fun _ hx=>(Cy hx)) ?_;refine AH Bx Bp U U ?_;refine AP ?_;replace H:=H.drew
      refine Cc (o+r) (fun k => .int .u64 (if k=o+r then g (o+d) else g k)) (.int _ _) Bp U U U H at0 (by omega) (by rw [if_pos rfl]; exact congrArg (fun z=>Value.int .u64 (g z)) (by omega)) (fun k _ hk=>by rw [if_neg hk]) ?_;rintro w H;refine Ab (Bz U (AF U U ?_));refine AH Bx Bp U U ?_;refine AP (Cc (o+d) (fun k => .int .u64 (sw g (o+r) (o+d) k)) (.int _ _) Bp U U U H at0 (by omega) (by rw [DL]; exact congrArg (fun z=>Value.int .u64 (g z)) (by omega)) (fun k _ hk=>by rw [DH hk]) ?_);rintro w H;refine Ab (Bz U (BH (Az (Ae U (Ad U (Ab (A5 (Aa ?_))))))));exact ⟨(d,sw g (o+r) (o+d)),rfl,⟨rfl,trivial⟩,⟨by dsimp only; omega,by dsimp only; omega,hS.step _ _ ⟨by omega,by omega⟩ ⟨by omega,by omega⟩,hD.step hr1 hd1 hd2 hmax h3,H⟩,by dsimp only; omega⟩
structure HsU (g:Nat→Int) (a i b:Nat):Prop where
 srt:JE g (a+i) b
 le:∀ x y,x<i→a+i≤y→y<b→g (a+x)≤g y
set_option maxRecDepth 20000 in
set_option maxHeartbeats 2000000 in
theorem T9 {a b:Nat} (hd:w.heap[q]? = some (Bl 28 (CB f m))) (hn:n≤m) (hm:n≤1000000000)  (hab:a<b:=by omega) (hb:b≤n:=by omega):
  Ret Tryz.prog 231 #[.slice (some ⟨q,0,none⟩) n c,.int .i64 (a:Int),.int .i64 (b:Int)] w fun v w'=>v = .tuple #[]∧∃ g,Sw a b f g∧JE g a b∧Ctx w [q] w' [(q,Bl 28 (CB g m))]:=by
 obtain ⟨w0,rfl⟩:∃ w0,w0=w:=⟨_,rfl⟩;have H:=Ctx.start1 hd;obtain ⟨l,rfl⟩:∃ l,b=a+l:=⟨b - a,by omega⟩;have hl:((a+l:Nat):Int) - (a:Int)=(l:Int):=by omega
 have hl1:(l:Int) - 1=((l - 1:Nat):Int):=by omega
 refine Aw (fn:=Tryz.f231) Tryz.func231 U [.slice (some ⟨q,0,none⟩) n c,.int .i64 (a:Int),.int .i64 ((a+l:Nat):Int)] U (by kernel_rfl) ?_;refine Af (Ae U (Ad U (Ab (Aa (Af (Ad U (Ab (Aa (Af (Ae U (Ae U ?_)))))))))));refine Br U U ?_;rw [hl];refine Ad U (Ab (Aa (Aq (Af (Ae U (Br U U ?_))))));refine JK U U (show _≤(9223372036854775807:Int) by omega) ?_;refine Ad U (Ab (Aa (A0 (Bt 133956096 (α:=Nat × (Nat→Int)) (fun t=>[(9,.int .i64 ((t.1:Int) - 1))]) (fun t w'=>t.1≤l+1∧Sw a (a+l) f t.2∧HeapU t.2 a t.1 l∧Ctx w0 [q] w' [(q,Bl 28 (CB t.2 m))]) (fun t=>t.1) ((l - 1) / 2+1,f) U ?_ ?_ ?_))))
 ·exact ⟨congrArg (Value.int .i64) (by dsimp only; omega),trivial⟩
 ·exact ⟨by dsimp only; omega,.refl _,fun i c h1 h2 h3=>by dsimp only at h1; omega,H⟩
 ·rintro ⟨k,g⟩ j0 w ⟨hk,hS,hP,H⟩; dsimp only at hk hS hP H; dsimp only
  rcases k with _ | k
  ·skip
   refine Aq (Af (Ae U (C4 U U (Ab (Aa (Ap _ U ?_ ?_))))))
   ·intro h1;replace h1:=AJ h1;omega
   ·intro h1;replace h1:=AK h1;refine Bq (Am (Am (AG (Aa (Af (Ae U (Br U U ?_)))))));refine Ad U (Ab (Aa (A0 (Bt 72057593501058048 (α:=Nat × (Nat→Int)) (fun t=>[(10,.int .i64 ((t.1:Int) - 1))]) (fun t w'=>t.1≤l∧Sw a (a+l) f t.2∧HeapU t.2 a 0 t.1∧HsU t.2 a t.1 (a+l)∧Ctx w0 [q] w' [(q,Bl 28 (CB t.2 m))]) (fun t=>t.1) (l,g) U ?_ ?_ ?_))))
    ·exact ⟨rfl,trivial⟩
    ·exact ⟨Nat.le_refl _,hS,hP,⟨fun x y h1 h2 h3=>by dsimp only at h1; omega,fun x y h1 h2 h3=>by dsimp only at h2; omega⟩,H⟩
    ·rintro ⟨k,g⟩ j1 w ⟨hk,hS,hP,hQ,H⟩; dsimp only at hk hS hP hQ H; dsimp only
     rcases k with _ | k
     ·skip
      refine Aq (Af (Ae U (C4 U U (Ab (Aa (Ap _ U ?_ ?_))))))
      ·intro h2;replace h2:=AJ h2;omega
      ·intro h2;replace h2:=AK h2;refine Bq (Am (Am (AG (CF U U ?_))));exact ⟨rfl,g,hS,hQ.srt,H⟩
     ·rw [show ((k+1:Nat):Int) - 1=(k:Int) by omega];refine Aq (Af (Ae U (C4 U U (Ab (Aa (Ap _ U ?_ ?_))))))
      ·intro h2;replace h2:=AJ h2;refine Au (Aa (Aq (A0 (Cq [([0,1,2,3,4,5,6,7,8,9,10,11,12,13,14,15,16],17),([18],19)] (fun z=>z.heap[q]? = some (Bl 28 (CB g m))) [17,19] Bs (by kernel_rfl) (H.drew.get at0) ?_))));refine AF U U ?_;refine B2 U (Be U (B2 U (Be U (Be U (Eg U U ?_)))));refine B2 U (Be U (Be U (Eg U U ?_)));refine AH Bx Bp U U ?_;refine B0 B5 U (fun _ hx=>(Cy hx)) ?_;refine B2 U (Be U (AH Bx Bp U U ?_));refine B0 B5 U (fun _ hx=>(Cy hx)) ?_;refine AH Bx Bp U U ?_;refine AP ?_;replace H:=H.drew
       refine Cc (a+0) (fun z => .int .u64 (if z=a+0 then g (a+k) else g z)) (.int _ _) Bp U U U H at0 (by omega) (by rw [if_pos rfl]; exact congrArg (fun z=>Value.int .u64 (g z)) (by omega)) (fun z _ hz=>by rw [if_neg hz]) ?_;rintro w H;refine Ab (Bz U (AF U U ?_));refine AH Bx Bp U U ?_;refine AP (Cc (a+k) (fun z => .int .u64 (sw g (a+0) (a+k) z)) (.int _ _) Bp U U U H at0 (by omega) (by rw [DL]; exact congrArg (fun z=>Value.int .u64 (g z)) (by omega)) (fun z _ hz=>by rw [DH hz]) ?_);rintro w H;refine Ab (Bz U (BH (Az (A3 U (Ae U (Ae U (Ae U (Al YW (Wk (lo:=0) (hi:=k) (o:=a) (f:=sw g (a+0) (a+k)) (H.get at0) hn hm (fun i c h1 h2 h3=>by rw [E6,E6]; exact hP i c (by omega) h2 (by omega))) U ?_))))))));rintro rv w ⟨rfl,g2,hS2,hP2,H2⟩
       replace H:=Ctx.back (L1:=[_]) (L2:=[]) H H2;refine Ab (A5 (Aa (Az (Ae U (Br U U ?_)))));refine Ad U (Ab (Aa ?_));have hout:=fun z hz=>hS2.out z hz;have hk2:g2 (a+k)=g (a+0):=by rw [hout _ (.inr (Nat.le_refl _)),DL]
       have hot:∀ z,a+k<z→g2 z=g z:=fun z hz=>by rw [hout _ (.inr (by omega)),E6]
       refine ⟨(k,g2),rfl,⟨rfl,trivial⟩,⟨by dsimp only; omega,(hS.step (a+0) (a+k) ⟨by omega,by omega⟩ ⟨by omega,by omega⟩).trans (hS2.mono (Nat.le_refl _) (by omega)),hP2,⟨fun x y h1 h2 h3=>?_,fun x y h1 h2 h3=>?_⟩,H⟩,by dsimp only; omega⟩
       ·dsimp only at h1 ⊢;rw [hot y (by omega)]
        by_cases e:x=a+k
        ·rw [e,hk2]; exact hQ.le 0 y (by omega) (by omega) h3
        ·rw [hot x (by omega)]; exact hQ.srt x y (by omega) h2 h3
       ·dsimp only at h1 h2 ⊢;obtain ⟨z,hz1,hz2,hz3⟩:=hS2.mem (a+x) (by omega) (by omega)
        obtain ⟨u,hu1,hu2⟩:∃ u,u<k+1∧g2 (a+x)=g (a+u):=by
         by_cases e:z=a+0
         ·exact ⟨k,by omega,by rw [hz3,e,HD]⟩
         ·exact ⟨z - a,by omega,by rw [hz3,E6 (h1:=e)]; congr 1; omega⟩
        rw [hu2]
        by_cases e:y=a+k
        ·rw [e,hk2]; exact hP.root u hu1
        ·rw [hot y (by omega)]; exact hQ.le u y hu1 (by omega) h3
      ·intro h2;replace h2:=AK h2;omega
  ·rw [show ((k+1:Nat):Int) - 1=(k:Int) by omega];refine Aq (Af (Ae U (C4 U U (Ab (Aa (Ap _ U ?_ ?_))))))
   ·intro h1;replace h1:=AJ h1;refine Au (Aa (Aq (A0 (Az (A3 U (Ae U (Ae U (Ae U (Al YW (Wk (lo:=k) (hi:=l) (o:=a) (f:=g) (H.get at0) hn hm hP) U ?_)))))))));rintro rv w ⟨rfl,g2,hS2,hP2,H2⟩;replace H:=Ctx.back (L1:=[_]) (L2:=[]) H H2;refine Ab (A5 (Aa (Az (Ae U (Br U U ?_)))));refine Ad U (Ab (Aa ?_));exact ⟨(k,g2),rfl,⟨rfl,trivial⟩,⟨by dsimp only; omega,hS.trans hS2,hP2,H⟩,by dsimp only; omega⟩
   ·intro h1;replace h1:=AK h1;omega
end
end Go.Proofs.YtdagmpmdcgedcaaGreat
namespace Go.Proofs.YtdagmpmdcgedcaaGreat
open Go.GV
attribute [local irreducible] AB W Wq Wt
section
variable {w:World} {q n c m s:Nat} {k:Int} {f:Nat→Int}
set_option maxRecDepth 20000 in
theorem MJ {i j:Nat} (hd:w.heap[q]? = some (Bl 28 (CB f m))) (hs:w.heap[s]? = some (Bl 3 [.int .i64 k])) (hj:j<n) (hn:n≤m) (_hm:n≤1000000000)  (hi:i<n:=by omega):
  Ret Tryz.prog 277 #[.slice (some ⟨q,0,none⟩) n c,.int .i64 (i:Int),.int .i64 (j:Int),ptr s] w fun v w'=>∃ (x y:Nat) (k':Int),((x=i∧y=j)∨(x=j∧y=i))∧v = .tuple #[.int .i64 (x:Int),.int .i64 (y:Int)]∧Ctx w [s] w' [(s,Bl 3 [.int .i64 k'])]:=by
 obtain ⟨w0,rfl⟩:∃ w0,w0=w:=⟨_,rfl⟩;have H:=Ctx.start1 hs;refine Aw (fn:=Tryz.f277) Tryz.func277 U [.slice (some ⟨q,0,none⟩) n c,.int .i64 (i:Int),.int .i64 (j:Int),.pointer (some ⟨s,0,none⟩)] U (by kernel_rfl) ?_;refine Af (Ad U (Ad U (Ab (Aa (Aq (Eb 8 Bs (by kernel_rfl) U U ?_))))));refine Cz U (Bh U (Bf Bx Bp U U ?_));refine BX B5 U (by rintro _ rfl; exact ((Cy (w:=w0.drew) hd))) ?_;refine Cz U (Bh U (Bf Bx Bp U U ?_));refine BX B5 U (by rintro _ rfl; exact ((Cy (w:=w0.drew) hd))) ?_;refine BW ?_;replace H:=H.drew;refine Al FU (EX _ _ _) U ?_;rintro v w ⟨rfl,rfl⟩;refine Ab (Aa (Ap _ U ?_ ?_))
 ·intro h1;refine Af (Ay U (A9 U (AM Ca U H at0 U (Nq U U U ?_))));intro k2;refine A9 U (Cp (.int _ _) FY U U U H at0 (by (simp; done)) ?_);rintro w H;refine Ab (Aa (Af (Ae U (Ae U (Ad U (Ad U (Ab (Aa (A4 (Ao (BL (v1:=(.int _ _)) (v2:=(.int _ _)) U U U U ?_)))))))))));exact ⟨j,i,k2,.inr ⟨rfl,rfl⟩,rfl,H⟩
 ·intro h1;refine Au (Aa (Af (Ae U (Ae U (Ad U (Ad U (Ab (Aa (A4 (BL (v1:=(.int _ _)) (v2:=(.int _ _)) U U U U ?_))))))))));exact ⟨i,j,k,.inl ⟨rfl,rfl⟩,rfl,H⟩
set_option maxRecDepth 20000 in
theorem Q2 {i j l:Nat} (hd:w.heap[q]? = some (Bl 28 (CB f m))) (hs:w.heap[s]? = some (Bl 3 [.int .i64 k])) (hne:q≠s) (hn:n≤m) (hm:n≤1000000000)  (hi:i<n:=by omega) (hj:j<n:=by omega) (hl:l<n:=by omega):
  Ret Tryz.prog 260 #[.slice (some ⟨q,0,none⟩) n c,.int .i64 (i:Int),.int .i64 (j:Int),.int .i64 (l:Int),ptr s] w fun v w'=>∃ (x:Nat) (k':Int),(x=i∨x=j∨x=l)∧v = .int .i64 (x:Int)∧Ctx w [s] w' [(s,Bl 3 [.int .i64 k'])]:=by
 obtain ⟨w0,rfl⟩:∃ w0,w0=w:=⟨_,rfl⟩;have H:=Ctx.start1 hs;have hq:q∉[s]:=by rw [List.mem_singleton]; exact hne
 refine Aw (fn:=Tryz.f260) Tryz.func260 U [.slice (some ⟨q,0,none⟩) n c,.int .i64 (i:Int),.int .i64 (j:Int),.int .i64 (l:Int),.pointer (some ⟨s,0,none⟩)] U (by kernel_rfl) ?_;refine Af (Ad U (Ab (Aa (Af (A3 U (Ae U (Ae U (Ay U (Al UO (MJ (i:=i) (j:=j) (H.ext.to hd hq) (H.get at0) (hi:=hi) hj hn hm) U ?_)))))))));rintro v w ⟨x1,y1,k1,h1,rfl,H2⟩;replace H:=Ctx.back (L1:=[_]) (L2:=[]) H H2;refine BM U (A6 U U (A6 U U (Ad U (Ad U (Ab (Aa (Af (A3 U (Ae U (Ae U ?_))))))))));refine Ay U (Al UO (MJ (i:=y1) (j:=l) (H.ext.to hd hq) (H.get at0) hl hn hm) U ?_);rintro v w ⟨x2,y2,k2,h2,rfl,H2⟩;replace H:=Ctx.back (L1:=[_]) (L2:=[]) H H2;refine BM U (A6 U U (A6 U U (Ad U (Ad U (Ab (Aa (Af (A3 U (Ae U (Ae U ?_))))))))));refine Ay U (Al UO (MJ (i:=x1) (j:=x2) (H.ext.to hd hq) (H.get at0) (by omega) hn hm) U ?_)
 rintro v w ⟨x3,y3,k3,h3,rfl,H2⟩;replace H:=Ctx.back (L1:=[_]) (L2:=[]) H H2;refine BM U (A6 U U (A6 U U (Ad U (Ad U (Ab (Aa (Af (Ae U (Ad U (Ab (Aa ?_)))))))))));refine A4 (AD (v:=(.int _ _)) U U U ?_);exact ⟨y3,k3,by omega,rfl,H⟩
set_option maxRecDepth 20000 in
theorem Jy {i:Nat} (hd:w.heap[q]? = some (Bl 28 (CB f m))) (hs:w.heap[s]? = some (Bl 3 [.int .i64 k])) (hne:q≠s) (hn:n≤m) (hm:n≤1000000000)  (hi0:0<i:=by omega) (hi:i+1<n:=by omega):
  Ret Tryz.prog 259 #[.slice (some ⟨q,0,none⟩) n c,.int .i64 (i:Int),ptr s] w fun v w'=>∃ (x:Nat) (k':Int),(x+1=i∨x=i∨x=i+1)∧v = .int .i64 (x:Int)∧Ctx w [s] w' [(s,Bl 3 [.int .i64 k'])]:=by
 obtain ⟨w0,rfl⟩:∃ w0,w0=w:=⟨_,rfl⟩;refine Aw (fn:=Tryz.f259) Tryz.func259 U [.slice (some ⟨q,0,none⟩) n c,.int .i64 (i:Int),.pointer (some ⟨s,0,none⟩)] U (by kernel_rfl) ?_;refine Af (Ad U (Ab (Aa (Af (A3 U (Ae U (Br U U ?_)))))));rw [show (i:Int) - 1=((i - 1:Nat):Int) by omega];refine Ae U (Ae U (Ax U U ?_));rw [show (i:Int)+1=((i+1:Nat):Int) by omega];refine Ay U (Al YX (Q2 (i:=i - 1) (j:=i) (l:=i+1) hd hs hne hn hm) U ?_);rintro v w ⟨x1,k1,h1,rfl,H⟩;refine Ad U (Ab (Aa (A4 (AD (v:=(.int _ _)) U U U ?_))));exact ⟨x1,k1,by omega,rfl,H⟩
set_option maxRecDepth 20000 in
set_option maxHeartbeats 2000000 in
theorem ZX {a b:Nat} (hd:w.heap[q]? = some (Bl 28 (CB f m))) (hn:n≤m) (hm:n≤1000000000)  (hab:a<b:=by omega) (hb:b≤n:=by omega):
  Ret Tryz.prog 233 #[.slice (some ⟨q,0,none⟩) n c,.int .i64 (a:Int),.int .i64 (b:Int)] w fun v w'=>∃ (x:Nat) (h:Int),a≤x∧x<b∧v = .tuple #[.int .i64 (x:Int),.int .i64 h]∧Ext [] w w':=by
 obtain ⟨w0,rfl⟩:∃ w0,w0=w:=⟨_,rfl⟩;have H:=Ctx.start w0 [];obtain ⟨l,rfl⟩:∃ l,b=a+l:=⟨b - a,by omega⟩;have hl:((a+l:Nat):Int) - (a:Int)=(l:Int):=by omega
 have hql:=Ba hd;refine Aw (fn:=Tryz.f233) Tryz.func233 U [.slice (some ⟨q,0,none⟩) n c,.int .i64 (a:Int),.int .i64 ((a+l:Nat):Int)] U (by kernel_rfl) ?_;refine Af (Ad U (Ad U (Ab (Aa (Af (Ae U (Ae U (Br U U ?_))))))));rw [hl];refine Ad U (Ab (Aa (Af (AX US H ?_))));rintro b9 w - H;refine Ab (Aa (Af (Ae U (Ae U (JK U U (show _≤(9223372036854775807:Int) by omega) ?_)))));refine DE U U ?_;refine Ax U U ?_;rw [show (a:Int)+(l:Int) / 4*1=((a+l / 4:Nat):Int) by omega];refine Ad U (Ab (Aa (Af (Ae U (Ae U (JK U U (show _≤(9223372036854775807:Int) by omega) ?_))))));refine DE U U ?_;refine Ax U U ?_;rw [show (a:Int)+(l:Int) / 4*2=((a+l / 4*2:Nat):Int) by omega]
 refine Ad U (Ab (Aa (Af (Ae U (Ae U (JK U U (show _≤(9223372036854775807:Int) by omega) ?_))))));refine DE U U ?_;refine Ax U U ?_;rw [show (a:Int)+(l:Int) / 4*3=((a+l / 4*3:Nat):Int) by omega];refine Ad U (Ab (Aa (Aq (Af (Ae U (C4 U U (Ab (Aa ?_))))))));have hqs:=H.own _ (List.mem_cons_self ..)
 have hne:q≠b9:=fun e=>by subst e; rcases hqs with h | h; cases h; dsimp only at h; omega
 refine F8 562941363493888 (α:=Nat × Int) (fun z=>[(11,.int .i64 (z.1:Int))]) (fun z w'=>a≤z.1∧z.1<a+l∧Ctx w0 [] w' [(b9,Bl 3 [.int .i64 z.2])]) U ?_ ?_
 ·skip
  refine Ap _ U ?_ ?_
  ·intro h1;replace h1:=AJ h1;refine Aq (Af (Ae U (C4 U U (Ab (Aa (F8 17557826313216 (α:=Nat × Nat × Nat × Int) (fun z=>[(10,.int .i64 (z.1:Int)),(11,.int .i64 (z.2.1:Int)),(12,.int .i64 (z.2.2.1:Int))]) (fun z w'=>(a≤z.1∧z.1<a+l)∧(a≤z.2.1∧z.2.1<a+l)∧(a≤z.2.2.1∧z.2.2.1<a+l)∧Ctx w0 [] w' [(b9,Bl 3 [.int .i64 z.2.2.2])]) U ?_ ?_))))))
   ·skip
    refine Ap _ U ?_ ?_
    ·intro h2;replace h2:=AJ h2;refine Af (A3 U (Ae U (Al UN (Jy (i:=a+l / 4) (H.ext.to hd (by simp)) (H.get at0) hne hn hm) U ?_)));rintro v w ⟨x1,k1,h3,rfl,H2⟩;replace H:=Ctx.back (L1:=[_]) (L2:=[]) H H2;refine Ad U (Ab (Aa (Af (A3 U (Ae U (Al UN (Jy (i:=a+l / 4*2) (H.ext.to hd (by simp)) (H.get at0) hne hn hm) U ?_))))));rintro v w ⟨x2,k2,h4,rfl,H2⟩;replace H:=Ctx.back (L1:=[_]) (L2:=[]) H H2;refine Ad U (Ab (Aa (Az (A3 U (Ae U (Al UN (Jy (i:=a+l / 4*3) (H.ext.to hd (by simp)) (H.get at0) hne hn hm) U ?_))))));rintro v w ⟨x3,k3,h5,rfl,H2⟩;replace H:=Ctx.back (L1:=[_]) (L2:=[]) H H2;refine Ad U (Ab (Aa ?_));exact ⟨(x1,x2,x3,k3),rfl,⟨rfl,rfl,rfl,trivial⟩,by dsimp only; omega,by dsimp only; omega,by dsimp only; omega,H⟩
    ·intro h2;replace h2:=AK h2;refine Au (Aa ?_);exact ⟨(a+l / 4,a+l / 4*2,a+l / 4*3,_),rfl,⟨rfl,rfl,rfl,trivial⟩,by dsimp only; omega,by dsimp only; omega,by dsimp only; omega,H⟩
   ·rintro ⟨x1,x2,x3,k1⟩ j1 w ⟨g1,g2,g3,H⟩; dsimp only at g1 g2 g3 H; dsimp only;refine Az (A3 U (Ae U (Ae U (Ae U (Al YX (Q2 (i:=x1) (j:=x2) (l:=x3) (H.ext.to hd (by simp)) (H.get at0) hne hn hm) U ?_)))));rintro v w ⟨x4,k4,h3,rfl,H2⟩;replace H:=Ctx.back (L1:=[_]) (L2:=[]) H H2;refine Ad U (Ab (Aa ?_));exact ⟨(x4,k4),rfl,⟨rfl,trivial⟩,by dsimp only; omega,by dsimp only; omega,H⟩
  ·intro h1;replace h1:=AK h1;refine Au (Aa ?_);exact ⟨(a+l / 4*2,_),rfl,⟨rfl,trivial⟩,by dsimp only; omega,by dsimp only; omega,H⟩
 ·rintro ⟨x,k⟩ j w ⟨g1,g2,H⟩; dsimp only at g1 g2 H; dsimp only;refine Af (AM Ca U H at0 U (Ab (Aa (A0 (Af (Cf U U (Ai U (Ab (Aa (Ap _ U ?_ ?_))))))))))
  ·intro h1;replace h1:=AJ h1;refine Af (Ae U (Ad U (Ad U (Ab (Aa (A4 (AA (BL (v1:=(.int _ _)) (v2:=(.int _ _)) U U U U ?_))))))));exact ⟨x,_,g1,g2,rfl,H.ext⟩
  ·intro h2;replace h2:=AK h2;refine Af (Cf U U (Ai U (Ab (Aa (Ap _ U ?_ ?_)))))
   ·intro h3;replace h3:=AJ h3;refine Af (Ae U (Ad U (Ad U (Ab (Aa (A4 (AA (BL (v1:=(.int _ _)) (v2:=(.int _ _)) U U U U ?_))))))));exact ⟨x,_,g1,g2,rfl,H.ext⟩
   ·intro h4;replace h4:=AK h4;refine Af (Ae U (Ad U (Ad U (Ab (Aa (A4 (AA (BL (v1:=(.int _ _)) (v2:=(.int _ _)) U U U U ?_))))))));exact ⟨x,_,g1,g2,rfl,H.ext⟩
set_option maxRecDepth 20000 in
set_option maxHeartbeats 2000000 in
theorem Vf {a b:Nat} (hd:w.heap[q]? = some (Bl 28 (CB f m))) (hn:n≤m) (hm:n≤1000000000)  (hab:a<b:=by omega) (hb:b≤n:=by omega):
  Ret Tryz.prog 234 #[.slice (some ⟨q,0,none⟩) n c,.int .i64 (a:Int),.int .i64 (b:Int)] w fun v w'=>v = .tuple #[]∧∃ g,Sw a b f g∧Ctx w [q] w' [(q,Bl 28 (CB g m))]:=by
 obtain ⟨w0,rfl⟩:∃ w0,w0=w:=⟨_,rfl⟩;have H:=Ctx.start1 hd;refine Aw (fn:=Tryz.f234) Tryz.func234 U [.slice (some ⟨q,0,none⟩) n c,.int .i64 (a:Int),.int .i64 (b:Int)] U (by kernel_rfl) ?_;refine Af (Ae U (Ad U (Ab (Aa (Af (Ae U (Br U U ?_)))))));rw [show (b:Int) - 1=((b - 1:Nat):Int) by omega];refine Ad U (Ab (Aa (A0 (Bt 4294965440 (α:=Nat × Nat × (Nat→Int)) (fun t=>[(6,.int .i64 (t.1:Int)),(7,.int .i64 (t.2.1:Int))]) (fun t w'=>a≤t.1∧t.2.1<b∧t.1≤b∧Sw a b f t.2.2∧Ctx w0 [q] w' [(q,Bl 28 (CB t.2.2 m))]) (fun t=>b - t.1) (a,b - 1,f) U ?_ ?_ ?_))))
 ·exact ⟨rfl,rfl,trivial⟩
 ·exact ⟨Nat.le_refl _,by dsimp only; omega,by dsimp only; omega,.refl _,H⟩
 ·rintro ⟨i,j,g⟩ j0 w ⟨g1,g2,g3,hS,H⟩; dsimp only at g1 g2 g3 hS H; dsimp only;refine Aq (Af (Ae U (Ae U (Bj U U (Ab (Aa (Ap _ U ?_ ?_)))))))
  ·intro h1;replace h1:=AJ h1;refine Au (Aa (A0 (Cq [([0,1,2,3,4,5,6,7,8,9,10,11,12],13),([14],15)] (fun z=>z.heap[q]? = some (Bl 28 (CB g m))) [13,15] Bs (by kernel_rfl) (H.drew.get at0) ?_)));refine AF U U ?_;refine B2 U (Be U (B2 U (Be U (B2 U (Be U (AH Bx Bp U U ?_))))));refine B0 B5 U (fun _ hx=>(Cy hx)) ?_;refine B2 U (Be U (AH Bx Bp U U ?_));refine B0 B5 U (fun _ hx=>(Cy hx)) ?_;refine AH Bx Bp U U ?_;refine AP ?_;replace H:=H.drew;refine Cc i (fun z => .int .u64 (if z=i then g j else g z)) (.int _ _) Bp U U U H at0 (by omega) (by rw [if_pos rfl]; exact congrArg (fun z=>Value.int .u64 (g z)) (by omega)) (fun z _ hz=>by rw [if_neg hz]) ?_;rintro w H;refine Ab (Bz U (AF U U ?_));refine AH Bx Bp U U ?_
   refine AP (Cc j (fun z => .int .u64 (sw g i j z)) (.int _ _) Bp U U U H at0 (by omega) (by rw [DL]; exact congrArg (fun z=>Value.int .u64 (g z)) (by omega)) (fun z _ hz=>by rw [DH hz]) ?_);rintro w H;refine Ab (Bz U (BH (Af (Ae U (Ax U U ?_)))));refine Ad U (Ab (Aa (Az (Ae U (Br U U ?_)))));refine Ad U (Ab (A5 (Aa ?_)));exact ⟨(i+1,j - 1,sw g i j),rfl,⟨congrArg (Value.int .i64) (by dsimp only; omega),congrArg (Value.int .i64) (by dsimp only; omega),trivial⟩,⟨by dsimp only; omega,by dsimp only; omega,by dsimp only; omega,hS.step i j ⟨by omega,by omega⟩ ⟨by omega,by omega⟩,H⟩,by dsimp only; omega⟩
  ·intro h1;replace h1:=AK h1;refine Bq (Am (Am (AG (CF U U ?_))));exact ⟨rfl,g,hS,H⟩
end
end Go.Proofs.YtdagmpmdcgedcaaGreat
namespace Go.Proofs.YtdagmpmdcgedcaaGreat
open Go.GV
attribute [local irreducible] AB W Wq Wt
structure PartU (g:Nat→Int) (a mid b:Nat):Prop where
 le:∀ x,a≤x→x<mid→g x≤g mid
 ge:∀ y,mid<y→y<b→g mid≤g y
theorem Q3 {g:Nat→Int} {a j b:Nat} (h1:∀ x,a<x→x≤j→g x<g a) (h2:∀ y,j<y→y<b→g a≤g y) (hj:a≤j:=by omega):PartU (sw g j a) a j b:=by
 have hv:sw g j a j=g a:=HD g j a;refine ⟨fun x hx hxj=>?_,fun y hy hyb=>?_⟩
 ·rw [hv]
  by_cases e:x=a
  ·rw [e,DL];exact Int.le_of_lt (h1 j (by omega) (Nat.le_refl _))
  ·rw [E6 (h2:=e)]; exact Int.le_of_lt (h1 x (by omega) (by omega))
 ·rw [hv,E6]; exact h2 y hy hyb
theorem Q4 {g:Nat→Int} {a i j b:Nat} (h:a+1≤i∧i≤j+1∧j<b∧(∀ x,a<x→x<i→g x<g a)∧∀ y,j<y→y<b→g a≤g y) (hij:i<j) (hi:g a≤g i) (hj:g j<g a) :
  a+1≤i+1∧i+1≤j - 1+1∧j - 1<b∧(∀ x,a<x→x<i+1→sw g i j x<sw g i j a)∧∀ y,j - 1<y→y<b→sw g i j a≤sw g i j y:=by
 obtain ⟨h1,h2,h3,h4,h5⟩:=h;have ha:sw g i j a=g a:=E6;rw [ha];refine ⟨by omega,by omega,by omega,fun x hx hxi=>?_,fun y hy hyb=>?_⟩
 ·by_cases e:x=i
  ·rw [e,HD]; exact hj
  ·rw [E6 (h1:=e)]; exact h4 x hx (by omega)
 ·by_cases e:y=j
  ·rw [e,DL]; exact hi
  ·rw [E6 (h2:=e)]; exact h5 y (by omega) hyb
section
variable {w:World} {q n c m:Nat} {f:Nat→Int}
set_option maxRecDepth 20000 in
set_option maxHeartbeats 4000000 in
theorem Se {a b p:Nat} (hd:w.heap[q]? = some (Bl 28 (CB f m))) (hn:n≤m) (hm:n≤1000000000) (hp:a≤p∧p<b)  (hab:a<b:=by omega) (hb:b≤n:=by omega):
  Ret Tryz.prog 238 #[.slice (some ⟨q,0,none⟩) n c,.int .i64 (a:Int),.int .i64 (b:Int),.int .i64 (p:Int)] w fun v w'=>∃ (mid:Nat) (t:Bool) (g:Nat→Int),v = .tuple #[.int .i64 (mid:Int),.bool t]∧Sw a b f g∧a≤mid∧mid<b∧PartU g a mid b∧Ctx w [q] w' [(q,Bl 28 (CB g m))]:=by
 obtain ⟨w0,rfl⟩:∃ w0,w0=w:=⟨_,rfl⟩;have H:=Ctx.start1 hd;refine Aw (fn:=Tryz.f238) Tryz.func238 U [.slice (some ⟨q,0,none⟩) n c,.int .i64 (a:Int),.int .i64 (b:Int),.int .i64 (p:Int)] U (by kernel_rfl) ?_;refine Af (Ad U (Ai U (Ab (Aa (Cq [([0,1,2,3,4,5,6,7,8,9,10,11,12],13),([14],15)] (fun z=>z.heap[q]? = some (Bl 28 (CB (f) m))) [13,15] Bs (by kernel_rfl) (H.drew.get at0) ?_)))));refine AF U U ?_;refine B2 U (Be U (B2 U (Be U (B2 U (Be U (AH Bx Bp U U ?_))))));refine B0 B5 U (fun _ hx=>(Cy hx)) ?_;refine B2 U (Be U (AH Bx Bp U U ?_));refine B0 B5 U (fun _ hx=>(Cy hx)) ?_;refine AH Bx Bp U U ?_;refine AP ?_;replace H:=H.drew
 refine Cc (a) (fun z => .int .u64 (if z=a then (f) (p) else (f) z)) (.int _ _) Bp U U U H at0 (by omega) (by rw [if_pos rfl]; exact congrArg (fun z=>Value.int .u64 ((f) z)) (by omega)) (fun z _ hz=>by rw [if_neg hz]) ?_;rintro w H;refine Ab (Bz U (AF U U ?_));refine AH Bx Bp U U ?_;refine AP (Cc (p) (fun z => .int .u64 (sw (f) (a) (p) z)) (.int _ _) Bp U U U H at0 (by omega) (by rw [DL]; exact congrArg (fun z=>Value.int .u64 ((f) z)) (by omega)) (fun z _ hz=>by rw [DH hz]) ?_);rintro w H;refine Ab (Bz U (BH ?_));have hS0:=(Sw.refl (a:=a) (b:=b) f).step a p ⟨by omega,by omega⟩ hp;obtain ⟨g,hg⟩:∃ g,g=sw f a p:=⟨_,rfl⟩;rw [← hg] at hS0 H;have hi0:a+1≤(a+1)∧(a+1)≤(b - 1)+1∧(b - 1)<b∧(∀ x,a<x→x<(a+1)→(g) x<(g) a)∧∀ y,(b - 1)<y→y<b→(g) a≤(g) y:=⟨Nat.le_refl _,by omega,by omega,fun x h1 h2=>by omega,fun y h1 h2=>by omega⟩
 refine Af (Ae U (Ax U U ?_));rw [show (a:Int)+1=((a+1:Nat):Int) by omega];refine Ae U (Br U U ?_);rw [show (b:Int) - 1=((b - 1:Nat):Int) by omega];refine Ad U (Ad U (Ab (Aa (Aq (A0 (Bt 70367670436864 (α:=Nat) (fun i=>[(10,.int .i64 (i:Int))]) (fun i w'=>(a+1≤i∧i≤(b - 1)+1∧(b - 1)<b∧(∀ x,a<x→x<i→(g) x<(g) a)∧∀ y,(b - 1)<y→y<b→(g) a≤(g) y)∧Ctx w0 [q] w' [(q,Bl 28 (CB (g) m))]) (fun i=>b - i) (a+1) U ?_ ?_ ?_))))))
 ·exact ⟨by rfl,trivial⟩
 ·exact ⟨by assumption,H⟩
 ·rintro i jx w ⟨hiv,H⟩;refine Aq (DC 17591112302592 (α:=Unit) (fun _=>[(43,.bool (decide (i≤b - 1∧g i<g a)))]) (fun _ w'=>Ctx w0 [q] w' [(q,Bl 28 (CB (g) m))]) U ?_ ?_)
  ·skip
   refine FC 12 Bs (by kernel_rfl) U U ?_;refine Bh U (Bh U (Oc U U (CU U (Dw 33 U ?_ ?_))))
   ·intro h1;replace h1:=AJ h1;refine Cz U (Bh U (Bf Bx Bp U U ?_));refine BX B5 U (by rintro _ rfl; exact ((Cy (H.drew.get at0)))) ?_;refine Cz U (Bh U (Bf Bx Bp U U ?_));refine BX B5 U (by rintro _ rfl; exact ((Cy (H.drew.get at0)))) ?_;refine BW ?_;replace H:=H.drew;refine Al FU (EX _ _ _) U ?_;rintro v w ⟨rfl,rfl⟩;simp only [Int.toNat_natCast];refine AN U (.bool _) U (Ab (Aa ?_));exact ⟨(),rfl,⟨congrArg Value.bool (by clear hiv; rw [Bool.eq_iff_iff]; simp_all; try omega),trivial⟩,H⟩
   ·intro h2;replace h2:=AK h2;refine A2 U (A2 U (A2 U (A2 U (A2 U (A2 U (A2 U (A2 U (BW ?_))))))));replace H:=H.drew;refine Ah U (AU U (.bool _) U (Ab (Aa ?_)));exact ⟨(),rfl,⟨congrArg Value.bool (by clear hiv; rw [Bool.eq_iff_iff]; simp_all; try omega),trivial⟩,H⟩
  ·rintro - jy w H;refine Ap _ U ?_ ?_
   ·intro hc;have hc:=of_decide_eq_true hc;refine Au (Aa (A0 (Az (Ae U (Ax U U ?_)))));refine Ad U (Ab (A5 (Aa ?_)));exact ⟨i+1,rfl,⟨congrArg (Value.int .i64) (by omega),trivial⟩,⟨⟨by omega,by omega,by omega,fun x h1 h2=>(if e:x=i then by rw [e]; exact hc.2 else hiv.2.2.2.1 x h1 (by omega)),hiv.2.2.2.2⟩,H⟩,by omega⟩
   ·intro hc;have hc:=of_decide_eq_false hc;have hci:=hc;have hi0:=hiv;refine Bq (Am (Am (AG (Aa (Aq (A0 (Bt 9223301668110600192 (α:=Nat) (fun j=>[(11,.int .i64 (j:Int))]) (fun j w'=>(a+1≤i∧i≤j+1∧j<b∧(∀ x,a<x→x<i→(g) x<(g) a)∧∀ y,j<y→y<b→(g) a≤(g) y)∧Ctx w0 [q] w' [(q,Bl 28 (CB (g) m))]) (fun j=>j) (b - 1) U ?_ ?_ ?_)))))))
    ·exact ⟨by rfl,trivial⟩
    ·exact ⟨by assumption,H⟩
    ·rintro j jx w ⟨hiv,H⟩;refine Aq (DC 2305772640469516288 (α:=Unit) (fun _=>[(60,.bool (decide (i≤j∧g a≤g j)))]) (fun _ w'=>Ctx w0 [q] w' [(q,Bl 28 (CB (g) m))]) U ?_ ?_)
     ·skip
      refine FC 12 Bs (by kernel_rfl) U U ?_;refine Bh U (Bh U (Oc U U (CU U (Dw 49 U ?_ ?_))))
      ·intro h3;replace h3:=AJ h3;refine Cz U (Bh U (Bf Bx Bp U U ?_));refine BX B5 U (by rintro _ rfl; exact ((Cy (H.drew.get at0)))) ?_;refine Cz U (Bh U (Bf Bx Bp U U ?_));refine BX B5 U (by rintro _ rfl; exact ((Cy (H.drew.get at0)))) ?_;refine BW ?_;replace H:=H.drew;refine Al FU (EX _ _ _) U ?_;rintro v w ⟨rfl,rfl⟩;simp only [Int.toNat_natCast];refine BA U (AN U (.bool _) U (Ab (Aa ?_)));exact ⟨(),rfl,⟨congrArg Value.bool (by clear hiv; rw [Bool.eq_iff_iff]; simp_all; try omega),trivial⟩,H⟩
      ·intro h4;replace h4:=AK h4;refine A2 U (A2 U (A2 U (A2 U (A2 U (A2 U (A2 U (A2 U (BW ?_))))))));replace H:=H.drew;refine Ah U (Ah U (AU U (.bool _) U (Ab (Aa ?_))));exact ⟨(),rfl,⟨congrArg Value.bool (by clear hiv; rw [Bool.eq_iff_iff]; simp_all; try omega),trivial⟩,H⟩
     ·rintro - jy w H;refine Ap _ U ?_ ?_
      ·intro hc;have hc:=of_decide_eq_true hc;refine Au (Aa (A0 (Az (Ae U (Br U U ?_)))));refine Ad U (Ab (A5 (Aa ?_)));exact ⟨j - 1,rfl,⟨congrArg (Value.int .i64) (by omega),trivial⟩,⟨⟨by omega,by omega,by omega,hiv.2.2.2.1,fun y h1 h2=>(if e:y=j then by rw [e]; exact hc.2 else hiv.2.2.2.2 y (by omega) h2)⟩,H⟩,by omega⟩
      ·intro hc;have hc:=of_decide_eq_false hc;have hci:¬ (i≤j∧g i<g a):=fun h=>hci ⟨by omega,h.2⟩;refine Bq (Am (Am (AG (Aa (Aq (Af (Ae U (Ae U (Cs U U (Ab (Aa (Ap _ U ?_ ?_))))))))))))
       ·intro h5;replace h5:=AJ h5;have hji:j+1=i:=by omega
        refine Cq [([0,1,2,3,4,5,6,7,8,9,10,11,12],13),([14],15)] (fun z=>z.heap[q]? = some (Bl 28 (CB (g) m))) [13,15] Bs (by kernel_rfl) (H.drew.get at0) ?_;refine AF U U ?_;refine B2 U (Be U (B2 U (Be U (B2 U (Be U (AH Bx Bp U U ?_))))));refine B0 B5 U (fun _ hx=>(Cy hx)) ?_;refine B2 U (Be U (AH Bx Bp U U ?_));refine B0 B5 U (fun _ hx=>(Cy hx)) ?_;refine AH Bx Bp U U ?_;refine AP ?_;replace H:=H.drew;refine Cc (j) (fun z => .int .u64 (if z=j then (g) (a) else (g) z)) (.int _ _) Bp U U U H at0 (by omega) (by rw [if_pos rfl]; exact congrArg (fun z=>Value.int .u64 ((g) z)) (by omega)) (fun z _ hz=>by rw [if_neg hz]) ?_;rintro w H;refine Ab (Bz U (AF U U ?_));refine AH Bx Bp U U ?_
        refine AP (Cc (a) (fun z => .int .u64 (sw (g) (j) (a) z)) (.int _ _) Bp U U U H at0 (by omega) (by rw [DL]; exact congrArg (fun z=>Value.int .u64 ((g) z)) (by omega)) (fun z _ hz=>by rw [DH hz]) ?_);rintro w H;refine Ab (Bz U (BH (Af (Ae U (Ad U (Ai U (Ab (Aa (A4 (Ao (BL (v1:=(.int _ _)) (v2:=(.bool _)) U U U U ?_)))))))))));exact ⟨j,true,sw g j a,rfl,hS0.step j a ⟨by omega,by omega⟩ ⟨by omega,by omega⟩,by omega,by omega,Q3 (fun x h1 h2=>hiv.2.2.2.1 x h1 (by omega)) hiv.2.2.2.2,H⟩
       ·intro h5;replace h5:=AK h5
        have hne:i<j:=by
         rcases Nat.lt_or_ge i j with h | h
         ·exact h
         ·obtain rfl:i=j:=by omega
          exact absurd ⟨Nat.le_refl i,by rcases Int.lt_or_le (g i) (g a) with h7 | h7; exact absurd ⟨Nat.le_refl i,h7⟩ hci; exact h7⟩ hc
        have hgi:g a≤g i:=by rcases Int.lt_or_le (g i) (g a) with h7 | h7; exact absurd ⟨by omega,h7⟩ hci; exact h7
        have hgj:g j<g a:=by rcases Int.lt_or_le (g j) (g a) with h7 | h7; exact h7; exact absurd ⟨by omega,h7⟩ hc
        refine Au (Aa (Cq [([0,1,2,3,4,5,6,7,8,9,10,11,12],13),([14],15)] (fun z=>z.heap[q]? = some (Bl 28 (CB (g) m))) [13,15] Bs (by kernel_rfl) (H.drew.get at0) ?_));refine AF U U ?_;refine B2 U (Be U (B2 U (Be U (B2 U (Be U (AH Bx Bp U U ?_))))));refine B0 B5 U (fun _ hx=>(Cy hx)) ?_;refine B2 U (Be U (AH Bx Bp U U ?_));refine B0 B5 U (fun _ hx=>(Cy hx)) ?_;refine AH Bx Bp U U ?_;refine AP ?_;replace H:=H.drew;refine Cc (i) (fun z => .int .u64 (if z=i then (g) (j) else (g) z)) (.int _ _) Bp U U U H at0 (by omega) (by rw [if_pos rfl]; exact congrArg (fun z=>Value.int .u64 ((g) z)) (by omega)) (fun z _ hz=>by rw [if_neg hz]) ?_;rintro w H;refine Ab (Bz U (AF U U ?_));refine AH Bx Bp U U ?_
        refine AP (Cc (j) (fun z => .int .u64 (sw (g) (i) (j) z)) (.int _ _) Bp U U U H at0 (by omega) (by rw [DL]; exact congrArg (fun z=>Value.int .u64 ((g) z)) (by omega)) (fun z _ hz=>by rw [DH hz]) ?_);rintro w H;refine Ab (Bz U (BH (Af (Ae U (Ax U U ?_)))));refine Ad U (Ab (Aa (Af (Ae U (Br U U ?_)))));refine Ad U (Ab (Aa (Aq (A0 (Bt 11417981541647678414640987641481260342710373376 (α:=Nat × Nat × (Nat→Int)) (fun t=>[(10,.int .i64 (t.1:Int)),(11,.int .i64 (t.2.1:Int))]) (fun t w'=>(a+1≤t.1∧t.1≤t.2.1+1∧t.2.1<b∧(∀ x,a<x→x<t.1→(t.2.2) x<(t.2.2) a)∧∀ y,t.2.1<y→y<b→(t.2.2) a≤(t.2.2) y)∧Sw a b f t.2.2∧Ctx w0 [q] w' [(q,Bl 28 (CB t.2.2 m))]) (fun t=>b - t.1) (i+1,j - 1,sw g i j) U ?_ ?_ ?_)))))
        ·exact ⟨rfl,congrArg (Value.int .i64) (by dsimp only; omega),trivial⟩
        ·exact ⟨Q4 hiv hne hgi hgj,hS0.step i j ⟨by omega,by omega⟩ ⟨by omega,by omega⟩,H⟩
        ·rintro ⟨i,j,g⟩ j0 w ⟨hi0,hS0,H⟩; dsimp only at hi0 hS0 H; dsimp only;obtain ⟨i0,hi0e⟩:∃ i0,i0=i:=⟨_,rfl⟩;obtain ⟨j1,hj1e⟩:∃ j1,j1=j:=⟨_,rfl⟩;have hi1:i0≤i∧a+1≤i∧i≤j+1∧j<b∧(∀ x,a<x→x<i→(g) x<(g) a)∧∀ y,j<y→y<b→(g) a≤(g) y:=⟨by omega,hi0⟩;refine A0 (Aq (A0 (Bt 41537741042978506913543222282159104 (α:=Nat) (fun i=>[(10,.int .i64 (i:Int))]) (fun i w'=>(i0≤i∧a+1≤i∧i≤j+1∧j<b∧(∀ x,a<x→x<i→(g) x<(g) a)∧∀ y,j<y→y<b→(g) a≤(g) y)∧Ctx w0 [q] w' [(q,Bl 28 (CB (g) m))]) (fun i=>j+1 - i) i U ?_ ?_ ?_)))
         ·exact ⟨by rfl,trivial⟩
         ·exact ⟨hi1,H⟩
         ·rintro i jx w ⟨hiv,H⟩;refine Aq (DC 10383959891769541142360244306837504 (α:=Unit) (fun _=>[(112,.bool (decide (i≤j∧g i<g a)))]) (fun _ w'=>Ctx w0 [q] w' [(q,Bl 28 (CB (g) m))]) U ?_ ?_)
          ·skip
           refine FC 12 Bs (by kernel_rfl) U U ?_;refine Bh U (Bh U (Oc U U (CU U (Dw 102 U ?_ ?_))))
           ·intro h5;replace h5:=AJ h5;refine Cz U (Bh U (Bf Bx Bp U U ?_));refine BX B5 U (by rintro _ rfl; exact ((Cy (H.drew.get at0)))) ?_;refine Cz U (Bh U (Bf Bx Bp U U ?_));refine BX B5 U (by rintro _ rfl; exact ((Cy (H.drew.get at0)))) ?_;refine BW ?_;replace H:=H.drew;refine Al FU (EX _ _ _) U ?_;rintro v w ⟨rfl,rfl⟩;simp only [Int.toNat_natCast];refine AN U (.bool _) U (Ab (Aa ?_));exact ⟨(),rfl,⟨congrArg Value.bool (by clear hiv; rw [Bool.eq_iff_iff]; simp_all; try omega),trivial⟩,H⟩
           ·intro h6;replace h6:=AK h6;refine A2 U (A2 U (A2 U (A2 U (A2 U (A2 U (A2 U (A2 U (BW ?_))))))));replace H:=H.drew;refine Ah U (AU U (.bool _) U (Ab (Aa ?_)));exact ⟨(),rfl,⟨congrArg Value.bool (by clear hiv; rw [Bool.eq_iff_iff]; simp_all; try omega),trivial⟩,H⟩
          ·rintro - jy w H;refine Ap _ U ?_ ?_
           ·intro hc;have hc:=of_decide_eq_true hc;refine Au (Aa (A0 (Az (Ae U (Ax U U ?_)))));refine Ad U (Ab (A5 (Aa ?_)));exact ⟨i+1,rfl,⟨congrArg (Value.int .i64) (by omega),trivial⟩,⟨⟨by omega,by omega,by omega,by omega,fun x h1 h2=>(if e:x=i then by rw [e]; exact hc.2 else hiv.2.2.2.2.1 x h1 (by omega)),hiv.2.2.2.2.2⟩,H⟩,by omega⟩
           ·intro hc;have hc:=of_decide_eq_false hc;have hci:=hc;have hi2:j≤j1∧a+1≤i∧i≤j+1∧j<b∧(∀ x,a<x→x<i→(g) x<(g) a)∧∀ y,j<y→y<b→(g) a≤(g) y:=⟨by omega,hiv.2⟩;have hi3:=hiv.1;refine Bq (Am (Am (AG (Aa (Aq (A0 (Bt 5444476332360147136792965474937657624576 (α:=Nat) (fun j=>[(11,.int .i64 (j:Int))]) (fun j w'=>(j≤j1∧a+1≤i∧i≤j+1∧j<b∧(∀ x,a<x→x<i→(g) x<(g) a)∧∀ y,j<y→y<b→(g) a≤(g) y)∧Ctx w0 [q] w' [(q,Bl 28 (CB (g) m))]) (fun j=>j) j U ?_ ?_ ?_)))))))
            ·exact ⟨by rfl,trivial⟩
            ·exact ⟨hi2,H⟩
            ·rintro j jx w ⟨hiv,H⟩;refine Aq (DC 1361087929308885575232470185756439085056 (α:=Unit) (fun _=>[(129,.bool (decide (i≤j∧g a≤g j)))]) (fun _ w'=>Ctx w0 [q] w' [(q,Bl 28 (CB (g) m))]) U ?_ ?_)
             ·skip
              refine FC 12 Bs (by kernel_rfl) U U ?_;refine Bh U (Bh U (Oc U U (CU U (Dw 118 U ?_ ?_))))
              ·intro h7;replace h7:=AJ h7;refine Cz U (Bh U (Bf Bx Bp U U ?_));refine BX B5 U (by rintro _ rfl; exact ((Cy (H.drew.get at0)))) ?_;refine Cz U (Bh U (Bf Bx Bp U U ?_));refine BX B5 U (by rintro _ rfl; exact ((Cy (H.drew.get at0)))) ?_;refine BW ?_;replace H:=H.drew;refine Al FU (EX _ _ _) U ?_;rintro v w ⟨rfl,rfl⟩;simp only [Int.toNat_natCast];refine BA U (AN U (.bool _) U (Ab (Aa ?_)));exact ⟨(),rfl,⟨congrArg Value.bool (by clear hiv; rw [Bool.eq_iff_iff]; simp_all; try omega),trivial⟩,H⟩
              ·intro h8;replace h8:=AK h8;refine A2 U (A2 U (A2 U (A2 U (A2 U (A2 U (A2 U (A2 U (BW ?_))))))));replace H:=H.drew;refine Ah U (Ah U (AU U (.bool _) U (Ab (Aa ?_))));exact ⟨(),rfl,⟨congrArg Value.bool (by clear hiv; rw [Bool.eq_iff_iff]; simp_all; try omega),trivial⟩,H⟩
             ·rintro - jy w H;refine Ap _ U ?_ ?_
              ·intro hc;have hc:=of_decide_eq_true hc;refine Au (Aa (A0 (Az (Ae U (Br U U ?_)))));refine Ad U (Ab (A5 (Aa ?_)));exact ⟨j - 1,rfl,⟨congrArg (Value.int .i64) (by omega),trivial⟩,⟨⟨by omega,by omega,by omega,by omega,hiv.2.2.2.2.1,fun y h1 h2=>(if e:y=j then by rw [e]; exact hc.2 else hiv.2.2.2.2.2 y (by omega) h2)⟩,H⟩,by omega⟩
              ·intro hc;have hc:=of_decide_eq_false hc;have hci:¬ (i≤j∧g i<g a):=fun h=>hci ⟨by omega,h.2⟩;replace hiv:=hiv.2;refine Bq (Am (Am (AG (Aa (Aq (Af (Ae U (Ae U (Cs U U (Ab (Aa (Ap _ U ?_ ?_))))))))))))
               ·intro h5;replace h5:=AJ h5;have hji:j+1=i:=by omega
                refine Bq (Am (Fh U (Am (AG (Aa (Cq [([0,1,2,3,4,5,6,7,8,9,10,11,12],13),([14],15)] (fun z=>z.heap[q]? = some (Bl 28 (CB (g) m))) [13,15] Bs (by kernel_rfl) (H.drew.get at0) ?_))))));refine AF U U ?_;refine B2 U (Be U (B2 U (Be U (B2 U (Be U (AH Bx Bp U U ?_))))));refine B0 B5 U (fun _ hx=>(Cy hx)) ?_;refine B2 U (Be U (AH Bx Bp U U ?_));refine B0 B5 U (fun _ hx=>(Cy hx)) ?_;refine AH Bx Bp U U ?_;refine AP ?_;replace H:=H.drew;refine Cc (j) (fun z => .int .u64 (if z=j then (g) (a) else (g) z)) (.int _ _) Bp U U U H at0 (by omega) (by rw [if_pos rfl]; exact congrArg (fun z=>Value.int .u64 ((g) z)) (by omega)) (fun z _ hz=>by rw [if_neg hz]) ?_;rintro w H;refine Ab (Bz U (AF U U ?_));refine AH Bx Bp U U ?_
                refine AP (Cc (a) (fun z => .int .u64 (sw (g) (j) (a) z)) (.int _ _) Bp U U U H at0 (by omega) (by rw [DL]; exact congrArg (fun z=>Value.int .u64 ((g) z)) (by omega)) (fun z _ hz=>by rw [DH hz]) ?_);rintro w H;refine Ab (Bz U (BH (Af (Ae U (Ad U (Ai U (Ab (Aa (A4 (BL (v1:=(.int _ _)) (v2:=(.bool _)) U U U U ?_))))))))));exact ⟨j,false,sw g j a,rfl,hS0.step j a ⟨by omega,by omega⟩ ⟨by omega,by omega⟩,by omega,by omega,Q3 (fun x h1 h2=>hiv.2.2.2.1 x h1 (by omega)) hiv.2.2.2.2,H⟩
               ·intro h5;replace h5:=AK h5
                have hne:i<j:=by
                 rcases Nat.lt_or_ge i j with h | h
                 ·exact h
                 ·obtain rfl:i=j:=by omega
                  exact absurd ⟨Nat.le_refl i,by rcases Int.lt_or_le (g i) (g a) with h7 | h7; exact absurd ⟨Nat.le_refl i,h7⟩ hci; exact h7⟩ hc
                refine Au (Aa (Cq [([0,1,2,3,4,5,6,7,8,9,10,11,12],13),([14],15)] (fun z=>z.heap[q]? = some (Bl 28 (CB (g) m))) [13,15] Bs (by kernel_rfl) (H.drew.get at0) ?_));refine AF U U ?_;refine B2 U (Be U (B2 U (Be U (B2 U (Be U (AH Bx Bp U U ?_))))));refine B0 B5 U (fun _ hx=>(Cy hx)) ?_;refine B2 U (Be U (AH Bx Bp U U ?_));refine B0 B5 U (fun _ hx=>(Cy hx)) ?_;refine AH Bx Bp U U ?_;refine AP ?_;replace H:=H.drew;refine Cc (i) (fun z => .int .u64 (if z=i then (g) (j) else (g) z)) (.int _ _) Bp U U U H at0 (by omega) (by rw [if_pos rfl]; exact congrArg (fun z=>Value.int .u64 ((g) z)) (by omega)) (fun z _ hz=>by rw [if_neg hz]) ?_;rintro w H;refine Ab (Bz U (AF U U ?_));refine AH Bx Bp U U ?_
                refine AP (Cc (j) (fun z => .int .u64 (sw (g) (i) (j) z)) (.int _ _) Bp U U U H at0 (by omega) (by rw [DL]; exact congrArg (fun z=>Value.int .u64 ((g) z)) (by omega)) (fun z _ hz=>by rw [DH hz]) ?_);rintro w H;refine Ab (Bz U (BH (Af (Ae U (Ax U U ?_)))));refine Ad U (Ab (Aa (Az (Ae U (Br U U ?_)))));refine Ad U (Ab (A5 (Aa ?_)))
                have hgi:g a≤g i:=by rcases Int.lt_or_le (g i) (g a) with h7 | h7; exact absurd ⟨by omega,h7⟩ hci; exact h7
                have hgj:g j<g a:=by rcases Int.lt_or_le (g j) (g a) with h7 | h7; exact h7; exact absurd ⟨by omega,h7⟩ hc
                exact ⟨(i+1,j - 1,sw g i j),rfl,⟨rfl,congrArg (Value.int .i64) (by dsimp only; omega),trivial⟩,⟨Q4 hiv hne hgi hgj,hS0.step i j ⟨by omega,by omega⟩ ⟨by omega,by omega⟩,H⟩,by dsimp only; omega⟩
end
end Go.Proofs.YtdagmpmdcgedcaaGreat
namespace Go.Proofs.YtdagmpmdcgedcaaGreat
open Go.GV
attribute [local irreducible] AB W Wq Wt
theorem Aeb {g:Nat→Int} {a i j b:Nat} (h:a+1≤i∧i≤j+1∧j<b∧(∀ x,a<x→x<i→(g) x≤(g) a)∧∀ y,j<y→y<b→(g) a<(g) y) (hij:i<j) (hi:g a<g i) (hj:g j≤g a):a+1≤i+1∧i+1≤(j - 1)+1∧(j - 1)<b∧(∀ x,a<x→x<i+1→(sw g i j) x≤(sw g i j) a)∧∀ y,(j - 1)<y→y<b→(sw g i j) a<(sw g i j) y:=by
 obtain ⟨h1,h2,h3,h4,h5⟩:=h;have ha:sw g i j a=g a:=E6;rw [ha];refine ⟨by omega,by omega,by omega,fun x hx hxi=>?_,fun y hy hyb=>?_⟩
 ·by_cases e:x=i
  ·rw [e,HD]; exact hj
  ·rw [E6 (h1:=e)]; exact h4 x hx (by omega)
 ·by_cases e:y=j
  ·rw [e,DL]; exact hi
  ·rw [E6 (h2:=e)]; exact h5 y (by omega) hyb
section
variable {w:World} {q n c m:Nat} {f:Nat→Int}
set_option maxRecDepth 20000 in
set_option maxHeartbeats 4000000 in
theorem X2 {a b p:Nat} (hd:w.heap[q]? = some (Bl 28 (CB f m))) (hn:n≤m) (hm:n≤1000000000) (hp:a≤p∧p<b)  (hab:a<b:=by omega) (hb:b≤n:=by omega):
  Ret Tryz.prog 237 #[.slice (some ⟨q,0,none⟩) n c,.int .i64 (a:Int),.int .i64 (b:Int),.int .i64 (p:Int)] w fun v w'=>∃ (i:Nat) (g:Nat→Int),v = .int .i64 (i:Int)∧Sw a b f g∧a<i∧i≤b∧g a=f p∧(∀ x,a≤x→x<i→g x≤g a)∧(∀ y,i≤y→y<b→g a<g y)∧Ctx w [q] w' [(q,Bl 28 (CB g m))]:=by
 obtain ⟨w0,rfl⟩:∃ w0,w0=w:=⟨_,rfl⟩;have H:=Ctx.start1 hd;refine Aw (fn:=Tryz.f237) Tryz.func237 U [.slice (some ⟨q,0,none⟩) n c,.int .i64 (a:Int),.int .i64 (b:Int),.int .i64 (p:Int)] U (by kernel_rfl) ?_;refine Af (Ad U (Ab (Aa (Cq [([0,1,2,3,4,5,6,7,8,9,10,11,12],13),([14],15)] (fun z=>z.heap[q]? = some (Bl 28 (CB (f) m))) [13,15] Bs (by kernel_rfl) (H.drew.get at0) ?_))));refine AF U U ?_;refine B2 U (Be U (B2 U (Be U (B2 U (Be U (AH Bx Bp U U ?_))))));refine B0 B5 U (fun _ hx=>(Cy hx)) ?_;refine B2 U (Be U (AH Bx Bp U U ?_));refine B0 B5 U (fun _ hx=>(Cy hx)) ?_;refine AH Bx Bp U U ?_;refine AP ?_;replace H:=H.drew
 refine Cc (a) (fun z => .int .u64 (if z=a then (f) (p) else (f) z)) (.int _ _) Bp U U U H at0 (by omega) (by rw [if_pos rfl]; exact congrArg (fun z=>Value.int .u64 ((f) z)) (by omega)) (fun z _ hz=>by rw [if_neg hz]) ?_;rintro w H;refine Ab (Bz U (AF U U ?_));refine AH Bx Bp U U ?_;refine AP (Cc (p) (fun z => .int .u64 (sw (f) (a) (p) z)) (.int _ _) Bp U U U H at0 (by omega) (by rw [DL]; exact congrArg (fun z=>Value.int .u64 ((f) z)) (by omega)) (fun z _ hz=>by rw [DH hz]) ?_);rintro w H;refine Ab (Bz U (BH ?_));have hS0:=(Sw.refl (a:=a) (b:=b) f).step a p ⟨by omega,by omega⟩ hp;obtain ⟨g,hg⟩:∃ g,g=sw f a p:=⟨_,rfl⟩;have hga:g a=f p:=by rw [hg,HD]
 rw [← hg] at hS0 H;refine Af (Ae U (Ax U U ?_));rw [show (a:Int)+1=((a+1:Nat):Int) by omega];refine Ae U (Br U U ?_);rw [show (b:Int) - 1=((b - 1:Nat):Int) by omega];refine Ad U (Ad U (Ab (Aa (Aq (A0 (Bt 9671406556917032860780032 (α:=Nat × Nat × (Nat→Int)) (fun t=>[(9,.int .i64 (t.1:Int)),(10,.int .i64 (t.2.1:Int))]) (fun t w'=>(a+1≤t.1∧t.1≤t.2.1+1∧t.2.1<b∧(∀ x,a<x→x<t.1→(t.2.2) x≤(t.2.2) a)∧∀ y,t.2.1<y→y<b→(t.2.2) a<(t.2.2) y)∧t.2.2 a=f p∧Sw a b f t.2.2∧Ctx w0 [q] w' [(q,Bl 28 (CB t.2.2 m))]) (fun t=>b - t.1) (a+1,b - 1,g) U ?_ ?_ ?_))))))
 ·exact ⟨rfl,rfl,trivial⟩
 ·exact ⟨⟨Nat.le_refl _,by dsimp only; omega,by dsimp only; omega,fun x h1 h2=>by dsimp only at h2; omega,fun y h1 h2=>by dsimp only at h1; omega⟩,hga,hS0,H⟩
 ·rintro ⟨i,j,g⟩ j0 w ⟨hi0,hga,hS0,H⟩; dsimp only at hi0 hga hS0 H; dsimp only;obtain ⟨i0,hi0e⟩:∃ i0,i0=i:=⟨_,rfl⟩;obtain ⟨j1,hj1e⟩:∃ j1,j1=j:=⟨_,rfl⟩;have hi1:i0≤i∧a+1≤i∧i≤j+1∧j<b∧(∀ x,a<x→x<i→(g) x≤(g) a)∧∀ y,j<y→y<b→(g) a<(g) y:=⟨by omega,hi0⟩;refine A0 (Aq (A0 (Bt 70368207307264 (α:=Nat) (fun i=>[(9,.int .i64 (i:Int))]) (fun i w'=>(i0≤i∧a+1≤i∧i≤j+1∧j<b∧(∀ x,a<x→x<i→(g) x≤(g) a)∧∀ y,j<y→y<b→(g) a<(g) y)∧Ctx w0 [q] w' [(q,Bl 28 (CB (g) m))]) (fun i=>j+1 - i) i U ?_ ?_ ?_)))
  ·exact ⟨by rfl,trivial⟩
  ·exact ⟨hi1,H⟩
  ·rintro i jx w ⟨hiv,H⟩;refine Aq (DC 17591649173504 (α:=Unit) (fun _=>[(43,.bool (decide (i≤j∧¬ g a<g i)))]) (fun _ w'=>Ctx w0 [q] w' [(q,Bl 28 (CB (g) m))]) U ?_ ?_)
   ·skip
    refine FC 12 Bs (by kernel_rfl) U U ?_;refine Bh U (Bh U (Oc U U (CU U (Dw 32 U ?_ ?_))))
    ·intro h1;replace h1:=AJ h1;refine Cz U (Bh U (Bf Bx Bp U U ?_));refine BX B5 U (by rintro _ rfl; exact ((Cy (H.drew.get at0)))) ?_;refine Cz U (Bh U (Bf Bx Bp U U ?_));refine BX B5 U (by rintro _ rfl; exact ((Cy (H.drew.get at0)))) ?_;refine BW ?_;replace H:=H.drew;refine Al FU (EX _ _ _) U ?_;rintro v w ⟨rfl,rfl⟩;simp only [Int.toNat_natCast];refine BA U (AN U (.bool _) U (Ab (Aa ?_)));exact ⟨(),rfl,⟨congrArg Value.bool (by clear hiv; rw [Bool.eq_iff_iff]; simp_all; try omega),trivial⟩,H⟩
    ·intro h2;replace h2:=AK h2;refine A2 U (A2 U (A2 U (A2 U (A2 U (A2 U (A2 U (A2 U (BW ?_))))))));replace H:=H.drew;refine Ah U (Ah U (AU U (.bool _) U (Ab (Aa ?_))));exact ⟨(),rfl,⟨congrArg Value.bool (by clear hiv; rw [Bool.eq_iff_iff]; simp_all; try omega),trivial⟩,H⟩
   ·rintro - jy w H;refine Ap _ U ?_ ?_
    ·intro hc;have hc:=of_decide_eq_true hc;refine Au (Aa (A0 (Az (Ae U (Ax U U ?_)))));refine Ad U (Ab (A5 (Aa ?_)));exact ⟨i+1,rfl,⟨congrArg (Value.int .i64) (by omega),trivial⟩,⟨⟨by omega,by omega,by omega,by omega,fun x h1 h2=>(if e:x=i then by rw [e]; omega else hiv.2.2.2.2.1 x h1 (by omega)),hiv.2.2.2.2.2⟩,H⟩,by omega⟩
    ·intro hc;have hc:=of_decide_eq_false hc;have hci:=hc;have hi2:j≤j1∧a+1≤i∧i≤j+1∧j<b∧(∀ x,a<x→x<i→(g) x≤(g) a)∧∀ y,j<y→y<b→(g) a<(g) y:=⟨by omega,hiv.2⟩;have hi3:=hiv.1;refine Bq (Am (Am (AG (Aa (Aq (A0 (Bt 4611615649683211264 (α:=Nat) (fun j=>[(10,.int .i64 (j:Int))]) (fun j w'=>(j≤j1∧a+1≤i∧i≤j+1∧j<b∧(∀ x,a<x→x<i→(g) x≤(g) a)∧∀ y,j<y→y<b→(g) a<(g) y)∧Ctx w0 [q] w' [(q,Bl 28 (CB (g) m))]) (fun j=>j) j U ?_ ?_ ?_)))))))
     ·exact ⟨by rfl,trivial⟩
     ·exact ⟨hi2,H⟩
     ·rintro j jx w ⟨hiv,H⟩;refine Aq (DC 1152851135862669312 (α:=Unit) (fun _=>[(59,.bool (decide (i≤j∧g a<g j)))]) (fun _ w'=>Ctx w0 [q] w' [(q,Bl 28 (CB (g) m))]) U ?_ ?_)
      ·skip
       refine FC 12 Bs (by kernel_rfl) U U ?_;refine Bh U (Bh U (Oc U U (CU U (Dw 49 U ?_ ?_))))
       ·intro h3;replace h3:=AJ h3;refine Cz U (Bh U (Bf Bx Bp U U ?_));refine BX B5 U (by rintro _ rfl; exact ((Cy (H.drew.get at0)))) ?_;refine Cz U (Bh U (Bf Bx Bp U U ?_));refine BX B5 U (by rintro _ rfl; exact ((Cy (H.drew.get at0)))) ?_;refine BW ?_;replace H:=H.drew;refine Al FU (EX _ _ _) U ?_;rintro v w ⟨rfl,rfl⟩;simp only [Int.toNat_natCast];refine AN U (.bool _) U (Ab (Aa ?_));exact ⟨(),rfl,⟨congrArg Value.bool (by clear hiv; rw [Bool.eq_iff_iff]; simp_all; try omega),trivial⟩,H⟩
       ·intro h4;replace h4:=AK h4;refine A2 U (A2 U (A2 U (A2 U (A2 U (A2 U (A2 U (A2 U (BW ?_))))))));replace H:=H.drew;refine Ah U (AU U (.bool _) U (Ab (Aa ?_)));exact ⟨(),rfl,⟨congrArg Value.bool (by clear hiv; rw [Bool.eq_iff_iff]; simp_all; try omega),trivial⟩,H⟩
      ·rintro - jy w H;refine Ap _ U ?_ ?_
       ·intro hc;have hc:=of_decide_eq_true hc;refine Au (Aa (A0 (Az (Ae U (Br U U ?_)))));refine Ad U (Ab (A5 (Aa ?_)));exact ⟨j - 1,rfl,⟨congrArg (Value.int .i64) (by omega),trivial⟩,⟨⟨by omega,by omega,by omega,by omega,hiv.2.2.2.2.1,fun y h1 h2=>(if e:y=j then by rw [e]; exact hc.2 else hiv.2.2.2.2.2 y (by omega) h2)⟩,H⟩,by omega⟩
       ·intro hc;have hc:=of_decide_eq_false hc;have hci:¬ (i≤j∧¬ g a<g i):=fun h=>hci ⟨by omega,h.2⟩;replace hiv:=hiv.2;refine Bq (Am (Am (AG (Aa (Aq (Af (Ae U (Ae U (Cs U U (Ab (Aa (Ap _ U ?_ ?_))))))))))))
        ·intro h5;replace h5:=AJ h5;have hji:j+1=i:=by omega
         refine Bq (Am (Fh U (Am (AG (Aa (Af (Ae U (Ad U (Ab (Aa (A4 (AD (v:=(.int _ _)) U U U ?_))))))))))));exact ⟨i,g,rfl,hS0,by omega,by omega,hga,fun x h1 h2=>(if e:x=a then by rw [e]; exact Int.le_refl _ else hiv.2.2.2.1 x (by omega) h2),fun y h1 h2=>hiv.2.2.2.2 y (by omega) h2,H⟩
        ·intro h5;replace h5:=AK h5
         have hgi:g a<g i:=by rcases Int.lt_or_le (g a) (g i) with h7 | h7; exact h7; exact absurd ⟨by omega,by omega⟩ hci
         have hgj:g j≤g a:=by rcases Int.lt_or_le (g a) (g j) with h7 | h7; exact absurd ⟨by omega,h7⟩ hc; exact h7
         have hne:i<j:=by
          rcases Nat.lt_or_ge i j with h | h
          ·exact h
          ·obtain rfl:i=j:=by omega
           omega
         refine Au (Aa (Cq [([0,1,2,3,4,5,6,7,8,9,10,11,12],13),([14],15)] (fun z=>z.heap[q]? = some (Bl 28 (CB (g) m))) [13,15] Bs (by kernel_rfl) (H.drew.get at0) ?_));refine AF U U ?_;refine B2 U (Be U (B2 U (Be U (B2 U (Be U (AH Bx Bp U U ?_))))));refine B0 B5 U (fun _ hx=>(Cy hx)) ?_;refine B2 U (Be U (AH Bx Bp U U ?_));refine B0 B5 U (fun _ hx=>(Cy hx)) ?_;refine AH Bx Bp U U ?_;refine AP ?_;replace H:=H.drew;refine Cc (i) (fun z => .int .u64 (if z=i then (g) (j) else (g) z)) (.int _ _) Bp U U U H at0 (by omega) (by rw [if_pos rfl]; exact congrArg (fun z=>Value.int .u64 ((g) z)) (by omega)) (fun z _ hz=>by rw [if_neg hz]) ?_;rintro w H;refine Ab (Bz U (AF U U ?_));refine AH Bx Bp U U ?_
         refine AP (Cc (j) (fun z => .int .u64 (sw (g) (i) (j) z)) (.int _ _) Bp U U U H at0 (by omega) (by rw [DL]; exact congrArg (fun z=>Value.int .u64 ((g) z)) (by omega)) (fun z _ hz=>by rw [DH hz]) ?_);rintro w H;refine Ab (Bz U (BH (Af (Ae U (Ax U U ?_)))));refine Ad U (Ab (Aa (Az (Ae U (Br U U ?_)))));refine Ad U (Ab (A5 (Aa ?_)));exact ⟨(i+1,j - 1,sw g i j),rfl,⟨rfl,congrArg (Value.int .i64) (by dsimp only; omega),trivial⟩,⟨Aeb hiv hne hgi hgj,(E6).trans hga,hS0.step i j ⟨by omega,by omega⟩ ⟨by omega,by omega⟩,H⟩,by dsimp only; omega⟩
set_option maxRecDepth 20000 in
set_option maxHeartbeats 4000000 in
theorem Vg {a b:Nat} (hd:w.heap[q]? = some (Bl 28 (CB f m))) (hn:n≤m) (hm:n≤1000000000) (hLB:0<a→∀ x,a≤x→x<b→f (a - 1)≤f x)  (hab:a<b:=by omega) (hb:b≤n:=by omega):
  Ret Tryz.prog 235 #[.slice (some ⟨q,0,none⟩) n c,.int .i64 (a:Int),.int .i64 (b:Int)] w fun v w'=>∃ (t:Bool) (g:Nat→Int),v = .bool t∧Sw a b f g∧(t=true→JE g a b)∧Ctx w [q] w' [(q,Bl 28 (CB g m))]:=by
 obtain ⟨w0,rfl⟩:∃ w0,w0=w:=⟨_,rfl⟩;have H:=Ctx.start1 hd;refine Aw (fn:=Tryz.f235) Tryz.func235 U [.slice (some ⟨q,0,none⟩) n c,.int .i64 (a:Int),.int .i64 (b:Int)] U (by kernel_rfl) ?_;refine Af (Ai U (Ab (Aa (Af (Ae U (Ax U U ?_))))));rw [show (a:Int)+1=((a+1:Nat):Int) by omega];refine Ad U (Ab (Aa (Aq (Af (Ad U (Ab (Aa (A0 (Bt 10889035741470030830827987437816582760384 (α:=Nat × Nat × (Nat→Int)) (fun t=>[(8,.int .i64 (t.1:Int)),(7,.int .i64 (t.2.1:Int))]) (fun t w'=>t.1≤5∧(a+1≤t.2.1∧t.2.1≤b∧JE t.2.2 a t.2.1)∧Sw a b f t.2.2∧Ctx w0 [q] w' [(q,Bl 28 (CB t.2.2 m))]) (fun t=>5 - t.1) (0,a+1,f) U ?_ ?_ ?_)))))))))
 ·exact ⟨rfl,rfl,trivial⟩
 ·exact ⟨by dsimp only; omega,⟨Nat.le_refl _,by dsimp only; omega,fun x y h1 h2 h3=>by dsimp only at h3; omega⟩,.refl _,H⟩
 ·rintro ⟨st,i,g⟩ j0 w ⟨hst,hi0,hS0,H⟩; dsimp only at hst hi0 hS0 H; dsimp only;refine Aq (Af (Ae U (Bj U U (Ab (Aa (Ap _ U ?_ ?_))))))
  ·intro h1;replace h1:=AJ h1
   have hLBg:0<a→∀ g',Sw a b f g'→∀ x,a≤x→x<b→g' (a - 1)≤g' x:=fun h0 g' h x hx hxb=>by
    obtain ⟨z,hz1,hz2,hz3⟩:=h.mem x hx hxb;rw [h.out (a - 1) (.inl (by omega)),hz3];exact hLB h0 z hz1 hz2
   refine Au (Aa (Aq (A0 (Aq (A0 (Bt 34359607424 (α:=Nat) (fun i=>[(7,.int .i64 (i:Int))]) (fun i w'=>(a+1≤i∧i≤b∧JE g a i)∧Ctx w0 [q] w' [(q,Bl 28 (CB (g) m))]) (fun i=>b - i) i U ?_ ?_ ?_))))))
   ·exact ⟨by rfl,trivial⟩
   ·exact ⟨hi0,H⟩
   ·rintro i jx w ⟨hiv,H⟩;refine Aq (DC 8589803520 (α:=Unit) (fun _=>[(32,.bool (decide (i<b∧¬ g i<g (i - 1))))]) (fun _ w'=>Ctx w0 [q] w' [(q,Bl 28 (CB (g) m))]) U ?_ ?_)
    ·skip
     refine FC 13 Bs (by kernel_rfl) U U ?_;refine Bh U (Bh U (KI U U (CU U (Dw 20 U ?_ ?_))))
     ·intro h1;replace h1:=AJ h1;refine Cz U (Bh U (Bf Bx Bp U U ?_));refine BX B5 U (by rintro _ rfl; exact ((Cy (H.drew.get at0)))) ?_;refine Cz U (Bh U (D8 U U ?_));refine Bf Bx Bp U U ?_;refine BX B5 U (by rintro _ rfl; exact ((Cy (H.drew.get at0)))) ?_;refine BW ?_;replace H:=H.drew;refine Al FU (EX _ _ _) U ?_;rintro v w ⟨rfl,rfl⟩;rw [show ((i:Int) - 1).toNat=i - 1 by omega,Int.toNat_natCast];refine BA U (AN U (.bool _) U (Ab (Aa ?_)));exact ⟨(),rfl,⟨congrArg Value.bool (by clear hiv; rw [Bool.eq_iff_iff]; simp_all; try omega),trivial⟩,H⟩
     ·intro h2;replace h2:=AK h2;refine A2 U (A2 U (A2 U (A2 U (A2 U (A2 U (A2 U (A2 U (A2 U (BW ?_)))))))));replace H:=H.drew;refine Ah U (Ah U (AU U (.bool _) U (Ab (Aa ?_))));exact ⟨(),rfl,⟨congrArg Value.bool (by clear hiv; rw [Bool.eq_iff_iff]; simp_all; try omega),trivial⟩,H⟩
    ·rintro - jy w H;refine Ap _ U ?_ ?_
     ·intro hc;have hc:=of_decide_eq_true hc;refine Au (Aa (A0 (Az (Ae U (Ax U U ?_)))));refine Ad U (Ab (A5 (Aa ?_)));exact ⟨i+1,rfl,⟨congrArg (Value.int .i64) (by omega),trivial⟩,⟨⟨by omega,by omega,fun x y hx hxy hy=>(if e:y=i then (by rw [e]; exact (if e2:x=i - 1 then by rw [e2]; omega else Int.le_trans (hiv.2.2 x (i - 1) hx (by omega) (by omega)) (by omega))) else hiv.2.2 x y hx hxy (by omega))⟩,H⟩,by omega⟩
     ·intro hc;have hc:=of_decide_eq_false hc;refine Bq (Am (Am (AG (Aa (Aq (Af (Ae U (Ae U (Cf U U (Ab (Aa (Ap _ U ?_ ?_))))))))))))
      ·intro h2;replace h2:=AJ h2;refine Af (Ai U (Ab (Aa (A4 (Ao (AA (Ao (Ao (AA (Ao (AD (v:=(.bool _)) U U U ?_)))))))))));obtain rfl:i=b:=by omega
       exact ⟨true,g,rfl,hS0,fun _=>hiv.2.2,H⟩
      ·intro h2;replace h2:=AK h2;have hib:i<b:=by omega
       have hlt:g i<g (i - 1):=by rcases Int.lt_or_le (g i) (g (i - 1)) with h7 | h7; exact h7; exact absurd ⟨hib,by omega⟩ hc
       refine Au (Aa (Aq (Af (Ae U (Ae U (Br U U ?_))))));refine Bj U U (Ab (Aa (Ap _ U ?_ ?_)))
       ·intro h3;replace h3:=AJ h3;refine Af (Ai U (Ab (Aa (A4 (Ao (AA (Ao (Ao (AA (Ao (AD (v:=(.bool _)) U U U ?_)))))))))));exact ⟨false,g,rfl,hS0,(fun h=>by cases h),H⟩
       ·intro h3;replace h3:=AK h3;refine Au (Aa (Cq [([0,1,2,3,4,5,6,7,8,9,10,11,12,13,14],15),([16],17)] (fun z=>z.heap[q]? = some (Bl 28 (CB (g) m))) [15,17] Bs (by kernel_rfl) (H.drew.get at0) ?_));refine AF U U ?_;refine B2 U (Be U (B2 U (Be U (EP U U ?_))));refine B2 U (Be U (EP U U ?_));refine AH Bx Bp U U ?_;refine B0 B5 U (fun _ hx=>(Cy hx)) ?_;refine B2 U (Be U (AH Bx Bp U U ?_));refine B0 B5 U (fun _ hx=>(Cy hx)) ?_;refine AH Bx Bp U U ?_;refine AP ?_;replace H:=H.drew;refine Cc (i) (fun z => .int .u64 (if z=i then (g) (i - 1) else (g) z)) (.int _ _) Bp U U U H at0 (by omega) (by rw [if_pos rfl]; exact congrArg (fun z=>Value.int .u64 ((g) z)) (by omega)) (fun z _ hz=>by rw [if_neg hz]) ?_;rintro w H
        refine Ab (Bz U (AF U U ?_));refine AH Bx Bp U U ?_;refine AP (Cc (i - 1) (fun z => .int .u64 (sw (g) (i) (i - 1) z)) (.int _ _) Bp U U U H at0 (by omega) (by rw [DL]; exact congrArg (fun z=>Value.int .u64 ((g) z)) (by omega)) (fun z _ hz=>by rw [DH hz]) ?_);rintro w H;refine Ab (Bz U (BH (Aq ?_)));have hS1:=hS0.step i (i - 1) ⟨by omega,by omega⟩ ⟨by omega,by omega⟩;have hI1:InsU (sw g i (i - 1)) a (i - 1) (i - 1):=fun x y hx hxy hy hne=>by rw [E6,E6]; exact hiv.2.2 x y hx hxy (by omega)
        obtain ⟨g1,hg1⟩:∃ g1,g1=sw g i (i - 1):=⟨_,rfl⟩;rw [← hg1] at hS1 hI1 H;refine Af (Ae U (Ae U (Br U U ?_)));refine C4 U U (Ab (Aa (F8 39614081252520482778344587776 (α:=Nat→Int) (fun _=>[]) (fun g w'=>JE g a i∧Sw a b f g∧Ctx w0 [q] w' [(q,Bl 28 (CB g m))]) U ?_ ?_)))
        ·skip
         refine Ap _ U ?_ ?_
         ·intro h4;replace h4:=AJ h4;refine Af (Ae U (Br U U ?_));rw [show (i:Int) - 1=((i - 1:Nat):Int) by omega];refine Ad U (Ab (Aa (A0 (Bt 39614081238685424723062424064 (α:=Nat × (Nat→Int)) (fun t=>[(9,.int .i64 (t.1:Int))]) (fun t w'=>(a≤t.1∧t.1≤i - 1∧InsU t.2 a t.1 (i - 1))∧Sw a b f t.2∧Ctx w0 [q] w' [(q,Bl 28 (CB t.2 m))]) (fun t=>t.1) (i - 1,g1) U ?_ ?_ ?_))))
          ·exact ⟨rfl,trivial⟩
          ·exact ⟨⟨by dsimp only; omega,Nat.le_refl _,hI1⟩,hS1,H⟩
          ·rintro ⟨j,g⟩ j3 w ⟨hj,hS,H⟩; dsimp only at hj hS H; dsimp only;have hex:(a<j→g (j - 1)≤g j)→JE g a i:=fun h7=>by have h8:=hj.2.2.done hj.1 h7; rw [show i - 1+1=i by omega] at h8; exact h8
           refine Aq (Af (Ae U (C4 U U (Ab (Aa (Ap _ U ?_ ?_))))))
           ·intro h5;replace h5:=AJ h5;refine Au (Aa (Aq (A0 (Aq (Eb 9 Bs (by kernel_rfl) U U ?_)))));refine Cz U (Bh U (Bf Bx Bp U U ?_));refine BX B5 U (by rintro _ rfl; exact ((Cy (H.drew.get at0)))) ?_;refine Cz U (Bh U (D8 U U ?_));refine Bf Bx Bp U U ?_;refine BX B5 U (by rintro _ rfl; exact ((Cy (H.drew.get at0)))) ?_;refine BW ?_;replace H:=H.drew;refine Al FU (EX _ _ _) U ?_;rintro v w ⟨rfl,rfl⟩;rw [show ((j:Int) - 1).toNat=j - 1 by omega,Int.toNat_natCast];refine BA U (Ab (Aa (Ap _ U ?_ ?_)))
            ·intro h6;replace h6:=BE h6;have h6:¬ g j<g (j - 1):=by simpa using h6
             refine Bq (Am (Fh U (Am (Am (AG (Aa ?_))))));exact ⟨g,rfl,trivial,hex fun _=>by omega,hS,H⟩
            ·intro h6;replace h6:=BF h6;have h6:g j<g (j - 1):=by simpa using h6
             have haj:a<j:=by
              rcases Nat.lt_or_ge a j with h | h
              ·exact h
              ·obtain rfl:a=j:=by omega
               have:=hLBg (by omega) g hS a (Nat.le_refl _) hab;omega
             refine Au (Aa (ER [([0,1,2,3,4,5,6,7,8,9,10,11,12,13,14],15),([16],17)] (fun z=>z.heap[q]? = some (Bl 28 (CB (g) m))) [15,17] Bs (by kernel_rfl) (H.drew.get at0) ?_));refine AF U U ?_;refine B2 U (Be U (B2 U (Be U (EP U U ?_))));refine B2 U (Be U (EP U U ?_));refine AH Bx Bp U U ?_;refine B0 B5 U (fun _ hx=>(Cy hx)) ?_;refine B2 U (Be U (AH Bx Bp U U ?_));refine B0 B5 U (fun _ hx=>(Cy hx)) ?_;refine AH Bx Bp U U ?_;refine AP ?_;replace H:=H.drew;refine Cc (j) (fun z => .int .u64 (if z=j then (g) (j - 1) else (g) z)) (.int _ _) Bp U U U H at0 (by omega) (by rw [if_pos rfl]; exact congrArg (fun z=>Value.int .u64 ((g) z)) (by omega)) (fun z _ hz=>by rw [if_neg hz]) ?_;rintro w H
             refine Ab (Bz U (AF U U ?_));refine AH Bx Bp U U ?_;refine AP (Cc (j - 1) (fun z => .int .u64 (sw (g) (j) (j - 1) z)) (.int _ _) Bp U U U H at0 (by omega) (by rw [DL]; exact congrArg (fun z=>Value.int .u64 ((g) z)) (by omega)) (fun z _ hz=>by rw [DH hz]) ?_);rintro w H;refine Ab (Bz U (BH (A5 (Aa (Az (Ae U (Br U U ?_)))))));refine Ad U (Ab (Aa ?_));exact ⟨(j - 1,sw g j (j - 1)),rfl,⟨congrArg (Value.int .i64) (by dsimp only; omega),trivial⟩,⟨⟨by dsimp only; omega,by dsimp only; omega,hj.2.2.step haj hj.2.1 h6⟩,hS.step j (j - 1) ⟨by omega,by omega⟩ ⟨by omega,by omega⟩,H⟩,by dsimp only; omega⟩
           ·intro h5;replace h5:=AK h5;refine Bq (Am (Am (AG (Aa ?_))));exact ⟨g,rfl,trivial,hex fun _=>by omega,hS,H⟩
         ·intro h4;replace h4:=AK h4;refine Au (Aa ?_);exact ⟨g1,rfl,trivial,fun x y hx hxy hy=>by omega,hS1,H⟩
        ·rintro g2 j4 w ⟨hO2,hS2,H⟩;refine Af (Ae U (Ae U (Br U U ?_)));refine C4 U U (Ab (Aa (Ap _ U ?_ ?_)))
         ·intro h4;replace h4:=AJ h4;refine Af (Ae U (Ax U U ?_));rw [show (i:Int)+1=((i+1:Nat):Int) by omega];refine Ad U (Ab (Aa (A0 (Bt 10889035738934729630371528634823176356864 (α:=Nat × (Nat→Int)) (fun t=>[(10,.int .i64 (t.1:Int))]) (fun t w'=>(i+1≤t.1∧t.1≤b∧JE t.2 a i)∧Sw a b f t.2∧Ctx w0 [q] w' [(q,Bl 28 (CB t.2 m))]) (fun t=>b - t.1) (i+1,g2) U ?_ ?_ ?_))))
          ·exact ⟨rfl,trivial⟩
          ·exact ⟨⟨Nat.le_refl _,by dsimp only; omega,hO2⟩,hS2,H⟩
          ·rintro ⟨j,g⟩ j5 w ⟨hj,hS,H⟩; dsimp only at hj hS H; dsimp only;refine Aq (Af (Ae U (Ae U (Bj U U (Ab (Aa (Ap _ U ?_ ?_)))))))
           ·intro h5;replace h5:=AJ h5;refine Au (Aa (Aq (A0 (Aq (Eb 9 Bs (by kernel_rfl) U U ?_)))));refine Cz U (Bh U (Bf Bx Bp U U ?_));refine BX B5 U (by rintro _ rfl; exact ((Cy (H.drew.get at0)))) ?_;refine Cz U (Bh U (D8 U U ?_));refine Bf Bx Bp U U ?_;refine BX B5 U (by rintro _ rfl; exact ((Cy (H.drew.get at0)))) ?_;refine BW ?_;replace H:=H.drew;refine Al FU (EX _ _ _) U ?_;rintro v w ⟨rfl,rfl⟩;rw [show ((j:Int) - 1).toNat=j - 1 by omega,Int.toNat_natCast];refine BA U (Ab (Aa (Ap _ U ?_ ?_)))
            ·intro h6;replace h6:=BE h6;refine Bq (Am (Fh U (Am (Am (AG (A5 (Aa (Az (Ae U (Ax U U ?_))))))))));refine Ad U (Ab (Aa ?_));exact ⟨(st+1,i,g),rfl,⟨rfl,rfl,trivial⟩,⟨by dsimp only; omega,⟨by dsimp only; omega,by dsimp only; omega,hj.2.2⟩,hS,H⟩,by dsimp only; omega⟩
            ·intro h6;replace h6:=BF h6;refine Au (Aa (ER [([0,1,2,3,4,5,6,7,8,9,10,11,12,13,14],15),([16],17)] (fun z=>z.heap[q]? = some (Bl 28 (CB (g) m))) [15,17] Bs (by kernel_rfl) (H.drew.get at0) ?_));refine AF U U ?_;refine B2 U (Be U (B2 U (Be U (EP U U ?_))));refine B2 U (Be U (EP U U ?_));refine AH Bx Bp U U ?_;refine B0 B5 U (fun _ hx=>(Cy hx)) ?_;refine B2 U (Be U (AH Bx Bp U U ?_));refine B0 B5 U (fun _ hx=>(Cy hx)) ?_;refine AH Bx Bp U U ?_;refine AP ?_;replace H:=H.drew;refine Cc (j) (fun z => .int .u64 (if z=j then (g) (j - 1) else (g) z)) (.int _ _) Bp U U U H at0 (by omega) (by rw [if_pos rfl]; exact congrArg (fun z=>Value.int .u64 ((g) z)) (by omega)) (fun z _ hz=>by rw [if_neg hz]) ?_;rintro w H
             refine Ab (Bz U (AF U U ?_));refine AH Bx Bp U U ?_;refine AP (Cc (j - 1) (fun z => .int .u64 (sw (g) (j) (j - 1) z)) (.int _ _) Bp U U U H at0 (by omega) (by rw [DL]; exact congrArg (fun z=>Value.int .u64 ((g) z)) (by omega)) (fun z _ hz=>by rw [DH hz]) ?_);rintro w H;refine Ab (Bz U (BH (A5 (Aa (Az (Ae U (Ax U U ?_)))))));refine Ad U (Ab (Aa ?_));exact ⟨(j+1,sw g j (j - 1)),rfl,⟨rfl,trivial⟩,⟨⟨by dsimp only; omega,by dsimp only; omega,fun x y hx hxy hy=>by dsimp only; rw [E6,E6]; exact hj.2.2 x y hx hxy hy⟩,hS.step j (j - 1) ⟨by omega,by omega⟩ ⟨by omega,by omega⟩,H⟩,by dsimp only; omega⟩
           ·intro h5;replace h5:=AK h5;refine Bq (Am (Am (AG (A5 (Aa (Az (Ae U (Ax U U ?_))))))));refine Ad U (Ab (Aa ?_));exact ⟨(st+1,i,g),rfl,⟨rfl,rfl,trivial⟩,⟨by dsimp only; omega,⟨by dsimp only; omega,by dsimp only; omega,hj.2.2⟩,hS,H⟩,by dsimp only; omega⟩
         ·intro h4;replace h4:=AK h4;refine Au (A5 (Aa (Az (Ae U (Ax U U ?_)))));refine Ad U (Ab (Aa ?_));exact ⟨(st+1,i,g2),rfl,⟨rfl,rfl,trivial⟩,⟨by dsimp only; omega,⟨by dsimp only; omega,by dsimp only; omega,hO2⟩,hS2,H⟩,by dsimp only; omega⟩
  ·intro h1;replace h1:=AK h1;refine Bq (Am (Am (AG (Aa (Af (Ai U (Ab (Aa (A4 (AD (v:=(.bool _)) U U U ?_))))))))));exact ⟨false,g,rfl,hS0,(fun h=>by cases h),H⟩
end
end Go.Proofs.YtdagmpmdcgedcaaGreat
