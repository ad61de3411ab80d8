/- Part 7 of the proof. -/
import Derived.Test.YtdagmpmdcgedcaaGreatPart2
import Derived.Test.YtdagmpmdcgedcaaGreatPart6
import Derived.Test.YtdagmpmdcgedcaaGreatPart4
import Derived.Test.YtdagmpmdcgedcaaGreatPart3
namespace Go.Proofs.YtdagmpmdcgedcaaGreat
open Go.GV
attribute [local irreducible] AD W Wq Wt
set_option maxRecDepth 20000 in
set_option maxHeartbeats 8000000 in
theorem Ad9 {w:World} {bs bf bp bo:Nat} {N:Nat} {ae:Option Addr} {ce:Nat} {kk:Int} {es:List Ed} {x p ov:Nat→Int} {full:List Value} (H0:Ctx w ((SL bs bf bp bo N ae es.length ce kk x p ov full).map (·.1)) w (SL bs bf bp bo N ae es.length ce kk x p ov full)) (O:OS ae es.length ce 4 full (es.flatMap CG))
  (hr:Cy (N:Int) es=true) (hF:Fine (grE (N:Int) es) (Cs es) x p) (hov:∀ v,v<N→ov v=B9 (grE (N:Int) es) x v) (hpb:∀ v,v<N → -1073741824≤p v∧p v≤1073741824)
  (hxn:flE (tab x es.length)=x) (hpn:EW (tab p N)=p) :
  Ret Tryz.prog 212 #[ptr bs] w fun v w'=>∃ (b:Bool) (x' p' ov':Nat→Int) (kk':Int),v = .bool b∧Ctx w ((SL bs bf bp bo N ae es.length ce kk x p ov full).map (·.1)) w' (SL bs bf bp bo N ae es.length ce kk' x' p' ov' full)∧Fine (grE (N:Int) es) (Cs es) x' p'∧(∀ v,v<N→ov' v=B9 (grE (N:Int) es) x' v)∧(∀ v,v<N → -1073741824≤p' v∧p' v≤1073741824) ∧
   (b=false→∀ v,v<N→B9 (grE (N:Int) es) x' v≤0)∧(b=true→HQ (grE (N:Int) es) x'+1≤HQ (grE (N:Int) es) x):=by
 obtain ⟨w0,rfl⟩:∃ w0,w0=w:=⟨_,rfl⟩;obtain ⟨ids,hids⟩:∃ ids,ids=(SL bs bf bp bo N ae es.length ce kk x p ov full).map (·.1):=⟨_,rfl⟩;rw [← hids] at H0 ⊢;have H:=H0;obtain ⟨hN1,hN40,hn200,hall,-⟩:=CL hr;have hI:I64 (N:Int):=by unfold I64; omega
 have hw:=Nx hr hF;have hpot:=Ad7 hpb;have hfit:Iv (N:Int) es (tab x es.length) (tab p N)=true:=Sr hw hpot (by rw [hxn,hpn]; exact hF);obtain ⟨hsrc,hsnd,hsm⟩:=Ajt (ov:=ov) (N:=N);have hRe:∀ {z:World},(∀ y∈ent ae 59 full,z.heap[y.1]? = some y.2)→Rd z ae 4 CG es:=fun h=>O.rd h (fun _ _=>rfl) (by decide);obtain ⟨g,hg⟩:∃ g,g=grE (N:Int) es:=⟨_,rfl⟩;have hgE:g.E=es.length:=by rw [hg]; rfl
 have hgN:g.N=N:=by rw [hg]; rfl
 have hgo:g.Ok:=by rw [hg]; exact Jw hr
 have hxb:=hF.in';rw [← hg] at hF hov hxb ⊢;rw [hgE] at hxb;have hcb:=NP hr
 have hovb:∀ v,v<N → -900719925474099200≤ov v∧ov v≤900719925474099200:=fun v hv=>by
  rw [hov v hv];exact W9 (fun i hi=>by have h1:=hxb i (by omega); have h2:=hcb i (by omega); omega) v
 refine Hu (fn:=Tryz.f212) Tryz.func212 U [.pointer (some ⟨bs,0,none⟩)] U (by kernel_rfl) ?_;refine Ae (Bx _ (.pointer _) U U H ?_);rintro b1 w - H;refine Ai U (Ab (Aa (Ae (AH EJ U H at0 U (Al Aif (Vw (H.get at1) (H.get (k:=4) U)) U ?_)))));rintro v w ⟨⟨fr,fn,fc,ff,rfl,Of,hbf⟩,hx14⟩;have hfn:=Of.num;subst hfn;have Rs:Rd w fr 1 I1 ((Ii ov N).map fun v:Nat=>(v:Int)):=Rd.map (Of.rd1 (f:=iN) fun y hy=>(hbf y hy).1);replace H:=H.call hx14;refine A4 U (Ab (Aa (Au (Ae (Ay U (Be F4 U (Ct U U (Ab (Aa (Ao _ U ?_ ?_))))))))))
 ·intro h1;replace h1:=AM h1;refine Ae (Ai U (Ab (Aa (A5 (Aq (LG (v:=(.bool _)) U U ?_))))));have hp0:Ii ov N=[]:=List.eq_nil_of_length_eq_zero (by omega);have H2:=H.tail;refine ⟨false,x,p,ov,kk,rfl,H2,hF,hov,hpb,fun _ v hv=>?_,fun h=>by cases h⟩;rw [← hov v hv]
  rcases Int.lt_or_le 0 (ov v) with h | h
  ·have:=(hsm v).2 ⟨hv,h⟩;rw [hp0] at this; cases this
  ·exact h
 ·intro h1;replace h1:=AN h1;have hs0:0<(Ii ov N).length:=by omega
  refine Ap (Aa (Cv [([0,1,2,3,4,5,6,7,8,9,10,11,12],13),([14,15,16,17,18,19],20)] (fun z=>z.heap[b1]? = some (Bl 252 [ptr bs])∧z.heap[bs]? = some (Bl 254 (SC N ae es.length ce bf bp bo kk))) [] Bq (by kernel_rfl) (⟨H.drew.get at0,H.drew.get at1⟩) ?_));refine AE U U ?_;refine Bw EJ U (fun _ hx=>(by rw [Aj hx.1]; rfl)) ?_;refine Bf U (Am GO U (IH _ Dh CK U U (fun _ hx=>(IX hx.2)) ?_));refine Bw EJ U (fun _ hx=>(by rw [Aj hx.1]; rfl)) ?_;refine Bf U (Am EQ U (Bw BM U (fun _ hx=>(by rw [Aj hx.2]; rfl)) ?_));refine Bw EJ U (fun _ hx=>(by rw [Aj hx.1]; rfl)) ?_;refine Bf U (Am ER U (Bw BM U (fun _ hx=>(by rw [Aj hx.2]; rfl)) ?_));refine B3 U (AP ?_);replace H:=H.drew
  refine Al Aig (Ad6 (N:Int) ae (some ⟨bf,0,none⟩) (some ⟨bp,0,none⟩) fr es.length ce es.length es.length N N fc es (tab x es.length) (tab p N) (Ii ov N) _ (hRe fun y hy=>H.blk y (List.mem_append_right [_,_,_,_,_] hy)) U hI (C1 (H.get at2)) (CP _ _) (C1 (H.get at3)) (CP _ _) (Rs.ext0 (Ext.drew [] _)) hfit hsrc hsnd hs0) U ?_;rintro rv w ⟨od,ob,s,by',hrv,DN,BY,hby,H3⟩;rw [Int.toNat_natCast] at hrv DN H3;subst hrv;replace H:=Ctx.back (L1:=[]) (L2:=_::_::_::_::_::_) H H3;refine Ab (BT (⟨H.get at2,H.get at3⟩) (AE U U ?_));refine DF U (Bu U U (Bu U U (Bu U U (Em U (Em U (AP (Af U (Ab (BT (⟨H.get at2,H.get at3⟩) (BJ ?_))))))))));refine Au (Ae (Ad U (C0 U U (Ab (Aa (Ao _ U ?_ ?_))))))
  ·intro h2;replace h2:=C7 h2;exact absurd h2 (by decide)
  ·intro h2;replace h2:=C8 h2;have hlow:=DN.J.low;have hds:∀ v,v∈Ii ov N→s.d v=0∧s.h v=0:=fun v hv=>(DN.J.src' v hv).2;rw [← hg,hxn,hpn] at DN BY;rw [← hgN] at DN;refine Ap (Aa (Ae (AH EJ U H at2 U (Ay U (Al Aih (Vx (H.get at3) (H.get at6) (H.get at0)) U ?_)))));rintro rv w ⟨⟨to,rfl,hto⟩,rfl⟩;refine Af U (Ab (Aa (Au (Ae (Ad U (Bj U U (Ab (Aa (Ao _ U ?_ ?_)))))))))
   ·intro h3;replace h3:=AM h3;exfalso
    rcases hto with ⟨h,h7⟩ | ⟨tv,_,h,-,-⟩
    ·obtain ⟨v0,hv0⟩:=A8 (h:=hs0);have hm:=List.mem_of_getElem? hv0;have h8:=(hsm v0).1 hm;obtain ⟨z,hz1,hz2,hz3⟩:=reach hgo hF DN (v:=v0) (by omega) (by rw [(hds v0 hm).1]; omega) (by rw [← hov v0 h8.1]; exact h8.2);rw [hgN] at hz1;exact h7 z hz1 ⟨by rw [hov z hz1]; exact hz3,(hlow z).resolve_left hz2⟩
    ·omega
   ·intro h3;replace h3:=AN h3
    obtain ⟨tv,htv,rfl,hov0,hd0⟩:∃ tv:Nat,tv<N∧to=tv∧ov tv<0∧0≤s.d tv:=by
     rcases hto with ⟨h,_⟩ | h
     ·omega
     ·exact h
    have hdt:s.d tv ≠ -1:=by omega
    have hovt:=hovb tv htv;have hgot:(tab ov N)[tv]? = some (ov tv):=BU htv;refine Ap (Aa (DR 4494803534349056 (α:=Nat × Nat) (fun z=>[(8,ptr z.1),(9,ptr z.2)]) (fun z w'=>Ctx w0 ids w' ((z.1,Bl 3 [.int .i64 (tv:Int)])::(z.2,Bl 2 [.int .i64 (-ov tv)])::(od,Bl 2 (BV s.d N))::(ob,Bl 3 (BV by' N))::(b1,Bl 252 [ptr bs])::SL bs bf bp bo N ae es.length ce kk x p ov full)) U ?_ ?_))
    ·skip
     refine Oe (.two [0,1,2,3,4,5,6,7,8] 9 (.one [] 10 (.one [] 11 (.one [] 12 .stop))) 10 (.one [] 9 (.one [] 11 (.one [] 12 .stop)))) (fun z=>z.heap[b1]? = some (Bl 252 [ptr bs])∧z.heap[bs]? = some (Bl 254 (SC N ae es.length ce bf bp bo kk))∧z.heap[bo]? = some (Bl 2 (BV ov N))) Bq (by kernel_rfl) (⟨H.drew.get at2,H.drew.get at3,H.drew.get at6⟩) ?_;refine I3 U U U ?_;refine Bc U (Bw EJ U (fun _ hx=>(by rw [Aj hx.1]; rfl)) ?_);refine Bf U (Am GP U (Bw BM U (fun _ hx=>(by rw [Aj hx.2.1]; rfl)) ?_));refine Bc U (AJ AU Bz U U ?_);refine Bw Bs U (fun _ hx=>((C1 hx.2.2).fld hgot rfl (j:=0) rfl)) ?_;refine Xj U U ?_;refine AP ?_;replace H:=H.drew;refine ⟨?_,?_⟩
     ·skip
      refine Ba Vo H ?_;rintro b8 w - H;refine Ab (BS (⟨H.get at3,H.get at4,H.get at7⟩) (BP U U ?_));refine AP (Ba Ei H ?_);rintro b9 w - H;refine Ab (BS (⟨H.get at4,H.get at5,H.get at8⟩) (BP U U ?_));refine AP (Ci (.int _ _) Gk U U U H at1 (by decide) ?_);rintro w H;refine Ab (BS (⟨H.get at4,H.get at5,H.get at8⟩) (BP U U ?_));refine AP (Ci (.int _ _) Bz U U U H at0 (by decide) ?_);rintro w H;refine Ab (BS (⟨H.get at4,H.get at5,H.get at8⟩) (Eb ?_));refine Aa ?_;exact ⟨(b8,b9),rfl,⟨rfl,rfl,trivial⟩,H.perm (List.Perm.swap ..)⟩
     ·skip
      refine Ba Ei H ?_;rintro b9 w - H;refine Ab (BS (⟨H.get at3,H.get at4,H.get at7⟩) (BP U U ?_));refine AP (Ba Vo H ?_);rintro b8 w - H;refine Ab (BS (⟨H.get at4,H.get at5,H.get at8⟩) (BP U U ?_));refine AP (Ci (.int _ _) Gk U U U H at0 (by decide) ?_);rintro w H;refine Ab (BS (⟨H.get at4,H.get at5,H.get at8⟩) (BP U U ?_));refine AP (Ci (.int _ _) Bz U U U H at1 (by decide) ?_);rintro w H;refine Ab (BS (⟨H.get at4,H.get at5,H.get at8⟩) (Eb ?_));refine Aa ?_;exact ⟨(b8,b9),rfl,⟨rfl,rfl,trivial⟩,H⟩
    ·rintro ⟨b8,b9⟩ j w H; dsimp only at H; dsimp only;obtain ⟨path,hpath⟩:∃ path,path=Eg (byO by') g (s.h tv) tv:=⟨_,rfl⟩;have BY':Bys g (Cs es) x p s (byO by'):=BY;obtain ⟨q1,q2,q3,q4⟩:=KA BY' hdt rfl;have hpe:=Pb BY' hdt rfl;have hwp:=QF BY' hdt rfl;rw [← hpath] at q1 hpe hwp;have hsd0:=fun v=>DN.J.dist (by omega) (by omega) v;refine Au (Ae (AH EJ U H at4 U (Ay U (Ad U ?_))));have hlt:=Ctx.ltI H;have hwb0:=H.size;refine Al Zh (TL _ _ (some ⟨ob,0,none⟩) N N bs (tv:Int) _ U U) U ?_;rintro rv w ⟨b3,b4,b5,rfl,hb3,hb4,hb5,s3,s4,s5,n53,n54,hx55⟩;replace H:=H.call hx55;refine Ab (Aa (A0 ?_));obtain ⟨ws,rfl⟩:∃ z,z=w:=⟨_,rfl⟩;have l3:=Bb hb3;have l4:=Bb hb4;have l5:=Bb hb5;have hwsz:=H.size;have h05:w0.heap.size≤b5:=Nat.le_trans hwb0 s5;have n8:=hlt b8 (List.mem_cons_self ..);have n9:=hlt b9 (List.mem_cons_of_mem _ (List.mem_cons_self ..))
     refine Tm (gf:=271) U Zn (TN (b3:=b3) (b4:=b4) (b5:=b5) (bs:=bs) (ob:=ob) (N:=N) (ae:=ae) (ce:=ce) (bf:=bf) (bp:=bp) (bo:=bo) (kk:=kk) (es:=es) (by':=by') (x:=x) (p:=p) (s:=s) hw (by rw [← hg]; exact BY') hby htv hdt U) (by kernel_rfl) (by kernel_rfl) (fun v hv=>by obtain ⟨p,-,rfl⟩:=List.mem_map.1 hv; rfl)
      (fun i M w'=>(M=fun y=>y=b8∨y=b9)∧(∃ mo:Int,Ctx w0 ids w' ((b8,Bl 3 [.int .i64 ((TO g tv (path.take i):Nat):Int)])::(b9,Bl 2 [.int .i64 (mo)])::(od,Bl 2 (BV s.d N))::(ob,Bl 3 (BV by' N))::(b1,Bl 252 [ptr bs])::SL bs bf bp bo N ae es.length ce kk (x) (p) (ov) full)∧0<mo∧mo ≤ -ov tv∧∀ a∈path.take i,mo≤CI (Cs es) x a)∧w'.heap[b3]? = some (Bl 252 [ptr bs])∧w'.heap[b4]? = some (Bl 94 [.slice (some ⟨ob,0,none⟩) N N]))
      (fun _=>False) (by simp only [List.mem_singleton]; omega) (fun w2 hx2=>hx2.to hb5 (by simp))
      (fun w2 hx2 _=>⟨_,rfl,⟨-ov tv,H.call hx2,by omega,Int.le_refl _,fun a ha=>by cases ha⟩,hx2.to hb3 (by simp),hx2.to hb4 (by simp)⟩)
      (fun i M w' w'' hJ hx=>?_) (fun _ _ h _=>h) (fun i M w' hJ=>?_) ?_ ?_ (fun _ h _=>h.elim)
     ·obtain ⟨hM,⟨mo,HJ,m1,m2,m3⟩,g3,g4⟩:=hJ;refine ⟨hM,⟨mo,HJ.step hx (fun y hy=>?_) (fun z hz => .inr ?_),m1,m2,m3⟩,hx.to g3 ?_,hx.to g4 ?_⟩
      ·have h7:=List.mem_map_of_mem (f:=(·.1)) hy;have:=hlt y.1 h7;simp only [List.mem_cons,List.not_mem_nil,or_false]; omega
      ·simp only [List.mem_cons,List.not_mem_nil,or_false] at hz; omega
      ·simp only [List.mem_cons,List.not_mem_nil,or_false]; omega
      ·simp only [List.mem_cons,List.not_mem_nil,or_false]; omega
     ·obtain ⟨hM,⟨mo,HJ,m1,m2,m3⟩,g3,g4⟩:=hJ;refine ⟨fun y hy=>?_,g4,g3,HJ.get at5,HJ.get at3,hRe fun y hy=>HJ.blk y (List.mem_append_right [_,_,_,_,_,_,_,_,_] hy),?_⟩
      ·rw [hM] at hy
       rcases hy with rfl | rfl
       ·exact ⟨Bb (HJ.get at0),by omega,by omega⟩
       ·exact ⟨Bb (HJ.get at1),by omega,by omega⟩
      ·rw [hM]; dsimp only; omega
     ·rintro i v _ w hxv ⟨rfl,⟨mo,HJ,m1,m2,m3⟩,g3,g4⟩ hsz;rw [← hg,← hpath,List.getElem?_map] at hxv;obtain ⟨a,ha,rfl⟩:=Option.map_eq_some_iff.1 hxv;obtain ⟨hWa,-⟩:=q1 a (List.mem_of_getElem? ha);have hWlt:=hWa.lt;obtain ⟨-,hR,-⟩:=Pk hw (k:=a) (by omega);obtain ⟨w1,rfl⟩:∃ z,z=w:=⟨_,rfl⟩;refine Ae (Af U (Ab (Aa (Ax (Af U (Ab ?_))))));refine ⟨Ext.refl _ _,fun wB hxB=>?_⟩;have HB:=HJ.step hxB (fun y hy=>by have h7:=List.mem_map_of_mem (f:=(·.1)) hy; have:=hlt y.1 h7; rw [List.mem_singleton]; omega) (fun z hz => .inr (by rw [List.mem_singleton.1 hz]; omega));have e3:=hxB.to g3 (by rw [List.mem_singleton]; omega);have e4:=hxB.to g4 (by rw [List.mem_singleton]; omega);have k1:=HB.get at4;have ks:=HB.get at5;have kf:=HB.get at6;have hn1:=GA (L:=[_,_]) HB.nd (x:=(b1,_)) (List.mem_of_getElem? (i:=2) rfl);have hns:=GA (L:=[_,_]) HB.nd (x:=(bs,_)) (List.mem_of_getElem? (i:=3) rfl)
      have hnf:=GA (L:=[_,_]) HB.nd (x:=(bf,_)) (List.mem_of_getElem? (i:=4) rfl);have hke:∀ y∈ent ae 59 full,wB.heap[y.1]? = some y.2∧y.1∉[b8,b9]:=fun y hy=>⟨HB.blk y (List.mem_append_right [_,_,_,_,_,_,_,_,_] hy),GA (L:=[_,_]) HB.nd (List.mem_append_right [_,_,_,_,_,_,_] hy)⟩;obtain ⟨w2,rfl⟩:∃ z,z=wB:=⟨_,rfl⟩;have H:=Ctx.lend (L1:=[_,_]) (L2:=_::_::_::_::_::_::_::_) HB;refine A0 (Fj [([0,1,2,3,4,5,6,7,8,9,10],11),([12],13),([],14)] (fun z=>z.heap[b9]? = some (Bl 2 [.int .i64 mo])∧z.heap[b1]? = some (Bl 252 [ptr bs])∧z.heap[bs]? = some (Bl 254 (SC N ae es.length ce bf bp bo kk))) [14] Bq (by kernel_rfl) (⟨H.drew.get at1,H.drew.ext.to k1 hn1,H.drew.ext.to ks hns⟩) ?_);refine AE U U ?_;refine Bc U (Bw Bs U (fun _ hx=>(by rw [Aj hx.1]; rfl)) ?_);refine Bw EJ U (fun _ hx=>(by rw [Aj hx.2.1]; rfl)) ?_;refine Bf U (Am GO U (IH _ Dh CK U U (fun _ hx=>(IX hx.2.2)) ?_))
      refine Bw EJ U (fun _ hx=>(by rw [Aj hx.2.1]; rfl)) ?_;refine Bf U (Am EQ U (Bw BM U (fun _ hx=>(by rw [Aj hx.2.2]; rfl)) ?_));refine Bc U (AP ?_);replace H:=H.drew;refine Al Vg (Sm (N:Int) ae (some ⟨bf,0,none⟩) es.length ce es.length es.length es (tab x es.length) _ (hRe fun y hy=>H.ext.to (hke y hy).1 (hke y hy).2) U hI (C1 (H.ext.to kf hnf)) (CP _ _) (a:Int)) U ?_;rintro v w ⟨rfl,hx69⟩;replace H:=H.call hx69;rw [hR];refine Ab (BT (⟨H.get at1,H.ext.to k1 hn1,H.ext.to ks hns⟩) (AE U U ?_));refine UN U U U ?_;refine AP (Ci (.int _ _) Gk U U U H at0 (by (simp; done)) ?_);rintro w H;refine Ab (BT (⟨H.get at1,H.ext.to k1 hn1,H.ext.to ks hns⟩) (AE U U ?_));refine AP (Ci (.int _ _) Bz U U U H at1 (by (simp; done)) ?_);rintro w H;refine Ab (B4 U (BJ (A6 ?_)));have hrm:=hWa.room;have HH:=Ctx.back (L1:=[_,_]) (L2:=_::_::_::_::_::_::_::_) HB H
      refine ⟨_,⟨rfl,⟨min mo (CI (Cs es) x a),by rw [XC ha]; exact HH,by omega,by omega,fun a' ha'=>?_⟩,H.ext.to e3 (by simp only [List.map_cons,List.map_nil,List.mem_cons,List.not_mem_nil,or_false]; omega),H.ext.to e4 (by simp only [List.map_cons,List.map_nil,List.mem_cons,List.not_mem_nil,or_false]; omega)⟩,fun x hx => .inl hx,_,H.ext,fun x hx => .inl (by simpa using hx)⟩;rw [Fx ha] at ha'
      rcases List.mem_append.1 ha' with h | h
      ·have:=m3 a' h; omega
      ·rw [List.mem_singleton.1 h]; omega
     ·rintro M w ⟨-,⟨mo,HJ,m1,m2,m3⟩,-,-⟩ hD;have hxl:(List.map (Aaa (grE (N:Int) es)) (Eg (byO by') (grE (N:Int) es) (s.h tv) tv)).length=path.length:=by rw [List.length_map,← hg,← hpath]
      rw [hxl,List.take_length] at HJ m3;obtain ⟨f0,hf0⟩:∃ f0,f0=TO g tv path:=⟨_,rfl⟩;rw [← hf0] at HJ hwp;rw [← hwp] at q3 q4;have hf0s:=(hsm f0).1 (by have h7:=DN.J.zero f0 q3 q4; rw [hgN] at h7; exact h7);have hovf:=hovb f0 hf0s.1;have hgof:(tab ov N)[f0]? = some (ov f0):=BU hf0s.1;have H:=HJ.add hD (.inr hwsz) (fun y hy e=>by have h7:=List.mem_map_of_mem (f:=(·.1)) hy; have:=hlt y.1 h7; omega);refine A6 (Aa (DZ 9 Bq (by kernel_rfl) U U ?_));refine Cc Bs U (by rintro _ rfl; exact H.drew) at2 U ?_;refine Cc EJ U (by rintro _ rfl; exact H.drew) at5 U ?_;refine AZ U (A3 GP U (Cc BM U (by rintro _ rfl; exact H.drew) at6 U ?_));refine Cc BZ U (by rintro _ rfl; exact H.drew) at1 U ?_;refine Bh AU Bz U U ?_;refine BR Bs U (by rintro _ rfl; exact (((C1 (H.drew.get at9)).fld hgof rfl (j:=0) rfl))) ?_;refine Aga U U U ?_;refine BQ ?_;replace H:=H.drew
      refine Ci (.int _ _) Bz U U U H at2 (by (simp; done)) ?_;rintro w H;refine Ab (Aa (Au ?_));obtain ⟨mm,hmm⟩:∃ mm,mm=min mo (ov f0):=⟨_,rfl⟩;rw [← hmm] at H;have hmm0:0<mm∧mm≤ov f0∧mm ≤ -ov tv:=by omega
      refine Ae (AH EJ U H at5 U (Ay U (Ad U ?_)));have hlt2:=Ctx.ltI H;have hwb2:=H.size;refine Al Zh (TL _ _ (some ⟨ob,0,none⟩) N N bs (tv:Int) _ U U) U ?_;rintro rv w ⟨c3,c4,c5,rfl,hc3,hc4,hc5,t3,t4,t5,nc53,nc54,hx83⟩;replace H:=H.call hx83;refine Ab (Aa (A0 ?_));obtain ⟨wt,rfl⟩:∃ z,z=w:=⟨_,rfl⟩;have j3:=Bb hc3;have j4:=Bb hc4;have j5:=Bb hc5;have hwtz:=H.size;have nbf:=hlt2 bf (List.mem_of_getElem? (i:=7) rfl)
      refine Tm (gf:=271) U Zn (TN (b3:=c3) (b4:=c4) (b5:=c5) (bs:=bs) (ob:=ob) (N:=N) (ae:=ae) (ce:=ce) (bf:=bf) (bp:=bp) (bo:=bo) (kk:=kk) (es:=es) (by':=by') (x:=x) (p:=p) (s:=s) hw (by rw [← hg]; exact BY') hby htv hdt U) (by kernel_rfl) (by kernel_rfl) (fun v hv=>by obtain ⟨p,-,rfl⟩:=List.mem_map.1 hv; rfl)
       (fun i M w'=>(M=fun y=>y=bf)∧Ctx w0 ids w' ((ws.heap.size,.deferred (some []))::((b8,Bl 3 [.int .i64 (f0:Int)])::(b9,Bl 2 [.int .i64 (mm)])::(od,Bl 2 (BV s.d N))::(ob,Bl 3 (BV by' N))::(b1,Bl 252 [ptr bs])::SL bs bf bp bo N ae es.length ce kk (FE mm x (path.take i)) (p) (ov) full))∧w'.heap[c3]? = some (Bl 252 [ptr bs])∧w'.heap[c4]? = some (Bl 94 [.slice (some ⟨ob,0,none⟩) N N]))
       (fun _=>False) (by simp only [List.mem_singleton]; omega) (fun w2 hx2=>hx2.to hc5 (by simp))
       (fun w2 hx2 _=>⟨_,rfl,H.call hx2,hx2.to hc3 (by simp),hx2.to hc4 (by simp)⟩)
       (fun i M w' w'' hJ hx=>?_) (fun _ _ h _=>h) (fun i M w' hJ=>?_) ?_ ?_ (fun _ h _=>h.elim)
      ·obtain ⟨hM,HJ,g3,g4⟩:=hJ;refine ⟨hM,HJ.step hx (fun y hy=>?_) (fun z hz => .inr ?_),hx.to g3 ?_,hx.to g4 ?_⟩
       ·have h7:=List.mem_map_of_mem (f:=(·.1)) hy;have:=hlt2 y.1 h7;simp only [List.mem_cons,List.not_mem_nil,or_false]; omega
       ·simp only [List.mem_cons,List.not_mem_nil,or_false] at hz; omega
       ·simp only [List.mem_cons,List.not_mem_nil,or_false]; omega
       ·simp only [List.mem_cons,List.not_mem_nil,or_false]; omega
      ·obtain ⟨hM,HJ,g3,g4⟩:=hJ;refine ⟨fun y hy=>?_,g4,g3,HJ.get at6,HJ.get at4,hRe fun y hy=>HJ.blk y (List.mem_append_right [_,_,_,_,_,_,_,_,_,_] hy),?_⟩
       ·rw [hM] at hy;rw [hy];exact ⟨Bb (HJ.get at7),by omega,by omega⟩
       ·rw [hM]; dsimp only; omega
      ·rintro i v _ w hxv ⟨rfl,HJ,g3,g4⟩ hsz;rw [← hg,← hpath,List.getElem?_map] at hxv;obtain ⟨a,ha,rfl⟩:=Option.map_eq_some_iff.1 hxv;have ham:=List.mem_of_getElem? ha;obtain ⟨hWa,-⟩:=q1 a ham;have hWlt:=hWa.lt;have hai:a / 2<es.length:=by omega
       have hm4:=m3 a ham;have hcb2:=hcb (a / 2) hai;have hxb2:=hxb (a / 2) hai;have hxa:FE mm x (path.take i) (a / 2)=x (a / 2):=Jr fun b hb=>XE hpe ha b hb;have hgxa:(tab (FE mm x (path.take i)) es.length)[a / 2]? = some (x (a / 2)):=by rw [BU hai,hxa]
       have hsuc:∀ z,FE mm x (path.take (i+1)) z=if z=a / 2 then (if a % 2=0 then x (a / 2)+mm else x (a / 2) - mm) else FE mm x (path.take i) z:=fun z=>by
        rw [XD ha];unfold IQ
        by_cases e:z=a / 2
        ·rw [if_pos e,if_pos e,e,hxa]
        ·rw [if_neg e,if_neg e]
       have ha9:a<9223372036854775808:=by omega
       have hml:mm≤CI (Cs es) x a:=by omega
       obtain ⟨w1,rfl⟩:∃ z,z=w:=⟨_,rfl⟩;refine Ax (Af U (Ab ?_));refine ⟨Ext.refl _ _,fun wB hxB=>?_⟩;have HB:=HJ.step hxB (fun y hy=>by have h7:=List.mem_map_of_mem (f:=(·.1)) hy; have:=hlt2 y.1 h7; rw [List.mem_singleton]; omega) (fun z hz => .inr (by rw [List.mem_singleton.1 hz]; omega));have e3:=hxB.to g3 (by rw [List.mem_singleton]; omega);have e4:=hxB.to g4 (by rw [List.mem_singleton]; omega);have HP:=HB.perm (List.perm_middle (l₁:=[_,_,_,_,_,_,_]) (l₂:=_::_::_));have k1:=HP.get at6;have ks:=HP.get at7;have k9:=HP.get at3;have hn1:=GA (L:=[_]) HP.nd (x:=(b1,_)) (List.mem_of_getElem? (i:=5) rfl);have hns:=GA (L:=[_]) HP.nd (x:=(bs,_)) (List.mem_of_getElem? (i:=6) rfl);have hn9:=GA (L:=[_]) HP.nd (x:=(b9,_)) (List.mem_of_getElem? (i:=2) rfl);have hnc:bf≠c3∧bf≠c4:=by omega
       obtain ⟨w2,rfl⟩:∃ z,z=wB:=⟨_,rfl⟩;have H:=Ctx.lend (L1:=[_]) (L2:=_::_::_::_::_::_::_::_::_::_) HP;clear HJ g3 g4 hlt hlt2 m1 m2 m3 q1 hpe hwp hRe hall hxb hovb hsrc hsnd hsm hds hlow hto hfit hpot hw hov hpb DN BY BY' hby hd0 hovt hgot hgof hwb0 hwb2 hWa ham ha hxv hsz hxB hsd0 hcb q2 q3 q4 hF;refine A0 (Ae (Ad U (Oy (a:=a) (b:=1) U U U ha9 (by decide) ?_)));rw [Nat.and_one_is_mod];refine Ct U U (Ab (Aa (Ao _ U ?_ ?_)))
       ·intro hpar;replace hpar:=AM hpar;have hp2:a % 2=0:=by omega
        unfold CI at hml;rw [if_pos hp2] at hml;refine Fj [([0,1,2,3,4,5,6,7,8,9,10],11)] (fun z=>z.heap[b1]? = some (Bl 252 [ptr bs])∧z.heap[bs]? = some (Bl 254 (SC N ae es.length ce bf bp bo kk))∧z.heap[b9]? = some (Bl 2 [.int .i64 mm])∧z.heap[bf]? = some (Bl 2 (BV (FE mm x (path.take i)) es.length))) [11] Bq (by kernel_rfl) (⟨H.drew.ext.to k1 hn1,H.drew.ext.to ks hns,H.drew.ext.to k9 hn9,H.drew.get at0⟩) ?_;refine AE U U ?_;refine Bw EJ U (fun _ hx=>(by rw [Aj hx.1]; rfl)) ?_;refine Bf U (Am EQ U (Bw BM U (fun _ hx=>(by rw [Aj hx.2.1]; rfl)) ?_));refine Bc U (Q0 (a:=a) (n:=1) U U U (by decide) ?_);rw [Nat.pow_one];refine AJ AU Bz U U ?_;refine Bw Bs U (fun _ hx=>((C1 hx.2.2.2).fld hgxa rfl (j:=0) rfl)) ?_;refine Bw Bs U (fun _ hx=>(by rw [Aj hx.2.2.1]; rfl)) ?_;refine El U U ?_;refine AJ AU Bz U U ?_
        refine AP ?_;replace H:=H.drew;refine Ce (a / 2) (fun z => .int .i64 (FE mm x (path.take (i+1)) z)) (.int _ _) Bz U U U H at0 (by omega) (hk:=hai) (by rw [hsuc,if_pos rfl,if_pos hp2]) (fun z _ hz=>by (try dsimp only); rw [hsuc,if_neg hz]) ?_;rintro w H;refine Ab (B4 U (BJ (A6 ?_)));have HH:=(Ctx.back (L1:=[_]) (L2:=_::_::_::_::_::_::_::_::_::_) HP H).perm (List.perm_middle (l₁:=[_,_,_,_,_,_,_]) (l₂:=_::_::_)).symm;exact ⟨_,⟨rfl,HH,H.ext.to e3 (by rw [List.map_cons,List.map_nil,List.mem_singleton]; exact Ne.symm hnc.1),H.ext.to e4 (by rw [List.map_cons,List.map_nil,List.mem_singleton]; exact Ne.symm hnc.2)⟩,fun x hx => .inl hx,_,H.ext,fun x hx => .inl (List.mem_singleton.1 hx)⟩
       ·intro hpar;replace hpar:=AN hpar;have hp2:¬ a % 2=0:=by omega
        unfold CI at hml;rw [if_neg hp2] at hml;refine Fj [([0,1,2,3,4,5,6,7,8,9,10],11)] (fun z=>z.heap[b1]? = some (Bl 252 [ptr bs])∧z.heap[bs]? = some (Bl 254 (SC N ae es.length ce bf bp bo kk))∧z.heap[b9]? = some (Bl 2 [.int .i64 mm])∧z.heap[bf]? = some (Bl 2 (BV (FE mm x (path.take i)) es.length))) [11] Bq (by kernel_rfl) (⟨H.drew.ext.to k1 hn1,H.drew.ext.to ks hns,H.drew.ext.to k9 hn9,H.drew.get at0⟩) ?_;refine AE U U ?_;refine Bw EJ U (fun _ hx=>(by rw [Aj hx.1]; rfl)) ?_;refine Bf U (Am EQ U (Bw BM U (fun _ hx=>(by rw [Aj hx.2.1]; rfl)) ?_));refine Bc U (Q0 (a:=a) (n:=1) U U U (by decide) ?_);rw [Nat.pow_one];refine AJ AU Bz U U ?_;refine Bw Bs U (fun _ hx=>((C1 hx.2.2.2).fld hgxa rfl (j:=0) rfl)) ?_;refine Bw Bs U (fun _ hx=>(by rw [Aj hx.2.2.1]; rfl)) ?_;refine Fb U U ?_;refine AJ AU Bz U U ?_
        refine AP ?_;replace H:=H.drew;refine Ce (a / 2) (fun z => .int .i64 (FE mm x (path.take (i+1)) z)) (.int _ _) Bz U U U H at0 (by omega) (hk:=hai) (by rw [hsuc,if_pos rfl,if_neg hp2]) (fun z _ hz=>by (try dsimp only); rw [hsuc,if_neg hz]) ?_;rintro w H;refine Ab (B4 U (BJ (A6 ?_)));have HH:=(Ctx.back (L1:=[_]) (L2:=_::_::_::_::_::_::_::_::_::_) HP H).perm (List.perm_middle (l₁:=[_,_,_,_,_,_,_]) (l₂:=_::_::_)).symm;exact ⟨_,⟨rfl,HH,H.ext.to e3 (by rw [List.map_cons,List.map_nil,List.mem_singleton]; exact Ne.symm hnc.1),H.ext.to e4 (by rw [List.map_cons,List.map_nil,List.mem_singleton]; exact Ne.symm hnc.2)⟩,fun x hx => .inl hx,_,H.ext,fun x hx => .inl (List.mem_singleton.1 hx)⟩
      ·rintro M w ⟨-,HJ,-,-⟩ hD2;rw [hxl,List.take_length] at HJ;have H:=HJ.add hD2 (.inr hwtz) (fun y hy e=>by have h7:=List.mem_map_of_mem (f:=(·.1)) hy; have:=hlt2 y.1 h7; omega);replace H:=H.erase 5;obtain ⟨x',hx'⟩:∃ x',x'=FE mm x path:=⟨_,rfl⟩;rw [← hx'] at H;have FF:=Xx hF DN BY' hdt (m:=mm) (fun a ha=>by have:=m3 a (hpath ▸ ha); omega);rw [← hpath,← hx'] at FF;have hov':∀ z,B9 g x' z=B9 g x z+mm*(one (tv=z) - one (f0=z)):=fun z=>by rw [hx',hpath,hwp]; exact Ns g mm BY' z x hdt rfl
       have hw':=Nx hr (x:=x') (by rw [← hg]; exact FF);have hne:tv≠f0:=fun e=>by rw [e] at hov0; omega
       have hgo2:(tab (upd ov f0 (ov f0 - mm)) N)[tv]? = some (ov tv):=by rw [BU htv,Et hne]
       have hgdt:(tab s.d N)[tv]? = some (s.d tv):=BU htv;have hsdt:=hsd0 tv;have hpf:=Ad8 hpn hpb
       have hne0:es≠[]→(adr ae).block≠bp:=fun h e=>by
        obtain ⟨q,rfl⟩:=O.form (List.length_pos_iff.2 h);have h7:=Vy (L:=[_,_,_,_]) H0.nd (x:=(bp,_)) (List.mem_of_getElem? (i:=2) rfl);exact h7 (by show bp∈[q]; rw [List.mem_singleton]; exact e.symm)
       have hex:=Xy (g:=g) (x:=x) (x':=x') (u:=f0) (v:=tv) (m:=mm) (by rw [← hov f0 hf0s.1]; omega) (by rw [← hov tv htv]; omega) hov';refine A6 (Aa ?_);clear hlt hlt2 q1 hpe hall hxb hovb hsrc hsnd hsm hds hlow hto hfit hpot hw DN BY BY' hby hwb0 hwb2 hsd0 hcb q2 q3 q4 HJ;refine DZ 10 Bq (by kernel_rfl) U U ?_;refine Cc EJ U (by rintro _ rfl; exact H.drew) at5 U ?_;refine AZ U (A3 GP U (Cc BM U (by rintro _ rfl; exact H.drew) at6 U ?_));refine Cc BZ U (by rintro _ rfl; exact H.drew) at2 U ?_;refine Bh AU Bz U U ?_;refine BR Bs U (by rintro _ rfl; exact (((C1 (H.drew.get at9)).fld hgof rfl (j:=0) rfl))) ?_;refine Cc Bs U (by rintro _ rfl; exact H.drew) at3 U ?_;refine Ek U U ?_;refine Bh AU Bz U U ?_;refine BQ ?_;replace H:=H.drew
       refine Ce f0 (fun z => .int .i64 (upd ov f0 (ov f0 - mm) z)) (.int _ _) Bz U U U H at9 (by simp) (hk:=hf0s.1) (by rw [Dn]) (fun z _ hz=>by (try dsimp only); rw [Et hz]) ?_;rintro w H;refine Ab (Aa (DZ 10 Bq (by kernel_rfl) U U ?_));refine Cc EJ U (by rintro _ rfl; exact H.drew) at5 U ?_;refine AZ U (A3 GP U (Cc BM U (by rintro _ rfl; exact H.drew) at6 U ?_));refine AY U (Bh AU Bz U U ?_);refine BR Bs U (by rintro _ rfl; exact (((C1 (H.drew.get at9)).fld hgo2 rfl (j:=0) rfl))) ?_;refine Cc Bs U (by rintro _ rfl; exact H.drew) at3 U ?_;refine Da U U ?_;refine Bh AU Bz U U ?_;refine BQ ?_;replace H:=H.drew;refine Ce tv (fun z => .int .i64 (upd (upd ov f0 (ov f0 - mm)) tv (ov tv+mm) z)) (.int _ _) Bz U U U H at9 (by simp) (hk:=htv) (by rw [Dn]) (fun z _ hz=>by (try dsimp only); rw [Et hz]) ?_;rintro w H
       refine Ab (Aa (DZ 6 Bq (by kernel_rfl) U U ?_));refine Cc EJ U (by rintro _ rfl; exact H.drew) at5 U ?_;refine Ch U (Ch U (AY U (Bh AU Bz U U ?_)));refine BR Bs U (by rintro _ rfl; exact (((C1 (H.drew.get at4)).fld hgdt rfl (j:=0) rfl))) ?_;refine BQ ?_;replace H:=H.drew;have Hp:=H.perm (List.perm_middle (l₁:=[_,_,_,_,_,_,_,_]) (l₂:=_::_));refine Al Aii (ZX (H.get at6) (H.get at8) (H.get at4) (H.ne at6 at8 (by decide)) (H.ne at4 at8 (by decide)) ⟨by omega,by omega⟩ hpf) U ?_;rintro rv w ⟨rfl,H2⟩;replace H:=Ctx.back (L1:=[_]) (L2:=_::_::_::_::_::_::_::_::_::_) Hp H2;refine Ab (Aa (Ae (AH EJ U H at6 U (Al Aij (X7 (H.get at7) (hRe fun y hy=>H.blk y (List.mem_append_right [_,_,_,_,_,_,_,_,_,_] hy)) hne0 (H.get at8) (H.get at0) (H.ne at7 at0 (by decide)) (H.ne at8 at0 (by decide)) hw' (by rw [← hg]; exact FF)) U ?_))))
       rintro rv w ⟨rfl,p',FF2,hpb',H2⟩;replace H:=Ctx.back (L1:=[_]) (L2:=_::_::_::_::_::_::_::_::_::_) H H2;refine Ab (Aa (Ae (AH EJ U H at6 U (AA U (Ah OR U (AH BZ U H at7 U (Nw U U U ?_)))))));intro kk2;refine AA U (Ah OR U (Ci (.int _ _) Gk U U U H at7 (by (simp; done)) ?_));rintro w H;refine Ab (Aa (Ae (Ai U (Ab (Aa (A5 (LG (v:=(.bool _)) U U (XB (H.get at1) (H.get at2) (H.ne at2 at1 (by decide)) U fun wF hxF=>?_))))))));have HF:=(H.perm (List.perm_middle (l₁:=[_,_,_,_,_,_,_,_]) (l₂:=_::_)).symm);rw [← hg] at FF2;refine ⟨true,x',p',upd (upd ov f0 (ov f0 - mm)) tv (ov tv+mm),kk2,rfl,(HF.drop 6).step hxF (fun y hy=>GA (L:=[_,_]) HF.nd (List.mem_of_mem_drop (i:=4) hy)) (fun z hz => .inr ?_),FF2,fun z hz=>?_,hpb',(fun h=>by cases h),fun _=>by omega⟩
       ·simp only [List.mem_cons,List.not_mem_nil,or_false] at hz;omega
       ·rw [hov',← hov z hz]
        by_cases e1:z=tv
        ·subst e1;rw [Dn,Gl rfl,F6 (Ne.symm hne)]; omega
        ·rw [Et e1,F6 (Ne.symm e1)]
         by_cases e2:z=f0
         ·subst e2;rw [Dn,Gl rfl]; omega
         ·rw [Et e2,F6 (Ne.symm e2)]; omega
end Go.Proofs.YtdagmpmdcgedcaaGreat
namespace Go.Proofs.YtdagmpmdcgedcaaGreat
open Go.GV
attribute [local irreducible] AD W Wq Wt
def Ss:List UInt8:=[0]++List.replicate 1 1++List.replicate 2 2++List.replicate 4 3++List.replicate 8 4++List.replicate 16 5++List.replicate 32 6++List.replicate 64 7++List.replicate 128 8
theorem XF:∀ i,i<256→∃ b:UInt8,Ss[i]? = some b∧i<2 ^ b.toNat∧b.toNat≤8∧(0<i→2 ^ b.toNat≤2*i):=fun i hi=>by
 have h:(List.range 256).all (fun i=>match Ss[i]? with | some b=>decide (i<2 ^ b.toNat) && (decide (b.toNat≤8) && (decide (i=0) || decide (2 ^ b.toNat≤2*i))) | none=>false)=true:=by kernel_rfl
 have h1:=List.all_eq_true.1 h i (List.mem_range.2 hi)
 cases hb:Ss[i]? with
 | none=>rw [hb] at h1; cases h1
 | some b =>
  rw [hb] at h1;simp only [Bool.and_eq_true,Bool.or_eq_true,decide_eq_true_eq] at h1;exact ⟨b,rfl,h1.1,h1.2.1,fun h=>h1.2.2.resolve_left (by omega)⟩
theorem Vz {x k n:Nat} (h:x / 2 ^ k<2 ^ n):x<2 ^ (n+k):=by
 rw [Nat.pow_add];exact (Nat.div_lt_iff_lt_mul (Nat.two_pow_pos k)).1 h
theorem V0 {x k n:Nat} (h:2 ^ n≤2*(x / 2 ^ k)):2 ^ (n+k)≤2*x:=by
 rw [Nat.pow_add];have h1:2 ^ n*2 ^ k≤2*(x / 2 ^ k)*2 ^ k:=Nat.mul_le_mul_right _ h;have h2:x / 2 ^ k*2 ^ k≤x:=Nat.div_mul_le_self x _;rw [Nat.mul_assoc] at h1;omega
set_option maxRecDepth 20000 in
theorem TP (x:Nat) (hx:x≤4503599627370496) (w:World):Ret Tryz.prog 210 #[.int .u64 (x:Int)] w fun v w'=>∃ r:Nat,v = .int .i64 (r:Int)∧x<2 ^ r∧r≤64∧(0<x→2 ^ r≤2*x)∧w=w':=by
 obtain ⟨w0,rfl⟩:∃ w0,w0=w:=⟨_,rfl⟩;have H:=Ctx.start w0 [];refine Az (fn:=Tryz.f210) Tryz.func210 U [.int .u64 (x:Int)] U (by kernel_rfl) ?_;refine Ae (Af U (Ab (Aa (Au (Ae (Ad U (C9 U U (Ab (Aa (Ey 101 (α:=Nat × Nat) (fun z=>[(0,.int .u64 (z.1:Int)),(2,.int .i64 (z.2:Int))]) (fun z w'=>w0=w'∧(∀ k,z.1<2 ^ k→x<2 ^ (k+z.2))∧(∀ k,2 ^ k≤2*z.1→2 ^ (k+z.2)≤2*x)∧(0<x→0<z.1)∧z.1<4294967296∧z.2≤32) U ?_ ?_))))))))))
 ·skip
  refine Ao _ U ?_ ?_
  ·intro h;replace h:=AM h;refine Ae (Ad U (Fl (n:=32) U U ?_));refine Af U (Ab (Aa (Ax (Af U (Ab (Aa ?_))))));exact ⟨(x / 2 ^ 32,32),rfl,⟨rfl,rfl,trivial⟩,rfl,fun k hk=>Vz hk,fun k hk=>V0 hk,fun _=>by dsimp only; omega,by dsimp only; omega,by dsimp only; omega⟩
  ·intro h;replace h:=AN h;refine Ap (Aa ?_);exact ⟨(x,0),rfl,⟨rfl,rfl,trivial⟩,rfl,fun k hk=>hk,fun k hk=>hk,fun h=>h,by dsimp only; omega,by dsimp only; omega⟩
 ·rintro ⟨y,n⟩ j w ⟨rfl,hk,hg,h0,hy,hn⟩; dsimp only at hk hg h0 hy hn; dsimp only;refine Au (Ae (Ad U (C9 U U (Ab (Aa (Ey 7685 (α:=Nat × Nat) (fun z=>[(0,.int .u64 (z.1:Int)),(2,.int .i64 (z.2:Int))]) (fun z w'=>w0=w'∧(∀ k,z.1<2 ^ k→x<2 ^ (k+z.2))∧(∀ k,2 ^ k≤2*z.1→2 ^ (k+z.2)≤2*x)∧(0<x→0<z.1)∧z.1<65536∧z.2≤48) U ?_ ?_))))))
  ·skip
   refine Ao _ U ?_ ?_
   ·intro h;replace h:=AM h;refine Ae (Ad U (Fl (n:=16) U U ?_));refine Af U (Ab (Aa (Ax (Ad U (Aw U U ?_)))));refine Af U (Ab (Aa ?_));exact ⟨(y / 2 ^ 16,n+16),rfl,⟨rfl,rfl,trivial⟩,rfl,fun k h7=>by have:=hk _ (Vz h7); rw [show k+(n+16)=k+16+n by omega]; exact this,(fun k h7=>by have:=hg _ (V0 h7); rw [show k+(n+16)=k+16+n by omega]; exact this),fun _=>by dsimp only; omega,by dsimp only; omega,by dsimp only; omega⟩
   ·intro h;replace h:=AN h;refine Ap (Aa ?_);exact ⟨(y,n),rfl,⟨rfl,rfl,trivial⟩,rfl,hk,hg,h0,by dsimp only; omega,by dsimp only; omega⟩
  ·rintro ⟨y,n⟩ j2 w ⟨rfl,hk,hg,h0,hy,hn⟩; dsimp only at hk hg h0 hy hn; dsimp only;refine Au (Ae (Ad U (C9 U U (Ab (Aa (Ey 491525 (α:=Nat × Nat) (fun z=>[(0,.int .u64 (z.1:Int)),(2,.int .i64 (z.2:Int))]) (fun z w'=>w0=w'∧(∀ k,z.1<2 ^ k→x<2 ^ (k+z.2))∧(∀ k,2 ^ k≤2*z.1→2 ^ (k+z.2)≤2*x)∧(0<x→0<z.1)∧z.1<256∧z.2≤56) U ?_ ?_))))))
   ·skip
    refine Ao _ U ?_ ?_
    ·intro h;replace h:=AM h;refine Ae (Ad U (Fl (n:=8) U U ?_));refine Af U (Ab (Aa (Ax (Ad U (Aw U U ?_)))));refine Af U (Ab (Aa ?_));exact ⟨(y / 2 ^ 8,n+8),rfl,⟨rfl,rfl,trivial⟩,rfl,fun k h7=>by have:=hk _ (Vz h7); rw [show k+(n+8)=k+8+n by omega]; exact this,(fun k h7=>by have:=hg _ (V0 h7); rw [show k+(n+8)=k+8+n by omega]; exact this),fun _=>by dsimp only; omega,by dsimp only; omega,by dsimp only; omega⟩
    ·intro h;replace h:=AN h;refine Ap (Aa ?_);exact ⟨(y,n),rfl,⟨rfl,rfl,trivial⟩,rfl,hk,hg,h0,by dsimp only; omega,by dsimp only; omega⟩
   ·rintro ⟨y,n⟩ j3 w ⟨rfl,hk,hg,h0,hy,hn⟩; dsimp only at hk hg h0 hy hn; dsimp only;obtain ⟨b,hb,hb1,hb2,hb3⟩:=XF y hy;have hb0:(bv b) = .int .u8 ((b.toNat:Nat):Int):=rfl;refine Ae (Ad U (Ad U (UK U U F5 un_5 ?_)));refine Xl (l:=Ss) b U un_9 (by kernel_rfl) U hb ?_;rw [hb0];refine GJ U U un_5 Se ?_;refine Aw U U ?_;refine Af U (Ab (Aa (A5 (A9 (v:=(.int _ _)) U U U ?_))));refine ⟨n+b.toNat,congrArg (Value.int .i64) (by omega),?_,by omega,fun hx0=>?_,rfl⟩
    ·have:=hk _ hb1;rw [Nat.add_comm]; exact this
    ·have:=hg _ (hb3 (h0 hx0));rw [Nat.add_comm]; exact this
structure Bk where
 b:Nat
 c:Nat
 f:List Value
instance:Inhabited Bk:=⟨⟨0,0,[]⟩⟩
def GZ:Nat→List Nat
 | 1=>[0] | 4=>[3] | 5=>[2,4,3] | 6=>[1,0,5,2,4,3] | 8=>[7] | 9=>[8,7] | 10=>[9,8,7] | 12=>[11] | 13=>[12,11] | 15=>[14] | 16=>[15,14]
 | 17=>[6,1,0,5,2,4,3,10,9,8,7,13,12,11,16,15,14] | 18=>[17,6,1,0,5,2,4,3,10,9,8,7,13,12,11,16,15,14] | 19=>[18,17,6,1,0,5,2,4,3,10,9,8,7,13,12,11,16,15,14] | _=>[]
def sQ (n:Nat) (B:Nat→Bk):Bk:=if n=0 then ⟨(B 2).b,0,[]⟩ else B 5
def sSC (N n:Nat) (B:Nat→Bk):List Value:=SC N (some ⟨(sQ n B).b,0,none⟩) n (sQ n B).c (B 10).b (B 13).b (B 16).b 0
def TQ (b1:Nat) (N n:Nat) (a:Option Addr) (c:Nat) (i:Nat) (B:Nat→Bk):Value :=
 if i=0∨i=11∨i=14 then .pointer (some ⟨b1,0+0,none⟩) else if i=1∨i=12∨i=15 then .int .i64 (N:Int)
 else if i=2 then .slice (some ⟨(B 2).b,0,none⟩) 0 0 else if i=3∨i=7 then .pointer (some ⟨b1,0+1,none⟩) else if i=4∨i=8 then .slice a n c
 else if i=5 then .slice (some ⟨(sQ n B).b,0,none⟩) n (sQ n B).c else if i=6 then .agg #[.int .i64 (N:Int),.slice (some ⟨(sQ n B).b,0,none⟩) n (sQ n B).c]
 else if i=9 then .int .i64 (n:Int) else if i=10 then .slice (some ⟨(B 10).b,0,none⟩) n n else if i=13 then .slice (some ⟨(B 13).b,0,none⟩) N N
 else if i=16 then .slice (some ⟨(B 16).b,0,none⟩) N N else if i=17 then .agg (sSC N n B).toArray else ptr (B 18).b
def Ha (N n:Nat) (i:Nat):Option ((Nat→Bk)→Obj) :=
 if i=2 then some fun _=>Bl 59 [] else if i=5 then (if n=0 then none else some fun B=>Bl 59 (B 5).f) else if i=10 then some fun _=>Bl 2 (BV (fun _=>0) n) else if i=13∨i=16 then some fun _=>Bl 2 (BV (fun _=>0) N)
 else if i=18 then some fun B=>Bl 254 (sSC N n B) else none
def Af0 (n:Nat) (es:List Ed) (i:Nat) (b:Bk):Prop:=i=5→n=0∨OS (some ⟨b.b,0,none⟩) n b.c 4 b.f (es.flatMap CG)
theorem sStab (b1 N n:Nat) (a:Option Addr) (c i k:Nat) (b:Bk) (B:Nat→Bk) (hi:i<19) (hki:k≠i) (hka:k∉GZ i):TQ b1 N n a c i (JQ B k b)=TQ b1 N n a c i B∧∀ ob,Ha N n i=some ob→ob (JQ B k b)=ob B:=by
 have hne:∀ j,k≠j→JQ B k b j=B j:=fun j h=>Jo (Ne.symm h);have hq:k≠2→k≠5→sQ n (JQ B k b)=sQ n B:=fun h2 h5=>by unfold sQ; rw [hne 2 h2,hne 5 h5]
 have hcs:i=0∨i=1∨i=2∨i=3∨i=4∨i=5∨i=6∨i=7∨i=8∨i=9∨i=10∨i=11∨i=12∨i=13∨i=14∨i=15∨i=16∨i=17∨i=18:=by omega
 have hs:(k≠2∧k≠5∧k≠10∧k≠13∧k≠16)→sSC N n (JQ B k b)=sSC N n B:=fun h=>by unfold sSC; rw [hq h.1 h.2.1,hne 10 h.2.2.1,hne 13 h.2.2.2.1,hne 16 h.2.2.2.2]
 rcases hcs with rfl | rfl | rfl | rfl | rfl | rfl | rfl | rfl | rfl | rfl | rfl | rfl | rfl | rfl | rfl | rfl | rfl | rfl | rfl <;> simp only [GZ,List.mem_cons,List.not_mem_nil,or_false,not_or,not_false_eq_true] at hka <;> (try simp [TQ,Ha]) <;> (try rw [hne _ hki]) <;> (try rw [hq (by omega) (by omega)]) <;> (try rw [hs (by omega)]) <;> (try (constructor)) <;> (try rfl) <;> (try (split <;> simp)) <;> (try (intro ob h; subst h; rw [hne _ hki])) <;> (try (intro ob h; subst h; rw [hs (by omega)])) <;> (try exact ⟨rfl,rfl⟩) <;> (try (intro _; rfl))
end Go.Proofs.YtdagmpmdcgedcaaGreat
namespace Go.Proofs.YtdagmpmdcgedcaaGreat
open Go.GV
attribute [local irreducible] AD W Wq Wt
abbrev CH (f:Nat→Int) (m:Nat):List Value:=(List.range m).map fun i => .int .u64 (f i)
theorem C2 {w:World} {q m i:Nat} {f:Nat→Int} (h:w.heap[q]? = some (Bl 28 (CH f m))) (hi:i<m:=by omega):w.cell? ⟨q,0+i*1,none⟩=some (.int .u64 (f i)):=by
 rw [Aj h,Nat.zero_add,Nat.mul_one,DX hi]
def sw (f:Nat→Int) (i j k:Nat):Int:=if k=j then f i else if k=i then f j else f k
theorem DV (f:Nat→Int) (i j:Nat):sw f i j j=f i:=if_pos rfl
theorem DQ {f:Nat→Int} {i j k:Nat} (h:k≠j):sw f i j k=if k=i then f j else f k:=if_neg h
theorem HW (f:Nat→Int) (i j:Nat):sw f i j i=f j:=by
 unfold sw
 by_cases e:i=j
 ·subst e; rw [if_pos rfl]
 ·rw [if_neg e,if_pos rfl]
theorem EE {f:Nat→Int} {i j k:Nat} (h1:k≠i:=by omega) (h2:k≠j:=by omega):sw f i j k=f k:=by unfold sw; rw [if_neg h2,if_neg h1]
inductive Sw (a b:Nat):(Nat→Int)→(Nat→Int)→Prop
 | refl (f:Nat→Int):Sw a b f f
 | step {f g:Nat→Int} (h:Sw a b f g) (i j:Nat) (hi:a≤i∧i<b) (hj:a≤j∧j<b):Sw a b f (sw g i j)
theorem Sw.trans {a b:Nat} {f g h:Nat→Int} (h1:Sw a b f g) (h2:Sw a b g h):Sw a b f h:=by
 induction h2 with
 | refl=>exact h1
 | step _ i j hi hj ih=>exact ih.step i j hi hj
theorem Sw.mono {a b a' b':Nat} {f g:Nat→Int} (h:Sw a b f g) (ha:a'≤a) (hb:b≤b'):Sw a' b' f g:=by
 induction h with
 | refl=>exact .refl _
 | step _ i j hi hj ih=>exact ih.step i j ⟨by omega,by omega⟩ ⟨by omega,by omega⟩
theorem Sw.out {a b:Nat} {f g:Nat→Int} (h:Sw a b f g):∀ k,(k<a∨b≤k)→g k=f k:=by
 induction h with
 | refl=>exact fun _ _=>rfl
 | step _ i j hi hj ih=>exact fun k hk=>by rw [EE]; exact ih k hk
theorem Sw.mem {a b:Nat} {f g:Nat→Int} (h:Sw a b f g):∀ k,a≤k→k<b→∃ k',a≤k'∧k'<b∧g k=f k':=by
 induction h with
 | refl=>exact fun k h1 h2=>⟨k,h1,h2,rfl⟩
 | @step g h i j hi hj ih =>
  intro k h1 h2
  by_cases e2:k=j
  ·rw [e2,DV]; exact ih i hi.1 hi.2
  ·by_cases e1:k=i
   ·rw [e1,HW]; exact ih j hj.1 hj.2
   ·rw [EE (h1:=e1) (h2:=e2)]; exact ih k h1 h2
theorem Aju {f:Nat→Int} {n i j:Nat} (hi:i<n:=by omega) (hj:j<n:=by omega):(tab (sw f i j) n).Perm (tab f n):=by
 have h:=MQ (L:=tab f n) (i:=i) (j:=j) (x:=f i) (y:=f j) (BU hi) (BU hj)
 have e:((tab f n).set i (f j)).set j (f i)=tab (sw f i j) n:=by
  unfold tab;rw [IG (g:=fun k=>if k=i then f j else f k) (if_pos rfl) (fun k _ hk=>if_neg hk),IG (g:=sw f i j) (DV f i j) (fun k _ hk=>DQ hk)]
 rw [e] at h;exact h
theorem Sw.perm {a b n:Nat} {f g:Nat→Int} (h:Sw a b f g) (hb:b≤n):(tab g n).Perm (tab f n):=by
 induction h with
 | refl=>exact .refl _
 | step _ i j hi hj ih=>exact (Aju).trans ih
def JF (f:Nat→Int) (a b:Nat):Prop:=∀ x y,a≤x→x<y→y<b→f x≤f y
def InsU (f:Nat→Int) (a j i:Nat):Prop:=∀ x y,a≤x→x<y→y≤i→y≠j→f x≤f y
theorem InsU.step {f:Nat→Int} {a j i:Nat} (h:InsU f a j i) (ha:a<j) (hi:j≤i) (hlt:f j<f (j - 1)):InsU (sw f j (j - 1)) a (j - 1) i:=fun x y hx hxy hy hne=>by
 by_cases e1:y=j
 ·subst e1;rw [HW]
  by_cases e2:x=y - 1
  ·rw [e2,DV]; omega
  ·rw [EE (h2:=e2)];exact h x (y - 1) hx (by omega) (by omega) (by omega)
 ·rw [EE (h1:=e1) (h2:=hne)]
  by_cases e2:x=j - 1
  ·rw [e2,DV]; exact h j y (by omega) (by omega) hy e1
  ·by_cases e3:x=j
   ·rw [e3,HW]; exact h (j - 1) y (by omega) (by omega) hy e1
   ·rw [EE (h1:=e3) (h2:=e2)]; exact h x y hx hxy hy e1
theorem InsU.done {f:Nat→Int} {a j i:Nat} (h:InsU f a j i) (hj:a≤j) (hj0:a<j→f (j - 1)≤f j):JF f a (i+1):=fun x y hx hxy hy=>by
 by_cases e:y=j
 ·subst e;have h1:=hj0 (by omega)
  by_cases e2:x=y - 1
  ·rw [e2]; exact h1
  ·exact Int.le_trans (h x (y - 1) hx (by omega) (by omega) (by omega)) h1
 ·exact h x y hx hxy (by omega) e
theorem Fi (x y:Int) (w:World):Ret Tryz.prog 236 #[.int .u64 x,.int .u64 y] w fun v w'=>v = .bool (decide (x<y))∧w=w':=by
 have nan:∀ (x:Int) (w:World),Ret Tryz.prog 261 #[.int .u64 x] w fun v w'=>v = .bool false∧w=w':=fun x w=>by
  refine Az (fn:=Tryz.f261) Tryz.func261 U [.int .u64 x] U (by kernel_rfl) ?_;refine Ae (Ai U (Ab (Aa (Ae (Ad U (Ad U (C0 U U (Ai U (Ab (Aa (A5 (A9 (v:=(.bool _)) U U U ?_))))))))))));exact ⟨congrArg Value.bool (by simp),rfl⟩
 refine Az (fn:=Tryz.f236) Tryz.func236 U [.int .u64 x,.int .u64 y] U (by kernel_rfl) ?_;refine Ae (Ai U (Ab (Aa (Ae (Ad U (Al Zk (nan x w) U ?_))))));rintro v w ⟨rfl,rfl⟩;refine A7 U (AO 7 U ?_ ?_)
 ·intro h1;refine Ad U (Al Zk (nan y _) U ?_);rintro v w ⟨rfl,rfl⟩;refine BF U (AF U (.bool _) U (A7 U (AO 12 U ?_ ?_)))
  ·intro h2;replace h2:=BG h2;refine Ag U (Ag U (Ag U (AF U (.bool _) U (Ai U (Ab (Aa (A5 (A9 (v:=(.bool _)) U U U ?_))))))));exact ⟨congrArg Value.bool (by simp_all),rfl⟩
  ·intro h3;replace h3:=BH h3;refine Ad U (Ad U (Bj U U (AG U (.bool _) U (Ai U (Ab (Aa (A5 (A9 (v:=(.bool _)) U U U ?_))))))));exact ⟨congrArg Value.bool (by simp_all),rfl⟩
 ·intro h4;refine Ag U (Ag U (Ag U (AG U (.bool _) U (A7 U (Ad U (Ad U (Bj U U (AG U (.bool _) U (Ai U ?_)))))))));refine Ab (Aa (A5 (A9 (v:=(.bool _)) U U U ?_)));exact ⟨congrArg Value.bool (by simp_all),rfl⟩
section
variable {w:World} {q n c m a b:Nat} {f:Nat→Int}
set_option maxRecDepth 20000 in
set_option maxHeartbeats 2000000 in
theorem Su (hd:w.heap[q]? = some (Bl 28 (CH f m))) (hab:a≤b) (hn:n≤m) (hm:n≤1000000000)  (hb:b≤n:=by omega):
  Ret Tryz.prog 230 #[.slice (some ⟨q,0,none⟩) n c,.int .i64 (a:Int),.int .i64 (b:Int)] w fun v w'=>v = .tuple #[]∧∃ g,Sw a b f g∧JF g a b∧Ctx w [q] w' [(q,Bl 28 (CH g m))]:=by
 obtain ⟨w0,rfl⟩:∃ w0,w0=w:=⟨_,rfl⟩;have H:=Ctx.start1 hd;refine Az (fn:=Tryz.f230) Tryz.func230 U [.slice (some ⟨q,0,none⟩) n c,.int .i64 (a:Int),.int .i64 (b:Int)] U (by kernel_rfl) ?_;refine Ae (Ad U (Aw U U ?_));refine Af U (Ab (Aa (A0 (Bv 562949953420480 (α:=Nat × (Nat→Int)) (fun t=>[(6,.int .i64 (t.1:Int))]) (fun t w'=>a+1≤t.1∧t.1≤max b (a+1)∧Sw a b f t.2∧JF t.2 a t.1∧Ctx w0 [q] w' [(q,Bl 28 (CH t.2 m))]) (fun t=>b - t.1) (a+1,f) U ?_ ?_ ?_))))
 ·exact ⟨congrArg (Value.int .i64) (by dsimp only; omega),trivial⟩
 ·exact ⟨Nat.le_refl _,by dsimp only; omega,.refl _,fun x y h1 h2 h3=>by dsimp only at h3; omega,H⟩
 ·rintro ⟨i,g⟩ j0 w ⟨hi1,hi2,hS,hO,H⟩; dsimp only at hi1 hi2 hS hO H; dsimp only;refine Au (Ae (Ad U (Ad U (Bj U U (Ab (Aa (Ao _ U ?_ ?_)))))))
  ·intro h1;replace h1:=AM h1;refine Ap (Aa (Au (A0 (Ae (Ad U (Af U (Ab (Aa (A0 (Bv 562949953355904 (α:=Nat × (Nat→Int)) (fun t=>[(7,.int .i64 (t.1:Int))]) (fun t w'=>a≤t.1∧t.1≤i∧Sw a b f t.2∧InsU t.2 a t.1 i∧Ctx w0 [q] w' [(q,Bl 28 (CH t.2 m))]) (fun t=>t.1) (i,g) U ?_ ?_ ?_))))))))))
   ·exact ⟨rfl,trivial⟩
   ·exact ⟨by dsimp only; omega,Nat.le_refl _,hS,fun x y hx hxy hy hne=>hO x y hx hxy (by dsimp only at hne; omega),H⟩
   ·rintro ⟨j,g⟩ j1 w ⟨hj1,hj2,hS,hI,H⟩; dsimp only at hj1 hj2 hS hI H; dsimp only;have e1:(j:Int).toNat=j:=rfl;have e2:((j:Int) - 1).toNat=j - 1:=by omega
    refine Au (DZ 13 Bq (by kernel_rfl) U U ?_);refine AY U (AY U (Qw U U U (CC U (D3 19 U ?_ ?_))))
    ·intro h2;replace h2:=AM h2;refine Ch U (AY U (Bh Bt Bo U U ?_));refine BR B1 U (by rintro _ rfl; exact ((C2 (H.drew.get at0)))) ?_;refine Ch U (AY U (Ek U U ?_));refine Bh Bt Bo U U ?_;refine BR B1 U (by rintro _ rfl; exact ((C2 (H.drew.get at0)))) ?_;refine BQ ?_;replace H:=H.drew;refine Al Gf (Fi _ _ _) U ?_;rintro v w ⟨rfl,rfl⟩;refine AF U (.bool _) U (Ab (Aa (Ao _ U ?_ ?_)))
     ·intro h3;rw [e1,e2] at h3;have h3:=of_decide_eq_true h3;refine Ap (Aa (Au (A0 (Fj [([0,1,2,3,4,5,6,7,8,9,10,11,12,13,14],15),([16],17)] (fun z=>z.heap[q]? = some (Bl 28 (CH g m))) [15,17] Bq (by kernel_rfl) (H.drew.get at0) ?_))));refine AE U U ?_;refine B3 U (Bc U (B3 U (Bc U (Fb U U ?_))));refine B3 U (Bc U (Fb U U ?_));refine AJ Bt Bo U U ?_;refine Bw B1 U (fun _ hx=>(C2 hx)) ?_;refine B3 U (Bc U (AJ Bt Bo U U ?_));refine Bw B1 U (fun _ hx=>(C2 hx)) ?_;refine AJ Bt Bo U U ?_;refine AP ?_;replace H:=H.drew
      refine Ce j (fun k => .int .u64 (if k=j then g (j - 1) else g k)) (.int _ _) Bo U U U H at0 (by omega) (by rw [if_pos rfl]; exact congrArg (fun z=>Value.int .u64 (g z)) (by omega)) (fun k _ hk=>by rw [if_neg hk]) ?_;rintro w H;refine Ab (B4 U (AE U U ?_));refine AJ Bt Bo U U ?_;refine AP (Ce (j - 1) (fun k => .int .u64 (sw g j (j - 1) k)) (.int _ _) Bo U U U H at0 (by omega) (by rw [DV]; rfl) (fun k _ hk=>by rw [DQ hk]) ?_);rintro w H;refine Ab (B4 U (BJ (A6 (Aa (Ax (Ad U (Bp U U ?_)))))));refine Af U (Ab (Aa ?_));exact ⟨(j - 1,sw g j (j - 1)),rfl,⟨congrArg (Value.int .i64) (by dsimp only; omega),trivial⟩,⟨by dsimp only; omega,by dsimp only; omega,hS.step j (j - 1) ⟨by omega,by omega⟩ ⟨by omega,by omega⟩,hI.step (by omega) hj2 h3,H⟩,by dsimp only; omega⟩
     ·intro h3;rw [e1,e2] at h3;have h3:=of_decide_eq_false h3;refine Br (An (An (AK (A6 (Aa (Ax (Ad U (Aw U U ?_))))))));refine Af U (Ab (Aa ?_));exact ⟨(i+1,g),rfl,⟨rfl,trivial⟩,⟨by dsimp only; omega,by dsimp only; omega,hS,hI.done hj1 fun _=>by omega,H⟩,by dsimp only; omega⟩
    ·intro h2;replace h2:=AN h2;refine A1 U (A1 U (A1 U (A1 U (A1 U (A1 U (A1 U (A1 U (A1 U (BQ ?_)))))))));replace H:=H.drew;refine Ag U (AG U (.bool _) U (Ab (Aa (EH U (Br (An (An (AK (A6 (Aa (Ax (Ad U (Aw U U ?_)))))))))))));refine Af U (Ab (Aa ?_));exact ⟨(i+1,g),rfl,⟨rfl,trivial⟩,⟨by dsimp only; omega,by dsimp only; omega,hS,hI.done hj1 fun h=>by omega,H⟩,by dsimp only; omega⟩
  ·intro h1;replace h1:=AN h1;refine Br (An (An (AK (CU U U ?_))));exact ⟨rfl,g,hS,fun x y hx hxy hy=>hO x y hx hxy (by omega),H⟩
end
end Go.Proofs.YtdagmpmdcgedcaaGreat
namespace Go.Proofs.YtdagmpmdcgedcaaGreat
open Go.GV
attribute [local irreducible] AD W Wq Wt
def HeapU (g:Nat→Int) (o lo hi:Nat):Prop:=∀ i c,lo≤i→(c=2*i+1∨c=2*i+2)→c<hi→g (o+c)≤g (o+i)
structure SiftU (g:Nat→Int) (o lo r hi:Nat):Prop where
 oth:∀ i c,lo≤i→i≠r→(c=2*i+1∨c=2*i+2)→c<hi→g (o+c)≤g (o+i)
 up:∀ p c,lo≤p→(r=2*p+1∨r=2*p+2)→(c=2*r+1∨c=2*r+2)→c<hi→g (o+c)≤g (o+p)
theorem SiftU.start {g:Nat→Int} {o lo hi:Nat} (h:HeapU g o (lo+1) hi):SiftU g o lo lo hi:=⟨fun i c hi hne hc hh=>h i c (by omega) hc hh,fun p c hp hr _ _=>by omega⟩
theorem SiftU.done {g:Nat→Int} {o lo r hi:Nat} (h:SiftU g o lo r hi) (hr:∀ c,(c=2*r+1∨c=2*r+2)→c<hi→g (o+c)≤g (o+r)):HeapU g o lo hi:=fun i c hl hc hh=>by
 by_cases e:i=r
 ·subst e; exact hr c hc hh
 ·exact h.oth i c hl e hc hh
theorem SiftU.step {g:Nat→Int} {o lo r hi c:Nat} (h:SiftU g o lo r hi) (_hl:lo≤r) (hc:c=2*r+1∨c=2*r+2) (hch:c<hi) (hmax:∀ d,(d=2*r+1∨d=2*r+2)→d<hi→g (o+d)≤g (o+c)) (hlt:g (o+r)<g (o+c)):SiftU (sw g (o+r) (o+c)) o lo c hi:=by
 refine ⟨fun i d hi' hne hd hh=>?_,fun p e hp hcp he hh=>?_⟩
 ·by_cases e1:i=r
  ·rw [e1,HW]
   by_cases e2:d=c
   ·rw [e2,DV]; omega
   ·rw [EE]; exact hmax d (by omega) hh
  ·rw [EE (k:=o+i)]
   by_cases e2:d=r
   ·rw [e2,HW]; exact h.up i c hi' (by omega) hc hch
   ·rw [EE]; exact h.oth i d hi' e1 hd hh
 ·have e1:p=r:=by omega
  rw [e1,HW,EE];exact h.oth c e (by omega) (by omega) he hh
theorem HeapU.root {g:Nat→Int} {o hi:Nat} (h:HeapU g o 0 hi):∀ i,i<hi→g (o+i)≤g (o+0):=fun i=>by
 induction i using Nat.strongRecOn with
 | _ i ih =>
  intro hi'
  rcases Nat.eq_zero_or_pos i with h0 | h0
  ·rw [h0]; exact Int.le_refl _
  ·exact Int.le_trans (h ((i - 1) / 2) i (Nat.zero_le _) (by omega) hi') (ih ((i - 1) / 2) (by omega) (by omega))
section
variable {w:World} {q n c m:Nat} {f:Nat→Int}
set_option maxRecDepth 20000 in
set_option maxHeartbeats 2000000 in
theorem WB {lo hi o:Nat} (hd:w.heap[q]? = some (Bl 28 (CH f m))) (hn:n≤m) (hm:n≤1000000000) (hH:HeapU f o (lo+1) hi)  (hb:o+hi≤n:=by omega) (hl:lo≤1000000000:=by omega):
  Ret Tryz.prog 256 #[.slice (some ⟨q,0,none⟩) n c,.int .i64 (lo:Int),.int .i64 (hi:Int),.int .i64 (o:Int)] w fun v w'=>v = .tuple #[]∧∃ g,Sw o (o+hi) f g∧HeapU g o lo hi∧Ctx w [q] w' [(q,Bl 28 (CH g m))]:=by
 obtain ⟨w0,rfl⟩:∃ w0,w0=w:=⟨_,rfl⟩;have H:=Ctx.start1 hd;refine Az (fn:=Tryz.f256) Tryz.func256 U [.slice (some ⟨q,0,none⟩) n c,.int .i64 (lo:Int),.int .i64 (hi:Int),.int .i64 (o:Int)] U (by kernel_rfl) ?_;refine Ae (Ad U (Af U (Ab (Aa (A0 (Bv 75557863725914323417856 (α:=Nat × (Nat→Int)) (fun t=>[(8,.int .i64 (t.1:Int))]) (fun t w'=>lo≤t.1∧t.1≤1000000000∧Sw o (o+hi) f t.2∧SiftU t.2 o lo t.1 hi∧Ctx w0 [q] w' [(q,Bl 28 (CH t.2 m))]) (fun t=>1000000000 - t.1) (lo,f) U ?_ ?_ ?_))))))
 ·exact ⟨rfl,trivial⟩
 ·exact ⟨Nat.le_refl _,hl,.refl _,.start hH,H⟩
 ·rintro ⟨r,g⟩ j0 w ⟨hr1,hr2,hS,hD,H⟩; dsimp only at hr1 hr2 hS hD H; dsimp only;refine A0 (Ae (Ad U (DI U U ?_)));refine Aw U U ?_;rw [show 2*(r:Int)+1=((2*r+1:Nat):Int) by omega];refine Af U (Ab (Aa (Au (Ae (Ad U (Ad U (C9 U U (Ab (Aa (Ao _ U ?_ ?_))))))))))
  ·intro h1;replace h1:=AM h1;refine Br (An (Fw U (An (AK (CU U U ?_)))));exact ⟨rfl,g,hS,hD.done fun c hc hh=>by omega,H⟩
  ·intro h1;replace h1:=AN h1;have e1:((o:Int)+((2*r+1:Nat):Int)).toNat=o+(2*r+1):=by omega
   have e2:((o:Int)+((2*r+1:Nat):Int)+1).toNat=o+(2*r+2):=by omega
   refine Ap (Aa (Au (DR 137438822400 (α:=Unit) (fun _=>[(36,.bool (decide (2*r+2<hi∧g (o+(2*r+1))<g (o+(2*r+2)))))]) (fun _ w'=>Ctx w0 [q] w' [(q,Bl 28 (CH g m))]) U ?_ ?_)))
   ·skip
    refine FN 18 Bq (by kernel_rfl) U U ?_;refine AY U (Da U U ?_);refine AY U (KM U U (CC U (D3 21 U ?_ ?_)))
    ·intro h1;replace h1:=AM h1;refine Ch U (AY U (AY U (Da U U ?_)));refine Bh Bt Bo U U ?_;refine BR B1 U (by rintro _ rfl; exact ((C2 (H.drew.get at0)))) ?_;refine Ch U (AY U (AY U (Da U U ?_)));refine Da U U ?_;refine Bh Bt Bo U U ?_;refine BR B1 U (by rintro _ rfl; exact ((C2 (H.drew.get at0)))) ?_;refine BQ ?_;replace H:=H.drew;refine Al Gf (Fi _ _ _) U ?_;rintro v w ⟨rfl,rfl⟩;rw [e1,e2];refine AF U (.bool _) U (Ab (Aa ?_));exact ⟨(),rfl,⟨congrArg Value.bool (by rw [Bool.eq_iff_iff]; simp_all; try omega),trivial⟩,H⟩
    ·intro h2;replace h2:=AN h2;refine A1 U (A1 U (A1 U (A1 U (A1 U (A1 U (A1 U (A1 U (A1 U (A1 U ?_)))))))));refine A1 U (A1 U (A1 U (BQ ?_)));replace H:=H.drew;refine Ag U (AG U (.bool _) U (Ab (Aa ?_)));exact ⟨(),rfl,⟨congrArg Value.bool (by rw [Bool.eq_iff_iff]; simp_all; try omega),trivial⟩,H⟩
   ·rintro - j1 w H;refine Ey 412316860928 (α:=Nat) (fun d=>[(9,.int .i64 (d:Int))]) (fun d w'=>(d=2*r+1∨d=2*r+2)∧d<hi∧(∀ e,(e=2*r+1∨e=2*r+2)→e<hi→g (o+e)≤g (o+d))∧Ctx w0 [q] w' [(q,Bl 28 (CH g m))]) U ?_ ?_
    ·skip
     refine Ao _ U ?_ ?_
     ·intro h2;have h2:=of_decide_eq_true h2;refine Ax (Ad U (Aw U U ?_));refine Af U (Ab (Aa ?_));refine ⟨2*r+2,rfl,⟨congrArg (Value.int .i64) (by omega),trivial⟩,.inr rfl,h2.1,fun e he _=>?_,H⟩
      rcases he with rfl | rfl
      ·omega
      ·omega
     ·intro h2;have h2:=of_decide_eq_false h2;refine Ap (Aa ?_);refine ⟨2*r+1,rfl,⟨rfl,trivial⟩,.inl rfl,by omega,fun e he hh=>?_,H⟩
      rcases he with rfl | rfl
      ·omega
      ·rcases Int.lt_or_le (g (o+(2*r+1))) (g (o+(2*r+2))) with h7 | h7
       ·exact absurd ⟨hh,h7⟩ h2
       ·exact h7
    ·rintro d j2 w ⟨hd1,hd2,hmax,H⟩;have e3:((o:Int)+(r:Int)).toNat=o+r:=by omega
     have e4:((o:Int)+(d:Int)).toNat=o+d:=by omega
     refine Au (DZ 12 Bq (by kernel_rfl) U U ?_);refine Ch U (AY U (AY U (Da U U ?_)));refine Bh Bt Bo U U ?_;refine BR B1 U (by rintro _ rfl; exact ((C2 (H.drew.get at0)))) ?_;refine Ch U (AY U (AY U (Da U U ?_)));refine Bh Bt Bo U U ?_;refine BR B1 U (by rintro _ rfl; exact ((C2 (H.drew.get at0)))) ?_;refine BQ ?_;replace H:=H.drew;refine Al Gf (Fi _ _ _) U ?_;rintro v w ⟨rfl,rfl⟩;rw [e3,e4];refine BF U (Ab (Aa (Ao _ U ?_ ?_)))
     ·intro h3;replace h3:=BG h3;refine A5 (Aq (AB (Aq (AB (FM U U ?_)))));have h3:¬ g (o+r)<g (o+d):=by simpa using h3
      exact ⟨rfl,g,hS,hD.done fun c hc hh=>Int.le_trans (hmax c hc hh) (by omega),H⟩
     ·intro h3;replace h3:=BH h3;have h3:g (o+r)<g (o+d):=by simpa using h3
      refine Ap (Aa (Cv [([0,1,2,3,4,5,6,7,8,9,10,11,12,13,14,15,16,17,18,19,20],21),([22],23)] (fun z=>z.heap[q]? = some (Bl 28 (CH g m))) [21,23] Bq (by kernel_rfl) (H.drew.get at0) ?_));refine AE U U ?_;refine B3 U (Bc U (Bc U (El U U ?_)));refine B3 U (Bc U (Bc U (El U U ?_)));refine B3 U (Bc U (Bc U (El U U ?_)));refine AJ Bt Bo U U ?_;refine Bw B1 U (fun _ hx=>(C2 hx)) ?_;refine B3 U (Bc U (Bc U (El U U ?_)));refine AJ Bt Bo U U ?_;refine Bw B1 U (fun _ hx=>(C2 hx)) ?_;refine AJ Bt Bo U U ?_;refine AP ?_;replace H:=H.drew
      refine Ce (o+r) (fun k => .int .u64 (if k=o+r then g (o+d) else g k)) (.int _ _) Bo U U U H at0 (by omega) (by rw [if_pos rfl]; exact congrArg (fun z=>Value.int .u64 (g z)) (by omega)) (fun k _ hk=>by rw [if_neg hk]) ?_;rintro w H;refine Ab (B4 U (AE U U ?_));refine AJ Bt Bo U U ?_;refine AP (Ce (o+d) (fun k => .int .u64 (sw g (o+r) (o+d) k)) (.int _ _) Bo U U U H at0 (by omega) (by rw [DV]; exact congrArg (fun z=>Value.int .u64 (g z)) (by omega)) (fun k _ hk=>by rw [DQ hk]) ?_);rintro w H;refine Ab (B4 U (BJ (Ax (Ad U (Af U (Ab (A6 (Aa ?_))))))));exact ⟨(d,sw g (o+r) (o+d)),rfl,⟨rfl,trivial⟩,⟨by dsimp only; omega,by dsimp only; omega,hS.step _ _ ⟨by omega,by omega⟩ ⟨by omega,by omega⟩,hD.step hr1 hd1 hd2 hmax h3,H⟩,by dsimp only; omega⟩
structure HsU (g:Nat→Int) (a i b:Nat):Prop where
 srt:JF g (a+i) b
 le:∀ x y,x<i→a+i≤y→y<b→g (a+x)≤g y
set_option maxRecDepth 20000 in
set_option maxHeartbeats 2000000 in
theorem TR {a b:Nat} (hd:w.heap[q]? = some (Bl 28 (CH f m))) (hn:n≤m) (hm:n≤1000000000)  (hab:a<b:=by omega) (hb:b≤n:=by omega):
  Ret Tryz.prog 231 #[.slice (some ⟨q,0,none⟩) n c,.int .i64 (a:Int),.int .i64 (b:Int)] w fun v w'=>v = .tuple #[]∧∃ g,Sw a b f g∧JF g a b∧Ctx w [q] w' [(q,Bl 28 (CH g m))]:=by
 obtain ⟨w0,rfl⟩:∃ w0,w0=w:=⟨_,rfl⟩;have H:=Ctx.start1 hd;obtain ⟨l,rfl⟩:∃ l,b=a+l:=⟨b - a,by omega⟩;have hl:((a+l:Nat):Int) - (a:Int)=(l:Int):=by omega
 have hl1:(l:Int) - 1=((l - 1:Nat):Int):=by omega
 refine Az (fn:=Tryz.f231) Tryz.func231 U [.slice (some ⟨q,0,none⟩) n c,.int .i64 (a:Int),.int .i64 ((a+l:Nat):Int)] U (by kernel_rfl) ?_;refine Ae (Ad U (Af U (Ab (Aa (Ae (Af U (Ab (Aa (Ae (Ad U (Ad U ?_)))))))))));refine Bp U U ?_;rw [hl];refine Af U (Ab (Aa (Au (Ae (Ad U (Bp U U ?_))))));refine JL U U (show _≤(9223372036854775807:Int) by omega) ?_;refine Af U (Ab (Aa (A0 (Bv 133956096 (α:=Nat × (Nat→Int)) (fun t=>[(9,.int .i64 ((t.1:Int) - 1))]) (fun t w'=>t.1≤l+1∧Sw a (a+l) f t.2∧HeapU t.2 a t.1 l∧Ctx w0 [q] w' [(q,Bl 28 (CH t.2 m))]) (fun t=>t.1) ((l - 1) / 2+1,f) U ?_ ?_ ?_))))
 ·exact ⟨congrArg (Value.int .i64) (by dsimp only; omega),trivial⟩
 ·exact ⟨by dsimp only; omega,.refl _,fun i c h1 h2 h3=>by dsimp only at h1; omega,H⟩
 ·rintro ⟨k,g⟩ j0 w ⟨hk,hS,hP,H⟩; dsimp only at hk hS hP H; dsimp only
  rcases k with _ | k
  ·skip
   refine Au (Ae (Ad U (C9 U U (Ab (Aa (Ao _ U ?_ ?_))))))
   ·intro h1;replace h1:=AM h1;omega
   ·intro h1;replace h1:=AN h1;refine Br (An (An (AK (Aa (Ae (Ad U (Bp U U ?_)))))));refine Af U (Ab (Aa (A0 (Bv 72057593501058048 (α:=Nat × (Nat→Int)) (fun t=>[(10,.int .i64 ((t.1:Int) - 1))]) (fun t w'=>t.1≤l∧Sw a (a+l) f t.2∧HeapU t.2 a 0 t.1∧HsU t.2 a t.1 (a+l)∧Ctx w0 [q] w' [(q,Bl 28 (CH t.2 m))]) (fun t=>t.1) (l,g) U ?_ ?_ ?_))))
    ·exact ⟨rfl,trivial⟩
    ·exact ⟨Nat.le_refl _,hS,hP,⟨fun x y h1 h2 h3=>by dsimp only at h1; omega,fun x y h1 h2 h3=>by dsimp only at h2; omega⟩,H⟩
    ·rintro ⟨k,g⟩ j1 w ⟨hk,hS,hP,hQ,H⟩; dsimp only at hk hS hP hQ H; dsimp only
     rcases k with _ | k
     ·skip
      refine Au (Ae (Ad U (C9 U U (Ab (Aa (Ao _ U ?_ ?_))))))
      ·intro h2;replace h2:=AM h2;omega
      ·intro h2;replace h2:=AN h2;refine Br (An (An (AK (CU U U ?_))));exact ⟨rfl,g,hS,hQ.srt,H⟩
     ·rw [show ((k+1:Nat):Int) - 1=(k:Int) by omega];refine Au (Ae (Ad U (C9 U U (Ab (Aa (Ao _ U ?_ ?_))))))
      ·intro h2;replace h2:=AM h2;refine Ap (Aa (Au (A0 (Cv [([0,1,2,3,4,5,6,7,8,9,10,11,12,13,14,15,16],17),([18],19)] (fun z=>z.heap[q]? = some (Bl 28 (CH g m))) [17,19] Bq (by kernel_rfl) (H.drew.get at0) ?_))));refine AE U U ?_;refine B3 U (Bc U (B3 U (Bc U (Bc U (El U U ?_)))));refine B3 U (Bc U (Bc U (El U U ?_)));refine AJ Bt Bo U U ?_;refine Bw B1 U (fun _ hx=>(C2 hx)) ?_;refine B3 U (Bc U (AJ Bt Bo U U ?_));refine Bw B1 U (fun _ hx=>(C2 hx)) ?_;refine AJ Bt Bo U U ?_;refine AP ?_;replace H:=H.drew
       refine Ce (a+0) (fun z => .int .u64 (if z=a+0 then g (a+k) else g z)) (.int _ _) Bo U U U H at0 (by omega) (by rw [if_pos rfl]; exact congrArg (fun z=>Value.int .u64 (g z)) (by omega)) (fun z _ hz=>by rw [if_neg hz]) ?_;rintro w H;refine Ab (B4 U (AE U U ?_));refine AJ Bt Bo U U ?_;refine AP (Ce (a+k) (fun z => .int .u64 (sw g (a+0) (a+k) z)) (.int _ _) Bo U U U H at0 (by omega) (by rw [DV]; exact congrArg (fun z=>Value.int .u64 (g z)) (by omega)) (fun z _ hz=>by rw [DQ hz]) ?_);rintro w H;refine Ab (B4 U (BJ (Ax (Ay U (Ad U (Ad U (Ad U (Al Zi (WB (lo:=0) (hi:=k) (o:=a) (f:=sw g (a+0) (a+k)) (H.get at0) hn hm (fun i c h1 h2 h3=>by rw [EE,EE]; exact hP i c (by omega) h2 (by omega))) U ?_))))))));rintro rv w ⟨rfl,g2,hS2,hP2,H2⟩
       replace H:=Ctx.back (L1:=[_]) (L2:=[]) H H2;refine Ab (A6 (Aa (Ax (Ad U (Bp U U ?_)))));refine Af U (Ab (Aa ?_));have hout:=fun z hz=>hS2.out z hz;have hk2:g2 (a+k)=g (a+0):=by rw [hout _ (.inr (Nat.le_refl _)),DV]
       have hot:∀ z,a+k<z→g2 z=g z:=fun z hz=>by rw [hout _ (.inr (by omega)),EE]
       refine ⟨(k,g2),rfl,⟨rfl,trivial⟩,⟨by dsimp only; omega,(hS.step (a+0) (a+k) ⟨by omega,by omega⟩ ⟨by omega,by omega⟩).trans (hS2.mono (Nat.le_refl _) (by omega)),hP2,⟨fun x y h1 h2 h3=>?_,fun x y h1 h2 h3=>?_⟩,H⟩,by dsimp only; omega⟩
       ·dsimp only at h1 ⊢;rw [hot y (by omega)]
        by_cases e:x=a+k
        ·rw [e,hk2]; exact hQ.le 0 y (by omega) (by omega) h3
        ·rw [hot x (by omega)]; exact hQ.srt x y (by omega) h2 h3
       ·dsimp only at h1 h2 ⊢;obtain ⟨z,hz1,hz2,hz3⟩:=hS2.mem (a+x) (by omega) (by omega)
        obtain ⟨u,hu1,hu2⟩:∃ u,u<k+1∧g2 (a+x)=g (a+u):=by
         by_cases e:z=a+0
         ·exact ⟨k,by omega,by rw [hz3,e,HW]⟩
         ·exact ⟨z - a,by omega,by rw [hz3,EE (h1:=e)]; congr 1; omega⟩
        rw [hu2]
        by_cases e:y=a+k
        ·rw [e,hk2]; exact hP.root u hu1
        ·rw [hot y (by omega)]; exact hQ.le u y hu1 (by omega) h3
      ·intro h2;replace h2:=AN h2;omega
  ·rw [show ((k+1:Nat):Int) - 1=(k:Int) by omega];refine Au (Ae (Ad U (C9 U U (Ab (Aa (Ao _ U ?_ ?_))))))
   ·intro h1;replace h1:=AM h1;refine Ap (Aa (Au (A0 (Ax (Ay U (Ad U (Ad U (Ad U (Al Zi (WB (lo:=k) (hi:=l) (o:=a) (f:=g) (H.get at0) hn hm hP) U ?_)))))))));rintro rv w ⟨rfl,g2,hS2,hP2,H2⟩;replace H:=Ctx.back (L1:=[_]) (L2:=[]) H H2;refine Ab (A6 (Aa (Ax (Ad U (Bp U U ?_)))));refine Af U (Ab (Aa ?_));exact ⟨(k,g2),rfl,⟨rfl,trivial⟩,⟨by dsimp only; omega,hS.trans hS2,hP2,H⟩,by dsimp only; omega⟩
   ·intro h1;replace h1:=AN h1;omega
end
end Go.Proofs.YtdagmpmdcgedcaaGreat
namespace Go.Proofs.YtdagmpmdcgedcaaGreat
open Go.GV
attribute [local irreducible] AD W Wq Wt
section
variable {w:World} {q n c m s:Nat} {k:Int} {f:Nat→Int}
set_option maxRecDepth 20000 in
theorem MS {i j:Nat} (hd:w.heap[q]? = some (Bl 28 (CH f m))) (hs:w.heap[s]? = some (Bl 3 [.int .i64 k])) (hj:j<n) (hn:n≤m) (_hm:n≤1000000000)  (hi:i<n:=by omega):
  Ret Tryz.prog 277 #[.slice (some ⟨q,0,none⟩) n c,.int .i64 (i:Int),.int .i64 (j:Int),ptr s] w fun v w'=>∃ (x y:Nat) (k':Int),((x=i∧y=j)∨(x=j∧y=i))∧v = .tuple #[.int .i64 (x:Int),.int .i64 (y:Int)]∧Ctx w [s] w' [(s,Bl 3 [.int .i64 k'])]:=by
 obtain ⟨w0,rfl⟩:∃ w0,w0=w:=⟨_,rfl⟩;have H:=Ctx.start1 hs;refine Az (fn:=Tryz.f277) Tryz.func277 U [.slice (some ⟨q,0,none⟩) n c,.int .i64 (i:Int),.int .i64 (j:Int),.pointer (some ⟨s,0,none⟩)] U (by kernel_rfl) ?_;refine Ae (Af U (Af U (Ab (Aa (Au (DZ 8 Bq (by kernel_rfl) U U ?_))))));refine Ch U (AY U (Bh Bt Bo U U ?_));refine BR B1 U (by rintro _ rfl; exact ((C2 (w:=w0.drew) hd))) ?_;refine Ch U (AY U (Bh Bt Bo U U ?_));refine BR B1 U (by rintro _ rfl; exact ((C2 (w:=w0.drew) hd))) ?_;refine BQ ?_;replace H:=H.drew;refine Al Gf (Fi _ _ _) U ?_;rintro v w ⟨rfl,rfl⟩;refine Ab (Aa (Ao _ U ?_ ?_))
 ·intro h1;refine Ae (A2 U (AA U (AH BZ U H at0 U (Nw U U U ?_))));intro k2;refine AA U (Ci (.int _ _) Gk U U U H at0 (by (simp; done)) ?_);rintro w H;refine Ab (Aa (Ae (Ad U (Ad U (Af U (Af U (Ab (Aa (A5 (Aq (Ca (v1:=(.int _ _)) (v2:=(.int _ _)) U U U U ?_)))))))))));exact ⟨j,i,k2,.inr ⟨rfl,rfl⟩,rfl,H⟩
 ·intro h1;refine Ap (Aa (Ae (Ad U (Ad U (Af U (Af U (Ab (Aa (A5 (Ca (v1:=(.int _ _)) (v2:=(.int _ _)) U U U U ?_))))))))));exact ⟨i,j,k,.inl ⟨rfl,rfl⟩,rfl,H⟩
set_option maxRecDepth 20000 in
theorem QG {i j l:Nat} (hd:w.heap[q]? = some (Bl 28 (CH f m))) (hs:w.heap[s]? = some (Bl 3 [.int .i64 k])) (hne:q≠s) (hn:n≤m) (hm:n≤1000000000)  (hi:i<n:=by omega) (hj:j<n:=by omega) (hl:l<n:=by omega):
  Ret Tryz.prog 260 #[.slice (some ⟨q,0,none⟩) n c,.int .i64 (i:Int),.int .i64 (j:Int),.int .i64 (l:Int),ptr s] w fun v w'=>∃ (x:Nat) (k':Int),(x=i∨x=j∨x=l)∧v = .int .i64 (x:Int)∧Ctx w [s] w' [(s,Bl 3 [.int .i64 k'])]:=by
 obtain ⟨w0,rfl⟩:∃ w0,w0=w:=⟨_,rfl⟩;have H:=Ctx.start1 hs;have hq:q∉[s]:=by rw [List.mem_singleton]; exact hne
 refine Az (fn:=Tryz.f260) Tryz.func260 U [.slice (some ⟨q,0,none⟩) n c,.int .i64 (i:Int),.int .i64 (j:Int),.int .i64 (l:Int),.pointer (some ⟨s,0,none⟩)] U (by kernel_rfl) ?_;refine Ae (Af U (Ab (Aa (Ae (Ay U (Ad U (Ad U (A2 U (Al Vj (MS (i:=i) (j:=j) (H.ext.to hd hq) (H.get at0) (hi:=hi) hj hn hm) U ?_)))))))));rintro v w ⟨x1,y1,k1,h1,rfl,H2⟩;replace H:=Ctx.back (L1:=[_]) (L2:=[]) H H2;refine CA U (AS U U (AS U U (Af U (Af U (Ab (Aa (Ae (Ay U (Ad U (Ad U ?_))))))))));refine A2 U (Al Vj (MS (i:=y1) (j:=l) (H.ext.to hd hq) (H.get at0) hl hn hm) U ?_);rintro v w ⟨x2,y2,k2,h2,rfl,H2⟩;replace H:=Ctx.back (L1:=[_]) (L2:=[]) H H2;refine CA U (AS U U (AS U U (Af U (Af U (Ab (Aa (Ae (Ay U (Ad U (Ad U ?_))))))))));refine A2 U (Al Vj (MS (i:=x1) (j:=x2) (H.ext.to hd hq) (H.get at0) (by omega) hn hm) U ?_)
 rintro v w ⟨x3,y3,k3,h3,rfl,H2⟩;replace H:=Ctx.back (L1:=[_]) (L2:=[]) H H2;refine CA U (AS U U (AS U U (Af U (Af U (Ab (Aa (Ae (Ad U (Af U (Ab (Aa ?_)))))))))));refine A5 (A9 (v:=(.int _ _)) U U U ?_);exact ⟨y3,k3,by omega,rfl,H⟩
set_option maxRecDepth 20000 in
theorem J0 {i:Nat} (hd:w.heap[q]? = some (Bl 28 (CH f m))) (hs:w.heap[s]? = some (Bl 3 [.int .i64 k])) (hne:q≠s) (hn:n≤m) (hm:n≤1000000000)  (hi0:0<i:=by omega) (hi:i+1<n:=by omega):
  Ret Tryz.prog 259 #[.slice (some ⟨q,0,none⟩) n c,.int .i64 (i:Int),ptr s] w fun v w'=>∃ (x:Nat) (k':Int),(x+1=i∨x=i∨x=i+1)∧v = .int .i64 (x:Int)∧Ctx w [s] w' [(s,Bl 3 [.int .i64 k'])]:=by
 obtain ⟨w0,rfl⟩:∃ w0,w0=w:=⟨_,rfl⟩;refine Az (fn:=Tryz.f259) Tryz.func259 U [.slice (some ⟨q,0,none⟩) n c,.int .i64 (i:Int),.pointer (some ⟨s,0,none⟩)] U (by kernel_rfl) ?_;refine Ae (Af U (Ab (Aa (Ae (Ay U (Ad U (Bp U U ?_)))))));rw [show (i:Int) - 1=((i - 1:Nat):Int) by omega];refine Ad U (Ad U (Aw U U ?_));rw [show (i:Int)+1=((i+1:Nat):Int) by omega];refine A2 U (Al Zj (QG (i:=i - 1) (j:=i) (l:=i+1) hd hs hne hn hm) U ?_);rintro v w ⟨x1,k1,h1,rfl,H⟩;refine Af U (Ab (Aa (A5 (A9 (v:=(.int _ _)) U U U ?_))));exact ⟨x1,k1,by omega,rfl,H⟩
set_option maxRecDepth 20000 in
set_option maxHeartbeats 2000000 in
theorem Aae {a b:Nat} (hd:w.heap[q]? = some (Bl 28 (CH f m))) (hn:n≤m) (hm:n≤1000000000)  (hab:a<b:=by omega) (hb:b≤n:=by omega):
  Ret Tryz.prog 233 #[.slice (some ⟨q,0,none⟩) n c,.int .i64 (a:Int),.int .i64 (b:Int)] w fun v w'=>∃ (x:Nat) (h:Int),a≤x∧x<b∧v = .tuple #[.int .i64 (x:Int),.int .i64 h]∧Ext [] w w':=by
 obtain ⟨w0,rfl⟩:∃ w0,w0=w:=⟨_,rfl⟩;have H:=Ctx.start w0 [];obtain ⟨l,rfl⟩:∃ l,b=a+l:=⟨b - a,by omega⟩;have hl:((a+l:Nat):Int) - (a:Int)=(l:Int):=by omega
 have hql:=Bb hd;refine Az (fn:=Tryz.f233) Tryz.func233 U [.slice (some ⟨q,0,none⟩) n c,.int .i64 (a:Int),.int .i64 ((a+l:Nat):Int)] U (by kernel_rfl) ?_;refine Ae (Af U (Af U (Ab (Aa (Ae (Ad U (Ad U (Bp U U ?_))))))));rw [hl];refine Af U (Ab (Aa (Ae (Ba Vo H ?_))));rintro b9 w - H;refine Ab (Aa (Ae (Ad U (Ad U (JL U U (show _≤(9223372036854775807:Int) by omega) ?_)))));refine DI U U ?_;refine Aw U U ?_;rw [show (a:Int)+(l:Int) / 4*1=((a+l / 4:Nat):Int) by omega];refine Af U (Ab (Aa (Ae (Ad U (Ad U (JL U U (show _≤(9223372036854775807:Int) by omega) ?_))))));refine DI U U ?_;refine Aw U U ?_;rw [show (a:Int)+(l:Int) / 4*2=((a+l / 4*2:Nat):Int) by omega]
 refine Af U (Ab (Aa (Ae (Ad U (Ad U (JL U U (show _≤(9223372036854775807:Int) by omega) ?_))))));refine DI U U ?_;refine Aw U U ?_;rw [show (a:Int)+(l:Int) / 4*3=((a+l / 4*3:Nat):Int) by omega];refine Af U (Ab (Aa (Au (Ae (Ad U (C9 U U (Ab (Aa ?_))))))));have hqs:=H.own _ (List.mem_cons_self ..)
 have hne:q≠b9:=fun e=>by subst e; rcases hqs with h | h; cases h; dsimp only at h; omega
 refine Ey 562941363493888 (α:=Nat × Int) (fun z=>[(11,.int .i64 (z.1:Int))]) (fun z w'=>a≤z.1∧z.1<a+l∧Ctx w0 [] w' [(b9,Bl 3 [.int .i64 z.2])]) U ?_ ?_
 ·skip
  refine Ao _ U ?_ ?_
  ·intro h1;replace h1:=AM h1;refine Au (Ae (Ad U (C9 U U (Ab (Aa (Ey 17557826313216 (α:=Nat × Nat × Nat × Int) (fun z=>[(10,.int .i64 (z.1:Int)),(11,.int .i64 (z.2.1:Int)),(12,.int .i64 (z.2.2.1:Int))]) (fun z w'=>(a≤z.1∧z.1<a+l)∧(a≤z.2.1∧z.2.1<a+l)∧(a≤z.2.2.1∧z.2.2.1<a+l)∧Ctx w0 [] w' [(b9,Bl 3 [.int .i64 z.2.2.2])]) U ?_ ?_))))))
   ·skip
    refine Ao _ U ?_ ?_
    ·intro h2;replace h2:=AM h2;refine Ae (Ay U (Ad U (Al Vi (J0 (i:=a+l / 4) (H.ext.to hd (by simp)) (H.get at0) hne hn hm) U ?_)));rintro v w ⟨x1,k1,h3,rfl,H2⟩;replace H:=Ctx.back (L1:=[_]) (L2:=[]) H H2;refine Af U (Ab (Aa (Ae (Ay U (Ad U (Al Vi (J0 (i:=a+l / 4*2) (H.ext.to hd (by simp)) (H.get at0) hne hn hm) U ?_))))));rintro v w ⟨x2,k2,h4,rfl,H2⟩;replace H:=Ctx.back (L1:=[_]) (L2:=[]) H H2;refine Af U (Ab (Aa (Ax (Ay U (Ad U (Al Vi (J0 (i:=a+l / 4*3) (H.ext.to hd (by simp)) (H.get at0) hne hn hm) U ?_))))));rintro v w ⟨x3,k3,h5,rfl,H2⟩;replace H:=Ctx.back (L1:=[_]) (L2:=[]) H H2;refine Af U (Ab (Aa ?_));exact ⟨(x1,x2,x3,k3),rfl,⟨rfl,rfl,rfl,trivial⟩,by dsimp only; omega,by dsimp only; omega,by dsimp only; omega,H⟩
    ·intro h2;replace h2:=AN h2;refine Ap (Aa ?_);exact ⟨(a+l / 4,a+l / 4*2,a+l / 4*3,_),rfl,⟨rfl,rfl,rfl,trivial⟩,by dsimp only; omega,by dsimp only; omega,by dsimp only; omega,H⟩
   ·rintro ⟨x1,x2,x3,k1⟩ j1 w ⟨g1,g2,g3,H⟩; dsimp only at g1 g2 g3 H; dsimp only;refine Ax (Ay U (Ad U (Ad U (Ad U (Al Zj (QG (i:=x1) (j:=x2) (l:=x3) (H.ext.to hd (by simp)) (H.get at0) hne hn hm) U ?_)))));rintro v w ⟨x4,k4,h3,rfl,H2⟩;replace H:=Ctx.back (L1:=[_]) (L2:=[]) H H2;refine Af U (Ab (Aa ?_));exact ⟨(x4,k4),rfl,⟨rfl,trivial⟩,by dsimp only; omega,by dsimp only; omega,H⟩
  ·intro h1;replace h1:=AN h1;refine Ap (Aa ?_);exact ⟨(a+l / 4*2,_),rfl,⟨rfl,trivial⟩,by dsimp only; omega,by dsimp only; omega,H⟩
 ·rintro ⟨x,k⟩ j w ⟨g1,g2,H⟩; dsimp only at g1 g2 H; dsimp only;refine Ae (AH BZ U H at0 U (Ab (Aa (A0 (Ae (Ct U U (Ai U (Ab (Aa (Ao _ U ?_ ?_))))))))))
  ·intro h1;replace h1:=AM h1;refine Ae (Ad U (Af U (Af U (Ab (Aa (A5 (AB (Ca (v1:=(.int _ _)) (v2:=(.int _ _)) U U U U ?_))))))));exact ⟨x,_,g1,g2,rfl,H.ext⟩
  ·intro h2;replace h2:=AN h2;refine Ae (Ct U U (Ai U (Ab (Aa (Ao _ U ?_ ?_)))))
   ·intro h3;replace h3:=AM h3;refine Ae (Ad U (Af U (Af U (Ab (Aa (A5 (AB (Ca (v1:=(.int _ _)) (v2:=(.int _ _)) U U U U ?_))))))));exact ⟨x,_,g1,g2,rfl,H.ext⟩
   ·intro h4;replace h4:=AN h4;refine Ae (Ad U (Af U (Af U (Ab (Aa (A5 (AB (Ca (v1:=(.int _ _)) (v2:=(.int _ _)) U U U U ?_))))))));exact ⟨x,_,g1,g2,rfl,H.ext⟩
set_option maxRecDepth 20000 in
set_option maxHeartbeats 2000000 in
theorem V1 {a b:Nat} (hd:w.heap[q]? = some (Bl 28 (CH f m))) (hn:n≤m) (hm:n≤1000000000)  (hab:a<b:=by omega) (hb:b≤n:=by omega):
  Ret Tryz.prog 234 #[.slice (some ⟨q,0,none⟩) n c,.int .i64 (a:Int),.int .i64 (b:Int)] w fun v w'=>v = .tuple #[]∧∃ g,Sw a b f g∧Ctx w [q] w' [(q,Bl 28 (CH g m))]:=by
 obtain ⟨w0,rfl⟩:∃ w0,w0=w:=⟨_,rfl⟩;have H:=Ctx.start1 hd;refine Az (fn:=Tryz.f234) Tryz.func234 U [.slice (some ⟨q,0,none⟩) n c,.int .i64 (a:Int),.int .i64 (b:Int)] U (by kernel_rfl) ?_;refine Ae (Ad U (Af U (Ab (Aa (Ae (Ad U (Bp U U ?_)))))));rw [show (b:Int) - 1=((b - 1:Nat):Int) by omega];refine Af U (Ab (Aa (A0 (Bv 4294965440 (α:=Nat × Nat × (Nat→Int)) (fun t=>[(6,.int .i64 (t.1:Int)),(7,.int .i64 (t.2.1:Int))]) (fun t w'=>a≤t.1∧t.2.1<b∧t.1≤b∧Sw a b f t.2.2∧Ctx w0 [q] w' [(q,Bl 28 (CH t.2.2 m))]) (fun t=>b - t.1) (a,b - 1,f) U ?_ ?_ ?_))))
 ·exact ⟨rfl,rfl,trivial⟩
 ·exact ⟨Nat.le_refl _,by dsimp only; omega,by dsimp only; omega,.refl _,H⟩
 ·rintro ⟨i,j,g⟩ j0 w ⟨g1,g2,g3,hS,H⟩; dsimp only at g1 g2 g3 hS H; dsimp only;refine Au (Ae (Ad U (Ad U (Bj U U (Ab (Aa (Ao _ U ?_ ?_)))))))
  ·intro h1;replace h1:=AM h1;refine Ap (Aa (A0 (Cv [([0,1,2,3,4,5,6,7,8,9,10,11,12],13),([14],15)] (fun z=>z.heap[q]? = some (Bl 28 (CH g m))) [13,15] Bq (by kernel_rfl) (H.drew.get at0) ?_)));refine AE U U ?_;refine B3 U (Bc U (B3 U (Bc U (B3 U (Bc U (AJ Bt Bo U U ?_))))));refine Bw B1 U (fun _ hx=>(C2 hx)) ?_;refine B3 U (Bc U (AJ Bt Bo U U ?_));refine Bw B1 U (fun _ hx=>(C2 hx)) ?_;refine AJ Bt Bo U U ?_;refine AP ?_;replace H:=H.drew;refine Ce i (fun z => .int .u64 (if z=i then g j else g z)) (.int _ _) Bo U U U H at0 (by omega) (by rw [if_pos rfl]; exact congrArg (fun z=>Value.int .u64 (g z)) (by omega)) (fun z _ hz=>by rw [if_neg hz]) ?_;rintro w H;refine Ab (B4 U (AE U U ?_));refine AJ Bt Bo U U ?_
   refine AP (Ce j (fun z => .int .u64 (sw g i j z)) (.int _ _) Bo U U U H at0 (by omega) (by rw [DV]; exact congrArg (fun z=>Value.int .u64 (g z)) (by omega)) (fun z _ hz=>by rw [DQ hz]) ?_);rintro w H;refine Ab (B4 U (BJ (Ae (Ad U (Aw U U ?_)))));refine Af U (Ab (Aa (Ax (Ad U (Bp U U ?_)))));refine Af U (Ab (A6 (Aa ?_)));exact ⟨(i+1,j - 1,sw g i j),rfl,⟨congrArg (Value.int .i64) (by dsimp only; omega),congrArg (Value.int .i64) (by dsimp only; omega),trivial⟩,⟨by dsimp only; omega,by dsimp only; omega,by dsimp only; omega,hS.step i j ⟨by omega,by omega⟩ ⟨by omega,by omega⟩,H⟩,by dsimp only; omega⟩
  ·intro h1;replace h1:=AN h1;refine Br (An (An (AK (CU U U ?_))));exact ⟨rfl,g,hS,H⟩
end
end Go.Proofs.YtdagmpmdcgedcaaGreat
namespace Go.Proofs.YtdagmpmdcgedcaaGreat
open Go.GV
attribute [local irreducible] AD W Wq Wt
structure PartU (g:Nat→Int) (a mid b:Nat):Prop where
 le:∀ x,a≤x→x<mid→g x≤g mid
 ge:∀ y,mid<y→y<b→g mid≤g y
theorem QH {g:Nat→Int} {a j b:Nat} (h1:∀ x,a<x→x≤j→g x<g a) (h2:∀ y,j<y→y<b→g a≤g y) (hj:a≤j:=by omega):PartU (sw g j a) a j b:=by
 have hv:sw g j a j=g a:=HW g j a;refine ⟨fun x hx hxj=>?_,fun y hy hyb=>?_⟩
 ·rw [hv]
  by_cases e:x=a
  ·rw [e,DV];exact Int.le_of_lt (h1 j (by omega) (Nat.le_refl _))
  ·rw [EE (h2:=e)]; exact Int.le_of_lt (h1 x (by omega) (by omega))
 ·rw [hv,EE]; exact h2 y hy hyb
theorem QI {g:Nat→Int} {a i j b:Nat} (h:a+1≤i∧i≤j+1∧j<b∧(∀ x,a<x→x<i→g x<g a)∧∀ y,j<y→y<b→g a≤g y) (hij:i<j) (hi:g a≤g i) (hj:g j<g a) :
  a+1≤i+1∧i+1≤j - 1+1∧j - 1<b∧(∀ x,a<x→x<i+1→sw g i j x<sw g i j a)∧∀ y,j - 1<y→y<b→sw g i j a≤sw g i j y:=by
 obtain ⟨h1,h2,h3,h4,h5⟩:=h;have ha:sw g i j a=g a:=EE;rw [ha];refine ⟨by omega,by omega,by omega,fun x hx hxi=>?_,fun y hy hyb=>?_⟩
 ·by_cases e:x=i
  ·rw [e,HW]; exact hj
  ·rw [EE (h1:=e)]; exact h4 x hx (by omega)
 ·by_cases e:y=j
  ·rw [e,DV]; exact hi
  ·rw [EE (h2:=e)]; exact h5 y (by omega) hyb
section
variable {w:World} {q n c m:Nat} {f:Nat→Int}
set_option maxRecDepth 20000 in
set_option maxHeartbeats 4000000 in
theorem Sv {a b p:Nat} (hd:w.heap[q]? = some (Bl 28 (CH f m))) (hn:n≤m) (hm:n≤1000000000) (hp:a≤p∧p<b)  (hab:a<b:=by omega) (hb:b≤n:=by omega):
  Ret Tryz.prog 238 #[.slice (some ⟨q,0,none⟩) n c,.int .i64 (a:Int),.int .i64 (b:Int),.int .i64 (p:Int)] w fun v w'=>∃ (mid:Nat) (t:Bool) (g:Nat→Int),v = .tuple #[.int .i64 (mid:Int),.bool t]∧Sw a b f g∧a≤mid∧mid<b∧PartU g a mid b∧Ctx w [q] w' [(q,Bl 28 (CH g m))]:=by
 obtain ⟨w0,rfl⟩:∃ w0,w0=w:=⟨_,rfl⟩;have H:=Ctx.start1 hd;refine Az (fn:=Tryz.f238) Tryz.func238 U [.slice (some ⟨q,0,none⟩) n c,.int .i64 (a:Int),.int .i64 (b:Int),.int .i64 (p:Int)] U (by kernel_rfl) ?_;refine Ae (Af U (Ai U (Ab (Aa (Cv [([0,1,2,3,4,5,6,7,8,9,10,11,12],13),([14],15)] (fun z=>z.heap[q]? = some (Bl 28 (CH (f) m))) [13,15] Bq (by kernel_rfl) (H.drew.get at0) ?_)))));refine AE U U ?_;refine B3 U (Bc U (B3 U (Bc U (B3 U (Bc U (AJ Bt Bo U U ?_))))));refine Bw B1 U (fun _ hx=>(C2 hx)) ?_;refine B3 U (Bc U (AJ Bt Bo U U ?_));refine Bw B1 U (fun _ hx=>(C2 hx)) ?_;refine AJ Bt Bo U U ?_;refine AP ?_;replace H:=H.drew
 refine Ce (a) (fun z => .int .u64 (if z=a then (f) (p) else (f) z)) (.int _ _) Bo U U U H at0 (by omega) (by rw [if_pos rfl]; exact congrArg (fun z=>Value.int .u64 ((f) z)) (by omega)) (fun z _ hz=>by rw [if_neg hz]) ?_;rintro w H;refine Ab (B4 U (AE U U ?_));refine AJ Bt Bo U U ?_;refine AP (Ce (p) (fun z => .int .u64 (sw (f) (a) (p) z)) (.int _ _) Bo U U U H at0 (by omega) (by rw [DV]; exact congrArg (fun z=>Value.int .u64 ((f) z)) (by omega)) (fun z _ hz=>by rw [DQ hz]) ?_);rintro w H;refine Ab (B4 U (BJ ?_));have hS0:=(Sw.refl (a:=a) (b:=b) f).step a p ⟨by omega,by omega⟩ hp;obtain ⟨g,hg⟩:∃ g,g=sw f a p:=⟨_,rfl⟩;rw [← hg] at hS0 H;have hi0:a+1≤(a+1)∧(a+1)≤(b - 1)+1∧(b - 1)<b∧(∀ x,a<x→x<(a+1)→(g) x<(g) a)∧∀ y,(b - 1)<y→y<b→(g) a≤(g) y:=⟨Nat.le_refl _,by omega,by omega,fun x h1 h2=>by omega,fun y h1 h2=>by omega⟩
 refine Ae (Ad U (Aw U U ?_));rw [show (a:Int)+1=((a+1:Nat):Int) by omega];refine Ad U (Bp U U ?_);rw [show (b:Int) - 1=((b - 1:Nat):Int) by omega];refine Af U (Af U (Ab (Aa (Au (A0 (Bv 70367670436864 (α:=Nat) (fun i=>[(10,.int .i64 (i:Int))]) (fun i w'=>(a+1≤i∧i≤(b - 1)+1∧(b - 1)<b∧(∀ x,a<x→x<i→(g) x<(g) a)∧∀ y,(b - 1)<y→y<b→(g) a≤(g) y)∧Ctx w0 [q] w' [(q,Bl 28 (CH (g) m))]) (fun i=>b - i) (a+1) U ?_ ?_ ?_))))))
 ·exact ⟨by rfl,trivial⟩
 ·exact ⟨by assumption,H⟩
 ·rintro i jx w ⟨hiv,H⟩;refine Au (DR 17591112302592 (α:=Unit) (fun _=>[(43,.bool (decide (i≤b - 1∧g i<g a)))]) (fun _ w'=>Ctx w0 [q] w' [(q,Bl 28 (CH (g) m))]) U ?_ ?_)
  ·skip
   refine FN 12 Bq (by kernel_rfl) U U ?_;refine AY U (AY U (Ol U U (CC U (D3 33 U ?_ ?_))))
   ·intro h1;replace h1:=AM h1;refine Ch U (AY U (Bh Bt Bo U U ?_));refine BR B1 U (by rintro _ rfl; exact ((C2 (H.drew.get at0)))) ?_;refine Ch U (AY U (Bh Bt Bo U U ?_));refine BR B1 U (by rintro _ rfl; exact ((C2 (H.drew.get at0)))) ?_;refine BQ ?_;replace H:=H.drew;refine Al Gf (Fi _ _ _) U ?_;rintro v w ⟨rfl,rfl⟩;simp only [Int.toNat_natCast];refine AF U (.bool _) U (Ab (Aa ?_));exact ⟨(),rfl,⟨congrArg Value.bool (by clear hiv; rw [Bool.eq_iff_iff]; simp_all; try omega),trivial⟩,H⟩
   ·intro h2;replace h2:=AN h2;refine A1 U (A1 U (A1 U (A1 U (A1 U (A1 U (A1 U (A1 U (BQ ?_))))))));replace H:=H.drew;refine Ag U (AG U (.bool _) U (Ab (Aa ?_)));exact ⟨(),rfl,⟨congrArg Value.bool (by clear hiv; rw [Bool.eq_iff_iff]; simp_all; try omega),trivial⟩,H⟩
  ·rintro - jy w H;refine Ao _ U ?_ ?_
   ·intro hc;have hc:=of_decide_eq_true hc;refine Ap (Aa (A0 (Ax (Ad U (Aw U U ?_)))));refine Af U (Ab (A6 (Aa ?_)));exact ⟨i+1,rfl,⟨congrArg (Value.int .i64) (by omega),trivial⟩,⟨⟨by omega,by omega,by omega,fun x h1 h2=>(if e:x=i then by rw [e]; exact hc.2 else hiv.2.2.2.1 x h1 (by omega)),hiv.2.2.2.2⟩,H⟩,by omega⟩
   ·intro hc;have hc:=of_decide_eq_false hc;have hci:=hc;have hi0:=hiv;refine Br (An (An (AK (Aa (Au (A0 (Bv 9223301668110600192 (α:=Nat) (fun j=>[(11,.int .i64 (j:Int))]) (fun j w'=>(a+1≤i∧i≤j+1∧j<b∧(∀ x,a<x→x<i→(g) x<(g) a)∧∀ y,j<y→y<b→(g) a≤(g) y)∧Ctx w0 [q] w' [(q,Bl 28 (CH (g) m))]) (fun j=>j) (b - 1) U ?_ ?_ ?_)))))))
    ·exact ⟨by rfl,trivial⟩
    ·exact ⟨by assumption,H⟩
    ·rintro j jx w ⟨hiv,H⟩;refine Au (DR 2305772640469516288 (α:=Unit) (fun _=>[(60,.bool (decide (i≤j∧g a≤g j)))]) (fun _ w'=>Ctx w0 [q] w' [(q,Bl 28 (CH (g) m))]) U ?_ ?_)
     ·skip
      refine FN 12 Bq (by kernel_rfl) U U ?_;refine AY U (AY U (Ol U U (CC U (D3 49 U ?_ ?_))))
      ·intro h3;replace h3:=AM h3;refine Ch U (AY U (Bh Bt Bo U U ?_));refine BR B1 U (by rintro _ rfl; exact ((C2 (H.drew.get at0)))) ?_;refine Ch U (AY U (Bh Bt Bo U U ?_));refine BR B1 U (by rintro _ rfl; exact ((C2 (H.drew.get at0)))) ?_;refine BQ ?_;replace H:=H.drew;refine Al Gf (Fi _ _ _) U ?_;rintro v w ⟨rfl,rfl⟩;simp only [Int.toNat_natCast];refine BF U (AF U (.bool _) U (Ab (Aa ?_)));exact ⟨(),rfl,⟨congrArg Value.bool (by clear hiv; rw [Bool.eq_iff_iff]; simp_all; try omega),trivial⟩,H⟩
      ·intro h4;replace h4:=AN h4;refine A1 U (A1 U (A1 U (A1 U (A1 U (A1 U (A1 U (A1 U (BQ ?_))))))));replace H:=H.drew;refine Ag U (Ag U (AG U (.bool _) U (Ab (Aa ?_))));exact ⟨(),rfl,⟨congrArg Value.bool (by clear hiv; rw [Bool.eq_iff_iff]; simp_all; try omega),trivial⟩,H⟩
     ·rintro - jy w H;refine Ao _ U ?_ ?_
      ·intro hc;have hc:=of_decide_eq_true hc;refine Ap (Aa (A0 (Ax (Ad U (Bp U U ?_)))));refine Af U (Ab (A6 (Aa ?_)));exact ⟨j - 1,rfl,⟨congrArg (Value.int .i64) (by omega),trivial⟩,⟨⟨by omega,by omega,by omega,hiv.2.2.2.1,fun y h1 h2=>(if e:y=j then by rw [e]; exact hc.2 else hiv.2.2.2.2 y (by omega) h2)⟩,H⟩,by omega⟩
      ·intro hc;have hc:=of_decide_eq_false hc;have hci:¬ (i≤j∧g i<g a):=fun h=>hci ⟨by omega,h.2⟩;refine Br (An (An (AK (Aa (Au (Ae (Ad U (Ad U (CZ U U (Ab (Aa (Ao _ U ?_ ?_))))))))))))
       ·intro h5;replace h5:=AM h5;have hji:j+1=i:=by omega
        refine Cv [([0,1,2,3,4,5,6,7,8,9,10,11,12],13),([14],15)] (fun z=>z.heap[q]? = some (Bl 28 (CH (g) m))) [13,15] Bq (by kernel_rfl) (H.drew.get at0) ?_;refine AE U U ?_;refine B3 U (Bc U (B3 U (Bc U (B3 U (Bc U (AJ Bt Bo U U ?_))))));refine Bw B1 U (fun _ hx=>(C2 hx)) ?_;refine B3 U (Bc U (AJ Bt Bo U U ?_));refine Bw B1 U (fun _ hx=>(C2 hx)) ?_;refine AJ Bt Bo U U ?_;refine AP ?_;replace H:=H.drew;refine Ce (j) (fun z => .int .u64 (if z=j then (g) (a) else (g) z)) (.int _ _) Bo U U U H at0 (by omega) (by rw [if_pos rfl]; exact congrArg (fun z=>Value.int .u64 ((g) z)) (by omega)) (fun z _ hz=>by rw [if_neg hz]) ?_;rintro w H;refine Ab (B4 U (AE U U ?_));refine AJ Bt Bo U U ?_
        refine AP (Ce (a) (fun z => .int .u64 (sw (g) (j) (a) z)) (.int _ _) Bo U U U H at0 (by omega) (by rw [DV]; exact congrArg (fun z=>Value.int .u64 ((g) z)) (by omega)) (fun z _ hz=>by rw [DQ hz]) ?_);rintro w H;refine Ab (B4 U (BJ (Ae (Ad U (Af U (Ai U (Ab (Aa (A5 (Aq (Ca (v1:=(.int _ _)) (v2:=(.bool _)) U U U U ?_)))))))))));exact ⟨j,true,sw g j a,rfl,hS0.step j a ⟨by omega,by omega⟩ ⟨by omega,by omega⟩,by omega,by omega,QH (fun x h1 h2=>hiv.2.2.2.1 x h1 (by omega)) hiv.2.2.2.2,H⟩
       ·intro h5;replace h5:=AN h5
        have hne:i<j:=by
         rcases Nat.lt_or_ge i j with h | h
         ·exact h
         ·obtain rfl:i=j:=by omega
          exact absurd ⟨Nat.le_refl i,by rcases Int.lt_or_le (g i) (g a) with h7 | h7; exact absurd ⟨Nat.le_refl i,h7⟩ hci; exact h7⟩ hc
        have hgi:g a≤g i:=by rcases Int.lt_or_le (g i) (g a) with h7 | h7; exact absurd ⟨by omega,h7⟩ hci; exact h7
        have hgj:g j<g a:=by rcases Int.lt_or_le (g j) (g a) with h7 | h7; exact h7; exact absurd ⟨by omega,h7⟩ hc
        refine Ap (Aa (Cv [([0,1,2,3,4,5,6,7,8,9,10,11,12],13),([14],15)] (fun z=>z.heap[q]? = some (Bl 28 (CH (g) m))) [13,15] Bq (by kernel_rfl) (H.drew.get at0) ?_));refine AE U U ?_;refine B3 U (Bc U (B3 U (Bc U (B3 U (Bc U (AJ Bt Bo U U ?_))))));refine Bw B1 U (fun _ hx=>(C2 hx)) ?_;refine B3 U (Bc U (AJ Bt Bo U U ?_));refine Bw B1 U (fun _ hx=>(C2 hx)) ?_;refine AJ Bt Bo U U ?_;refine AP ?_;replace H:=H.drew;refine Ce (i) (fun z => .int .u64 (if z=i then (g) (j) else (g) z)) (.int _ _) Bo U U U H at0 (by omega) (by rw [if_pos rfl]; exact congrArg (fun z=>Value.int .u64 ((g) z)) (by omega)) (fun z _ hz=>by rw [if_neg hz]) ?_;rintro w H;refine Ab (B4 U (AE U U ?_));refine AJ Bt Bo U U ?_
        refine AP (Ce (j) (fun z => .int .u64 (sw (g) (i) (j) z)) (.int _ _) Bo U U U H at0 (by omega) (by rw [DV]; exact congrArg (fun z=>Value.int .u64 ((g) z)) (by omega)) (fun z _ hz=>by rw [DQ hz]) ?_);rintro w H;refine Ab (B4 U (BJ (Ae (Ad U (Aw U U ?_)))));refine Af U (Ab (Aa (Ae (Ad U (Bp U U ?_)))));refine Af U (Ab (Aa (Au (A0 (Bv 11417981541647678414640987641481260342710373376 (α:=Nat × Nat × (Nat→Int)) (fun t=>[(10,.int .i64 (t.1:Int)),(11,.int .i64 (t.2.1:Int))]) (fun t w'=>(a+1≤t.1∧t.1≤t.2.1+1∧t.2.1<b∧(∀ x,a<x→x<t.1→(t.2.2) x<(t.2.2) a)∧∀ y,t.2.1<y→y<b→(t.2.2) a≤(t.2.2) y)∧Sw a b f t.2.2∧Ctx w0 [q] w' [(q,Bl 28 (CH t.2.2 m))]) (fun t=>b - t.1) (i+1,j - 1,sw g i j) U ?_ ?_ ?_)))))
        ·exact ⟨rfl,congrArg (Value.int .i64) (by dsimp only; omega),trivial⟩
        ·exact ⟨QI hiv hne hgi hgj,hS0.step i j ⟨by omega,by omega⟩ ⟨by omega,by omega⟩,H⟩
        ·rintro ⟨i,j,g⟩ j0 w ⟨hi0,hS0,H⟩; dsimp only at hi0 hS0 H; dsimp only;obtain ⟨i0,hi0e⟩:∃ i0,i0=i:=⟨_,rfl⟩;obtain ⟨j1,hj1e⟩:∃ j1,j1=j:=⟨_,rfl⟩;have hi1:i0≤i∧a+1≤i∧i≤j+1∧j<b∧(∀ x,a<x→x<i→(g) x<(g) a)∧∀ y,j<y→y<b→(g) a≤(g) y:=⟨by omega,hi0⟩;refine A0 (Au (A0 (Bv 41537741042978506913543222282159104 (α:=Nat) (fun i=>[(10,.int .i64 (i:Int))]) (fun i w'=>(i0≤i∧a+1≤i∧i≤j+1∧j<b∧(∀ x,a<x→x<i→(g) x<(g) a)∧∀ y,j<y→y<b→(g) a≤(g) y)∧Ctx w0 [q] w' [(q,Bl 28 (CH (g) m))]) (fun i=>j+1 - i) i U ?_ ?_ ?_)))
         ·exact ⟨by rfl,trivial⟩
         ·exact ⟨hi1,H⟩
         ·rintro i jx w ⟨hiv,H⟩;refine Au (DR 10383959891769541142360244306837504 (α:=Unit) (fun _=>[(112,.bool (decide (i≤j∧g i<g a)))]) (fun _ w'=>Ctx w0 [q] w' [(q,Bl 28 (CH (g) m))]) U ?_ ?_)
          ·skip
           refine FN 12 Bq (by kernel_rfl) U U ?_;refine AY U (AY U (Ol U U (CC U (D3 102 U ?_ ?_))))
           ·intro h5;replace h5:=AM h5;refine Ch U (AY U (Bh Bt Bo U U ?_));refine BR B1 U (by rintro _ rfl; exact ((C2 (H.drew.get at0)))) ?_;refine Ch U (AY U (Bh Bt Bo U U ?_));refine BR B1 U (by rintro _ rfl; exact ((C2 (H.drew.get at0)))) ?_;refine BQ ?_;replace H:=H.drew;refine Al Gf (Fi _ _ _) U ?_;rintro v w ⟨rfl,rfl⟩;simp only [Int.toNat_natCast];refine AF U (.bool _) U (Ab (Aa ?_));exact ⟨(),rfl,⟨congrArg Value.bool (by clear hiv; rw [Bool.eq_iff_iff]; simp_all; try omega),trivial⟩,H⟩
           ·intro h6;replace h6:=AN h6;refine A1 U (A1 U (A1 U (A1 U (A1 U (A1 U (A1 U (A1 U (BQ ?_))))))));replace H:=H.drew;refine Ag U (AG U (.bool _) U (Ab (Aa ?_)));exact ⟨(),rfl,⟨congrArg Value.bool (by clear hiv; rw [Bool.eq_iff_iff]; simp_all; try omega),trivial⟩,H⟩
          ·rintro - jy w H;refine Ao _ U ?_ ?_
           ·intro hc;have hc:=of_decide_eq_true hc;refine Ap (Aa (A0 (Ax (Ad U (Aw U U ?_)))));refine Af U (Ab (A6 (Aa ?_)));exact ⟨i+1,rfl,⟨congrArg (Value.int .i64) (by omega),trivial⟩,⟨⟨by omega,by omega,by omega,by omega,fun x h1 h2=>(if e:x=i then by rw [e]; exact hc.2 else hiv.2.2.2.2.1 x h1 (by omega)),hiv.2.2.2.2.2⟩,H⟩,by omega⟩
           ·intro hc;have hc:=of_decide_eq_false hc;have hci:=hc;have hi2:j≤j1∧a+1≤i∧i≤j+1∧j<b∧(∀ x,a<x→x<i→(g) x<(g) a)∧∀ y,j<y→y<b→(g) a≤(g) y:=⟨by omega,hiv.2⟩;have hi3:=hiv.1;refine Br (An (An (AK (Aa (Au (A0 (Bv 5444476332360147136792965474937657624576 (α:=Nat) (fun j=>[(11,.int .i64 (j:Int))]) (fun j w'=>(j≤j1∧a+1≤i∧i≤j+1∧j<b∧(∀ x,a<x→x<i→(g) x<(g) a)∧∀ y,j<y→y<b→(g) a≤(g) y)∧Ctx w0 [q] w' [(q,Bl 28 (CH (g) m))]) (fun j=>j) j U ?_ ?_ ?_)))))))
            ·exact ⟨by rfl,trivial⟩
            ·exact ⟨hi2,H⟩
            ·rintro j jx w ⟨hiv,H⟩;refine Au (DR 1361087929308885575232470185756439085056 (α:=Unit) (fun _=>[(129,.bool (decide (i≤j∧g a≤g j)))]) (fun _ w'=>Ctx w0 [q] w' [(q,Bl 28 (CH (g) m))]) U ?_ ?_)
             ·skip
              refine FN 12 Bq (by kernel_rfl) U U ?_;refine AY U (AY U (Ol U U (CC U (D3 118 U ?_ ?_))))
              ·intro h7;replace h7:=AM h7;refine Ch U (AY U (Bh Bt Bo U U ?_));refine BR B1 U (by rintro _ rfl; exact ((C2 (H.drew.get at0)))) ?_;refine Ch U (AY U (Bh Bt Bo U U ?_));refine BR B1 U (by rintro _ rfl; exact ((C2 (H.drew.get at0)))) ?_;refine BQ ?_;replace H:=H.drew;refine Al Gf (Fi _ _ _) U ?_;rintro v w ⟨rfl,rfl⟩;simp only [Int.toNat_natCast];refine BF U (AF U (.bool _) U (Ab (Aa ?_)));exact ⟨(),rfl,⟨congrArg Value.bool (by clear hiv; rw [Bool.eq_iff_iff]; simp_all; try omega),trivial⟩,H⟩
              ·intro h8;replace h8:=AN h8;refine A1 U (A1 U (A1 U (A1 U (A1 U (A1 U (A1 U (A1 U (BQ ?_))))))));replace H:=H.drew;refine Ag U (Ag U (AG U (.bool _) U (Ab (Aa ?_))));exact ⟨(),rfl,⟨congrArg Value.bool (by clear hiv; rw [Bool.eq_iff_iff]; simp_all; try omega),trivial⟩,H⟩
             ·rintro - jy w H;refine Ao _ U ?_ ?_
              ·intro hc;have hc:=of_decide_eq_true hc;refine Ap (Aa (A0 (Ax (Ad U (Bp U U ?_)))));refine Af U (Ab (A6 (Aa ?_)));exact ⟨j - 1,rfl,⟨congrArg (Value.int .i64) (by omega),trivial⟩,⟨⟨by omega,by omega,by omega,by omega,hiv.2.2.2.2.1,fun y h1 h2=>(if e:y=j then by rw [e]; exact hc.2 else hiv.2.2.2.2.2 y (by omega) h2)⟩,H⟩,by omega⟩
              ·intro hc;have hc:=of_decide_eq_false hc;have hci:¬ (i≤j∧g i<g a):=fun h=>hci ⟨by omega,h.2⟩;replace hiv:=hiv.2;refine Br (An (An (AK (Aa (Au (Ae (Ad U (Ad U (CZ U U (Ab (Aa (Ao _ U ?_ ?_))))))))))))
               ·intro h5;replace h5:=AM h5;have hji:j+1=i:=by omega
                refine Br (An (Fw U (An (AK (Aa (Cv [([0,1,2,3,4,5,6,7,8,9,10,11,12],13),([14],15)] (fun z=>z.heap[q]? = some (Bl 28 (CH (g) m))) [13,15] Bq (by kernel_rfl) (H.drew.get at0) ?_))))));refine AE U U ?_;refine B3 U (Bc U (B3 U (Bc U (B3 U (Bc U (AJ Bt Bo U U ?_))))));refine Bw B1 U (fun _ hx=>(C2 hx)) ?_;refine B3 U (Bc U (AJ Bt Bo U U ?_));refine Bw B1 U (fun _ hx=>(C2 hx)) ?_;refine AJ Bt Bo U U ?_;refine AP ?_;replace H:=H.drew;refine Ce (j) (fun z => .int .u64 (if z=j then (g) (a) else (g) z)) (.int _ _) Bo U U U H at0 (by omega) (by rw [if_pos rfl]; exact congrArg (fun z=>Value.int .u64 ((g) z)) (by omega)) (fun z _ hz=>by rw [if_neg hz]) ?_;rintro w H;refine Ab (B4 U (AE U U ?_));refine AJ Bt Bo U U ?_
                refine AP (Ce (a) (fun z => .int .u64 (sw (g) (j) (a) z)) (.int _ _) Bo U U U H at0 (by omega) (by rw [DV]; exact congrArg (fun z=>Value.int .u64 ((g) z)) (by omega)) (fun z _ hz=>by rw [DQ hz]) ?_);rintro w H;refine Ab (B4 U (BJ (Ae (Ad U (Af U (Ai U (Ab (Aa (A5 (Ca (v1:=(.int _ _)) (v2:=(.bool _)) U U U U ?_))))))))));exact ⟨j,false,sw g j a,rfl,hS0.step j a ⟨by omega,by omega⟩ ⟨by omega,by omega⟩,by omega,by omega,QH (fun x h1 h2=>hiv.2.2.2.1 x h1 (by omega)) hiv.2.2.2.2,H⟩
               ·intro h5;replace h5:=AN h5
                have hne:i<j:=by
                 rcases Nat.lt_or_ge i j with h | h
                 ·exact h
                 ·obtain rfl:i=j:=by omega
                  exact absurd ⟨Nat.le_refl i,by rcases Int.lt_or_le (g i) (g a) with h7 | h7; exact absurd ⟨Nat.le_refl i,h7⟩ hci; exact h7⟩ hc
                refine Ap (Aa (Cv [([0,1,2,3,4,5,6,7,8,9,10,11,12],13),([14],15)] (fun z=>z.heap[q]? = some (Bl 28 (CH (g) m))) [13,15] Bq (by kernel_rfl) (H.drew.get at0) ?_));refine AE U U ?_;refine B3 U (Bc U (B3 U (Bc U (B3 U (Bc U (AJ Bt Bo U U ?_))))));refine Bw B1 U (fun _ hx=>(C2 hx)) ?_;refine B3 U (Bc U (AJ Bt Bo U U ?_));refine Bw B1 U (fun _ hx=>(C2 hx)) ?_;refine AJ Bt Bo U U ?_;refine AP ?_;replace H:=H.drew;refine Ce (i) (fun z => .int .u64 (if z=i then (g) (j) else (g) z)) (.int _ _) Bo U U U H at0 (by omega) (by rw [if_pos rfl]; exact congrArg (fun z=>Value.int .u64 ((g) z)) (by omega)) (fun z _ hz=>by rw [if_neg hz]) ?_;rintro w H;refine Ab (B4 U (AE U U ?_));refine AJ Bt Bo U U ?_
                refine AP (Ce (j) (fun z => .int .u64 (sw (g) (i) (j) z)) (.int _ _) Bo U U U H at0 (by omega) (by rw [DV]; exact congrArg (fun z=>Value.int .u64 ((g) z)) (by omega)) (fun z _ hz=>by rw [DQ hz]) ?_);rintro w H;refine Ab (B4 U (BJ (Ae (Ad U (Aw U U ?_)))));refine Af U (Ab (Aa (Ax (Ad U (Bp U U ?_)))));refine Af U (Ab (A6 (Aa ?_)))
                have hgi:g a≤g i:=by rcases Int.lt_or_le (g i) (g a) with h7 | h7; exact absurd ⟨by omega,h7⟩ hci; exact h7
                have hgj:g j<g a:=by rcases Int.lt_or_le (g j) (g a) with h7 | h7; exact h7; exact absurd ⟨by omega,h7⟩ hc
                exact ⟨(i+1,j - 1,sw g i j),rfl,⟨rfl,congrArg (Value.int .i64) (by dsimp only; omega),trivial⟩,⟨QI hiv hne hgi hgj,hS0.step i j ⟨by omega,by omega⟩ ⟨by omega,by omega⟩,H⟩,by dsimp only; omega⟩
end
end Go.Proofs.YtdagmpmdcgedcaaGreat
namespace Go.Proofs.YtdagmpmdcgedcaaGreat
open Go.GV
attribute [local irreducible] AD W Wq Wt
theorem Aea {g:Nat→Int} {a i j b:Nat} (h:a+1≤i∧i≤j+1∧j<b∧(∀ x,a<x→x<i→(g) x≤(g) a)∧∀ y,j<y→y<b→(g) a<(g) y) (hij:i<j) (hi:g a<g i) (hj:g j≤g a):a+1≤i+1∧i+1≤(j - 1)+1∧(j - 1)<b∧(∀ x,a<x→x<i+1→(sw g i j) x≤(sw g i j) a)∧∀ y,(j - 1)<y→y<b→(sw g i j) a<(sw g i j) y:=by
 obtain ⟨h1,h2,h3,h4,h5⟩:=h;have ha:sw g i j a=g a:=EE;rw [ha];refine ⟨by omega,by omega,by omega,fun x hx hxi=>?_,fun y hy hyb=>?_⟩
 ·by_cases e:x=i
  ·rw [e,HW]; exact hj
  ·rw [EE (h1:=e)]; exact h4 x hx (by omega)
 ·by_cases e:y=j
  ·rw [e,DV]; exact hi
  ·rw [EE (h2:=e)]; exact h5 y (by omega) hyb
section
variable {w:World} {q n c m:Nat} {f:Nat→Int}
set_option maxRecDepth 20000 in
set_option maxHeartbeats 4000000 in
theorem XG {a b p:Nat} (hd:w.heap[q]? = some (Bl 28 (CH f m))) (hn:n≤m) (hm:n≤1000000000) (hp:a≤p∧p<b)  (hab:a<b:=by omega) (hb:b≤n:=by omega):
  Ret Tryz.prog 237 #[.slice (some ⟨q,0,none⟩) n c,.int .i64 (a:Int),.int .i64 (b:Int),.int .i64 (p:Int)] w fun v w'=>∃ (i:Nat) (g:Nat→Int),v = .int .i64 (i:Int)∧Sw a b f g∧a<i∧i≤b∧g a=f p∧(∀ x,a≤x→x<i→g x≤g a)∧(∀ y,i≤y→y<b→g a<g y)∧Ctx w [q] w' [(q,Bl 28 (CH g m))]:=by
 obtain ⟨w0,rfl⟩:∃ w0,w0=w:=⟨_,rfl⟩;have H:=Ctx.start1 hd;refine Az (fn:=Tryz.f237) Tryz.func237 U [.slice (some ⟨q,0,none⟩) n c,.int .i64 (a:Int),.int .i64 (b:Int),.int .i64 (p:Int)] U (by kernel_rfl) ?_;refine Ae (Af U (Ab (Aa (Cv [([0,1,2,3,4,5,6,7,8,9,10,11,12],13),([14],15)] (fun z=>z.heap[q]? = some (Bl 28 (CH (f) m))) [13,15] Bq (by kernel_rfl) (H.drew.get at0) ?_))));refine AE U U ?_;refine B3 U (Bc U (B3 U (Bc U (B3 U (Bc U (AJ Bt Bo U U ?_))))));refine Bw B1 U (fun _ hx=>(C2 hx)) ?_;refine B3 U (Bc U (AJ Bt Bo U U ?_));refine Bw B1 U (fun _ hx=>(C2 hx)) ?_;refine AJ Bt Bo U U ?_;refine AP ?_;replace H:=H.drew
 refine Ce (a) (fun z => .int .u64 (if z=a then (f) (p) else (f) z)) (.int _ _) Bo U U U H at0 (by omega) (by rw [if_pos rfl]; exact congrArg (fun z=>Value.int .u64 ((f) z)) (by omega)) (fun z _ hz=>by rw [if_neg hz]) ?_;rintro w H;refine Ab (B4 U (AE U U ?_));refine AJ Bt Bo U U ?_;refine AP (Ce (p) (fun z => .int .u64 (sw (f) (a) (p) z)) (.int _ _) Bo U U U H at0 (by omega) (by rw [DV]; exact congrArg (fun z=>Value.int .u64 ((f) z)) (by omega)) (fun z _ hz=>by rw [DQ hz]) ?_);rintro w H;refine Ab (B4 U (BJ ?_));have hS0:=(Sw.refl (a:=a) (b:=b) f).step a p ⟨by omega,by omega⟩ hp;obtain ⟨g,hg⟩:∃ g,g=sw f a p:=⟨_,rfl⟩;have hga:g a=f p:=by rw [hg,HW]
 rw [← hg] at hS0 H;refine Ae (Ad U (Aw U U ?_));rw [show (a:Int)+1=((a+1:Nat):Int) by omega];refine Ad U (Bp U U ?_);rw [show (b:Int) - 1=((b - 1:Nat):Int) by omega];refine Af U (Af U (Ab (Aa (Au (A0 (Bv 9671406556917032860780032 (α:=Nat × Nat × (Nat→Int)) (fun t=>[(9,.int .i64 (t.1:Int)),(10,.int .i64 (t.2.1:Int))]) (fun t w'=>(a+1≤t.1∧t.1≤t.2.1+1∧t.2.1<b∧(∀ x,a<x→x<t.1→(t.2.2) x≤(t.2.2) a)∧∀ y,t.2.1<y→y<b→(t.2.2) a<(t.2.2) y)∧t.2.2 a=f p∧Sw a b f t.2.2∧Ctx w0 [q] w' [(q,Bl 28 (CH t.2.2 m))]) (fun t=>b - t.1) (a+1,b - 1,g) U ?_ ?_ ?_))))))
 ·exact ⟨rfl,rfl,trivial⟩
 ·exact ⟨⟨Nat.le_refl _,by dsimp only; omega,by dsimp only; omega,fun x h1 h2=>by dsimp only at h2; omega,fun y h1 h2=>by dsimp only at h1; omega⟩,hga,hS0,H⟩
 ·rintro ⟨i,j,g⟩ j0 w ⟨hi0,hga,hS0,H⟩; dsimp only at hi0 hga hS0 H; dsimp only;obtain ⟨i0,hi0e⟩:∃ i0,i0=i:=⟨_,rfl⟩;obtain ⟨j1,hj1e⟩:∃ j1,j1=j:=⟨_,rfl⟩;have hi1:i0≤i∧a+1≤i∧i≤j+1∧j<b∧(∀ x,a<x→x<i→(g) x≤(g) a)∧∀ y,j<y→y<b→(g) a<(g) y:=⟨by omega,hi0⟩;refine A0 (Au (A0 (Bv 70368207307264 (α:=Nat) (fun i=>[(9,.int .i64 (i:Int))]) (fun i w'=>(i0≤i∧a+1≤i∧i≤j+1∧j<b∧(∀ x,a<x→x<i→(g) x≤(g) a)∧∀ y,j<y→y<b→(g) a<(g) y)∧Ctx w0 [q] w' [(q,Bl 28 (CH (g) m))]) (fun i=>j+1 - i) i U ?_ ?_ ?_)))
  ·exact ⟨by rfl,trivial⟩
  ·exact ⟨hi1,H⟩
  ·rintro i jx w ⟨hiv,H⟩;refine Au (DR 17591649173504 (α:=Unit) (fun _=>[(43,.bool (decide (i≤j∧¬ g a<g i)))]) (fun _ w'=>Ctx w0 [q] w' [(q,Bl 28 (CH (g) m))]) U ?_ ?_)
   ·skip
    refine FN 12 Bq (by kernel_rfl) U U ?_;refine AY U (AY U (Ol U U (CC U (D3 32 U ?_ ?_))))
    ·intro h1;replace h1:=AM h1;refine Ch U (AY U (Bh Bt Bo U U ?_));refine BR B1 U (by rintro _ rfl; exact ((C2 (H.drew.get at0)))) ?_;refine Ch U (AY U (Bh Bt Bo U U ?_));refine BR B1 U (by rintro _ rfl; exact ((C2 (H.drew.get at0)))) ?_;refine BQ ?_;replace H:=H.drew;refine Al Gf (Fi _ _ _) U ?_;rintro v w ⟨rfl,rfl⟩;simp only [Int.toNat_natCast];refine BF U (AF U (.bool _) U (Ab (Aa ?_)));exact ⟨(),rfl,⟨congrArg Value.bool (by clear hiv; rw [Bool.eq_iff_iff]; simp_all; try omega),trivial⟩,H⟩
    ·intro h2;replace h2:=AN h2;refine A1 U (A1 U (A1 U (A1 U (A1 U (A1 U (A1 U (A1 U (BQ ?_))))))));replace H:=H.drew;refine Ag U (Ag U (AG U (.bool _) U (Ab (Aa ?_))));exact ⟨(),rfl,⟨congrArg Value.bool (by clear hiv; rw [Bool.eq_iff_iff]; simp_all; try omega),trivial⟩,H⟩
   ·rintro - jy w H;refine Ao _ U ?_ ?_
    ·intro hc;have hc:=of_decide_eq_true hc;refine Ap (Aa (A0 (Ax (Ad U (Aw U U ?_)))));refine Af U (Ab (A6 (Aa ?_)));exact ⟨i+1,rfl,⟨congrArg (Value.int .i64) (by omega),trivial⟩,⟨⟨by omega,by omega,by omega,by omega,fun x h1 h2=>(if e:x=i then by rw [e]; omega else hiv.2.2.2.2.1 x h1 (by omega)),hiv.2.2.2.2.2⟩,H⟩,by omega⟩
    ·intro hc;have hc:=of_decide_eq_false hc;have hci:=hc;have hi2:j≤j1∧a+1≤i∧i≤j+1∧j<b∧(∀ x,a<x→x<i→(g) x≤(g) a)∧∀ y,j<y→y<b→(g) a<(g) y:=⟨by omega,hiv.2⟩;have hi3:=hiv.1;refine Br (An (An (AK (Aa (Au (A0 (Bv 4611615649683211264 (α:=Nat) (fun j=>[(10,.int .i64 (j:Int))]) (fun j w'=>(j≤j1∧a+1≤i∧i≤j+1∧j<b∧(∀ x,a<x→x<i→(g) x≤(g) a)∧∀ y,j<y→y<b→(g) a<(g) y)∧Ctx w0 [q] w' [(q,Bl 28 (CH (g) m))]) (fun j=>j) j U ?_ ?_ ?_)))))))
     ·exact ⟨by rfl,trivial⟩
     ·exact ⟨hi2,H⟩
     ·rintro j jx w ⟨hiv,H⟩;refine Au (DR 1152851135862669312 (α:=Unit) (fun _=>[(59,.bool (decide (i≤j∧g a<g j)))]) (fun _ w'=>Ctx w0 [q] w' [(q,Bl 28 (CH (g) m))]) U ?_ ?_)
      ·skip
       refine FN 12 Bq (by kernel_rfl) U U ?_;refine AY U (AY U (Ol U U (CC U (D3 49 U ?_ ?_))))
       ·intro h3;replace h3:=AM h3;refine Ch U (AY U (Bh Bt Bo U U ?_));refine BR B1 U (by rintro _ rfl; exact ((C2 (H.drew.get at0)))) ?_;refine Ch U (AY U (Bh Bt Bo U U ?_));refine BR B1 U (by rintro _ rfl; exact ((C2 (H.drew.get at0)))) ?_;refine BQ ?_;replace H:=H.drew;refine Al Gf (Fi _ _ _) U ?_;rintro v w ⟨rfl,rfl⟩;simp only [Int.toNat_natCast];refine AF U (.bool _) U (Ab (Aa ?_));exact ⟨(),rfl,⟨congrArg Value.bool (by clear hiv; rw [Bool.eq_iff_iff]; simp_all; try omega),trivial⟩,H⟩
       ·intro h4;replace h4:=AN h4;refine A1 U (A1 U (A1 U (A1 U (A1 U (A1 U (A1 U (A1 U (BQ ?_))))))));replace H:=H.drew;refine Ag U (AG U (.bool _) U (Ab (Aa ?_)));exact ⟨(),rfl,⟨congrArg Value.bool (by clear hiv; rw [Bool.eq_iff_iff]; simp_all; try omega),trivial⟩,H⟩
      ·rintro - jy w H;refine Ao _ U ?_ ?_
       ·intro hc;have hc:=of_decide_eq_true hc;refine Ap (Aa (A0 (Ax (Ad U (Bp U U ?_)))));refine Af U (Ab (A6 (Aa ?_)));exact ⟨j - 1,rfl,⟨congrArg (Value.int .i64) (by omega),trivial⟩,⟨⟨by omega,by omega,by omega,by omega,hiv.2.2.2.2.1,fun y h1 h2=>(if e:y=j then by rw [e]; exact hc.2 else hiv.2.2.2.2.2 y (by omega) h2)⟩,H⟩,by omega⟩
       ·intro hc;have hc:=of_decide_eq_false hc;have hci:¬ (i≤j∧¬ g a<g i):=fun h=>hci ⟨by omega,h.2⟩;replace hiv:=hiv.2;refine Br (An (An (AK (Aa (Au (Ae (Ad U (Ad U (CZ U U (Ab (Aa (Ao _ U ?_ ?_))))))))))))
        ·intro h5;replace h5:=AM h5;have hji:j+1=i:=by omega
         refine Br (An (Fw U (An (AK (Aa (Ae (Ad U (Af U (Ab (Aa (A5 (A9 (v:=(.int _ _)) U U U ?_))))))))))));exact ⟨i,g,rfl,hS0,by omega,by omega,hga,fun x h1 h2=>(if e:x=a then by rw [e]; exact Int.le_refl _ else hiv.2.2.2.1 x (by omega) h2),fun y h1 h2=>hiv.2.2.2.2 y (by omega) h2,H⟩
        ·intro h5;replace h5:=AN h5
         have hgi:g a<g i:=by rcases Int.lt_or_le (g a) (g i) with h7 | h7; exact h7; exact absurd ⟨by omega,by omega⟩ hci
         have hgj:g j≤g a:=by rcases Int.lt_or_le (g a) (g j) with h7 | h7; exact absurd ⟨by omega,h7⟩ hc; exact h7
         have hne:i<j:=by
          rcases Nat.lt_or_ge i j with h | h
          ·exact h
          ·obtain rfl:i=j:=by omega
           omega
         refine Ap (Aa (Cv [([0,1,2,3,4,5,6,7,8,9,10,11,12],13),([14],15)] (fun z=>z.heap[q]? = some (Bl 28 (CH (g) m))) [13,15] Bq (by kernel_rfl) (H.drew.get at0) ?_));refine AE U U ?_;refine B3 U (Bc U (B3 U (Bc U (B3 U (Bc U (AJ Bt Bo U U ?_))))));refine Bw B1 U (fun _ hx=>(C2 hx)) ?_;refine B3 U (Bc U (AJ Bt Bo U U ?_));refine Bw B1 U (fun _ hx=>(C2 hx)) ?_;refine AJ Bt Bo U U ?_;refine AP ?_;replace H:=H.drew;refine Ce (i) (fun z => .int .u64 (if z=i then (g) (j) else (g) z)) (.int _ _) Bo U U U H at0 (by omega) (by rw [if_pos rfl]; exact congrArg (fun z=>Value.int .u64 ((g) z)) (by omega)) (fun z _ hz=>by rw [if_neg hz]) ?_;rintro w H;refine Ab (B4 U (AE U U ?_));refine AJ Bt Bo U U ?_
         refine AP (Ce (j) (fun z => .int .u64 (sw (g) (i) (j) z)) (.int _ _) Bo U U U H at0 (by omega) (by rw [DV]; exact congrArg (fun z=>Value.int .u64 ((g) z)) (by omega)) (fun z _ hz=>by rw [DQ hz]) ?_);rintro w H;refine Ab (B4 U (BJ (Ae (Ad U (Aw U U ?_)))));refine Af U (Ab (Aa (Ax (Ad U (Bp U U ?_)))));refine Af U (Ab (A6 (Aa ?_)));exact ⟨(i+1,j - 1,sw g i j),rfl,⟨rfl,congrArg (Value.int .i64) (by dsimp only; omega),trivial⟩,⟨Aea hiv hne hgi hgj,(EE).trans hga,hS0.step i j ⟨by omega,by omega⟩ ⟨by omega,by omega⟩,H⟩,by dsimp only; omega⟩
set_option maxRecDepth 20000 in
set_option maxHeartbeats 4000000 in
theorem V2 {a b:Nat} (hd:w.heap[q]? = some (Bl 28 (CH f m))) (hn:n≤m) (hm:n≤1000000000) (hLB:0<a→∀ x,a≤x→x<b→f (a - 1)≤f x)  (hab:a<b:=by omega) (hb:b≤n:=by omega):
  Ret Tryz.prog 235 #[.slice (some ⟨q,0,none⟩) n c,.int .i64 (a:Int),.int .i64 (b:Int)] w fun v w'=>∃ (t:Bool) (g:Nat→Int),v = .bool t∧Sw a b f g∧(t=true→JF g a b)∧Ctx w [q] w' [(q,Bl 28 (CH g m))]:=by
 obtain ⟨w0,rfl⟩:∃ w0,w0=w:=⟨_,rfl⟩;have H:=Ctx.start1 hd;refine Az (fn:=Tryz.f235) Tryz.func235 U [.slice (some ⟨q,0,none⟩) n c,.int .i64 (a:Int),.int .i64 (b:Int)] U (by kernel_rfl) ?_;refine Ae (Ai U (Ab (Aa (Ae (Ad U (Aw U U ?_))))));rw [show (a:Int)+1=((a+1:Nat):Int) by omega];refine Af U (Ab (Aa (Au (Ae (Af U (Ab (Aa (A0 (Bv 10889035741470030830827987437816582760384 (α:=Nat × Nat × (Nat→Int)) (fun t=>[(8,.int .i64 (t.1:Int)),(7,.int .i64 (t.2.1:Int))]) (fun t w'=>t.1≤5∧(a+1≤t.2.1∧t.2.1≤b∧JF t.2.2 a t.2.1)∧Sw a b f t.2.2∧Ctx w0 [q] w' [(q,Bl 28 (CH t.2.2 m))]) (fun t=>5 - t.1) (0,a+1,f) U ?_ ?_ ?_)))))))))
 ·exact ⟨rfl,rfl,trivial⟩
 ·exact ⟨by dsimp only; omega,⟨Nat.le_refl _,by dsimp only; omega,fun x y h1 h2 h3=>by dsimp only at h3; omega⟩,.refl _,H⟩
 ·rintro ⟨st,i,g⟩ j0 w ⟨hst,hi0,hS0,H⟩; dsimp only at hst hi0 hS0 H; dsimp only;refine Au (Ae (Ad U (Bj U U (Ab (Aa (Ao _ U ?_ ?_))))))
  ·intro h1;replace h1:=AM h1
   have hLBg:0<a→∀ g',Sw a b f g'→∀ x,a≤x→x<b→g' (a - 1)≤g' x:=fun h0 g' h x hx hxb=>by
    obtain ⟨z,hz1,hz2,hz3⟩:=h.mem x hx hxb;rw [h.out (a - 1) (.inl (by omega)),hz3];exact hLB h0 z hz1 hz2
   refine Ap (Aa (Au (A0 (Au (A0 (Bv 34359607424 (α:=Nat) (fun i=>[(7,.int .i64 (i:Int))]) (fun i w'=>(a+1≤i∧i≤b∧JF g a i)∧Ctx w0 [q] w' [(q,Bl 28 (CH (g) m))]) (fun i=>b - i) i U ?_ ?_ ?_))))))
   ·exact ⟨by rfl,trivial⟩
   ·exact ⟨hi0,H⟩
   ·rintro i jx w ⟨hiv,H⟩;refine Au (DR 8589803520 (α:=Unit) (fun _=>[(32,.bool (decide (i<b∧¬ g i<g (i - 1))))]) (fun _ w'=>Ctx w0 [q] w' [(q,Bl 28 (CH (g) m))]) U ?_ ?_)
    ·skip
     refine FN 13 Bq (by kernel_rfl) U U ?_;refine AY U (AY U (KM U U (CC U (D3 20 U ?_ ?_))))
     ·intro h1;replace h1:=AM h1;refine Ch U (AY U (Bh Bt Bo U U ?_));refine BR B1 U (by rintro _ rfl; exact ((C2 (H.drew.get at0)))) ?_;refine Ch U (AY U (Ek U U ?_));refine Bh Bt Bo U U ?_;refine BR B1 U (by rintro _ rfl; exact ((C2 (H.drew.get at0)))) ?_;refine BQ ?_;replace H:=H.drew;refine Al Gf (Fi _ _ _) U ?_;rintro v w ⟨rfl,rfl⟩;rw [show ((i:Int) - 1).toNat=i - 1 by omega,Int.toNat_natCast];refine BF U (AF U (.bool _) U (Ab (Aa ?_)));exact ⟨(),rfl,⟨congrArg Value.bool (by clear hiv; rw [Bool.eq_iff_iff]; simp_all; try omega),trivial⟩,H⟩
     ·intro h2;replace h2:=AN h2;refine A1 U (A1 U (A1 U (A1 U (A1 U (A1 U (A1 U (A1 U (A1 U (BQ ?_)))))))));replace H:=H.drew;refine Ag U (Ag U (AG U (.bool _) U (Ab (Aa ?_))));exact ⟨(),rfl,⟨congrArg Value.bool (by clear hiv; rw [Bool.eq_iff_iff]; simp_all; try omega),trivial⟩,H⟩
    ·rintro - jy w H;refine Ao _ U ?_ ?_
     ·intro hc;have hc:=of_decide_eq_true hc;refine Ap (Aa (A0 (Ax (Ad U (Aw U U ?_)))));refine Af U (Ab (A6 (Aa ?_)));exact ⟨i+1,rfl,⟨congrArg (Value.int .i64) (by omega),trivial⟩,⟨⟨by omega,by omega,fun x y hx hxy hy=>(if e:y=i then (by rw [e]; exact (if e2:x=i - 1 then by rw [e2]; omega else Int.le_trans (hiv.2.2 x (i - 1) hx (by omega) (by omega)) (by omega))) else hiv.2.2 x y hx hxy (by omega))⟩,H⟩,by omega⟩
     ·intro hc;have hc:=of_decide_eq_false hc;refine Br (An (An (AK (Aa (Au (Ae (Ad U (Ad U (Ct U U (Ab (Aa (Ao _ U ?_ ?_))))))))))))
      ·intro h2;replace h2:=AM h2;refine Ae (Ai U (Ab (Aa (A5 (Aq (AB (Aq (Aq (AB (Aq (A9 (v:=(.bool _)) U U U ?_)))))))))));obtain rfl:i=b:=by omega
       exact ⟨true,g,rfl,hS0,fun _=>hiv.2.2,H⟩
      ·intro h2;replace h2:=AN h2;have hib:i<b:=by omega
       have hlt:g i<g (i - 1):=by rcases Int.lt_or_le (g i) (g (i - 1)) with h7 | h7; exact h7; exact absurd ⟨hib,by omega⟩ hc
       refine Ap (Aa (Au (Ae (Ad U (Ad U (Bp U U ?_))))));refine Bj U U (Ab (Aa (Ao _ U ?_ ?_)))
       ·intro h3;replace h3:=AM h3;refine Ae (Ai U (Ab (Aa (A5 (Aq (AB (Aq (Aq (AB (Aq (A9 (v:=(.bool _)) U U U ?_)))))))))));exact ⟨false,g,rfl,hS0,(fun h=>by cases h),H⟩
       ·intro h3;replace h3:=AN h3;refine Ap (Aa (Cv [([0,1,2,3,4,5,6,7,8,9,10,11,12,13,14],15),([16],17)] (fun z=>z.heap[q]? = some (Bl 28 (CH (g) m))) [15,17] Bq (by kernel_rfl) (H.drew.get at0) ?_));refine AE U U ?_;refine B3 U (Bc U (B3 U (Bc U (Fb U U ?_))));refine B3 U (Bc U (Fb U U ?_));refine AJ Bt Bo U U ?_;refine Bw B1 U (fun _ hx=>(C2 hx)) ?_;refine B3 U (Bc U (AJ Bt Bo U U ?_));refine Bw B1 U (fun _ hx=>(C2 hx)) ?_;refine AJ Bt Bo U U ?_;refine AP ?_;replace H:=H.drew;refine Ce (i) (fun z => .int .u64 (if z=i then (g) (i - 1) else (g) z)) (.int _ _) Bo U U U H at0 (by omega) (by rw [if_pos rfl]; exact congrArg (fun z=>Value.int .u64 ((g) z)) (by omega)) (fun z _ hz=>by rw [if_neg hz]) ?_;rintro w H
        refine Ab (B4 U (AE U U ?_));refine AJ Bt Bo U U ?_;refine AP (Ce (i - 1) (fun z => .int .u64 (sw (g) (i) (i - 1) z)) (.int _ _) Bo U U U H at0 (by omega) (by rw [DV]; exact congrArg (fun z=>Value.int .u64 ((g) z)) (by omega)) (fun z _ hz=>by rw [DQ hz]) ?_);rintro w H;refine Ab (B4 U (BJ (Au ?_)));have hS1:=hS0.step i (i - 1) ⟨by omega,by omega⟩ ⟨by omega,by omega⟩;have hI1:InsU (sw g i (i - 1)) a (i - 1) (i - 1):=fun x y hx hxy hy hne=>by rw [EE,EE]; exact hiv.2.2 x y hx hxy (by omega)
        obtain ⟨g1,hg1⟩:∃ g1,g1=sw g i (i - 1):=⟨_,rfl⟩;rw [← hg1] at hS1 hI1 H;refine Ae (Ad U (Ad U (Bp U U ?_)));refine C9 U U (Ab (Aa (Ey 39614081252520482778344587776 (α:=Nat→Int) (fun _=>[]) (fun g w'=>JF g a i∧Sw a b f g∧Ctx w0 [q] w' [(q,Bl 28 (CH g m))]) U ?_ ?_)))
        ·skip
         refine Ao _ U ?_ ?_
         ·intro h4;replace h4:=AM h4;refine Ae (Ad U (Bp U U ?_));rw [show (i:Int) - 1=((i - 1:Nat):Int) by omega];refine Af U (Ab (Aa (A0 (Bv 39614081238685424723062424064 (α:=Nat × (Nat→Int)) (fun t=>[(9,.int .i64 (t.1:Int))]) (fun t w'=>(a≤t.1∧t.1≤i - 1∧InsU t.2 a t.1 (i - 1))∧Sw a b f t.2∧Ctx w0 [q] w' [(q,Bl 28 (CH t.2 m))]) (fun t=>t.1) (i - 1,g1) U ?_ ?_ ?_))))
          ·exact ⟨rfl,trivial⟩
          ·exact ⟨⟨by dsimp only; omega,Nat.le_refl _,hI1⟩,hS1,H⟩
          ·rintro ⟨j,g⟩ j3 w ⟨hj,hS,H⟩; dsimp only at hj hS H; dsimp only;have hex:(a<j→g (j - 1)≤g j)→JF g a i:=fun h7=>by have h8:=hj.2.2.done hj.1 h7; rw [show i - 1+1=i by omega] at h8; exact h8
           refine Au (Ae (Ad U (C9 U U (Ab (Aa (Ao _ U ?_ ?_))))))
           ·intro h5;replace h5:=AM h5;refine Ap (Aa (Au (A0 (Au (DZ 9 Bq (by kernel_rfl) U U ?_)))));refine Ch U (AY U (Bh Bt Bo U U ?_));refine BR B1 U (by rintro _ rfl; exact ((C2 (H.drew.get at0)))) ?_;refine Ch U (AY U (Ek U U ?_));refine Bh Bt Bo U U ?_;refine BR B1 U (by rintro _ rfl; exact ((C2 (H.drew.get at0)))) ?_;refine BQ ?_;replace H:=H.drew;refine Al Gf (Fi _ _ _) U ?_;rintro v w ⟨rfl,rfl⟩;rw [show ((j:Int) - 1).toNat=j - 1 by omega,Int.toNat_natCast];refine BF U (Ab (Aa (Ao _ U ?_ ?_)))
            ·intro h6;replace h6:=BG h6;have h6:¬ g j<g (j - 1):=by simpa using h6
             refine Br (An (Fw U (An (An (AK (Aa ?_))))));exact ⟨g,rfl,trivial,hex fun _=>by omega,hS,H⟩
            ·intro h6;replace h6:=BH h6;have h6:g j<g (j - 1):=by simpa using h6
             have haj:a<j:=by
              rcases Nat.lt_or_ge a j with h | h
              ·exact h
              ·obtain rfl:a=j:=by omega
               have:=hLBg (by omega) g hS a (Nat.le_refl _) hab;omega
             refine Ap (Aa (Fj [([0,1,2,3,4,5,6,7,8,9,10,11,12,13,14],15),([16],17)] (fun z=>z.heap[q]? = some (Bl 28 (CH (g) m))) [15,17] Bq (by kernel_rfl) (H.drew.get at0) ?_));refine AE U U ?_;refine B3 U (Bc U (B3 U (Bc U (Fb U U ?_))));refine B3 U (Bc U (Fb U U ?_));refine AJ Bt Bo U U ?_;refine Bw B1 U (fun _ hx=>(C2 hx)) ?_;refine B3 U (Bc U (AJ Bt Bo U U ?_));refine Bw B1 U (fun _ hx=>(C2 hx)) ?_;refine AJ Bt Bo U U ?_;refine AP ?_;replace H:=H.drew;refine Ce (j) (fun z => .int .u64 (if z=j then (g) (j - 1) else (g) z)) (.int _ _) Bo U U U H at0 (by omega) (by rw [if_pos rfl]; exact congrArg (fun z=>Value.int .u64 ((g) z)) (by omega)) (fun z _ hz=>by rw [if_neg hz]) ?_;rintro w H
             refine Ab (B4 U (AE U U ?_));refine AJ Bt Bo U U ?_;refine AP (Ce (j - 1) (fun z => .int .u64 (sw (g) (j) (j - 1) z)) (.int _ _) Bo U U U H at0 (by omega) (by rw [DV]; exact congrArg (fun z=>Value.int .u64 ((g) z)) (by omega)) (fun z _ hz=>by rw [DQ hz]) ?_);rintro w H;refine Ab (B4 U (BJ (A6 (Aa (Ax (Ad U (Bp U U ?_)))))));refine Af U (Ab (Aa ?_));exact ⟨(j - 1,sw g j (j - 1)),rfl,⟨congrArg (Value.int .i64) (by dsimp only; omega),trivial⟩,⟨⟨by dsimp only; omega,by dsimp only; omega,hj.2.2.step haj hj.2.1 h6⟩,hS.step j (j - 1) ⟨by omega,by omega⟩ ⟨by omega,by omega⟩,H⟩,by dsimp only; omega⟩
           ·intro h5;replace h5:=AN h5;refine Br (An (An (AK (Aa ?_))));exact ⟨g,rfl,trivial,hex fun _=>by omega,hS,H⟩
         ·intro h4;replace h4:=AN h4;refine Ap (Aa ?_);exact ⟨g1,rfl,trivial,fun x y hx hxy hy=>by omega,hS1,H⟩
        ·rintro g2 j4 w ⟨hO2,hS2,H⟩;refine Ae (Ad U (Ad U (Bp U U ?_)));refine C9 U U (Ab (Aa (Ao _ U ?_ ?_)))
         ·intro h4;replace h4:=AM h4;refine Ae (Ad U (Aw U U ?_));rw [show (i:Int)+1=((i+1:Nat):Int) by omega];refine Af U (Ab (Aa (A0 (Bv 10889035738934729630371528634823176356864 (α:=Nat × (Nat→Int)) (fun t=>[(10,.int .i64 (t.1:Int))]) (fun t w'=>(i+1≤t.1∧t.1≤b∧JF t.2 a i)∧Sw a b f t.2∧Ctx w0 [q] w' [(q,Bl 28 (CH t.2 m))]) (fun t=>b - t.1) (i+1,g2) U ?_ ?_ ?_))))
          ·exact ⟨rfl,trivial⟩
          ·exact ⟨⟨Nat.le_refl _,by dsimp only; omega,hO2⟩,hS2,H⟩
          ·rintro ⟨j,g⟩ j5 w ⟨hj,hS,H⟩; dsimp only at hj hS H; dsimp only;refine Au (Ae (Ad U (Ad U (Bj U U (Ab (Aa (Ao _ U ?_ ?_)))))))
           ·intro h5;replace h5:=AM h5;refine Ap (Aa (Au (A0 (Au (DZ 9 Bq (by kernel_rfl) U U ?_)))));refine Ch U (AY U (Bh Bt Bo U U ?_));refine BR B1 U (by rintro _ rfl; exact ((C2 (H.drew.get at0)))) ?_;refine Ch U (AY U (Ek U U ?_));refine Bh Bt Bo U U ?_;refine BR B1 U (by rintro _ rfl; exact ((C2 (H.drew.get at0)))) ?_;refine BQ ?_;replace H:=H.drew;refine Al Gf (Fi _ _ _) U ?_;rintro v w ⟨rfl,rfl⟩;rw [show ((j:Int) - 1).toNat=j - 1 by omega,Int.toNat_natCast];refine BF U (Ab (Aa (Ao _ U ?_ ?_)))
            ·intro h6;replace h6:=BG h6;refine Br (An (Fw U (An (An (AK (A6 (Aa (Ax (Ad U (Aw U U ?_))))))))));refine Af U (Ab (Aa ?_));exact ⟨(st+1,i,g),rfl,⟨rfl,rfl,trivial⟩,⟨by dsimp only; omega,⟨by dsimp only; omega,by dsimp only; omega,hj.2.2⟩,hS,H⟩,by dsimp only; omega⟩
            ·intro h6;replace h6:=BH h6;refine Ap (Aa (Fj [([0,1,2,3,4,5,6,7,8,9,10,11,12,13,14],15),([16],17)] (fun z=>z.heap[q]? = some (Bl 28 (CH (g) m))) [15,17] Bq (by kernel_rfl) (H.drew.get at0) ?_));refine AE U U ?_;refine B3 U (Bc U (B3 U (Bc U (Fb U U ?_))));refine B3 U (Bc U (Fb U U ?_));refine AJ Bt Bo U U ?_;refine Bw B1 U (fun _ hx=>(C2 hx)) ?_;refine B3 U (Bc U (AJ Bt Bo U U ?_));refine Bw B1 U (fun _ hx=>(C2 hx)) ?_;refine AJ Bt Bo U U ?_;refine AP ?_;replace H:=H.drew;refine Ce (j) (fun z => .int .u64 (if z=j then (g) (j - 1) else (g) z)) (.int _ _) Bo U U U H at0 (by omega) (by rw [if_pos rfl]; exact congrArg (fun z=>Value.int .u64 ((g) z)) (by omega)) (fun z _ hz=>by rw [if_neg hz]) ?_;rintro w H
             refine Ab (B4 U (AE U U ?_));refine AJ Bt Bo U U ?_;refine AP (Ce (j - 1) (fun z => .int .u64 (sw (g) (j) (j - 1) z)) (.int _ _) Bo U U U H at0 (by omega) (by rw [DV]; exact congrArg (fun z=>Value.int .u64 ((g) z)) (by omega)) (fun z _ hz=>by rw [DQ hz]) ?_);rintro w H;refine Ab (B4 U (BJ (A6 (Aa (Ax (Ad U (Aw U U ?_)))))));refine Af U (Ab (Aa ?_));exact ⟨(j+1,sw g j (j - 1)),rfl,⟨rfl,trivial⟩,⟨⟨by dsimp only; omega,by dsimp only; omega,fun x y hx hxy hy=>by dsimp only; rw [EE,EE]; exact hj.2.2 x y hx hxy hy⟩,hS.step j (j - 1) ⟨by omega,by omega⟩ ⟨by omega,by omega⟩,H⟩,by dsimp only; omega⟩
           ·intro h5;replace h5:=AN h5;refine Br (An (An (AK (A6 (Aa (Ax (Ad U (Aw U U ?_))))))));refine Af U (Ab (Aa ?_));exact ⟨(st+1,i,g),rfl,⟨rfl,rfl,trivial⟩,⟨by dsimp only; omega,⟨by dsimp only; omega,by dsimp only; omega,hj.2.2⟩,hS,H⟩,by dsimp only; omega⟩
         ·intro h4;replace h4:=AN h4;refine Ap (A6 (Aa (Ax (Ad U (Aw U U ?_)))));refine Af U (Ab (Aa ?_));exact ⟨(st+1,i,g2),rfl,⟨rfl,rfl,trivial⟩,⟨by dsimp only; omega,⟨by dsimp only; omega,by dsimp only; omega,hO2⟩,hS2,H⟩,by dsimp only; omega⟩
  ·intro h1;replace h1:=AN h1;refine Br (An (An (AK (Aa (Ae (Ai U (Ab (Aa (A5 (A9 (v:=(.bool _)) U U U ?_))))))))));exact ⟨false,g,rfl,hS0,(fun h=>by cases h),H⟩
end
end Go.Proofs.YtdagmpmdcgedcaaGreat
