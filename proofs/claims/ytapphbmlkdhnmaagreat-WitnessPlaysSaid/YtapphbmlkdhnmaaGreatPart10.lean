/- Part 10 of the proof. -/
import Derived.Test.YtapphbmlkdhnmaaGreatPart2
import Derived.Test.YtapphbmlkdhnmaaGreatPart7
import Derived.Test.YtapphbmlkdhnmaaGreatPart4
import Derived.Test.YtapphbmlkdhnmaaGreatPart9
/- The best flow: the walk. -/
namespace Go.Proofs.YtapphbmlkdhnmaaGreat
open Go.GV
attribute [local irreducible] AC W Wq Wt

theorem perm5 {α:Type} {a b c d e:α} {r:List α}:(a::b::c::d::e::r).Perm (d::a::e::b::c::r) :=
 (List.perm_middle (l₁:=[a,b,c]) (l₂:=e::r)).trans (((List.perm_middle (l₁:=[b,c]) (l₂:=r)).cons _).cons _)
/-- Numbers that are 0 beyond the table. -/
theorem R5 (f:Nat→Int) (n:Nat):∃ f1:Nat→Int,B9 f n=B9 f1 n∧flE (tab f1 n)=f1∧EB (tab f1 n)=f1∧∀ i,i<n→f1 i=f i:=by
 refine ⟨fun i=>if i<n then f i else 0,List.map_congr_left fun i hi=>by dsimp only; rw [if_pos (List.mem_range.1 hi)],?_,?_,fun i hi=>if_pos hi⟩
 all_goals
  funext i
  first | unfold flE | unfold EB
  rcases Nat.lt_or_ge i n with h | h
  ·rw [Bn (BZ h)]
  ·rw [List.getD_eq_getElem?_getD,List.getElem?_eq_none (by rw [CV]; exact h)];exact (if_neg (by omega)).symm
theorem XQ {g:Gr} {cap x y p:Nat→Int} (h:Fine g cap x p) (hy:∀ i,i<g.E→y i=x i):Fine g cap y p:=by
 refine ⟨fun i hi=>by rw [hy i hi]; exact h.in' i hi,fun a ha hr=>h.fit a ha ?_⟩;unfold CE at hr ⊢;rw [hy _ (by omega)] at hr;exact hr

theorem Aem {w:World} {bs bf bp bo:Nat} {N n:Nat} {ae:Option Addr} {ce:Nat} {kk:Int} {es:List Ed} {x p ov:Nat→Int} {full:List Value} {g:Gr} {cap:Nat→Int} (hn:es.length=n) (hg:grE (N:Int) es=g) (hcap:∀ i,i<n→Cv es i=cap i) (H0:Ctx w ((SL bs bf bp bo N ae n ce kk x p ov full).map (·.1)) w (SL bs bf bp bo N ae n ce kk x p ov full)) (O:OS ae n ce 4 full (es.flatMap Br))
  (hr:Ci (N:Int) es=true) (hF:Fine g cap x p) (hov:∀ v,v<N→ov v=BE g x v) (hpb:∀ v,v<N → -1073741824≤p v∧p v≤1073741824) :
  Ret Tryz.prog 120 #[ptr bs] w fun v w'=>∃ (b:Bool) (x' p' ov':Nat→Int) (kk':Int),v = .bool b∧Ctx w ((SL bs bf bp bo N ae n ce kk x p ov full).map (·.1)) w' (SL bs bf bp bo N ae n ce kk' x' p' ov' full)∧Fine g cap x' p'∧(∀ v,v<N→ov' v=BE g x' v)∧(∀ v,v<N → -1073741824≤p' v∧p' v≤1073741824) ∧
   (b=false→∀ v,v<N→BE g x' v≤0)∧(b=true→GR g x'+1≤GR g x):=by
 subst hn hg;obtain ⟨x1,hx1,hxn,-,hxe⟩:=R5 x es.length;obtain ⟨p1,hp1,-,hpn,hpe⟩:=R5 p N;have hgo:=Kj hr;have hsl:SL bs bf bp bo N ae es.length ce kk x p ov full=SL bs bf bp bo N ae es.length ce kk x1 p1 ov full:=by unfold SL; rw [hx1,hp1]
 have hF1:Fine (grE (N:Int) es) (Cv es) x1 p1:=Nl hgo (XQ (Ll hF hcap) hxe) hpe;have hov1:∀ v,BE (grE (N:Int) es) x1 v=BE (grE (N:Int) es) x v:=fun v=>Kf hxe v;have hex:GR (grE (N:Int) es) x1=GR (grE (N:Int) es) x:=CA fun v _=>by rw [hov1]
 rw [hsl] at H0 ⊢;refine Ret.mono (Z8 H0 O hr hF1 (fun v hv=>by rw [hov1]; exact hov v hv) (fun v hv=>by rw [hpe v hv]; exact hpb v hv) hxn hpn) ?_;rintro v w' ⟨b,x',p',ov',kk',h1,h2,h3,h4,h5,h6,h7⟩;exact ⟨b,x',p',ov',kk',h1,h2,Ll h3 fun i hi=>(hcap i hi).symm,h4,h5,h6,fun h=>by rw [← hex]; exact h7 h⟩
theorem XR (g:Gr) (v:Nat):BE g (fun _=>0) v=0:=by
 have:BE g (fun _=>0) v=B7 (fun _=>0) g.E:=CA fun i _=>by rw [Int.mul_zero]
 rw [this,GO]
structure PSt where
 j:Nat
 full:List Value
 x:Nat→Int
 p:Nat→Int
 ov:Nat→Int
 kk:Int
structure FSt where
 x:Nat→Int
 p:Nat→Int
 ov:Nat→Int
 kk:Int

set_option maxRecDepth 20000 in
set_option maxHeartbeats 8000000 in
theorem ZJ (N:Nat) (a:Option Addr) (c:Nat) (es:List Ed) (w:World) (R:Rd w a 4 Br es) (hr:Ci (N:Int) es=true) :
  Ret Tryz.prog 59 #[CT (N:Int) a es.length c] w fun v w'=>∃ (bf bp:Nat) (x p:Nat→Int) (k:Int),v = .tuple #[Nd (some ⟨bf,0,none⟩) (some ⟨bp,0,none⟩) es.length es.length N N,.int .i64 k,.int .i64 0]∧Fine (grE (N:Int) es) (Cv es) x p∧(∀ v,v<N→BE (grE (N:Int) es) x v=0)∧(∀ v,v<N → -1073741824≤p v∧p v≤1073741824)∧Ctx w [] w' [(bf,Bl 2 (B9 x es.length)),(bp,Bl 2 (B9 p N))]:=by
 obtain ⟨w0,rfl⟩:∃ w0,w0=w:=⟨_,rfl⟩;have H:=Ctx.start w0 [];obtain ⟨hN1,hN40,hn200,hall,-⟩:=Cb hr;have hI:I64 (N:Int):=by unfold I64; omega
 refine A2 (fn:=Tryz.f59) Tryz.func59 U [CT (N:Int) a es.length c] U (by kernel_rfl) ?_;refine Ag (Bt U [.int .i64 (N:Int),.slice a es.length c] (.agg _) U U H ?_);rintro b1 w - H;refine Bs U WV H ?_;rintro b2 w - H;refine Ad U U (Ad U U (Ab (Aa (Pp (Aq (Ag (Bh U C1 Cs U H at1 U (Al U P5 (KD (N:Int) a es.length c es _ (R.ext0 H.ext) U hI) U ?_))))))));rintro v w ⟨rfl,hx11⟩;replace H:=H.call hx11;refine Bv U U (Ab (Aa (Ay _ U ?_ ?_)))
 ·intro h1;replace h1:=Bo h1;rw [hr] at h1;cases h1
 ·intro h1;replace h1:=Bp h1;refine Ax (Aa (DC 8589918240 (α:=Nat × Nat × Nat × Nat × Nat × Nat × List Value) (fun z=>[(5,ptr z.1)]) (fun z w'=>OS (some ⟨z.2.2.2.2.1,0,none⟩) es.length z.2.2.2.2.2.1 4 z.2.2.2.2.2.2 (es.flatMap Br)∧Ctx w0 [] w' [(z.2.1,Bl 2 (B9 (fun _=>0) es.length)),(z.2.2.2.1,Bl 2 (B9 (fun _=>0) N)),(z.2.2.2.2.1,Bl 92 z.2.2.2.2.2.2),(z.1,Bl 170 (SC N (some ⟨z.2.2.2.2.1,0,none⟩) es.length z.2.2.2.2.2.1 z.2.1 z.2.2.1 z.2.2.2.1 0)),(z.2.2.1,Bl 2 (B9 (fun _=>0) N)),(b2,Bl 31 [.slice none 0 0,.slice none 0 0]),(b1,Bl 28 [.int .i64 (N:Int),.slice a es.length c])]) U ?_ ?_))
  ·skip
   have hb1:=H.get at1;refine UU (n:=19) (anc:=Gu) Bk.b (Aax es.length es) (fun i=>14+i) (Rj b1 N es.length a c) (Gv N es.length) (show Tryz.prog.follows .mixedOrders=true by kernel_rfl) U (by kernel_rfl) ?_ (fun i j _ _ h=>by have h:14+i=14+j:=h; omega) (fun i k b B=>sStab b1 N es.length a c i k b B) ?_ ?_
   ·intro k hk;have:k=0∨k=1∨k=2∨k=3∨k=4∨k=5∨k=6∨k=7∨k=8∨k=9∨k=10∨k=11∨k=12∨k=13∨k=14∨k=15∨k=16∨k=17∨k=18:=by omega
    simp [Gu];omega
   ·intro i o e' w' B hi ho hold hsl hx hbl hgd;have h4:e'.g 1=ptr b1:=(hold 1 fun j hj h=>by have h:1=14+j:=h; omega).trans rfl;have hc4:w'.heap[b1]? = some (Bl 28 [.int .i64 (N:Int),.slice a es.length c]):=hx.to (by exact hb1) (by simp);have hcs:i=0∨i=1∨i=2∨i=3∨i=4∨i=5∨i=6∨i=7∨i=8∨i=9∨i=10∨i=11∨i=12∨i=13∨i=14∨i=15∨i=16∨i=17∨i=18:=by omega
    have hpure:∀ {v:Value},Gv N es.length i=none→i≠5→Rj b1 N es.length a c i (IR B i default)=v→AQB Bk.b (Aax es.length es) (fun i=>14+i) (Rj b1 N es.length a c) (Gv N es.length) i e' w' B (put e' (some (14+i)) v) w':=fun h1 h5 h2=>⟨default,fun h=>absurd h h5,fun ob h=>(by rw [h1] at h; cases h),.refl _ _,by rw [h2]⟩
    rcases hcs with rfl | rfl | rfl | rfl | rfl | rfl | rfl | rfl | rfl | rfl | rfl | rfl | rfl | rfl | rfl | rfl | rfl | rfl | rfl
    ·cases Option.some.inj ho;exact Ah U (by kernel_rfl) h4 (Ab (hpure U (by decide) U))
    ·cases Option.some.inj ho;exact AY U BG (hsl 0 (by simp [Gu])) (by rw [Au hc4]; rfl) (Ab (hpure U (by decide) U))
    ·cases Option.some.inj ho;refine HC U BO B3 (Ctx.start w' []) fun b w2 H O=>?_;have hbb:=H.blk (b,_) (List.mem_cons_self ..);exact Ab ⟨⟨b,0,[]⟩,(fun h=>by cases h),fun ob h=>(by obtain rfl:=Option.some.inj h; exact ⟨(H.own _ (List.mem_cons_self ..)).elim (fun h=>by cases h) id,hbb⟩),H.ext,rfl⟩
    ·cases Option.some.inj ho;exact Ah U (by kernel_rfl) h4 (Ab (hpure U (by decide) U))
    ·cases Option.some.inj ho;exact AY U C5 (hsl 3 (by simp [Gu])) (by rw [Au hc4]; rfl) (Ab (hpure U (by decide) U))
    ·cases Option.some.inj ho;have h16:e'.g 16 = .slice (some ⟨(B 2).b,0,none⟩) 0 0:=hsl 2 (by simp [Gu]);have h18:e'.g 18 = .slice a es.length c:=hsl 4 (by simp [Gu])
     by_cases hn:es.length=0
     ·rw [hn] at h18;exact QB U BO BO B3 h16 h18 (Ab ⟨default,fun _ => .inl hn,fun ob h=>(by simp [Gv,hn] at h),.refl _ _,by simp [Rj,sQ,hn,IR]⟩)
     ·refine S1 U BO BO B3 QK Dn U (by decide) (es.flatMap Br) h16 h18 (by omega) (E9 fun _ _=>rfl) (Rd.app (R.ext0 ((H.ext.trans (Ext.drew [] _)).trans hx)) (fun _ _=>rfl) (by decide)) (by omega) fun b c' full' w2 hb hx2 hbl2 O2=>?_;exact Ab ⟨⟨b,c',full'⟩,fun _ => .inr O2,fun ob h=>(by simp only [Gv,hn] at h; simp at h; subst h; exact ⟨by dsimp only; omega,by dsimp only; rw [HI]; exact hbl2⟩),hx2,by simp [Rj,sQ,hn,IR]⟩
    ·cases Option.some.inj ho;refine Cp [.int .i64 (N:Int),.slice (some ⟨(sQ es.length B).b,0,none⟩) es.length (sQ es.length B).c] U pl_28 TY ?_ (Ab (hpure U (by decide) U));show Instr.fill _ _ [(0,e'.g 15),(1,e'.g 19)]=_;rw [show e'.g 15 = .int .i64 (N:Int) from hsl 1 (by simp [Gu]),show e'.g 19 = .slice (some ⟨(sQ es.length B).b,0,none⟩) es.length (sQ es.length B).c from hsl 5 (by simp [Gu])];rfl
    ·cases Option.some.inj ho;exact Ah U (by kernel_rfl) h4 (Ab (hpure U (by decide) U))
    ·cases Option.some.inj ho;exact AY U C5 (hsl 7 (by simp [Gu])) (by rw [Au hc4]; rfl) (Ab (hpure U (by decide) U))
    ·cases Option.some.inj ho;exact AV U BO (hsl 8 (by simp [Gu])) (Ab (hpure U (by decide) U))
    ·cases Option.some.inj ho;refine FC U AU Bz Kz FJ (hsl 9 (by simp [Gu])) (hsl 9 (by simp [Gu])) (by omega) (by omega) (by omega) (by omega) (Ctx.start w' []) fun b w2 hb H=>?_;have hbb:=H.get at0;rw [show ((es.length:Nat):Int).toNat=es.length from rfl,Ec] at hbb;exact Ab ⟨⟨b,0,[]⟩,(fun h=>by cases h),fun ob h=>(by obtain rfl:=Option.some.inj h; exact ⟨by dsimp only; omega,hbb⟩),H.ext,rfl⟩
    ·cases Option.some.inj ho;exact Ah U (by kernel_rfl) h4 (Ab (hpure U (by decide) U))
    ·cases Option.some.inj ho;exact AY U BG (hsl 11 (by simp [Gu])) (by rw [Au hc4]; rfl) (Ab (hpure U (by decide) U))
    ·cases Option.some.inj ho;refine FC U AU Bz Kz FJ (hsl 12 (by simp [Gu])) (hsl 12 (by simp [Gu])) (by omega) (by omega) (by omega) (by omega) (Ctx.start w' []) fun b w2 hb H=>?_;have hbb:=H.get at0;rw [show ((N:Nat):Int).toNat=N from rfl,Ec] at hbb;exact Ab ⟨⟨b,0,[]⟩,(fun h=>by cases h),fun ob h=>(by obtain rfl:=Option.some.inj h; exact ⟨by dsimp only; omega,hbb⟩),H.ext,rfl⟩
    ·cases Option.some.inj ho;exact Ah U (by kernel_rfl) h4 (Ab (hpure U (by decide) U))
    ·cases Option.some.inj ho;exact AY U BG (hsl 14 (by simp [Gu])) (by rw [Au hc4]; rfl) (Ab (hpure U (by decide) U))
    ·cases Option.some.inj ho;refine FC U AU Bz Kz FJ (hsl 15 (by simp [Gu])) (hsl 15 (by simp [Gu])) (by omega) (by omega) (by omega) (by omega) (Ctx.start w' []) fun b w2 hb H=>?_;have hbb:=H.get at0;rw [show ((N:Nat):Int).toNat=N from rfl,Ec] at hbb;exact Ab ⟨⟨b,0,[]⟩,(fun h=>by cases h),fun ob h=>(by obtain rfl:=Option.some.inj h; exact ⟨by dsimp only; omega,hbb⟩),H.ext,rfl⟩
    ·cases Option.some.inj ho;refine Cp (sSC N es.length B) U Adn Ad1 ?_ (Ab (hpure U (by decide) U));show Instr.fill _ _ [(0,e'.g 20),(1,e'.g 24),(2,e'.g 27),(3,e'.g 30)]=_;rw [show e'.g 20 = .agg #[.int .i64 (N:Int),.slice (some ⟨(sQ es.length B).b,0,none⟩) es.length (sQ es.length B).c] from hsl 6 (by simp [Gu]),show e'.g 24 = .slice (some ⟨(B 10).b,0,none⟩) es.length es.length from hsl 10 (by simp [Gu]),show e'.g 27 = .slice (some ⟨(B 13).b,0,none⟩) N N from hsl 13 (by simp [Gu]),show e'.g 30 = .slice (some ⟨(B 16).b,0,none⟩) N N from hsl 16 (by simp [Gu])];rfl
    ·cases Option.some.inj ho;refine Bt U (sSC N es.length B) (.agg _) (hsl 17 (by simp [Gu])) U (Ctx.start w' []) fun b w2 hb H=>?_;exact Ab ⟨⟨b,0,[]⟩,(fun h=>by cases h),fun ob h=>(by obtain rfl:=Option.some.inj h; exact ⟨by dsimp only; omega,H.get at0⟩),H.ext,rfl⟩
   ·intro o e' w' B ho A;have hl1:=B2 hb1;have hl2:=B2 (H.get at0);have h9:w.drew.heap.size=w.heap.size:=rfl
    obtain ⟨iq,hiq,hqb,hqh,hqo,O5⟩:∃ iq,(iq=2∨iq=5)∧(sQ es.length B).b=(B iq).b∧w'.heap[(B iq).b]? = some (Bl 92 (sQ es.length B).f)∧(Gv N es.length iq≠none)∧OS (some ⟨(sQ es.length B).b,0,none⟩) es.length (sQ es.length B).c 4 (sQ es.length B).f (es.flatMap Br):=by
     by_cases hn:es.length=0
     ·have he:es=[]:=List.eq_nil_of_length_eq_zero hn;have hsq:sQ es.length B=⟨(B 2).b,0,[]⟩:=if_pos hn;rw [hsq];refine ⟨2,.inl rfl,rfl,(A.blk 2 _ (by omega) trivial (show Gv N es.length 2=some _ from rfl)).1,by simp [Gv],?_⟩;subst he;exact ⟨(fun q hq=>by injection hq with hq; subst hq; rfl),(fun h=>by cases h),rfl,Nat.le_refl _,rfl⟩
     ·have hsq:sQ es.length B=B 5:=if_neg hn;have ho5:Gv N es.length 5=some fun B=>Bl 92 (B 5).f:=by simp [Gv,hn]
      rw [hsq];exact ⟨5,.inr rfl,rfl,(A.blk 5 _ (by omega) trivial ho5).1,by rw [ho5]; simp,(A.good 5 (by omega) trivial rfl).resolve_left hn⟩
    have hiq19:iq<19:=by omega
    have ob10:Gv N es.length 10≠none:=by simp [Gv]
    have ob13:Gv N es.length 13≠none:=by simp [Gv]
    have ob16:Gv N es.length 16≠none:=by simp [Gv]
    have ob18:Gv N es.length 18≠none:=by simp [Gv]
    have hne:=fun i j hi hj hij oi oj=>A.ne i j hi hj hij trivial trivial oi oj;have k10:=A.blk 10 _ (by omega) trivial (show Gv N es.length 10=some _ from rfl);have k13:=A.blk 13 _ (by omega) trivial (show Gv N es.length 13=some _ from rfl);have k16:=A.blk 16 _ (by omega) trivial (show Gv N es.length 16=some _ from rfl);have k18:=A.blk 18 _ (by omega) trivial (show Gv N es.length 18=some _ from rfl)
    have kq:w.heap.size≤(B iq).b:=by
     cases hoq:Gv N es.length iq with
     | none=>exact absurd hoq hqo
     | some ob=>exact (A.blk iq ob hiq19 trivial hoq).2
    have hs0:=H.size;have n10_16:=hne 10 16 (by omega) (by omega) (by omega) ob10 ob16;have n10_q:=hne 10 iq (by omega) hiq19 (by omega) ob10 hqo;have n10_18:=hne 10 18 (by omega) (by omega) (by omega) ob10 ob18;have n10_13:=hne 10 13 (by omega) (by omega) (by omega) ob10 ob13;have n16_q:=hne 16 iq (by omega) hiq19 (by omega) ob16 hqo;have n16_18:=hne 16 18 (by omega) (by omega) (by omega) ob16 ob18;have n16_13:=hne 16 13 (by omega) (by omega) (by omega) ob16 ob13;have nq_18:=hne iq 18 hiq19 (by omega) (by omega) hqo ob18;have nq_13:=hne iq 13 hiq19 (by omega) (by omega) hqo ob13;have n18_13:=hne 18 13 (by omega) (by omega) (by omega) ob18 ob13;have n12:=H.ne at0 at1 (by decide);have hb20:=(H.own _ (List.mem_cons_self ..)).elim (fun h=>by cases h) id;have hb10:=(H.own _ (List.mem_cons_of_mem _ (List.mem_cons_self ..))).elim (fun h=>by cases h) id
    have Hc:Ctx w0 [] w' [((B 10).b,Bl 2 (B9 (fun _=>0) es.length)),((B 16).b,Bl 2 (B9 (fun _=>0) N)),((B iq).b,Bl 92 (sQ es.length B).f),((B 18).b,Bl 170 (sSC N es.length B)),((B 13).b,Bl 2 (B9 (fun _=>0) N)),(b2,Bl 31 [.slice none 0 0,.slice none 0 0]),(b1,Bl 28 [.int .i64 (N:Int),.slice a es.length c])]:=by
     refine ⟨(H.ext.trans (Ext.drew [] _)).trans A.ext,fun x hx=>?_,?_,fun x hx => .inr ?_⟩
     ·simp only [List.mem_cons,List.not_mem_nil,or_false] at hx
      rcases hx with rfl | rfl | rfl | rfl | rfl | rfl | rfl
      ·exact k10.1
      ·exact k16.1
      ·exact hqh
      ·exact k18.1
      ·exact k13.1
      ·exact A.ext.to (H.get at0) (by simp)
      ·exact A.ext.to hb1 (by simp)
     ·simp only [List.pairwise_cons,List.mem_cons,List.not_mem_nil,or_false,forall_eq_or_imp,forall_eq,List.Pairwise.nil,false_imp_iff,implies_true,and_true];refine ⟨⟨n10_16,n10_q,n10_18,n10_13,?_,?_⟩,⟨n16_q,n16_18,n16_13,?_,?_⟩,⟨nq_18,nq_13,?_,?_⟩,⟨n18_13,?_,?_⟩,⟨?_,?_⟩,n12⟩ <;> omega
     ·simp only [List.mem_cons,List.not_mem_nil,or_false] at hx
      rcases hx with rfl | rfl | rfl | rfl | rfl | rfl | rfl <;> (dsimp only; omega)
    cases Option.some.inj ho;refine Cj U (ptr (B 18).b) (A.slot 18 (by omega) trivial) (Ab ⟨((B 18).b,(B 10).b,(B 13).b,(B 16).b,(sQ es.length B).b,(sQ es.length B).c,(sQ es.length B).f),A.ds,⟨rfl,trivial⟩,O5,?_⟩);dsimp only;rw [hqb];have hsc:sSC N es.length B=SC N (some ⟨(B iq).b,0,none⟩) es.length (sQ es.length B).c (B 10).b (B 13).b (B 16).b 0:=by unfold sSC; rw [hqb]
    rw [hsc] at Hc;exact Hc
  ·rintro ⟨bs,bf,bp,bo,q,ce,full⟩ j w ⟨O,H⟩; dsimp only at O H; dsimp only;obtain ⟨g,hg⟩:∃ g,g=grE (N:Int) es:=⟨_,rfl⟩;have hgE:g.E=es.length:=by rw [hg]; rfl
   have hgN:g.N=N:=by rw [hg]; rfl
   have hgo:g.Ok:=by rw [hg]; exact Kj hr
   have hcb:=Mf hr;rw [← hg];refine Ag (Ad U U (Ab (Aa (Aq (Ag (Ah U BD U (AA U C5 U H at6 U (AV U BO U (Ae U U (Ab (Aa ?_)))))))))));refine Av (Bd 72057525318451648 (α:=Nat × Nat × List Value) (fun t=>[(36,.int .i64 (t.1:Int)),(6,.int .i64 (t.2.1:Int))]) (fun t w'=>t.1≤es.length∧OS (some ⟨q,0,none⟩) es.length ce 4 t.2.2 ((esC es (I5 (Cv es) (fun _=>0) t.1)).flatMap Br)∧(∀ j,j<t.1→(Cv es j).toNat<2 ^ t.2.1)∧t.2.1≤64∧Ctx w0 [] w' [(bf,Bl 2 (B9 (fun _=>0) es.length)),(bo,Bl 2 (B9 (fun _=>0) N)),(q,Bl 92 t.2.2),(bs,Bl 170 (SC N (some ⟨q,0,none⟩) es.length ce bf bp bo 0)),(bp,Bl 2 (B9 (fun _=>0) N)),(b2,Bl 31 [.slice none 0 0,.slice none 0 0]),(b1,Bl 28 [.int .i64 (N:Int),.slice a es.length c])]) (fun t=>es.length - t.1) (0,0,full) U ?_ ?_ ?_)
   ·exact ⟨rfl,rfl,trivial⟩
   ·refine ⟨Nat.zero_le _,?_,fun j h=>absurd h (Nat.not_lt_zero _),by dsimp only; omega,H⟩;rw [JA (d:=Cv es) fun i _=>by unfold I5; rw [if_neg (Nat.not_lt_zero _)],Nn];exact O
   ·rintro ⟨i,m,full⟩ j w ⟨hi,O,hm,hm6,H⟩; dsimp only at hi O hm hm6 H; dsimp only;refine Ag (AO U U U (Ab (Aa (Aq (Ay _ U ?_ ?_)))))
    ·intro h2;replace h2:=AG h2;have hil:i<es.length:=by omega
     obtain ⟨e,he⟩:=AE hil;have hee:=CY (hall e (List.mem_of_getElem? he));obtain ⟨cc,hcc⟩:∃ cc:Nat,e.cap=cc:=⟨e.cap.toNat,by omega⟩;have henc:Br e=[.int .i64 e.f,.int .i64 e.t,.int .i64 (cc:Int),.int .i64 e.cost]:=by unfold Br; rw [hcc]
     have hOl:=O.len;have hOe:=O.le;refine Ax (Aa (Aq (Av (Ag (Ae U U (AX R U BO B3 U U (by omega) (by omega) (by rfl) ?_))))));refine Cd _ U DT B3 U U (Rd.rowE (R.ext0 H.ext) he henc U) ?_;refine Bs U Dn H ?_;rintro b8 w - H;refine Ad U U (BL U B3 U U U (by simp [B4]) H at0 U ?_);rintro w H;refine Ab (Aa (Ag (Ba U U (AZ U U (Ah U Gh U (Ah U BD U (AA U C5 U H at4 U (Ae U U (Bi U BO B3 U U (by omega) (by omega) ?_)))))))));refine Ah U CD U (BX (.int _ _) U Bz U U U H at3 (by omega) ?_);rintro w H;refine Ab (Aa (Aw (Ae U U (Ah U CD U (AA U Bx U H at0 U (Dh U U GN Da (by omega) (by omega) ?_))))));refine Al U W0 (Rh cc (by omega) _) U ?_;rintro v w ⟨r,rfl,hr1,hr2,-,rfl⟩;refine LO U U U ?_;refine Ad U U (Ab (A3 (Aa (Aw (Ao U U U (by omega) (by omega) ?_)))));refine Ae U U (Ab (Aa ?_));rw [show 0+((i:Int)).toNat*4+2=i*4+2 by omega] at H
     have O1:=OS.setf O (y:=edC es (I5 (Cv es) (fun _=>0) (i+1)) i) (j:=2) (v := .int .i64 0) (fun _=>rfl) (I4 (c:=I5 (Cv es) (fun _=>0) i) hil) (by decide) (by unfold edC Br I5; dsimp only; rw [if_pos (by omega)]; rfl);rw [Un rfl (fun j _ hj=>Uq hj)] at O1;have hce:Cv es i=(cc:Int):=by unfold Cv; rw [Bn he,hcc]
     refine ⟨(i+1,max m r,full.set (i*4+2) (.int .i64 0)),rfl,⟨rfl,congrArg (Value.int .i64) (by dsimp only; omega),trivial⟩,⟨by dsimp only; omega,O1,fun j hj=>?_,by dsimp only; omega,H.tail⟩,by dsimp only; omega⟩;dsimp only at hj ⊢
     by_cases ej:j=i
     ·subst ej;rw [hce];exact Nat.lt_of_lt_of_le (by omega) (Nat.pow_le_pow_right (by decide) (Nat.le_max_right m r))
     ·exact Nat.lt_of_lt_of_le (hm j (by omega)) (Nat.pow_le_pow_right (by decide) (Nat.le_max_left m r))
    ·intro h2;replace h2:=AH h2;obtain rfl:i=es.length:=by omega
     rw [JA (d:=FP es m) fun i hi=>by unfold I5 FP; rw [if_pos hi,Nat.div_eq_of_lt (hm i hi)]; rfl] at O;refine Bc (Aj (Aj (AD (Aa (Ag (Ae U U (Ad U U (Ab (Aa (Aq (Po (Aa (Aq (Av (Bd 147429837401600557568 (α:=PSt) (fun t=>[(9,.int .i64 (t.j:Int))]) (fun t w'=>t.j≤64∧OS (some ⟨q,0,none⟩) es.length ce 4 t.full ((esC es (FP es t.j)).flatMap Br)∧Fine g (FP es t.j) t.x t.p∧(∀ v,v<N→BE g t.x v=0)∧(∀ v,v<N→t.ov v=0)∧(∀ v,v<N → -1073741824≤t.p v∧t.p v≤1073741824)∧Ctx w0 [] w' [(bf,Bl 2 (B9 (t.x) es.length)),(bo,Bl 2 (B9 (t.ov) N)),(q,Bl 92 t.full),(bs,Bl 170 (SC N (some ⟨q,0,none⟩) es.length ce bf bp bo t.kk)),(bp,Bl 2 (B9 (t.p) N)),(b2,Bl 31 [.slice none 0 0,.slice none 0 0]),(b1,Bl 28 [.int .i64 (N:Int),.slice a es.length c])]) (fun t=>t.j) ⟨m,full,fun _=>0,fun _=>0,fun _=>0,0⟩ U ?_ ?_ ?_)))))))))))))))
     ·exact ⟨rfl,trivial⟩
     ·refine ⟨hm6,O,⟨fun i hi=>⟨Int.le_refl _,(Me hr m i (by omega)).1⟩,fun a ha hra=>?_⟩,fun v _=>XR g v,fun _ _=>rfl,fun _ _=>⟨by dsimp only; omega,by dsimp only; omega⟩,H⟩;exfalso;unfold CE at hra;have hai:a / 2<es.length:=by omega
      have hk0:FP es m (a / 2)=0:=by unfold FP; rw [Nat.div_eq_of_lt (hm _ hai)]; rfl
      dsimp only at hra;rw [hk0] at hra
      split at hra <;> omega
     ·rintro ⟨j,full,x,p,ov,kk⟩ jj w ⟨hj6,O,hF,hx0,hov,hpb,H⟩; dsimp only at hj6 O hF hx0 hov hpb H; dsimp only
      rcases j with _ | j
      ·skip
       refine Av (Aq (Ag (Ae U U (Bg U U U (by omega) (by omega) ?_))));refine Ad U U (Ab (Aa (Ag (Ae U U (AO U U U (Ab (Aa (Ay _ U ?_ ?_))))))))
       ·intro h3;replace h3:=AG h3;refine Bc (Aj (ER U (Aj (AD (Aa (CI [([0,1,2,3,4,5,6,7,8,9,10,11,12],13),([14],15)] (fun z=>z.heap[bs]? = some (Bl 170 (SC N (some ⟨q,0,none⟩) es.length ce bf bp bo kk))) [] B0 (by kernel_rfl) (H.drew.get at3) ?_))))));refine AL U U ?_;refine Dd U U (B6 U U (AJ U E7 U (BM U BC U (fun _ hx=>(by rw [Au hx]; rfl)) ?_)));refine Dd U U (B6 U U (AJ U E8 U (BM U BC U (fun _ hx=>(by rw [Au hx]; rfl)) ?_)));refine MB [.slice (some ⟨bf,0,none⟩) es.length es.length,.slice (some ⟨bp,0,none⟩) N N] U pl_31 WV U ?_;refine Dd U U (B6 U U (AJ U MS U (BM U BG U (fun _ hx=>(by rw [Au hx]; rfl)) ?_)));refine Bu ?_;replace H:=H.drew;refine BL U MX U U U (by simp [B4]) H at5 U ?_;rintro w H;refine Ab (BH (H.get at3) (AL U U ?_))
        refine Ft U U (Bu (Ad U U (Ab (BH (H.get at3) (BS (A9 (UG (YT U U U QJ MX H at5 U (show _=(.int _ _) from rfl) (show _=(.int _ _) from rfl) ?_))))))));refine ⟨bf,bp,x,p,kk,rfl,Ll hF fun i hi=>(Vl hr i (by omega)).symm,hx0,hpb,H.sub (fun y hy=>?_) ?_⟩
        ·simp only [List.mem_cons,List.not_mem_nil,or_false] at hy
         rcases hy with rfl | rfl
         ·exact List.mem_of_getElem? (i:=0) U
         ·exact List.mem_of_getElem? (i:=4) U
        ·simp only [List.pairwise_cons,List.mem_singleton,forall_eq,List.not_mem_nil,false_imp_iff,implies_true,List.Pairwise.nil,and_true];exact H.ne at0 at4 (by decide)
       ·intro h3;replace h3:=AH h3;omega
      ·skip
       refine Av (Aq (Ag (Ae U U (Bg U U U (by omega) (by omega) ?_))));rw [show ((j+1:Nat):Int) - 1=(j:Int) by omega];refine Ad U U (Ab (Aa (Ag (Ae U U (AO U U U (Ab (Aa (Ay _ U ?_ ?_))))))))
       ·intro h3;replace h3:=AG h3;omega
       ·intro h3;replace h3:=AH h3;have hF1:=Nb hF (cap':=FP es j) fun i _=>OA es j i;obtain ⟨x1,hx1⟩:∃ x1,x1=Jd g (FP es j) x p:=⟨_,rfl⟩;refine Ax (Aa (Ag (Ba U U (Bh U C1 Cs U H at6 U (Ae U U (Al U Abs (X3 (bf:=bf) (bo:=bo) (ae:=some ⟨q,0,none⟩) (Ctx.lend (L1:=[_,_,_]) (L2:=[_,_,_,_]) H) O (H.get at3) (Ga (L:=[_,_,_]) H.nd (x:=(bs,_)) (List.mem_of_getElem? (i:=0) U)) (H.get at4) (Ga (L:=[_,_,_]) H.nd (x:=(bp,_)) (List.mem_of_getElem? (i:=1) U)) (R.ext0 H.ext) (fun hne hm=>by have h7:=Rd.lt R hne (fun x _=>⟨_,rfl⟩) (by decide); have h8:=(Ctx.left (L:=[_,_,_]) (L':=[_,_,_,_]) H).own; obtain ⟨y,hy,he⟩:=List.mem_map.1 hm; rcases h8 y hy with h | h; cases h; omega) hr (by omega) (fun i _=>OA es j i) (by rw [← hg]; exact hF) (by rw [← hg]; exact hx0) hov hpb) U ?_))))));rintro rv w ⟨rfl,full',O',H2⟩;rw [← hg] at H2;replace H:=Ctx.back (L1:=[_,_,_]) (L2:=[_,_,_,_]) H H2;refine Ab (Aa (Av ?_))
        rw [← hx1] at hF1 H;refine Bd 110680464442257309696 (α:=FSt) (fun _=>[]) (fun t w'=>Fine g (FP es j) t.x t.p∧(∀ v,v<N→t.ov v=BE g t.x v)∧(∀ v,v<N → -1073741824≤t.p v∧t.p v≤1073741824)∧Ctx w0 [] w' [(bf,Bl 2 (B9 (t.x) es.length)),(bo,Bl 2 (B9 (t.ov) N)),(q,Bl 92 full'),(bs,Bl 170 (SC N (some ⟨q,0,none⟩) es.length ce bf bp bo t.kk)),(bp,Bl 2 (B9 (t.p) N)),(b2,Bl 31 [.slice none 0 0,.slice none 0 0]),(b1,Bl 28 [.int .i64 (N:Int),.slice a es.length c])]) (fun t=>(GR g t.x).toNat) ⟨x1,p,BE g x1,kk⟩ U ?_ ?_ ?_
        ·exact trivial
        ·exact ⟨hF1,fun _ _=>rfl,hpb,H⟩
        ·rintro ⟨x,p,ov,kk⟩ jj2 w ⟨hF,hov,hpb,H⟩; dsimp only at hF hov hpb H; dsimp only;refine Aq (Ag (Ba U U ?_));have Hq:=H.perm perm5;refine Al U Abt (Aem (bs:=bs) (bf:=bf) (bp:=bp) (bo:=bo) (N:=N) (n:=es.length) (ae:=some ⟨q,0,none⟩) (ce:=ce) (es:=esC es (FP es j)) (g:=g) (cap:=FP es j) (I3 es _) (by rw [grE_C,← hg]) (fun i hi=>Aeb hi) (Ctx.lend (L1:=[_,_,_,_,_]) (L2:=[_,_]) Hq) O' (Uo hr (Me hr j)) hF hov hpb) U ?_;rintro rv w ⟨b,x',p',ov',kk',rfl,H2,hF',hov',hpb',hb0,hb1⟩;replace H:=(Ctx.back (L1:=[_,_,_,_,_]) (L2:=[_,_]) Hq H2).perm perm5.symm;refine Ab (Aa (Ay _ U ?_ ?_))
         ·intro h4;refine Ax (Aa (Av (Ax (A3 (Aa ?_)))));have h5:=hb1 h4;have h6:=Va g x';exact ⟨⟨x',p',ov',kk'⟩,rfl,trivial,⟨hF',hov',hpb',H⟩,by dsimp only; omega⟩
         ·intro h4;refine Bc (Aj (Aj (AD (A3 (Aa ?_)))));have hz:∀ v,v<N→BE g x' v=0:=fun v hv=>QS hgo (fun u hu=>hb0 h4 u (by omega)) v (by omega);exact ⟨⟨j,full',x',p',ov',kk'⟩,rfl,⟨rfl,trivial⟩,⟨by dsimp only; omega,O',hF',hz,fun v hv=>(hov' v hv).trans (hz v hv),hpb',H⟩,by dsimp only; omega⟩

end Go.Proofs.YtapphbmlkdhnmaaGreat

/- Whether what flows is the best: plain law; rounds as they lie in memory. -/
namespace Go.Proofs.YtapphbmlkdhnmaaGreat
open Go.GV
attribute [local irreducible] AC W Wq Wt

theorem Uy {N:Int} {es:List Ed} {pot:List Int} (hr:Ci N es=true) {k:Nat} (hk:k<2*es.length):QV N es pot (k:Int)=(grE N es).len (EB pot) k:=by
 obtain ⟨e,he,hE,-⟩:=Mc hr hk;unfold QV Gr.len Gr.c Gr.u Gr.v;rw [hE];unfold Fe
 rcases Nat.mod_two_eq_zero_or_one k with h | h
 ·rw [if_pos h,if_pos h,if_pos h,XL he,gr_f he,gr_t he,if_neg (by omega)]; rfl
 ·rw [if_pos h,if_neg (show ¬ k % 2=0 by omega),if_neg (show ¬ k % 2=0 by omega),if_neg (show ¬ k % 2=0 by omega),XL he,gr_f he,gr_t he]; rfl
theorem R6 {N:Int} {es:List Ed} {fl:List Int} (hw:BF N es fl=true) {k:Nat} (hk:k<2*es.length):JP N es fl (k:Int)=CE (Cv es) (flE fl) k:=by
 obtain ⟨e,x,he,hx,hro,-⟩:=Md hw hk;rw [hro];unfold Jf CE Cv flE;rw [Bn he,Bn hx]
 rcases Nat.mod_two_eq_zero_or_one k with h | h
 ·rw [if_neg (by omega),if_pos h]
 ·rw [if_pos h,if_neg (by omega)]
theorem XS {N:Int} {es:List Ed} {fl:List Int} (hw:BF N es fl=true) (h:∀ v,v<N.toNat→BE (grE N es) (flE fl) v=0):E4 N es fl=true:=by
 unfold E4 JQ;rw [hw,Bool.true_and,List.all_eq_true];intro x hx;obtain ⟨i,hi⟩:=List.mem_iff_getElem?.1 hx;obtain ⟨h1,rfl⟩:=Nc hi;exact decide_eq_true (h i h1)
/-- What is accepted: what flows, whole numbers of the nodes, none too great, and they fit. -/
theorem HY {N:Int} {es:List Ed} {fl pot:List Int}:Et N es fl pot=true↔E4 N es fl=true∧EO N pot=true∧Fine (grE N es) (Cv es) (flE fl) (EB pot):=by
 have hE:(grE N es).E=es.length:=rfl;unfold Et;simp only [Bool.and_eq_true];constructor
 ·rintro ⟨hr,hf,hp,ht⟩;have hw:=(FK hf).1;obtain ⟨hl,-,hin⟩:=BN hw;refine ⟨hf,hp,fun i hi=>?_,fun a ha hro=>?_⟩
  ·rw [hE] at hi;obtain ⟨e,he⟩:=AE hi;obtain ⟨x,hx⟩:=AE (l:=fl) (i:=i) (by omega);unfold flE Cv;rw [Bn he,Bn hx];exact hin i e x he hx
  ·rw [hE] at ha;have h1:=List.all_eq_true.1 ht a (List.mem_range.2 ha);unfold Fj at h1;rw [Uy hr ha,R6 hw ha,decide_eq_true hro,Bool.and_true,Bool.not_eq_true',decide_eq_false_iff_not] at h1;omega
 ·rintro ⟨hf,hp,hF⟩;have hw:=(FK hf).1;obtain ⟨hl,hr,hin⟩:=BN hw;refine ⟨hr,hf,hp,List.all_eq_true.2 fun a ha=>?_⟩;rw [List.mem_range] at ha;unfold Fj;rw [Uy hr ha,R6 hw ha,Bool.not_eq_true']
  by_cases h:0<CE (Cv es) (flE fl) a
  ·rw [decide_eq_false (by have:=hF.fit a ha h; omega),Bool.false_and]
  ·rw [decide_eq_false h,Bool.and_false]
/-- What is told by the solver is accepted. -/
theorem Tu {N:Nat} {es:List Ed} {x p:Nat→Int} (hr:Ci (N:Int) es=true) (hF:Fine (grE (N:Int) es) (Cv es) x p) (ho:∀ v,v<N→BE (grE (N:Int) es) x v=0) (hp:∀ v,v<N → -1073741824≤p v∧p v≤1073741824):Et (N:Int) es (tab x es.length) (tab p N)=true:=by
 have hx:∀ i,i<es.length→flE (tab x es.length) i=x i:=fun i hi=>Zz hi;have hq:∀ v,v<N→EB (tab p N) v=p v:=fun v hv=>Bn (BZ hv)
 have hw:BF (N:Int) es (tab x es.length)=true:=by
  unfold BF;rw [hr,CV,decide_eq_true rfl];refine List.all_eq_true.2 fun b hb=>?_;obtain ⟨i,hi⟩:=List.mem_iff_getElem?.1 hb;have hl:=CO hi;rw [List.length_zipWith,CV] at hl;obtain ⟨e,he⟩:=AE (l:=es) (i:=i) (by omega);rw [Kg he (BZ (f:=x) (by omega))] at hi
  injection hi with hi
  have h1:=hF.in' i (by show i<es.length; omega);unfold Cv at h1;rw [Bn he] at h1;rw [← hi];show inB e (x i)=true;unfold inB;rw [decide_eq_true h1.1,decide_eq_true h1.2]; rfl
 refine HY.2 ⟨XS hw fun v hv=>?_,?_,Nl (Kj hr) (XQ hF hx) hq⟩
 ·rw [Kf hx];exact ho v hv
 ·unfold EO;rw [CV,decide_eq_true rfl,Bool.and_true,List.all_eq_true];intro y hy;obtain ⟨i,hi⟩:=List.mem_iff_getElem?.1 hy;obtain ⟨h1,rfl⟩:=Nc hi;have:=hp i h1;unfold JH;rw [Bool.and_eq_true,decide_eq_true_eq,decide_eq_true_eq];omega
/-! ### Rounds in memory -/
structure Rnd where
 no:Int
 day:Int
 cmp:Bool
 ids:List Int
 N:Int
 es:List Ed
 fl:List Int
 pot:List Int
structure RSl where
 aI:Option Addr
 cI:Nat
 aE:Option Addr
 cE:Nat
 aF:Option Addr
 cF:Nat
 aP:Option Addr
 cP:Nat
abbrev A8 (r:Rnd) (q:RSl):List Value:=[.int .u64 r.no,.int .i64 r.day,.bool r.cmp,.slice q.aI r.ids.length q.cI,.int .i64 r.N,.slice q.aE r.es.length q.cE,.slice q.aF r.fl.length q.cF,.slice q.aP r.pot.length q.cP]
structure RAt (w:World) (r:Rnd) (q:RSl):Prop where
 I:Rd w q.aI 1 U1 r.ids
 E:Rd w q.aE 4 Br r.es
 F:Rd w q.aF 1 I1 r.fl
 P:Rd w q.aP 1 I1 r.pot
 fc:r.fl.length≤q.cF
/-- A round's blocks are none of these. -/
structure ROff (q:RSl) (r:Rnd) (S:Nat→Prop):Prop where
 I:r.ids≠[]→¬ S (adr q.aI).block
 E:r.es≠[]→¬ S (adr q.aE).block
 F:r.fl≠[]→¬ S (adr q.aF).block
 P:r.pot≠[]→¬ S (adr q.aP).block
theorem RAt.ext {w w':World} {r:Rnd} {q:RSl} {S:List Nat} (h:RAt w r q) (he:Ext S w w') (hn:ROff q r (·∈S)):RAt w' r q :=
 ⟨h.I.ext' he hn.I,h.E.ext' he hn.E,h.F.ext' he hn.F,h.P.ext' he hn.P,h.fc⟩
theorem RAt.ext0 {w w':World} {r:Rnd} {q:RSl} (h:RAt w r q) (he:Ext [] w w'):RAt w' r q:=h.ext he ⟨fun _=>by simp,fun _=>by simp,fun _=>by simp,fun _=>by simp⟩
theorem ROff.mono {q:RSl} {r:Rnd} {S S':Nat→Prop} (h:ROff q r S) (hs:∀ x,S' x→S x):ROff q r S':=⟨fun g k=>h.I g (hs _ k),fun g k=>h.E g (hs _ k),fun g k=>h.F g (hs _ k),fun g k=>h.P g (hs _ k)⟩
theorem RAt.lt {w:World} {r:Rnd} {q:RSl} (h:RAt w r q):ROff q r (fun x=>w.heap.size≤x) :=
 ⟨fun g=>Nat.not_le.2 (h.I.lt' (fun _ _=>rfl) (by decide) g),fun g=>Nat.not_le.2 (h.E.lt' (fun _ _=>rfl) (by decide) g),fun g=>Nat.not_le.2 (h.F.lt' (fun _ _=>rfl) (by decide) g),fun g=>Nat.not_le.2 (h.P.lt' (fun _ _=>rfl) (by decide) g)⟩
/-- Accounts, to be read. -/
def AcAt (w:World) (t:TypeId) (bx:Nat) (acs:List Ac):Prop:=∃ a c,w.heap[bx]? = some (Bl t [.slice a acs.length c])∧Rd w a 2 encA acs
def DuAt (w:World) (bd:Nat) (ds:List Du):Prop:=∃ b nx o,w.heap[bd]? = some (Bl 123 (DU b nx))∧w.heap[b]? = some o∧Ka .u64 (dm ds) o
theorem AcAt.ext0 {w w':World} {t:TypeId} {bx:Nat} {acs:List Ac} (h:AcAt w t bx acs) (he:Ext [] w w'):AcAt w' t bx acs:=by
 obtain ⟨a,c,h1,h2⟩:=h;exact ⟨a,c,he.to h1 (by simp),h2.ext0 he⟩
theorem DuAt.ext0 {w w':World} {bd:Nat} {ds:List Du} (h:DuAt w bd ds) (he:Ext [] w w'):DuAt w' bd ds:=by
 obtain ⟨b,nx,o,h1,h2,h3⟩:=h;exact ⟨b,nx,o,he.to h1 (by simp),he.to h2 (by simp),h3⟩
end Go.Proofs.YtapphbmlkdhnmaaGreat

/- A round, planned: the walk. -/
namespace Go.Proofs.YtapphbmlkdhnmaaGreat
open Go.GV
attribute [local irreducible] AC W Wq Wt

/-- What a plan is. -/
structure PlanR (acs:List Ac) (ds:List Du) (net:Bool) (r:Rnd):Prop where
 no:r.no=0
 day:r.day=0
 cmp:r.cmp=net
 ids:r.ids=(opn ds).map Du.id
 N:r.N=((acs.length+1:Nat):Int)
 es:r.es=D9 (acs.map Hn) (opn ds) net
 chk:Et r.N r.es r.fl r.pot=true
def rnd0:List Value:=[.int .u64 0,.int .i64 0,.bool false,.slice none 0 0,.int .i64 0,.slice none 0 0,.slice none 0 0,.slice none 0 0]
def PlanRes (w:World) (acs:List Ac) (ds:List Du) (net:Bool) (v:Value) (w':World):Prop :=
 Ext [] w w'∧((Dy (acs.map Hn) ds=false∧v = .tuple #[.agg rnd0.toArray,.int .i64 1]) ∨
  (Dy (acs.map Hn) ds=true∧∃ r q,v = .tuple #[.agg (A8 r q).toArray,.int .i64 0]∧PlanR acs ds net r∧RAt w' r q∧ROff q r (fun x=>x<w.heap.size)))
end Go.Proofs.YtapphbmlkdhnmaaGreat

/- Whether a round is one of now: the walk. -/
namespace Go.Proofs.YtapphbmlkdhnmaaGreat
open Go.GV
attribute [local irreducible] AC W Wq Wt

/-- A round's net, as a call gives it. -/
def Aen (w:World) (rs:List Int) (ds:List Du) (net:Bool) (N:Int) (aE:Option Addr) (nE:Nat) (vI:Value) (code:Int):Prop :=
 (Dy rs ds=false∧code=1∧∃ aI nI cI,vI = .slice aI nI cI)∨(Dy rs ds=true∧code=0∧N=((rs.length+1:Nat):Int)∧nE=(D9 rs (opn ds) net).length∧Rd w aE 4 Br (D9 rs (opn ds) net)∧∃ aI cI,vI = .slice aI ((opn ds).map Du.id).length cI∧Rd w aI 1 U1 ((opn ds).map Du.id))
/-- A round that was made of accounts and dues, beside one that is held against it. -/
structure NowZ where
 b:Nat
 N:Int
 aE:Option Addr
 nE:Nat
 cE:Nat
 aI:Option Addr
 nI:Nat
 cI:Nat
 code:Int
def NowI (w0:World) (rs:List Int) (ds:List Du) (net:Bool) (b5:Nat) (o5:Obj) (z:NowZ) (w:World):Prop :=
 Ext [] w0 w∧w.heap[b5]? = some o5∧w.heap[z.b]? = some (Bl 28 [.int .i64 z.N,.slice z.aE z.nE z.cE])∧Aen w rs ds net z.N z.aE z.nE (.slice z.aI z.nI z.cI) z.code
def nowB (acs:List Ac) (ds:List Du) (r:Rnd):Bool :=
 Dy (acs.map Hn) ds && (decide (((acs.length+1:Nat):Int)=r.N) && (decide (D9 (acs.map Hn) (opn ds) r.cmp=r.es) && decide ((opn ds).map Du.id=r.ids)))
end Go.Proofs.YtapphbmlkdhnmaaGreat

/- A round's pays, one by one: the closure. -/
namespace Go.Proofs.YtapphbmlkdhnmaaGreat
open Go.GV
attribute [local irreducible] AC W Wq Wt

end Go.Proofs.YtapphbmlkdhnmaaGreat

/- A round, applied. -/
namespace Go.Proofs.YtapphbmlkdhnmaaGreat
open Go.GV
attribute [local irreducible] AC W Wq Wt

theorem BU {w:World} {b:Nat} {t:TypeId} {l:List Value} (h:w.heap[b]? = some (Bl t l)) (o:Nat) (l':List Value) (hl:(l.drop o).take l'.length=l'):∀ j v,l'[j]? = some v→w.cell? ⟨b,o+j,none⟩=some v:=fun j v hv=>by
 rw [Au h];have hj:=CO hv;rw [← hl,List.getElem?_take,if_pos hj,List.getElem?_drop] at hv;exact hv
theorem ROff.or {q:RSl} {r:Rnd} {S T:Nat→Prop} (h:ROff q r S) (k:ROff q r T):ROff q r (fun x=>S x∨T x) :=
 ⟨fun g x=>x.elim (h.I g) (k.I g),fun g x=>x.elim (h.E g) (k.E g),fun g x=>x.elim (h.F g) (k.F g),fun g x=>x.elim (h.P g) (k.P g)⟩
/-- What a right round says. -/
structure ApF (acs:List Ac) (ds:List Du) (r:Rnd):Prop where
 B:Bright (acs.map Hn) ds
 N:r.N=(((acs.map Hn).length+1:Nat):Int)
 es:r.es=D9 (acs.map Hn) (opn ds) r.cmp
 ids:r.ids=(opn ds).map Du.id
 pay:PayIn (opn ds) (r.fl.take (opn ds).length)
 len:r.fl.length=r.es.length
 by':∀ (k:Nat) (a:Ac),acs[k]? = some a→(r.cmp=true→byK (acs.map Hn) (opn ds) r.cmp r.fl k=0) ∧ -(Hn a)≤byK (acs.map Hn) (opn ds) r.cmp r.fl k∧byK (acs.map Hn) (opn ds) r.cmp r.fl k≤4503599627370496
 sum:B7 (byK (acs.map Hn) (opn ds) r.cmp r.fl) acs.length=0
 ok:Aaz ds ((opn ds).zip (r.fl.take (opn ds).length))
 all:payA ds ((opn ds).zip (r.fl.take (opn ds).length))=G0 ds (r.fl.take (opn ds).length)
/-- What applying a round answers, and leaves. -/
def XT (acs:List Ac) (ds:List Du) (r:Rnd):Int:=if Et r.N r.es r.fl r.pot=false then 1 else if nowB acs ds r=false then 3 else 0
def applyA (acs:List Ac) (ds:List Du) (r:Rnd):List Ac:=if XT acs ds r=0 then shA acs (tab (byK (acs.map Hn) (opn ds) r.cmp r.fl) acs.length) else acs
def applyD (acs:List Ac) (ds:List Du) (r:Rnd):List Du:=if XT acs ds r=0 then G0 ds (r.fl.take (opn ds).length) else ds
abbrev LX (bx:Nat) (a:Option Addr) (n c:Nat) (full:List Value) (bd b:Nat) (nx:Int) (o:Obj):List (Nat × Obj):=(bx,Bl 116 [.slice a n c])::(bd,Bl 123 (DU b nx))::(b,o)::ent a 64 full
structure AP7 where
 i:Nat
 o:Obj
end Go.Proofs.YtapphbmlkdhnmaaGreat

/- What a round keeps: plain law. -/
namespace Go.Proofs.YtapphbmlkdhnmaaGreat
open Go.GV
attribute [local irreducible] AC W Wq Wt

/-- How a due weighs in a bank's place. -/
def plc (k:Nat) (d:Du):Int:=one (d.to=(k:Int)) - one (d.fr=(k:Int))
theorem Lo {p q:Prop} [Decidable p] [Decidable q] (h:p↔q):one p=one q:=by
 by_cases hp:p
 ·rw [HQ hp,HQ (h.1 hp)]
 ·rw [Hl hp,Hl (fun hq=>hp (h.2 hq))]
/-- What a bank has, and is owed, less what it owes. -/
def placeN (acs:List Ac) (ds:List Du) (k:Nat):Int:=(acs.getD k a00).ba+EW (ds.map fun d=>plc k d*d.am)
theorem KL:∀ {ds:List Du} {xs:List Int} {e:Du},e∈G0 ds xs→∃ d∈ds,e.id=d.id
 | [],_,_,h=>by cases h
 | d::ds,[],e,h=>⟨e,h,rfl⟩
 | d::ds,x::xs,e,h=>by
  unfold G0 at h
  split at h
  ·rcases List.mem_cons.1 h with rfl | h
   ·exact ⟨_,List.mem_cons_self ..,rfl⟩
   ·obtain ⟨d',h1,h2⟩:=KL h;exact ⟨d',List.mem_cons_of_mem _ h1,h2⟩
  ·split at h
   ·obtain ⟨d',h1,h2⟩:=KL h;exact ⟨d',List.mem_cons_of_mem _ h1,h2⟩
   ·rcases List.mem_cons.1 h with rfl | h
    ·exact ⟨d,List.mem_cons_self ..,rfl⟩
    ·obtain ⟨d',h1,h2⟩:=KL h;exact ⟨d',List.mem_cons_of_mem _ h1,h2⟩
/-- How far the dues and what is left of them are gone through. -/
def MgI (ds left:List Du) (i j:Nat):Prop:=j≤left.length∧∃ xs,PayIn (opn (ds.drop i)) xs∧left.drop j=G0 (ds.drop i) xs
theorem MgI.start {ds:List Du} {xs:List Int} (h:PayIn (opn ds) xs):MgI ds (G0 ds xs) 0 0:=⟨Nat.zero_le _,xs,h,rfl⟩
theorem I8 {α:Type} {l:List α} {i:Nat} {x:α} (h:l[i]? = some x):l.drop i=x::l.drop (i+1):=by
 obtain ⟨h1,rfl⟩:=List.getElem?_eq_some_iff.1 h;exact List.drop_eq_getElem_cons h1
theorem OT {α:Type} {l m:List α} {j:Nat} {x:α} (h:l.drop j=x::m):l[j]? = some x∧l.drop (j+1)=m:=by
 have h1:(l.drop j)[0]? = some x:=by rw [h]; rfl
 rw [List.getElem?_drop,Nat.add_zero] at h1;refine ⟨h1,?_⟩;rw [I8 h1] at h;injection h
theorem MgI.step {ds left:List Du} {i j:Nat} {d:Du} (hs:(ds.map (·.id)).Pairwise (·<·)) (h:MgI ds left i j) (hd:ds[i]? = some d) (hp:1≤d.am) :
  (∃ e,left[j]? = some e∧e.id=d.id∧e.am≤d.am∧1≤e.am∧(d.held=true→e=d)∧MgI ds left (i+1) (j+1)) ∨
  (d.held=false∧(∀ e,left[j]? = some e→e.id≠d.id)∧MgI ds left (i+1) j):=by
 obtain ⟨hj,xs,hP,hl⟩:=h;rw [I8 hd] at hP hl;rw [Ru] at hP
 by_cases hh:d.held=true
 ·rw [if_pos hh] at hP
  have hl':left.drop j=d::G0 (ds.drop (i+1)) xs:=by
   rw [hl]; exact Tn hh _ _
  obtain ⟨g1,g2⟩:=OT hl';exact .inl ⟨d,g1,rfl,Int.le_refl _,hp,fun _=>rfl,CO g1,xs,hP,g2⟩
 ·rw [if_neg hh] at hP;obtain ⟨x,xs,rfl⟩:=PayIn.cons hP;obtain ⟨⟨h0,h1⟩,hP⟩:=PayIn.tail hP;rw [To hh] at hl
  by_cases hx:d.am=x
  ·rw [if_pos hx,List.nil_append] at hl;refine .inr ⟨by simpa using hh,fun e he hid=>?_,hj,xs,hP,hl⟩;have h3:=I8 he;rw [hl] at h3;obtain ⟨d',hd',hid'⟩:=KL (e:=e) (by rw [h3]; exact List.mem_cons_self ..);have hs':((ds.drop i).map (·.id)).Pairwise (·<·):=by rw [List.map_drop]; exact hs.drop
   rw [I8 hd,List.map_cons,List.pairwise_cons] at hs';have:=hs'.1 d'.id (List.mem_map_of_mem hd');omega
  ·rw [if_neg hx,List.cons_append,List.nil_append] at hl;obtain ⟨g1,g2⟩:=OT hl;exact .inl ⟨_,g1,rfl,by dsimp only; omega,by dsimp only; omega,fun h=>absurd h hh,CO g1,xs,hP,g2⟩
theorem MgI.ends {ds left:List Du} {j:Nat} (h:MgI ds left ds.length j):j=left.length:=by
 obtain ⟨hj,xs,-,hl⟩:=h;rw [List.drop_length] at hl;have:=congrArg List.length hl;rw [List.length_drop] at this;have h0:(G0 [] xs).length=0:=rfl;omega
end Go.Proofs.YtapphbmlkdhnmaaGreat

/- Nets that are the same but for the names: plain law of what a round is worth. -/
namespace Go.Proofs.YtapphbmlkdhnmaaGreat
open Go.GV
attribute [local irreducible] AC W Wq Wt

/-- A sum, gone through in another order. -/
theorem Uz {F:Nat→Int} {E:Nat} {s:Nat→Nat} (h1:∀ i,i<E→s i<E) (h2:∀ i,i<E→s (s i)=i):B7 (fun i=>F (s i)) E=B7 F E:=by
 have e1:B7 (fun i=>F (s i)) E=B7 (fun i=>B7 (fun j=>one (s i=j)*F j) E) E:=CA fun i hi=>(G3 F (h1 i hi)).symm;have e2:=MZ (fun i j=>one (s i=j)*F j) E E
 have e3:B7 (fun j=>B7 (fun i=>one (s i=j)*F j) E) E=B7 F E:=CA fun j hj=>by
  have:B7 (fun i=>one (s i=j)*F j) E=B7 (fun i=>one (s j=i)*F j) E:=CA fun i hi=>by
   rw [Lo (p:=s i=j) (q:=s j=i) ⟨fun h=>by rw [← h,h2 i hi],fun h=>by rw [← h,h2 j hj]⟩]
  rw [this];exact G3 (fun _=>F j) (h1 j hj)
 rw [e1,← e3];exact e2
/-- Two nets that are one but for the names of edges and nodes. -/
structure Twin (g g':Gr) (cap cap':Nat→Int) (s p:Nat→Nat):Prop where
 N:g'.N=g.N
 E:g'.E=g.E
 s1:∀ i,i<g.E→s i<g.E
 s2:∀ i,i<g.E→s (s i)=i
 p1:∀ v,v<g.N→p v<g.N
 p2:∀ v,v<g.N→p (p v)=v
 f:∀ i,i<g.E→g'.f (s i)=p (g.f i)
 t:∀ i,i<g.E→g'.t (s i)=p (g.t i)
 co:∀ i,i<g.E→g'.co (s i)=g.co i
 cap:∀ i,i<g.E→cap' (s i)=cap i
theorem Twin.symm {g g':Gr} {cap cap':Nat→Int} {s p:Nat→Nat} (hg':g'.Ok) (hg:g.Ok) (T:Twin g g' cap cap' s p):Twin g' g cap' cap s p :=
 ⟨T.N.symm,T.E.symm,fun i hi=>by rw [T.E] at hi ⊢; exact T.s1 i hi,fun i hi=>by rw [T.E] at hi; exact T.s2 i hi,
  fun v hv=>by rw [T.N] at hv ⊢; exact T.p1 v hv,fun v hv=>by rw [T.N] at hv; exact T.p2 v hv,
  fun i hi=>by
   rw [T.E] at hi;have h:=T.f (s i) (T.s1 i hi);rw [T.s2 i hi] at h
   rw [h,T.p2 _ (hg.f _ (T.s1 i hi))],
  fun i hi=>by
   rw [T.E] at hi;have h:=T.t (s i) (T.s1 i hi);rw [T.s2 i hi] at h
   rw [h,T.p2 _ (hg.t _ (T.s1 i hi))],
  fun i hi=>by
   rw [T.E] at hi;have h:=T.co (s i) (T.s1 i hi);rw [T.s2 i hi] at h
   exact h.symm,
  fun i hi=>by
   rw [T.E] at hi;have h:=T.cap (s i) (T.s1 i hi);rw [T.s2 i hi] at h
   exact h.symm⟩
theorem Twin.le {g g':Gr} {cap cap' x x' p':Nat→Int} {q:Nat→Int} {s p:Nat→Nat} (T:Twin g g' cap cap' s p) (hg:g.Ok) (h:Fine g cap x q) (h0:∀ v,v<g.N→BE g x v=0) (h':Fine g' cap' x' p') (h0':∀ v,v<g'.N→BE g' x' v=0):Hk g x≤Hk g' x':=by
 have hc:Hk g (fun i=>x' (s i))=Hk g' x':=by
  unfold Hk;rw [T.E,← Uz (F:=fun i=>x' i*g'.co i) T.s1 T.s2];exact CA fun i hi=>by rw [T.co i hi]
 rw [← hc];refine Fine.best hg h h0 (fun i hi=>?_) fun v hv=>?_
 ·have h1:=h'.in' (s i) (by rw [T.E]; exact T.s1 i hi);rw [T.cap i hi] at h1;exact h1
 ·have h1:=h0' (p v) (by rw [T.N]; exact T.p1 v hv);rw [← h1];unfold BE EM;rw [T.E,← Uz (F:=fun i=>(one (g'.t i=p v) - one (g'.f i=p v))*x' i) T.s1 T.s2];refine CA fun i hi=>?_;have hp:∀ u,u<g.N→(u=v↔p u=p v):=fun u hu=>⟨fun h=>by rw [h],fun h=>by rw [← T.p2 u hu,h,T.p2 v hv]⟩;rw [T.t i hi,T.f i hi,Lo (hp _ (hg.t i hi)),Lo (hp _ (hg.f i hi))]
theorem Twin.eq {g g':Gr} {cap cap' x x' p':Nat→Int} {q:Nat→Int} {s p:Nat→Nat} (T:Twin g g' cap cap' s p) (hg:g.Ok) (hg':g'.Ok) (h:Fine g cap x q) (h0:∀ v,v<g.N→BE g x v=0) (h':Fine g' cap' x' p') (h0':∀ v,v<g'.N→BE g' x' v=0):Hk g x=Hk g' x' :=
 Int.le_antisymm (T.le hg h h0 h' h0') ((T.symm hg' hg).le hg' h' h0' h h0)
/-- The dues, named the other way round. -/
def flip (n:Nat) (a b:Du):Du:={ b with id:=a.id,fr:=(n:Int) - 1 - b.fr,to:=(n:Int) - 1 - b.to }
def turnD (n:Nat) (ds:List Du):List Du:=List.zipWith (flip n) ds ds.reverse
def mirE (n:Nat) (e:Ed):Ed:={ e with f:=(n:Int) - 1 - e.f,t:=(n:Int) - 1 - e.t }
/-- Where an edge lies in the other one. -/
def sigN (n m i:Nat):Nat:=if i<m then m - 1 - i else m+(2*(n - 1 - (i - m) / 2)+(i - m) % 2)
def piN (n v:Nat):Nat:=if v<n then n - 1 - v else v
end Go.Proofs.YtapphbmlkdhnmaaGreat

/- What planned rounds are worth: plain law. -/
namespace Go.Proofs.YtapphbmlkdhnmaaGreat
open Go.GV
attribute [local irreducible] AC W Wq Wt

def costR (r:Rnd):Int:=Hk (grE r.N r.es) (flE r.fl)
theorem V7 {N:Int} {es:List Ed} {fl:List Int} (k:Nat):B7 (fun i=>flE fl i*(grE N es).co i) (k+1)=B7 (fun i=>flE fl i*(grE N es).co i) k+flE fl k*(grE N es).co k:=rfl
theorem R8 {N:Int} {es:List Ed} {fl:List Int} (hw:BF N es fl=true):∀ k,k≤es.length → -((Ei (es.take k):Nat):Int)≤B7 (fun i=>flE fl i*(grE N es).co i) k∧B7 (fun i=>flE fl i*(grE N es).co i) k≤((Ei (es.take k):Nat):Int)
 | 0,_=>by
  show -((0:Nat):Int)≤0∧(0:Int)≤((0:Nat):Int);omega
 | k+1,hk=>by
  have ih:=R8 hw k (by omega);obtain ⟨hl,-,hin⟩:=BN hw;obtain ⟨e,he⟩:=AE (l:=es) (i:=k) (by omega);obtain ⟨x,hx⟩:=AE (l:=fl) (i:=k) (by omega);have h1:=hin k e x he hx
  have hp:(x*e.cost).natAbs≤EX e:=by
   rw [Int.natAbs_mul];exact Nat.mul_le_mul_right _ (by omega)
  rw [V7,Ix he,XL he];unfold flE at ih ⊢;rw [Bn hx];obtain ⟨z,hz⟩:∃ z,z=x*e.cost:=⟨_,rfl⟩;rw [← hz] at hp ⊢;omega
theorem ZK {N:Int} {es:List Ed} {fl:List Int} (hw:BF N es fl=true) {k:Nat} (hk:k≤es.length) : -4611686018427387904≤B7 (fun i=>flE fl i*(grE N es).co i) k∧B7 (fun i=>flE fl i*(grE N es).co i) k≤4611686018427387904:=by
 have h1:=R8 hw k hk;have h2:=(Cb (BN hw).2.1).2.2.2.2;have h3:=Iy es k;omega
theorem PV {N:Int} {es:List Ed} {fl:List Int} (hw:BF N es fl=true) {i:Nat} {e:Ed} {x:Int} (he:es[i]? = some e) (hx:fl[i]? = some x) : -4611686018427387904≤e.cost*x∧e.cost*x≤4611686018427387904:=by
 have h1:=(BN hw).2.2 i e x he hx;have h2:=(Cb (BN hw).2.1).2.2.2.2;have h3:=Iy es (i+1);rw [Ix he] at h3
 have hp:(x*e.cost).natAbs≤EX e:=by
  rw [Int.natAbs_mul];exact Nat.mul_le_mul_right _ (by omega)
 rw [Int.mul_comm];omega
end Go.Proofs.YtapphbmlkdhnmaaGreat

/- Nets that are the same; whether a round is one of now, as the reference has it. -/
namespace Go.Proofs.YtapphbmlkdhnmaaGreat
open Go.GV
attribute [local irreducible] AC W Wq Wt

def OU (N M:Int) (xs ys:List Ed):Bool:=decide (N=M) && decide (xs=ys)
set_option maxRecDepth 20000 in
set_option maxHeartbeats 2000000 in
theorem Tv (N M:Int) (a b:Option Addr) (n c m d:Nat) (xs ys:List Ed) (w:World) (R:Rd w a 4 Br xs) (hn:xs.length=n) (hn2:n≤1000000) (Ry:Rd w b 4 Br ys) (hm:ys.length=m) (hm2:m≤1000000) :
  Ret Tryz.prog 19 #[CT N a n c,CT M b m d] w fun v w'=>v = .bool (OU N M xs ys)∧Ext [] w w':=by
 subst hn hm;obtain ⟨w0,rfl⟩:∃ w0,w0=w:=⟨_,rfl⟩;have H:=Ctx.start w0 [];refine A2 (fn:=Tryz.f19) Tryz.func19 U [CT N a xs.length c,CT M b ys.length d] U (by kernel_rfl) ?_;refine Ag (Bt U [.int .i64 N,.slice a xs.length c] (.agg _) U U H ?_);rintro b2 w - H;refine Bt U [.int .i64 M,.slice b ys.length d] (.agg _) U U H ?_;rintro b3 w - H;refine Ai U U (Ab (Aa (Aq (Ag (B5 (α:=Unit) 1048512 (fun _=>[(19,.bool (!(decide (N=M) && decide (xs.length=ys.length))))]) (fun _ w'=>Ctx w0 [] w' [(b3,Bl 28 [.int .i64 M,.slice b ys.length d]),(b2,Bl 28 [.int .i64 N,.slice a xs.length c])]) U ?_ ?_)))))
 ·refine Ah U Dj U (AA U BG U H at1 U (Ah U Dj U (AA U BG U H at0 U (CC U U U (Ak U U (A4 11 U ?_ ?_))))))
  ·intro h1;replace h1:=CK h1;refine Af U (Af U (Af U (Af U (Af U (Af U (Af U (An U U (.bool _) U (Ab ?_))))))));exact ⟨rfl,(),rfl,⟨congrArg Value.bool (by rw [Bool.eq_iff_iff]; simp_all; try omega),trivial⟩,H⟩
  ·intro h2;replace h2:=CL h2;refine Ah U BD U (AA U C5 U H at1 U (AV U BO U (Ah U BD U (AA U C5 U H at0 U (AV U BO U (CC U U U (A1 U U (.bool _) U (Ab ?_))))))));exact ⟨rfl,(),rfl,⟨congrArg Value.bool (by rw [Bool.eq_iff_iff]; simp_all; try omega),trivial⟩,H⟩
 rintro - j19 w H;refine Ay _ U ?_ ?_
 ·intro h1;replace h1:=Bo h1;refine Ag (Ai U U (Ab (Aa (A9 (Am (AF (v:=(.bool _)) U U U ?_))))));have h1':¬ (N=M∧xs.length=ys.length):=by simpa using h1
  refine ⟨congrArg Value.bool ?_,H.ext⟩;unfold OU
  by_cases h2:N=M
  ·rw [decide_eq_true h2,decide_eq_false (fun h=>h1' ⟨h2,by rw [h]⟩)]; rfl
  ·rw [decide_eq_false h2]; rfl
 ·intro h1;replace h1:=Bp h1;have h1':N=M∧xs.length=ys.length:=by simpa using h1
  have hsb:OU N M xs ys=decide (xs=ys):=by unfold OU; rw [decide_eq_true h1'.1]; rfl
  have hle:=h1'.2;rw [hsb];refine Ax (Aa (Aq (Ag (Ad U U (Ab (Aa (Av (Bd 274876858416 (α:=Nat) (fun i=>[(5,.int .i64 (i:Int))]) (fun i w'=>i≤xs.length∧Ctx w0 [] w' [(b3,Bl 28 [.int .i64 M,.slice b ys.length d]),(b2,Bl 28 [.int .i64 N,.slice a xs.length c])]∧∀ (k:Nat) (x y:Ed),k<i→xs[k]? = some x→ys[k]? = some y→x=y) (fun i=>xs.length - i) 0 U ?_ ?_ ?_))))))))
  ·exact ⟨rfl,trivial⟩
  ·exact ⟨Nat.zero_le _,H,fun k x y h=>absurd h (Nat.not_lt_zero _)⟩
  ·clear H;rintro i j w ⟨hi,H,hb⟩;refine Aq (Ag (Ae U U (Ah U BD U (AA U C5 U H at1 U (AV U BO U (AO U U U (Ab (Aa (Ay _ U ?_ ?_)))))))))
   ·intro h2;replace h2:=AG h2;obtain ⟨x,hx⟩:=AE (l:=xs) (i:=i) (by omega);obtain ⟨y,hy⟩:=AE (l:=ys) (i:=i) (by omega);refine Ax (Aa (Aq (Av (DQ (fun x=>x=_) B0 (by kernel_rfl) U ?_))));refine A7 U BD U (Ce U C5 U (by rintro _ rfl; exact H.drew) at1 U ?_);refine AN U U (BA R U BO B3 U U (by omega) (by omega) (by rfl) ?_);refine IB _ U DT B3 U U (by rintro _ rfl; exact ((R.ext0 H.drew.ext).row hx rfl)) ?_;refine A7 U BD U (Ce U C5 U (by rintro _ rfl; exact H.drew) at0 U ?_);refine AN U U (BA Ry U BO B3 U U (by omega) (by omega) (by rfl) ?_);refine IB _ U DT B3 U U (by rintro _ rfl; exact ((Ry.ext0 H.drew.ext).row hy rfl)) ?_;refine Aal (ks:=[true,true,true,true]) (xs:=Br x) (ys:=Br y) (decide (x=y)) U (by kernel_rfl) U U ⟨rfl,rfl,rfl,rfl,trivial⟩ (KG x y) ?_;refine Ca ?_;rintro _ rfl;replace H:=H.drew;refine Ay _ U ?_ ?_
    ·intro h3;refine Ag (Ai U U (Ab (Aa (A9 (AB (Am (Am (AB (Am (AF (v:=(.bool _)) U U U ?_))))))))));have hne:¬ x=y:=by simpa using h3
     exact ⟨congrArg Value.bool (decide_eq_false fun h=>by subst h; rw [hx] at hy; injection hy with hy; exact hne hy).symm,H.ext⟩
    ·intro h3;refine Ax (A3 (Aa (Aw (Ae U U (Ao U U U (by omega) (by omega) ?_)))));refine Ad U U (Ab (Aa ?_));have heq:x=y:=by simpa using h3
     refine ⟨i+1,rfl,⟨rfl,trivial⟩,⟨by omega,H,fun k x' y' hk hx' hy'=>?_⟩,by omega⟩
     rcases Nat.lt_or_ge k i with h7 | h7
     ·exact hb k x' y' h7 hx' hy'
     ·obtain rfl:k=i:=by omega
      rw [hx] at hx'; rw [hy] at hy';cases hx'; cases hy';exact heq
   ·intro h2;replace h2:=AH h2;refine Bc (Aj (Aj (AD (Aa (Ag (Ai U U (Ab (Aa (A9 (AF (v:=(.bool _)) U U U ?_))))))))));have hin:i=xs.length:=by omega
    rw [hin] at hb;exact ⟨congrArg Value.bool (decide_eq_true (ZD hle hb)).symm,H.ext⟩
/-- Dues of the reference, to be read. -/
def RdAt (w:World) (br:Nat) (ds:List Du):Prop:=∃ a c nx,w.heap[br]? = some (Bl 48 [.slice a ds.length c,.int .u64 nx])∧Rd w a 7 DW ds
theorem RdAt.ext0 {w w':World} {br:Nat} {ds:List Du} (h:RdAt w br ds) (he:Ext [] w w'):RdAt w' br ds:=by
 obtain ⟨a,c,nx,h1,h2⟩:=h;exact ⟨a,c,nx,he.to h1 (by simp),h2.ext0 he⟩
end Go.Proofs.YtapphbmlkdhnmaaGreat

/- A round, applied as the reference has it. -/
namespace Go.Proofs.YtapphbmlkdhnmaaGreat
open Go.GV
attribute [local irreducible] AC W Wq Wt

abbrev RDU (ad:Option Addr) (m cd:Nat) (nx:Int):Obj:=Bl 48 [.slice ad m cd,.int .u64 nx]
abbrev RX (ba:Nat) (a:Option Addr) (n c:Nat) (full:List Value) (br:Nat) (ad:Option Addr) (m cd:Nat) (nx:Int) (fd:List Value):List (Nat × Obj):=(ba,Bl 52 [.slice a n c])::(br,RDU ad m cd nx)::(ent ad 62 fd++ent a 64 full)
structure RP7 where
 i:Nat
 ad:Option Addr
 cd:Nat
 fd:List Value
end Go.Proofs.YtapphbmlkdhnmaaGreat

/- Accounts and dues, of the program's and of the reference: what the laws begin with. -/
namespace Go.Proofs.YtapphbmlkdhnmaaGreat
open Go.GV
attribute [local irreducible] AC W Wq Wt

/-- Accounts and dues, twice. -/
structure Four where
 bx:Nat
 a:Option Addr
 c:Nat
 full:List Value
 bd:Nat
 b:Nat
 o:Obj
 ba:Nat
 ra:Option Addr
 rc:Nat
 rfull:List Value
 br:Nat
 ad:Option Addr
 cd:Nat
 fd:List Value
def Four.L (z:Four) (acs:List Ac) (ds:List Du) (nx:Int):List (Nat × Obj):=LX z.bx z.a acs.length z.c z.full z.bd z.b nx z.o++RX z.ba z.ra acs.length z.rc z.rfull z.br z.ad ds.length z.cd nx z.fd
structure Four.Ok (z:Four) (acs:List Ac) (ds:List Du):Prop where
 O:OS z.a acs.length z.c 2 z.full (acs.flatMap encA)
 M:Ka .u64 (dm ds) z.o
 RO:OS z.ra acs.length z.rc 2 z.rfull (acs.flatMap encA)
 RD:OS z.ad ds.length z.cd 7 z.fd (ds.flatMap DW)
def Aa0 (acs:List Ac) (ds:List Du) (nx:Int):Bool:=decide (aofC acs=0) && decide (ofC ds nx=0)
def BothRes (w:World) (acs:List Ac) (ds:List Du) (nx:Int) (v:Value) (w':World):Prop :=
 (Aa0 acs ds nx=false∧v = .tuple #[.pointer none,.pointer none,.pointer none,.pointer none,.bool false]∧Ext [] w w') ∨
  (Aa0 acs ds nx=true∧∃ z:Four,v = .tuple #[ptr z.bx,ptr z.bd,ptr z.ba,ptr z.br,.bool true]∧z.Ok acs ds∧Ctx w [] w' (z.L acs ds nx))
end Go.Proofs.YtapphbmlkdhnmaaGreat

/- Plans and rounds among what else one holds; the chapter's example. -/
namespace Go.Proofs.YtapphbmlkdhnmaaGreat
open Go.GV
attribute [local irreducible] AC W Wq Wt

theorem Tw {α:Type} (B L R:List α):(B++(L++R)).Perm (L++(B++R)):=by
 classical exact List.perm_iff_count.2 fun x=>by simp only [List.count_append]; omega
theorem Ctx.mid {w0 w w':World} {S:List Nat} {B L L' R:List (Nat × Obj)} (H:Ctx w0 S w (B++(L++R))) (H':Ctx w (L.map (·.1)) w' L'):Ctx w0 S w' (B++(L'++R)) :=
 (Ctx.back (H.perm (Tw B L R)) H').perm (Tw B L' R).symm
theorem Ctx.in' {w0 w:World} {S:List Nat} {B L R:List (Nat × Obj)} (H:Ctx w0 S w (B++(L++R))):Ctx w (L.map (·.1)) w L:=Ctx.lend (H.perm (Tw B L R))
theorem LX.du {bx:Nat} {a:Option Addr} {n c:Nat} {full:List Value} {bd b:Nat} {nx:Int} {o:Obj} {ds:List Du} {w0 w:World} {S:List Nat} (H:Ctx w0 S w (LX bx a n c full bd b nx o)) (hM:Ka .u64 (dm ds) o):DuAt w bd ds :=
 ⟨b,nx,o,H.get at1,H.get at2,hM⟩
theorem RX.du {ba:Nat} {a:Option Addr} {n c:Nat} {full:List Value} {br:Nat} {ad:Option Addr} {cd:Nat} {nx:Int} {fd:List Value} {ds:List Du} {w0 w:World} {S:List Nat} (H:Ctx w0 S w (RX ba a n c full br ad ds.length cd nx fd)) (O:OS ad ds.length cd 7 fd (ds.flatMap DW)):RdAt w br ds :=
 ⟨ad,cd,nx,H.get at1,OS.rd O (fun x hx=>H.blk x (List.mem_cons_of_mem _ (List.mem_cons_of_mem _ (List.mem_append_left _ hx)))) (fun _ _=>rfl) (by decide)⟩
theorem ROff.old {w0 w:World} {S:List Nat} {L:List (Nat × Obj)} {q:RSl} {r:Rnd} (H:Ctx w0 S w L) (h:ROff q r (fun x=>x<w.heap.size)):ROff q r (·∈L.map (·.1)) :=
 h.mono fun x hx=>by
  obtain ⟨y,hy,rfl⟩:=List.mem_map.1 hx;exact B2 (H.blk y hy)
/-- Limits of a round that is held. -/
structure RBnd (r:Rnd):Prop where
 N:I64 r.N
 es:r.es.length≤1000000
 ids:r.ids.length≤1000000
 fl:r.fl.length≤1000000
 pot:r.pot.length≤1000000
/-! ### The example -/
abbrev xA0:List Ac:=[⟨5,0⟩,⟨0,0⟩]
abbrev xA1:List Ac:=[⟨0,0⟩,⟨5,0⟩]
abbrev xD0:List Du:=[⟨1,0,1,9,1,1,false⟩]
abbrev xD1:List Du:=[⟨1,0,1,4,1,1,false⟩]
abbrev xE0:List Ed:=[⟨0,1,9,-1⟩,⟨2,0,5,0⟩,⟨0,2,4503599627370496,0⟩,⟨2,1,0,0⟩,⟨1,2,4503599627370496,0⟩]
end Go.Proofs.YtapphbmlkdhnmaaGreat

/- Numbers of a slice, one by one, gathered and sorted. -/
namespace Go.Proofs.YtapphbmlkdhnmaaGreat
open Go.GV
attribute [local irreducible] AC W Wq Wt

/-- A slice in a variable of its own. -/
structure ValK (b:Nat) (a:Option Addr) (n c:Nat) (xs:List Int) (w:World):Prop where
 h:w.heap[b]? = some (Bl 25 [.slice a n c])
 R:Rd w a 1 U1 xs
theorem ValK.ext {b:Nat} {a:Option Addr} {n c:Nat} {xs:List Int} {w w':World} {S:List Nat} (K:ValK b a n c xs w) (hx:Ext S w w') (h1:b∉S) (h2:xs≠[]→(adr a).block∉S):ValK b a n c xs w':=⟨hx.to K.h h1,K.R.ext' hx h2⟩
def U0 (bk:Nat):Value := .func (.func 185) #[] #[ptr bk]
set_option maxRecDepth 20000 in
theorem XU {b:Nat} {a:Option Addr} {n c:Nat} {xs:List Int} (hn:xs.length=n) (hn2:n≤1000000):MD Tryz.prog 185 #[ptr b] [] (fun _ w=>ValK b a n c xs w) (xs.map fun x=>[.int .u64 x]):=by
 subst hn;intro l w J E hJ0 hJs hEs hK hY;obtain ⟨M0,hJ0⟩:=hJ0;obtain ⟨w0,rfl⟩:∃ w0,w0=w:=⟨_,rfl⟩;refine A2 (fn:=Tryz.f185) Tryz.func185 U [.func (.yield l) #[] #[],.pointer (some ⟨b,0,none⟩)] U (by kernel_rfl) ?_;have K0:=(hK _ _ _ hJ0).2;have H:=Ctx.start w0 [];refine Ag (AY U DS U ((by rw [Au K0.h]; rfl)) ?_);refine AV U Bf U (Ae U U (Ab (Aa (Av (Bd 65424 (α:=Nat) (fun i=>[(7,.int .i64 (i:Int))]) (fun i w'=>i≤xs.length∧∃ M,J i M w') (fun i=>xs.length - i) 0 U ?_ ?_ ?_)))))
 ·exact ⟨rfl,trivial⟩
 ·exact ⟨Nat.zero_le _,M0,hJ0⟩
 ·clear H;rintro i j w ⟨hi,M,hJ⟩;have R:=(hK _ _ _ hJ).2.R;obtain ⟨w1,rfl⟩:∃ w1,w1=w:=⟨_,rfl⟩;have H:=Ctx.start w1 [];refine Ag (AO U U U (Ab (Aa (Aq (Ay _ U ?_ ?_)))))
  ·intro h1;replace h1:=AG h1;obtain ⟨x,hx⟩:=AE (l:=xs) (i:=i) (by omega);refine Ax (Aa (Aq (Av (Ag (AX R U Bf Be U U (by omega) (by omega) (by rfl) ?_)))));refine AY U BR U ((R.fld hx U (j:=0) U)) ?_;refine Ad U U (Ab (Aa (Ag (BP U (.func _ _ _) U ?_))));refine Ae U U ?_;have hY1:=hY i [.int .u64 x] M _ (by rw [List.getElem?_map,hx]; rfl) (hJs _ _ _ _ hJ H.ext);refine Gg (vs:=[.int .u64 x]) U U hY1 U ?_;rintro u w hu;clear H;obtain ⟨bb,rfl,hu1,hu0⟩:∃ bb,u = .bool bb∧(bb=true→∃ M,J (i+1) M w)∧(bb=false→E w):=hu.elim (fun h=>⟨true,h.1,fun _=>let ⟨M',h1,_⟩:=h.2; ⟨M',h1⟩,fun h=>by cases h⟩) (fun h=>⟨false,h.1,(fun h=>by cases h),fun _=>h.2⟩);refine Bv U U (Ab (Aa (Ay _ U ?_ ?_)))
   ·intro h2;replace h2:=Bo h2;refine A9 (AB (Am (Am (AB (Fg U U ?_)))));exact .inr (hu0 (by simpa using h2))
   ·intro h2;replace h2:=Bp h2;refine Ax (A3 (Aa (Aw (Ao U U U (by omega) (by omega) ?_))));refine Ae U U (Ab (Aa ?_));exact ⟨i+1,rfl,⟨rfl,trivial⟩,⟨by omega,hu1 (by simpa using h2)⟩,by omega⟩
  ·intro h1;replace h1:=AH h1;obtain rfl:i=xs.length:=by omega
   refine Bc (Aj (Aj (AD (Db U U ?_))));exact .inl ⟨M,by rw [List.length_map]; exact hJ⟩
theorem V8 (a:Option Addr) (n c:Nat) (w:World):Ret Tryz.prog 153 #[.slice a n c] w fun v w'=>∃ bk,v=U0 bk∧w'.heap[bk]? = some (Bl 25 [.slice a n c])∧w.heap.size≤bk∧Ext [] w w':=by
 obtain ⟨w0,rfl⟩:∃ w0,w0=w:=⟨_,rfl⟩;have H:=Ctx.start w0 [];refine A2 (fn:=Tryz.f153) Tryz.func153 U [.slice a n c] U (by kernel_rfl) ?_;refine Ag (Bt U _ (.slice _ _ _) U U H ?_);rintro b1 w - H;refine Cj U .nilFunc U ?_;refine Ab (Aa (Ag (C9 U [.pointer _] U (Cj U (.func _ _ _) U ?_))));refine Ab (Aa (A9 (AF (v:=(.func _ _ _)) U U U ?_)));exact ⟨_,rfl,H.get at0,(H.own _ (List.mem_cons_self ..)).elim (fun h=>by cases h) id,H.ext⟩
/-- What the rounds leave. -/
def apvJ (w0:World) (bk:Nat) (a0:Option Addr) (n0 c0:Nat) (xs:List Int) (bb k:Nat) (i:Nat) (M:Mt) (w:World):Prop :=
 ∃ a c full,(M=fun y=>y∈((bb,Bl 25 [.slice a i c])::ent a 24 full).map (·.1))∧Ctx w0 [] w ((bb,Bl 25 [.slice a i c])::ent a 24 full) ∧
  OS a i c 1 full ((xs.take i).map F1)∧(∀ x∈full,∃ z,x=F1 z)∧ValK bk a0 n0 c0 xs w∧∀ y∈((bb,Bl 25 [.slice a i c])::ent a 24 full).map (·.1),y≠k∧y≠k+1
set_option maxRecDepth 20000 in
set_option maxHeartbeats 2000000 in
theorem Tx {bk:Nat} {a0:Option Addr} {n0 c0:Nat} {xs:List Int} (hn:xs.length=n0) (hm:n0≤1000000) (w:World) (K:ValK bk a0 n0 c0 xs w) :
  Ret Tryz.prog 173 #[.slice none 0 0,U0 bk] w fun v w'=>FreshU w w' v xs:=by
 obtain ⟨w0,rfl⟩:∃ w0,w0=w:=⟨_,rfl⟩;have H:=Ctx.start w0 [];have lk:=B2 K.h;have lR:=K.R.lt' (fun _ _=>rfl) (by decide);refine G5 (fn:=Tryz.f173) Tryz.func173 U [.slice none 0 0,.func (.func 185) #[] #[.pointer (some ⟨bk,0,none⟩)]] U (by kernel_rfl) ?_;refine Ag (Bt U _ (.slice _ _ _) U U H ?_);rintro b2 w - H;refine A5 U U (Ab (Aa (Aq (Ag (BP U (.func _ _ _) U ?_)))));refine Ab (Aa (Av ?_));obtain ⟨ws,rfl⟩:∃ z,z=w:=⟨_,rfl⟩;have hb2:=(H.own _ (List.mem_cons_self ..)).elim (fun h=>by cases h) id;have l2:=H.lt at0;have hsz:=H.size;dsimp only at hb2;have K2:ValK bk a0 n0 c0 xs ws:=K.ext H.ext (by simp) (by simp)
 refine Kw (gf:=185) U Acu (XU (b:=bk) (a:=a0) (c:=c0) hn hm) (by kernel_rfl) (by kernel_rfl) (fun v hv=>by obtain ⟨p,-,rfl⟩:=List.mem_map.1 hv; rfl)
  (apvJ w0 bk a0 n0 c0 xs b2 ws.heap.size) (fun _=>False) (by simp)
  (fun w2 hx2 _=>⟨_,none,0,[],rfl,H.call hx2,OS.nil,by simp,K2.ext hx2 (by simp) (by simp),by simp [ent]; omega⟩)
  (fun i M w' w'' hJ hx=>?_) (fun _ _ h _=>h) (fun i M w' hJ=>?_) ?_ ?_ (fun _ h _=>h.elim)
 ·obtain ⟨a,c,full,hMM,HJ,O,Z,KJ,hne⟩:=hJ;refine ⟨a,c,full,hMM,HJ.step hx (fun y hy hy2=>?_) (fun x hx => .inr ?_),O,Z,KJ.ext hx (fun h=>?_) (fun hne' h=>?_),hne⟩
  ·have:=hne _ (List.mem_map_of_mem (f:=(·.1)) hy);simp only [List.mem_cons,List.not_mem_nil,or_false] at hy2;omega
  ·simp only [List.mem_cons,List.not_mem_nil,or_false] at hx;omega
  ·simp only [List.mem_cons,List.not_mem_nil,or_false] at h;omega
  ·have:=lR hne';simp only [List.mem_cons,List.not_mem_nil,or_false] at h;omega
 ·obtain ⟨a,c,full,hMM,HJ,O,Z,KJ,hne⟩:=hJ;refine ⟨fun x hx=>?_,KJ⟩;rw [hMM] at hx;obtain ⟨y,hy,rfl⟩:=List.mem_map.1 hx;exact ⟨B2 (HJ.blk y hy),hne _ hx⟩
 ·rintro i v M w hxv ⟨a,c,full,rfl,HJ,O,Z,KJ,hne⟩ hsz2;rw [List.getElem?_map] at hxv;obtain ⟨x,hxi,rfl⟩:=Option.map_eq_some_iff.1 hxv;have hil:=CO hxi;obtain ⟨w1,rfl⟩:∃ z,z=w:=⟨_,rfl⟩;refine Aw (Ad U U (Ab ?_));refine ⟨Ext.refl _ _,fun wB hxB=>?_⟩;have HB:=HJ.step hxB (fun y hy h=>(hne _ (List.mem_map_of_mem (f:=(·.1)) hy)).2 (List.mem_singleton.1 h)) (fun z hz => .inr (by rw [List.mem_singleton.1 hz]; omega));have KB:ValK bk a0 n0 c0 xs wB:=KJ.ext hxB (by rw [List.mem_singleton]; omega) (fun hne'=>by have:=lR hne'; rw [List.mem_singleton]; omega)
  have hown:∀ y∈((b2,Bl 25 [.slice a i c])::ent a 24 full).map (·.1),w0.heap.size≤y:=fun y hy=>by
   obtain ⟨z,hz,rfl⟩:=List.mem_map.1 hy;exact (HJ.own z hz).elim (fun h=>by cases h) id
  have hsB:=hxB.size;obtain ⟨w2,rfl⟩:∃ z,z=wB:=⟨_,rfl⟩;rw [← List.append_nil ((b2,Bl 25 [.slice a i c])::ent a 24 full)] at HB;have H:=Ctx.lend (L1:=(b2,Bl 25 [.slice a i c])::ent a 24 full) (L2:=[]) HB;obtain ⟨SS,hSS⟩:∃ SS,SS=((b2,Bl 25 [.slice a i c])::ent a 24 full).map (·.1):=⟨_,rfl⟩;rw [← hSS] at H;refine Av (Aw (AA U DS U H at0 U (Ae U U (D4 _ (.int _ _) U Bf Be K6 U (by decide) (by decide) U U U H ?_))));rintro b10 w - H;refine QF (L:=[_]) U Bf Bf Be TT K6 U (by decide) U U H O U (by simp [B4]) (by omega) ?_;rintro a' c' full' w H O Z2;refine BX (.slice _ _ _) U WS U U U H at0 (by (simp; done)) ?_;rintro w H;refine Ab (A3 ?_);rw [hSS] at H;have HE:=H.ext
  refine ⟨_,⟨a',c',full',rfl,by rw [← List.append_nil (_::ent a' _ full')]; exact Ctx.back HB H,by rw [D5 hxi,List.map_append]; exact O,fun x hx=>?_,KB.ext HE (fun h=>by have:=hown _ h; omega) (fun hne' h=>by have:=hown _ h; have:=lR hne'; omega),fun y hy=>?_⟩,fun y hy=>?_,_,HE,fun y hy => .inl hy⟩
  ·rcases Z2 x hx with h | h | h
   ·exact Z x h
   ·exact ⟨_,List.mem_singleton.1 h⟩
   ·exact ⟨_,List.mem_singleton.1 h⟩
  ·obtain ⟨z,hz,rfl⟩:=List.mem_map.1 hy
   rcases H.own z hz with h | h
   ·exact hne _ h
   ·omega
  ·obtain ⟨z,hz,rfl⟩:=List.mem_map.1 hy;exact (H.own z hz).imp id fun h=>by omega
 ·rintro M w ⟨a,c,full,rfl,HJ,O,Z,KJ,hne⟩ hD;rw [List.length_map] at HJ O hne;rw [List.take_length] at O;have H:=HJ;refine A3 (Aa (Ag (AA U DS U H at0 U (A5 U U (Ab (Aa (A9 (Kv (v:=(.slice _ _ _)) U U (G6 hD U fun wF hxF=>?_)))))))));have HF:=H.step hxF (fun y hy h=>(hne _ (List.mem_map_of_mem (f:=(·.1)) hy)).1 (List.mem_singleton.1 h)) (fun z hz => .inr (by rw [List.mem_singleton.1 hz]; omega));refine ⟨⟨a,xs.length,c,full,rfl,O,Z,fun x hx=>⟨HF.blk x (List.mem_cons_of_mem _ hx),(HF.own x (List.mem_cons_of_mem _ hx)).elim (fun h=>by cases h) id⟩⟩,HF.ext⟩
theorem RC {bk:Nat} {a0:Option Addr} {n0 c0:Nat} {xs:List Int} (hn:xs.length=n0) (hm:n0≤1000000) (w:World) (K:ValK bk a0 n0 c0 xs w) :
  Ret Tryz.prog 121 #[U0 bk] w fun v w'=>FreshU w w' v xs:=by
 obtain ⟨w0,rfl⟩:∃ w0,w0=w:=⟨_,rfl⟩;refine A2 (fn:=Tryz.f121) Tryz.func121 U [.func (.func 185) #[] #[.pointer (some ⟨bk,0,none⟩)]] U (by kernel_rfl) ?_;refine Ag (A5 U U (Ab (Aa (Ag (BP U (.func _ _ _) U ?_)))));refine Al U Acp (Tx hn hm _ K) U ?_;rintro v w F;obtain ⟨a,n,c,full,rfl,O,Z,hb⟩:=F.ex;refine A5 U U (Ab (Aa (A9 (AF (v:=(.slice _ _ _)) U U U ?_))));exact F
theorem Ty {bk:Nat} {a0:Option Addr} {n0 c0:Nat} {xs:List Int} (hn:xs.length=n0) (hm:n0≤1000000) (w:World) (K:ValK bk a0 n0 c0 xs w) :
  Ret Tryz.prog 61 #[U0 bk] w fun v w'=>∃ l:List Int,l.Perm xs∧l.Pairwise (·≤·)∧FreshU w w' v l:=by
 obtain ⟨w0,rfl⟩:∃ w0,w0=w:=⟨_,rfl⟩;refine A2 (fn:=Tryz.f61) Tryz.func61 U [.func (.func 185) #[] #[.pointer (some ⟨bk,0,none⟩)]] U (by kernel_rfl) ?_;refine Ag (A5 U U (Ab (Aa (Ag (BP U (.func _ _ _) U ?_)))));refine Al U Abu (RC hn hm _ K) U ?_;rintro v w F;obtain ⟨a,n,c,full,rfl,O,Z,hb⟩:=F.ex;have hx5:=F.ext;have hvn:=O.llen;rw [List.length_map] at hvn;refine A5 U U (Ab (Aa (Ag (Ap U U (Al U Abv (sortF _ O Z (fun x hx=>(hb x hx).1) (by omega)) U ?_)))));rintro v w ⟨rfl,full',l',hP,hS,O',Z',hb',hx7⟩;refine Ab (Aa (Ag (Ap U U (A5 U U (Ab (Aa (A9 (AF (v:=(.slice _ _ _)) U U U ?_))))))));refine ⟨l',hP,hS,⟨_,_,_,_,rfl,O',Z',fun x hx=>⟨hb' x hx,?_⟩⟩,hx5.then hx7 fun x hx=>?_⟩
 ·cases a with
  | none=>simp [ent] at hx
  | some p =>
   simp only [ent,List.mem_singleton] at hx;subst hx;exact (hb (p.block,Bl 24 full) (by simp [ent])).2
 ·obtain ⟨y,hy,rfl⟩:=List.mem_map.1 hx;exact .inr (hb y hy).2
end Go.Proofs.YtapphbmlkdhnmaaGreat

/- Whether no number comes twice. -/
namespace Go.Proofs.YtapphbmlkdhnmaaGreat
open Go.GV
attribute [local irreducible] AC W Wq Wt

theorem V9 {l:List Int} (hs:l.Pairwise (·≤·)):l.Nodup↔∀ (j:Nat) (x y:Int),l[j]? = some x→l[j+1]? = some y→x≠y:=by
 rw [List.Nodup,List.pairwise_iff_getElem];rw [List.pairwise_iff_getElem] at hs;constructor
 ·intro h j x y hx hy;obtain ⟨h1,rfl⟩:=List.getElem?_eq_some_iff.1 hx;obtain ⟨h2,rfl⟩:=List.getElem?_eq_some_iff.1 hy;exact h j (j+1) h1 h2 (by omega)
 ·intro h i j hi hj hij;obtain ⟨k,rfl⟩:∃ k,j=k+1:=⟨j - 1,by omega⟩;have h1:=h k _ _ (List.getElem?_eq_getElem (by omega)) (List.getElem?_eq_getElem hj);have h2:=hs k (k+1) (by omega) hj (by omega)
  rcases Nat.lt_or_ge i k with h3 | h3
  ·have:=hs i k hi (by omega) h3;omega
  ·obtain rfl:i=k:=by omega
   exact h1
structure CmZ where
 k:Nat
 k2:Nat
 g:Nat→Int
set_option maxRecDepth 20000 in
set_option maxHeartbeats 2000000 in
theorem RG {b n c:Nat} {f:Nat→Int} (w:World) (hb:w.heap[b]? = some (Bl 24 (CB f c))) (hn:n≤c) (hm:n≤1000000) :
  Ret Tryz.prog 154 #[.slice (some ⟨b,0,none⟩) n c] w fun v w'=>∃ m,v = .slice (some ⟨b,0,none⟩) m c∧(m=n↔∀ j,j+1<n→f j≠f (j+1))∧Ext [b] w w':=by
 obtain ⟨w0,rfl⟩:∃ w0,w0=w:=⟨_,rfl⟩;have H:=Ctx.start1 hb;refine A2 (fn:=Tryz.f154) Tryz.func154 U [.slice (some ⟨b,0,none⟩) n c] U (by kernel_rfl) ?_;refine Ag (A5 U U (Ab (Aa (Aq (Ag (Ap U U (AV U Bf U (AO U U U (Ab (Aa (Ay _ U ?_ ?_)))))))))))
 ·intro h1;replace h1:=AG h1;refine Ag (Ap U U (A5 U U (Ab (Aa (A9 (Am (AF (v:=(.slice _ _ _)) U U U ?_)))))));exact ⟨n,rfl,⟨fun _ j hj=>by omega,fun _=>rfl⟩,H.ext⟩
 ·intro h1;replace h1:=AH h1;refine Ax (Aa (Aq (Ag (Ad U U (Ab (Aa (Av (Bd 1152921504606846012 (α:=Nat) (fun i=>[(3,.int .i64 (i:Int))]) (fun i w'=>(1≤i∧i≤n)∧(∀ j,j+1<i→f j≠f (j+1))∧Ctx w0 [b] w' [(b,Bl 24 (CB f c))]) (fun i=>n - i) 1 U ?_ ?_ ?_))))))))
  ·exact ⟨rfl,trivial⟩
  ·exact ⟨⟨Nat.le_refl _,by omega⟩,fun j hj=>by omega,H⟩
  ·clear H;rintro i jj w ⟨⟨hi1,hi⟩,hd,H⟩;refine Aq (Ag (Ae U U (Ap U U (AV U Bf U (AO U U U (Ab (Aa (Ay _ U ?_ ?_))))))))
   ·intro h2;replace h2:=AG h2;refine Ax (Aa (Aq (Av (DQ (fun x=>x=_) B0 (by kernel_rfl) U ?_))));refine BV U U (AN U U (AR U Bf Be U U (by omega) (by omega) ?_));refine Oa i _ U BR U (by rintro _ rfl; exact H.drew) at0 (by simp) (by omega) U ?_;refine BV U U (AN U U (Dg U U U (by omega) (by omega) ?_));refine AR U Bf Be U U (by omega) (by omega) ?_;refine Oa (i - 1) _ U BR U (by rintro _ rfl; exact H.drew) at0 (by omega) (by omega) U ?_;refine TI U U U (Ca ?_);rintro _ rfl;replace H:=H.drew;refine Ay _ U ?_ ?_
    ·intro h3;replace h3:=AG h3;have hc1:¬ c=(i:Int).toNat:=by omega
     have hcut:JZ (some ⟨b,0,none⟩) c (i:Int).toNat 1=some ⟨b,i,none⟩:=by
      unfold JZ;rw [if_neg hc1,Int.toNat_natCast,Nat.mul_one];show some (Addr.add ⟨b,0,none⟩ i)=_;rw [Co,Nat.zero_add]
     refine Ag (Ap U U (Ae U U (Fs U Bf Be U U (by omega) (by omega) ?_)));rw [hcut,Int.toNat_natCast];refine A5 U U (Ab (Aa (Aq (Ag (Ad U U (Ab (Aa (Av (Bd 18014397972611112 (α:=CmZ) (fun z=>[(3,.int .i64 (z.k:Int)),(5,.int .i64 (z.k2:Int))]) (fun z w'=>(1≤z.k2∧i+z.k2≤n)∧(i≤z.k∧z.k+1≤i+z.k2)∧(∀ q,i+z.k2≤q+1→z.g q=f q)∧Ctx w0 [b] w' [(b,Bl 24 (CB z.g c))]) (fun z=>n - z.k2) ⟨i,1,f⟩ U ?_ ?_ ?_)))))))))
     ·exact ⟨rfl,rfl,trivial⟩
     ·exact ⟨⟨Nat.le_refl _,by dsimp only; omega⟩,⟨Nat.le_refl _,Nat.le_refl _⟩,fun _ _=>rfl,H⟩
     ·clear H;rintro ⟨k,k2,g⟩ jj2 w ⟨⟨hk1,hk2⟩,⟨hk3,hk4⟩,hg,H⟩; dsimp only at hk1 hk2 hk3 hk4 hg H; dsimp only;refine Aq (Ag (Ae U U (Ap U U (AV U Bf U (AO U U U (Ab (Aa (Ay _ U ?_ ?_))))))))
      ·intro h4;replace h4:=AG h4;refine Ax (Aa (Aq (Av (DQ (fun x=>x=_) B0 (by kernel_rfl) U ?_))));refine BV U U (AN U U (AR U Bf Be U U (by omega) (by omega) ?_));refine Oa (i+k2) _ U BR U (by rintro _ rfl; exact H.drew) at0 (by omega) (by omega) U ?_;refine BV U U (AN U U (Dg U U U (by omega) (by omega) ?_));refine AR U Bf Be U U (by omega) (by omega) ?_;refine Oa (i+k2 - 1) _ U BR U (by rintro _ rfl; exact H.drew) at0 (by omega) (by omega) U ?_;refine Mx U U U (Ca ?_);rintro _ rfl;replace H:=H.drew;refine Ay _ U ?_ ?_
       ·intro h5;replace h5:=CK h5;refine Ag (Ap U U (Ae U U (Ap U U (Ae U U (Bi U Bf Be U U (by omega) (by omega) ?_)))));refine Su (i+k2) _ U BR U H at0 (by omega) (by omega) U ?_;refine Bi U Bf Be U U (by omega) (by omega) ?_;refine Cc k (fun q => .int .u64 (upd g k (g (i+k2)) q)) (.int _ _) U Be U U U H at0 (by omega) (by omega) (by rw [D3]) (fun q _ hq=>by rw [Es hq]) ?_;rintro w H;refine Ab (Aa (Aw (Ae U U (Ao U U U (by omega) (by omega) ?_))));refine Ad U U (Ab (A3 (Aa (Aw (Ae U U (Ao U U U (by omega) (by omega) ?_))))));refine Ad U U (Ab (Aa ?_));exact ⟨⟨k+1,k2+1,upd g k (g (i+k2))⟩,rfl,⟨rfl,rfl,trivial⟩,⟨⟨by dsimp only; omega,by dsimp only; omega⟩,⟨by dsimp only; omega,by dsimp only; omega⟩,fun q hq=>by dsimp only at hq ⊢; rw [Es (by omega)]; exact hg q (by omega),H⟩,by dsimp only; omega⟩
       ·intro h5;replace h5:=CL h5;refine Ax (A3 (Aa (Aw (Ae U U (Ao U U U (by omega) (by omega) ?_)))));refine Ad U U (Ab (Aa ?_));exact ⟨⟨k,k2+1,g⟩,rfl,⟨rfl,rfl,trivial⟩,⟨⟨by dsimp only; omega,by dsimp only; omega⟩,⟨by dsimp only; omega,by dsimp only; omega⟩,fun q hq=>by dsimp only at hq ⊢; exact hg q (by omega),H⟩,by dsimp only; omega⟩
      ·intro h4;replace h4:=AH h4;have hc2:¬ c=(k:Int).toNat:=by omega
       have hcut2:JZ (some ⟨b,0,none⟩) c (k:Int).toNat 1=some ⟨b,k,none⟩:=by
        unfold JZ;rw [if_neg hc2,Int.toNat_natCast,Nat.mul_one];show some (Addr.add ⟨b,0,none⟩ k)=_;rw [Co,Nat.zero_add]
       refine Bc (Aj (Aj (AD (Aa (Ag (Ap U U (Ae U U (Fs U Bf Be U U (by omega) (by omega) ?_))))))));rw [hcut2,Int.toNat_natCast];refine Lg U Bf K6 U (by simp [B4]) U H at0 (by simp; omega) ?_;rintro w H;refine Ab (Aa (Ag (Ap U U (Ae U U (Gf U Bf Be U U (by omega) (by omega) ?_)))));refine A5 U U (Ab (Aa (A9 (AB (Am (Am (AB (Am (AF (v:=(.slice _ _ _)) U U U ?_)))))))));refine ⟨k,by rw [Int.toNat_natCast],⟨fun h=>by omega,fun h=>absurd ?_ (h (i - 1) (by omega))⟩,H.ext⟩;rw [show i - 1+1=i by omega];exact h3.symm
    ·intro h3;replace h3:=AH h3;refine Ax (A3 (Aa (Aw (Ae U U (Ao U U U (by omega) (by omega) ?_)))));refine Ad U U (Ab (Aa ?_));refine ⟨i+1,rfl,⟨rfl,trivial⟩,⟨⟨by omega,by omega⟩,fun j hj=>?_,H⟩,by omega⟩
     rcases Nat.lt_or_ge (j+1) i with h7 | h7
     ·exact hd j h7
     ·obtain rfl:i=j+1:=by omega
      exact fun h=>h3 (by rw [show j+1 - 1=j by omega]; exact h.symm)
   ·intro h2;replace h2:=AH h2;obtain rfl:i=n:=by omega
    refine Bc (Aj (Aj (AD (Aa (Ag (Ap U U (A5 U U (Ab (Aa (A9 (AF (v:=(.slice _ _ _)) U U U ?_)))))))))));exact ⟨i,rfl,⟨fun _=>hd,fun _=>rfl⟩,H.ext⟩
theorem Tz {a:Option Addr} {n c:Nat} {full:List Value} {l:List Int} (w:World) (O:OS a n c 1 full (l.map F1)) (Z:∀ x∈full,∃ z,x=F1 z) (hb:∀ x∈ent a 24 full,w.heap[x.1]? = some x.2) (hs:l.Pairwise (·≤·)) (hm:n≤1000000) :
  Ret Tryz.prog 154 #[.slice a n c] w fun v w'=>∃ m,v = .slice a m c∧(m=n↔l.Nodup)∧Ext ((ent a 24 full).map (·.1)) w w':=by
 cases a with
 | none =>
  obtain rfl:n=0:=by have:=O.none' rfl; have:=O.le; omega
  have hl:l=[]:=by have:=O.llen; rw [List.length_map] at this; exact List.eq_nil_of_length_eq_zero (by omega)
  subst hl;refine A2 (fn:=Tryz.f154) Tryz.func154 U [.slice none 0 c] U (by kernel_rfl) ?_;refine Ag (A5 U U (Ab (Aa (Aq (Ag (Ap U U (AV U Bf U (AO U U U (Ab (Aa (Dc U ?_)))))))))));refine Ag (Ap U U (A5 U U (Ab (Aa (A9 (Am (AF (v:=(.slice _ _ _)) U U U ?_)))))));exact ⟨0,rfl,⟨fun _=>List.Pairwise.nil,fun _=>rfl⟩,Ext.refl _ _⟩
 | some p =>
  have hp:=O.zero p rfl;obtain ⟨q,o,sp⟩:=p;simp only [Addr.mk.injEq,true_and] at hp;obtain ⟨rfl,rfl⟩:=hp;obtain ⟨zs,rfl⟩:=PR full Z;have hlen:=O.len;rw [List.length_map,Nat.mul_one] at hlen;have hpre:=O.pre;rw [Nat.mul_one,← List.map_take] at hpre;have hpre:=Ln hpre;have hzs:tab (fun i=>zs.getD i 0) c=zs:=by rw [← hlen]; exact Xj zs
  have hb0:w.heap[q]? = some (Bl 24 (CB (fun i=>zs.getD i 0) c)):=by
   rw [KF,hzs];exact hb (q,Bl 24 (zs.map F1)) (List.mem_singleton.2 U)
  refine Ret.mono (RG (c:=c) w hb0 O.le hm) ?_;rintro v w' ⟨m,rfl,hmn,hx⟩;have hS0:((ent (some ⟨q,0,none⟩) 24 (zs.map F1)).map (·.1))=[q]:=by simp [ent]
  have hle:=O.le
  have hget:∀ j,j<n→l[j]? = some (zs.getD j 0):=fun j hj=>by
   obtain ⟨z,hz⟩:=AE (l:=zs) (i:=j) (by omega);rw [← hpre,List.getElem?_take,if_pos hj,hz,Bn hz]
  have hll:l.length=n:=by rw [← hpre,List.length_take]; omega
  refine ⟨m,rfl,hmn.trans ?_,by rw [hS0]; exact hx⟩;rw [V9 hs];constructor
  ·intro h j x y hx hy;have h1:=CO hy;rw [hget j (by omega)] at hx;rw [hget (j+1) (by omega)] at hy;cases hx; cases hy;exact h j (by omega)
  ·intro h j hj;exact h j _ _ (hget j (by omega)) (hget (j+1) hj)
theorem ZL (a:Option Addr) (n c:Nat) (xs:List Int) (w:World) (R:Rd w a 1 U1 xs) (hn:xs.length=n) (hm:n≤1000000) :
  Ret Tryz.prog 93 #[.slice a n c] w fun v w'=>v = .bool (decide xs.Nodup)∧Ext [] w w':=by
 subst hn;obtain ⟨w0,rfl⟩:∃ w0,w0=w:=⟨_,rfl⟩;have H:=Ctx.start w0 [];refine A2 (fn:=Tryz.f93) Tryz.func93 U [.slice a xs.length c] U (by kernel_rfl) ?_;refine Ag (Ai U U (Ab (Aa (Ag (Ap U U (Al U Aca (V8 a _ c _) U ?_))))));rintro v w ⟨bk,rfl,hbk,-,hx5⟩;replace H:=H.call hx5;refine Al U ca_61 (Ty U hm _ ⟨hbk,R.ext0 H.ext⟩) U ?_;rintro v w ⟨l,hP,hS,F⟩;obtain ⟨a6,n6,c6,f6,rfl,O6,Z6,hb6⟩:=F.ex;have hx06:=H.ext.trans F.ext;have hl6:=O6.llen;rw [List.length_map,hP.length_eq] at hl6;have hs6:=H.size;refine A5 U U (Ab (Aa (Ag (Ap U U (Al U Acb (Tz _ O6 Z6 (fun x hx=>(hb6 x hx).1) hS (by omega)) U ?_)))));rintro v w ⟨m,rfl,hm8,hx8⟩;refine AV U Bf U (Ap U U (AV U Bf U (BQ U U U (Ai U U (Ab (Aa (A9 (AF (v:=(.bool _)) U U U ?_))))))));refine ⟨congrArg Value.bool ?_,hx06.then hx8 fun x hx=>?_⟩
 ·rw [Bool.eq_iff_iff,decide_eq_true_eq,decide_eq_true_eq,← hP.nodup_iff,← hm8];omega
 ·obtain ⟨y,hy,rfl⟩:=List.mem_map.1 hx;exact .inr (by have:=(hb6 y hy).2; omega)
end Go.Proofs.YtapphbmlkdhnmaaGreat

/- Whether a round is right: the walk of the program's. -/
namespace Go.Proofs.YtapphbmlkdhnmaaGreat
open Go.GV
attribute [local irreducible] AC W Wq Wt

section
variable {P:Program} {r:Option Nat} {ops rest:List Oper} {Q:Exit→Env→World→Prop} {e:Env} {w:World} {C:World→Prop} {K:Env→Prop}
 {dst:Option Tmp} {ty:TypeId} {pos:String} {af:Array Edge} {g:Option (Nat × Bool)} {t t2:TypeId} {x y:Operand}
theorem Aa1 {ks:List Bool} {xs ys:List Value} (b:Bool) (hg:AM ⟨dst,.binOp .neq t x y t2,ty,pos,af,g⟩ ops e=true) (h:Kb P t ks=true) (hx:ev e x = .agg xs.toArray) (hy:ev e y = .agg ys.toArray) (hL:MF ks xs ys) (hb:b=true↔xs=ys)
  (hk:Wt P ops C K rest (put e dst (.bool (!b)))):Wt P ops C K (⟨dst,.binOp .neq t x y t2,ty,pos,af,g⟩::rest) e:=Ey hg (fun w _=>Px h hx hy hL hb w) hk
/-- A difference that may go beyond. -/
theorem T0 {a b:Int} (hg:AM ⟨dst,.binOp .sub t x y t2,ty,pos,af,g⟩ ops e=true) (hx:ev e x = .int .i64 a) (hy:ev e y = .int .i64 b)
  (h:∀ z:Int,(-9223372036854775808≤a - b→a - b≤9223372036854775807→z=a - b)→AC P r ops Q rest (put e dst (.int .i64 z)) w):AC P r ops Q (⟨dst,.binOp .sub t x y t2,ty,pos,af,g⟩::rest) e w :=
 B1 hg rfl (BT hx hy (by simp [binOp,Op.intArith])) (h (IntKind.i64.wrap (a - b)) fun h1 h2=>Dx (k := .i64) (n:=a - b) h1 h2)
end
theorem Gw (r:Rnd) (q:RSl) (w:World) (hN : -9223372036854775808<r.N∧r.N≤9223372036854775807):Ret Tryz.prog 87 #[.agg (A8 r q).toArray] w fun v w'=>v = .int .i64 (r.N - 1)∧Ext [] w w':=by
 obtain ⟨w0,rfl⟩:∃ w0,w0=w:=⟨_,rfl⟩;have H:=Ctx.start w0 [];refine A2 (fn:=Tryz.f87) Tryz.func87 U [.agg (A8 r q).toArray] U (by kernel_rfl) ?_;refine Ag (Bt U (A8 r q) (.agg _) U U H ?_);rintro b1 w - H;refine Ad U U (Ab (Aa (Ag (Ah U C4 U (Ah U Dj U (AA U BG U H at0 U (Bg U U U (by omega) (by omega) ?_)))))));refine Ad U U (Ab (Aa (A9 (AF (v:=(.int _ _)) U U U ?_))));exact ⟨rfl,H.ext⟩
theorem Aa2 (r:Rnd) (q:RSl) (k room:Int) (w:World) (hN : -9223372036854775808<r.N∧r.N≤9223372036854775807):Ret Tryz.prog 82 #[.agg (A8 r q).toArray,.int .i64 k,.int .i64 room] w fun v w'=>v = .agg (Br ⟨r.N - 1,k,room,0⟩).toArray∧Ext [] w w':=by
 obtain ⟨w0,rfl⟩:∃ w0,w0=w:=⟨_,rfl⟩;have H:=Ctx.start w0 [];refine A2 (fn:=Tryz.f82) Tryz.func82 U [.agg (A8 r q).toArray,.int .i64 k,.int .i64 room] U (by kernel_rfl) ?_;refine Ag (Bt U (A8 r q) (.agg _) U U H ?_);rintro b3 w - H;refine Bs U Dn H ?_;rintro b6 w - H;refine Ab (Aa (Ag (Bh U Cq BW U H at1 U (Al U IC (Gw r q _ hN) U ?_))));rintro v w ⟨rfl,hx8⟩;replace H:=H.call hx8;refine Ae U U (Ae U U (Cp (Br ⟨r.N - 1,k,room,0⟩) U JO Dn (by kernel_rfl) ?_));refine BL U B3 U U U (by exact CN _) H at0 U ?_;rintro w H;refine Ab (Aa (A9 (TJ U U U DT B3 H at0 U ?_)));exact ⟨rfl,H.ext⟩
theorem XV (r:Rnd) (q:RSl) (k:Int) (w:World) (hN : -9223372036854775808<r.N∧r.N≤9223372036854775807):Ret Tryz.prog 83 #[.agg (A8 r q).toArray,.int .i64 k] w fun v w'=>v = .agg (Br ⟨k,r.N - 1,4503599627370496,0⟩).toArray∧Ext [] w w':=by
 obtain ⟨w0,rfl⟩:∃ w0,w0=w:=⟨_,rfl⟩;have H:=Ctx.start w0 [];refine A2 (fn:=Tryz.f83) Tryz.func83 U [.agg (A8 r q).toArray,.int .i64 k] U (by kernel_rfl) ?_;refine Ag (Bt U (A8 r q) (.agg _) U U H ?_);rintro b2 w - H;refine Bs U Dn H ?_;rintro b4 w - H;refine Ab (Aa (Ag (Ae U U (Bh U Cq BW U H at1 U (Al U IC (Gw r q _ hN) U ?_)))));rintro v w ⟨rfl,hx7⟩;replace H:=H.call hx7;refine Cp (Br ⟨k,r.N - 1,4503599627370496,0⟩) U JO Dn (by kernel_rfl) ?_;refine BL U B3 U U U (by exact CN _) H at0 U ?_;rintro w H;refine Ab (Aa (A9 (TJ U U U DT B3 H at0 U ?_)));exact ⟨rfl,H.ext⟩
/-- May an edge be a due's? -/
def Ea (h:Int) (e:Ed):Bool:=((((decide (e.f<h) && decide (e.t<h)) && !decide (e.f=e.t)) && decide (1≤e.cap)) && decide (-1000≤e.cost)) && decide (e.cost ≤ -1)
set_option maxRecDepth 20000 in
theorem ZM (r:Rnd) (q:RSl) (e:Ed) (w:World) (hN : -9223372036854775808<r.N∧r.N≤9223372036854775807):Ret Tryz.prog 96 #[.agg (A8 r q).toArray,.agg (Br e).toArray] w fun v w'=>v = .bool (Ea (r.N - 1) e)∧Ext [] w w':=by
 obtain ⟨w0,rfl⟩:∃ w0,w0=w:=⟨_,rfl⟩;have H:=Ctx.start w0 [];refine A2 (fn:=Tryz.f96) Tryz.func96 U [.agg (A8 r q).toArray,.agg (Br e).toArray] U (by kernel_rfl) ?_;refine Ag (Bt U (A8 r q) (.agg _) U U H ?_);rintro b2 w - H;refine Bt U (Br e) (.agg _) U U H ?_;rintro b3 w - H;refine Ai U U (Ab (Aa (Ag (Bh U Cq BW U H at1 U (Al U IC (Gw r q _ hN) U ?_)))));rintro v w ⟨rfl,hx7⟩;replace H:=H.call hx7;refine Ad U U (Ab (Aa (Ag (B5 (α:=Unit) 1099511627536 (fun _=>[(4,.bool (Ea (r.N - 1) e))]) (fun _ w'=>Ctx w0 [] w' [(b3,Bl 92 (Br e)),(b2,Bl 33 (A8 r q))]) U ?_ ?_))))
 ·refine Ah U CX U (AA U BG U H at0 U (Ae U U (AO U U U (Ak U U (A4 12 U ?_ ?_)))))
  ·intro h1;replace h1:=AG h1;refine Ah U Dl U (AA U BG U H at0 U (Ae U U (AO U U U (An U U (.bool _) U (Ak U U (A4 18 U ?_ ?_))))))
   ·intro h2;replace h2:=AG h2;refine Ah U CX U (AA U BG U H at0 U (Ah U Dl U (AA U BG U H at0 U (CC U U U (An U U (.bool _) U (Ak U U (A4 25 U ?_ ?_)))))))
    ·intro h3;replace h3:=CK h3;refine Ah U CD U (AA U Bx U H at0 U (CQ U U U (An U U (.bool _) U (Ak U U (A4 30 U ?_ ?_)))))
     ·intro h4;replace h4:=AG h4;refine Ah U De U (AA U Bx U H at0 U (CQ U U U (An U U (.bool _) U (Ak U U (A4 35 U ?_ ?_)))))
      ·intro h5;replace h5:=AG h5;refine Ah U De U (AA U Bx U H at0 U (IL U U U (An U U (.bool _) U (Ai U U (Ab ?_)))));exact ⟨rfl,(),rfl,⟨congrArg Value.bool (by unfold Ea; rw [Bool.eq_iff_iff]; simp_all; done),trivial⟩,H⟩
      ·intro h6;replace h6:=AH h6;refine Af U (Af U (Af U (A1 U U (.bool _) U (Ai U U (Ab ?_)))));exact ⟨rfl,(),rfl,⟨congrArg Value.bool (by unfold Ea; rw [Bool.eq_iff_iff]; simp_all; omega),trivial⟩,H⟩
     ·intro h7;replace h7:=AH h7;refine Af U (Af U (Af U (A1 U U (.bool _) U (Ak U U (Af U (Af U (Af U (A1 U U (.bool _) U (Ai U U ?_)))))))));refine Ab ?_;exact ⟨rfl,(),rfl,⟨congrArg Value.bool (by unfold Ea; rw [Bool.eq_iff_iff]; simp_all; omega),trivial⟩,H⟩
    ·intro h8;replace h8:=CL h8;refine Af U (Af U (Af U (A1 U U (.bool _) U (Ak U U (Af U (Af U (Af U (A1 U U (.bool _) U (Ak U U ?_)))))))));refine Af U (Af U (Af U (A1 U U (.bool _) U (Ai U U (Ab ?_)))));exact ⟨rfl,(),rfl,⟨congrArg Value.bool (by unfold Ea; rw [Bool.eq_iff_iff]; simp_all; done),trivial⟩,H⟩
   ·intro h9;replace h9:=AH h9;refine Af U (Af U (Af U (Af U (Af U (A1 U U (.bool _) U (Ak U U (Af U (Af U (Af U ?_)))))))));refine A1 U U (.bool _) U (Ak U U (Af U (Af U (Af U (A1 U U (.bool _) U (Ak U U (Af U (Af U (Af U ?_)))))))));refine A1 U U (.bool _) U (Ai U U (Ab ?_));exact ⟨rfl,(),rfl,⟨congrArg Value.bool (by unfold Ea; rw [Bool.eq_iff_iff]; simp_all; omega),trivial⟩,H⟩
  ·intro h10;replace h10:=AH h10;refine Af U (Af U (Af U (Af U (A1 U U (.bool _) U (Ak U U (Af U (Af U (Af U (Af U ?_)))))))));refine Af U (A1 U U (.bool _) U (Ak U U (Af U (Af U (Af U (A1 U U (.bool _) U (Ak U U (Af U (Af U ?_)))))))));refine Af U (A1 U U (.bool _) U (Ak U U (Af U (Af U (Af U (A1 U U (.bool _) U (Ai U U (Ab ?_))))))));exact ⟨rfl,(),rfl,⟨congrArg Value.bool (by unfold Ea; rw [Bool.eq_iff_iff]; simp_all; omega),trivial⟩,H⟩
 rintro - j4 w H;refine A9 (AF (v:=(.bool _)) U U U ?_);exact ⟨rfl,H.ext⟩
abbrev Aa3 (b:Nat):Value := .func (.func 95) #[] #[ptr b]
theorem VA (r:Rnd) (q:RSl) (e:Ed) (b:Nat) (w:World) (hb:w.heap[b]? = some (Bl 33 (A8 r q))) (hN : -9223372036854775808<r.N∧r.N≤9223372036854775807):Ret Tryz.prog 95 #[.agg (Br e).toArray,ptr b] w fun v w'=>v = .bool (!Ea (r.N - 1) e)∧Ext [] w w':=by
 obtain ⟨w0,rfl⟩:∃ w0,w0=w:=⟨_,rfl⟩;have H:=Ctx.start w0 [];refine A2 (fn:=Tryz.f95) Tryz.func95 U [.agg (Br e).toArray,.pointer (some ⟨b,0,none⟩)] U (by kernel_rfl) ?_;refine Ag (Bt U (Br e) (.agg _) U U H ?_);rintro b2 w - H;refine Ai U U (Ab (Aa (Ag (Cd _ U Cq BW U U ((BU (b:=b) (t:=33) (l:=A8 r q) (H.ext.to hb (by simp)) 0 (A8 r q) U)) ?_))));refine Bh U DT B3 U H at0 U (Al U ca_96 (ZM r q e _ hN) U ?_);rintro v w ⟨rfl,hx6⟩;replace H:=H.call hx6;refine Bv U U (Ai U U (Ab (Aa (A9 (AF (v:=(.bool _)) U U U ?_)))));exact ⟨rfl,H.ext⟩
set_option maxRecDepth 20000 in
theorem ZN (r:Rnd) (q:RSl) (b:Nat) (a:Option Addr) (n c:Nat) (es:List Ed) (w:World) (hb:w.heap[b]? = some (Bl 33 (A8 r q))) (hN : -9223372036854775808<r.N∧r.N≤9223372036854775807) (R:Rd w a 4 Br es) (hn:es.length=n) (hn2:n≤1000000) :
  Ret Tryz.prog 155 #[.slice a n c,Aa3 b] w fun v w'=>∃ i:Int,v = .int .i64 i∧(0≤i↔es.all (Ea (r.N - 1))=false)∧Ext [] w w':=by
 subst hn;obtain ⟨w0,rfl⟩:∃ w0,w0=w:=⟨_,rfl⟩;have H:=Ctx.start w0 [];refine A2 (fn:=Tryz.f155) Tryz.func155 U [.slice a es.length c,.func (.func 95) #[] #[.pointer (some ⟨b,0,none⟩)]] U (by kernel_rfl) ?_;refine Ag (Ad U U (Ab (Aa (Aq (Ag (Ap U U (AV U BO U (Ae U U (Ab (Aa (Av ?_)))))))))));refine Bd 524080 (α:=Nat) (fun i=>[(8,.int .i64 (i:Int))]) (fun i w'=>i≤es.length∧Ctx w0 [] w' []∧∀ (j:Nat) (e:Ed),j<i→es[j]? = some e→Ea (r.N - 1) e=true) (fun i=>es.length - i) 0 U ?_ ?_ ?_
 ·exact ⟨rfl,trivial⟩
 ·exact ⟨Nat.zero_le _,H,fun j e h=>absurd h (Nat.not_lt_zero _)⟩
 ·clear H;rintro i j w ⟨hi,H,hbf⟩;refine Ag (AO U U U (Ab (Aa (Aq (Ay _ U ?_ ?_)))))
  ·intro h1;replace h1:=AG h1;obtain ⟨e,he⟩:=AE (l:=es) (i:=i) (by omega);have R1:=R.ext0 H.ext;refine Ax (Aa (Aq (Av (Ag (Ae U U (Ad U U (Ab (Aa (Ag (BP U (.func _ _ _) U ?_))))))))));refine Ap U U (Ae U U (AX R1 U BO B3 U U (by omega) (by omega) (by rfl) ?_));refine Cd _ U DT B3 U U ((R1.row he U)) ?_;refine C0 U U ca_95 (VA r q e b _ (H.ext.to hb (by simp)) hN) U ?_;rintro v w ⟨rfl,hx16⟩;replace H:=H.call hx16;refine Ab (Aa (Ay _ U ?_ ?_))
   ·intro h2;refine Ag (Ae U U (Ad U U (Ab (Aa (A9 (AB (Am (Am (AB (Am (AF (v:=(.int _ _)) U U U ?_)))))))))));refine ⟨i,rfl,⟨fun _=>?_,fun _=>by omega⟩,H.ext⟩;rw [← Bool.not_eq_true,List.all_eq_true];intro h;have h9:=h e (List.mem_of_getElem? he);simp_all
   ·intro h2;refine Ax (A3 (Aa (Aw (Ao U U U (by omega) (by omega) ?_))));refine Ae U U (Ab (Aa ?_));refine ⟨i+1,rfl,⟨rfl,trivial⟩,⟨by omega,H,fun j' e' hj he'=>?_⟩,by omega⟩
    rcases Nat.lt_or_ge j' i with h3 | h3
    ·exact hbf j' e' h3 he'
    ·obtain rfl:j'=i:=by omega
     rw [he] at he'; cases he'
     simpa using h2
  ·intro h1;replace h1:=AH h1;obtain rfl:i=es.length:=by omega
   refine Bc (Aj (Aj (AD (Aa (Ag (Ad U U (Ab (Aa (A9 (AF (v:=(.int _ _)) U U U ?_))))))))));refine ⟨-1,rfl,⟨fun h=>by omega,fun h=>?_⟩,H.ext⟩;exfalso
   have:es.all (Ea (r.N - 1))=true:=List.all_eq_true.2 fun e he=>by
    obtain ⟨k,hk⟩:=List.mem_iff_getElem?.1 he;exact hbf k e (CO hk) hk
   rw [this] at h; cases h
theorem XW (r:Rnd) (q:RSl) (b:Nat) (a:Option Addr) (n c:Nat) (es:List Ed) (w:World) (hb:w.heap[b]? = some (Bl 33 (A8 r q))) (hN : -9223372036854775808<r.N∧r.N≤9223372036854775807) (R:Rd w a 4 Br es) (hn:es.length=n) (hn2:n≤1000000) :
  Ret Tryz.prog 94 #[.slice a n c,Aa3 b] w fun v w'=>v = .bool (!es.all (Ea (r.N - 1)))∧Ext [] w w':=by
 obtain ⟨w0,rfl⟩:∃ w0,w0=w:=⟨_,rfl⟩;have H:=Ctx.start w0 [];refine A2 (fn:=Tryz.f94) Tryz.func94 U [.slice a n c,.func (.func 95) #[] #[.pointer (some ⟨b,0,none⟩)]] U (by kernel_rfl) ?_;refine Ag (Ai U U (Ab (Aa (Ag (Ap U U (BP U (.func (.func 95) #[] #[.pointer (some ⟨b,0,none⟩)]) U ?_))))));refine Al U Acc (ZN r q b a n c es _ (H.ext.to hb (by simp)) hN (R.ext0 H.ext) hn hn2) U ?_;rintro v w ⟨i,rfl,hi,hx7⟩;replace H:=H.call hx7;refine CQ U U U (Ai U U (Ab (Aa (A9 (AF (v:=(.bool _)) U U U ?_)))));refine ⟨congrArg Value.bool ?_,H.ext⟩;rw [Bool.eq_iff_iff,decide_eq_true_eq,Bool.not_eq_true',← hi]
def FU (h:Int) (rest:List Ed) (b:Nat):Bool:=decide (rest.getD (2*b) e0=⟨h,b,(rest.getD (2*b) e0).cap,0⟩) && decide (rest.getD (2*b+1) e0=⟨b,h,4503599627370496,0⟩)
def Jk (r:Rnd):Bool:=((((Et r.N r.es r.fl r.pot && decide (0≤r.day)) && decide (r.ids.length≤64)) && decide r.ids.Nodup) && decide (r.N - 1≤16)) && decide (r.ids.length≤r.es.length)
def GY (r:Rnd):Bool:=if r.cmp=true then decide ((r.es.drop r.ids.length).length=0) else decide (((r.es.drop r.ids.length).length:Int)=2*(r.N - 1)) && (List.range (r.N - 1).toNat).all (FU (r.N - 1) (r.es.drop r.ids.length))
/-- Is a round right? -/
def Bw (r:Rnd):Bool:=Jk r && ((r.es.take r.ids.length).all (Ea (r.N - 1)) && GY r)
theorem Ns {r:Rnd} (h:Jk r=true):Et r.N r.es r.fl r.pot=true∧0≤r.day∧r.ids.length≤64∧r.ids.Nodup∧r.N - 1≤16∧r.ids.length≤r.es.length:=by
 unfold Jk at h;simp only [Bool.and_eq_true,decide_eq_true_eq] at h;exact ⟨h.1.1.1.1.1,h.1.1.1.1.2,h.1.1.1.2,h.1.1.2,h.1.2,h.2⟩
theorem JB {N:Int} {es:List Ed} {fl pot:List Int} (h:Et N es fl pot=true):1≤N∧N≤40∧es.length≤200∧fl.length=es.length∧(pot.length:Int)=N:=by
 obtain ⟨h1,h2,-⟩:=HY.1 h;have h3:=BN (FK h1).1;have h4:=Cb h3.2.1;exact ⟨h4.1,h4.2.1,h4.2.2.1,h3.1,(Kh h2).1⟩
set_option maxRecDepth 20000 in
set_option maxHeartbeats 8000000 in
theorem FV (r:Rnd) (q:RSl) (w:World) (RA:RAt w r q) (hEc:r.es.length≤q.cE) (hr:RBnd r):Ret Tryz.prog 36 #[.agg (A8 r q).toArray] w fun v w'=>v = .bool (Bw r)∧Ext [] w w':=by
 obtain ⟨w0,rfl⟩:∃ w0,w0=w:=⟨_,rfl⟩;have H:=Ctx.start w0 [];have hNb:=hr.N;unfold I64 at hNb;have h1e:=hr.es;have h1i:=hr.ids;obtain ⟨ck,hck⟩:∃ ck,ck=Et r.N r.es r.fl r.pot:=⟨_,rfl⟩;have hN:ck=true→1≤r.N∧r.N≤40:=fun h=>⟨(JB (hck.symm.trans h)).1,(JB (hck.symm.trans h)).2.1⟩;obtain ⟨nd,hnd⟩:∃ nd,nd=decide r.ids.Nodup:=⟨_,rfl⟩;refine A2 (fn:=Tryz.f36) Tryz.func36 U [.agg (A8 r q).toArray] U (by kernel_rfl) ?_;have hhd:Jk r=(((((ck && decide (0≤r.day)) && decide (r.ids.length≤64)) && nd) && decide (r.N - 1≤16)) && decide (r.ids.length≤r.es.length)):=by unfold Jk; rw [← hck,← hnd]
 refine Ag (Bt U (A8 r q) (.agg _) U U H ?_);rintro b1 w - H;refine Ai U U (Ab (Aa (Ag (Ah U Dk U (AA U DS U H at0 U (AV U Bf U (Ad U U (Ab (Aa (Aq (Ag (B5 (α:=Unit) 17592186043392 (fun _=>[(43,.bool (!Jk r))]) (fun _ w'=>Ctx w0 [] w' [(b1,Bl 33 (A8 r q))]) U ?_ ?_))))))))))))
 ·refine Ah U C4 U (Cd _ U C1 Cs U U ((BU (b:=b1) (t:=33) (l:=A8 r q) (H.get at0) 4 [.int .i64 r.N,.slice q.aE r.es.length q.cE] U)) ?_);refine Ah U CW U (Cd _ U QJ MX U U ((BU (b:=b1) (t:=33) (l:=A8 r q) (H.get at0) 6 [.slice q.aF r.fl.length q.cF,.slice q.aP r.pot.length q.cP] U)) ?_);refine Al U ca_66 (Xn r.N q.aE q.aF q.aP _ q.cE _ q.cF _ q.cP r.es r.fl r.pot _ (RA.E.ext0 H.ext) U hr.N (RA.F.ext0 H.ext) U (by have:=hr.fl; omega) (RA.P.ext0 H.ext) U (by have:=hr.pot; omega)) U ?_;rintro v w ⟨rfl,hx14⟩;rw [← hck];replace H:=H.call hx14;refine Bv U U (Ak U U (A4 16 U ?_ ?_))
  ·intro h1;replace h1:=Bo h1;refine Af U (Af U (Af U (An U U (.bool _) U (Ak U U (Af U (Af U (An U U (.bool _) U (Ak U U (Af U ?_)))))))));refine Af U (Af U (Af U (An U U (.bool _) U (Ak U U (Af U (Af U (Af U (An U U (.bool _) U (Ak U U ?_)))))))));refine Af U (Af U (Af U (Af U (Af U (Af U (An U U (.bool _) U (Ab ?_)))))));exact ⟨rfl,(),rfl,⟨congrArg Value.bool (by rw [hhd,Bool.eq_iff_iff]; simp_all; done),trivial⟩,H⟩
  ·intro h2;replace h2:=Bp h2;refine Ah U K5 U (AA U Bx U H at0 U (AO U U U (A1 U U (.bool _) U (Ak U U (A4 21 U ?_ ?_)))))
   ·intro h3;replace h3:=AG h3;refine Af U (Af U (An U U (.bool _) U (Ak U U (Af U (Af U (Af U (Af U (An U U (.bool _) U (Ak U U ?_)))))))));refine Af U (Af U (Af U (An U U (.bool _) U (Ak U U (Af U (Af U (Af U (Af U (Af U ?_)))))))));refine Af U (An U U (.bool _) U (Ab ?_));exact ⟨rfl,(),rfl,⟨congrArg Value.bool (by rw [hhd,Bool.eq_iff_iff]; simp_all; done),trivial⟩,H⟩
   ·intro h4;replace h4:=AH h4;refine Ae U U (Ct U U U (A1 U U (.bool _) U (Ak U U (A4 25 U ?_ ?_))))
    ·intro h5;replace h5:=AG h5;refine Af U (Af U (Af U (Af U (An U U (.bool _) U (Ak U U (Af U (Af U (Af U (An U U (.bool _) U ?_)))))))));refine Ak U U (Af U (Af U (Af U (Af U (Af U (Af U (An U U (.bool _) U (Ab ?_))))))));exact ⟨rfl,(),rfl,⟨congrArg Value.bool (by rw [hhd,Bool.eq_iff_iff]; simp_all; omega),trivial⟩,H⟩
    ·intro h6;replace h6:=AH h6;refine Ah U Dk U (AA U DS U H at0 U (Al U ca_93 (ZL q.aI _ q.cI r.ids _ (RA.I.ext0 H.ext) U hr.ids) U ?_));rintro v w ⟨rfl,hx28⟩;rw [← hnd];replace H:=H.call hx28;refine Bv U U (A1 U U (.bool _) U (Ak U U (A4 31 U ?_ ?_)))
     ·intro h7;replace h7:=Bo h7;refine Af U (Af U (Af U (An U U (.bool _) U (Ak U U (Af U (Af U (Af U (Af U (Af U ?_)))))))));refine Af U (An U U (.bool _) U (Ab ?_));exact ⟨rfl,(),rfl,⟨congrArg Value.bool (by rw [hhd,Bool.eq_iff_iff]; simp_all; done),trivial⟩,H⟩
     ·intro h8;replace h8:=Bp h8;refine Bh U Cq BW U H at0 U (Al U IC (Gw r q _ (by have:=hN (by simp_all); omega)) U ?_);rintro v w ⟨rfl,hx33⟩;replace H:=H.call hx33;refine Ct U U U (A1 U U (.bool _) U (Ak U U (A4 36 U ?_ ?_)))
      ·intro h9;replace h9:=AG h9;refine Af U (Af U (Af U (Af U (Af U (Af U (An U U (.bool _) U (Ab ?_)))))));exact ⟨rfl,(),rfl,⟨congrArg Value.bool (by rw [hhd,Bool.eq_iff_iff]; simp_all; done),trivial⟩,H⟩
      ·intro h10;replace h10:=AH h10;refine Ah U C4 U (Ah U BD U (AA U C5 U H at0 U (AV U BO U (Ae U U (AO U U U (A1 U U (.bool _) U (Ab ?_)))))));exact ⟨rfl,(),rfl,⟨congrArg Value.bool (by rw [hhd,Bool.eq_iff_iff]; simp_all; omega),trivial⟩,H⟩
 rintro - j43 w H;refine Ay _ U ?_ ?_
 ·intro h1;replace h1:=Bo h1;refine Ag (Ai U U (Ab (Aa (A9 (Am (AF (v:=(.bool _)) U U U ?_))))));exact ⟨congrArg Value.bool (by unfold Bw; rw [h1]; rfl),H.ext⟩
 ·intro h1;replace h1:=Bp h1;obtain ⟨g1,g2,g3,g4,g5,g6⟩:=Ns h1;have hNN:=JB g1;have RT:Rd w q.aE 4 Br (r.es.take r.ids.length):=(RA.E.ext0 H.ext).take _;have hRB:Bw r=((r.es.take r.ids.length).all (Ea (r.N - 1)) && GY r):=by unfold Bw; rw [h1]; rfl
  rw [hRB];obtain ⟨hh,hhN⟩:∃ hh:Nat,r.N - 1=hh:=⟨(r.N - 1).toNat,by omega⟩;obtain ⟨rest,hrest⟩:∃ rest,rest=r.es.drop r.ids.length:=⟨_,rfl⟩;have hrl:rest.length=r.es.length - r.ids.length:=by rw [hrest,List.length_drop]
  refine Ax (Aa (Ag (Ah U C4 U (Ah U BD U (AA U C5 U H at0 U (Ae U U (Fs U BO B3 U U (by omega) (by omega) ?_)))))));refine A5 U U (Ab (Aa (Aq (Ag (Ah U C4 U (Ah U BD U (AA U C5 U H at0 U (Ae U U (Gf U BO B3 U U (by omega) (by omega) ?_)))))))));refine C9 U [.pointer _] U (Al U ca_94 (XW r q b1 q.aE _ q.cE (r.es.take r.ids.length) _ (H.get at0) (by omega) ((RA.E.ext0 H.ext).take _) (by rw [List.length_take]; omega) (by omega)) U ?_);rintro v w ⟨rfl,hx55⟩;replace H:=H.call hx55;refine Ab (Aa (Ay _ U ?_ ?_))
  ·intro h2;refine Ag (Ai U U (Ab (Aa (A9 (Am (AF (v:=(.bool _)) U U U ?_))))));exact ⟨congrArg Value.bool (by rw [Bool.not_eq_true'] at h2; rw [h2]; rfl),H.ext⟩
  ·intro h2;have h2':(r.es.take r.ids.length).all (Ea (r.N - 1))=true:=by simpa using h2
   rw [h2',Bool.true_and];unfold GY;rw [← hrest];refine Ax (Aa (Aq (Ag (Ah U FZ U (AA U Fx U H at0 U (Ab (Aa (Ay _ U ?_ ?_))))))))
   ·intro h3;refine Ag (Ap U U (AV U BO U (BQ U U U (Ai U U (Ab (Aa (A9 (Am (AF (v:=(.bool _)) U U U ?_)))))))));exact ⟨congrArg Value.bool (by rw [if_pos h3,Bool.eq_iff_iff,decide_eq_true_eq,decide_eq_true_eq]; omega),H.ext⟩
   ·intro h3;rw [if_neg (by simp [h3])];refine Ax (Aa (Aq (Ag (Ap U U (AV U BO U (Bh U Cq BW U H at0 U (Al U IC (Gw r q _ (by omega)) U ?_)))))));rintro v w ⟨rfl,hx64⟩;replace H:=H.call hx64;refine Cn U U U (by omega) (by omega) ?_;refine CC U U U (Ab (Aa (Ay _ U ?_ ?_)))
    ·intro h4;replace h4:=CK h4;refine Ag (Ai U U (Ab (Aa (A9 (Am (AF (v:=(.bool _)) U U U ?_))))));exact ⟨congrArg Value.bool (by rw [decide_eq_false (by omega)]; rfl),H.ext⟩
    ·intro h4;replace h4:=CL h4;rw [decide_eq_true (show (rest.length:Int)=2*(r.N - 1) by omega),Bool.true_and,hhN,Int.toNat_natCast];have RR:Rd w0 (JZ q.aE q.cE r.ids.length 4) 4 Br rest:=by rw [hrest]; exact RA.E.cut _ _ hEc
     refine Ax (Aa (Aq (Ag (Bh U Cq BW U H at0 U (Al U IC (Gw r q _ (by omega)) U ?_)))));rintro v w ⟨rfl,hx68⟩;replace H:=H.call hx68;refine Ae U U (Ab (Aa (Av (Bd 158456324438232864828382249060 (α:=Nat) (fun i=>[(69,.int .i64 (i:Int))]) (fun i w'=>(i≤hh∧∀ b,b<i→FU (hh:Int) rest b=true)∧Ctx w0 [] w' [(b1,Bl 33 (A8 r q))]) (fun i=>hh - i) 0 U ?_ ?_ ?_))))
     ·exact ⟨rfl,trivial⟩
     ·exact ⟨⟨Nat.zero_le _,fun b h=>absurd h (Nat.not_lt_zero _)⟩,H⟩
     ·clear H;rintro i j w ⟨⟨hi,hbf⟩,H⟩;refine Ag (AO U U U (Ab (Aa (Aq (Ay _ U ?_ ?_)))))
      ·intro h5;replace h5:=AG h5;obtain ⟨x,hxe⟩:=AE (l:=rest) (i:=2*i) (by omega);obtain ⟨y,hye⟩:=AE (l:=rest) (i:=2*i+1) (by omega);have hat:FU (hh:Int) rest i=(decide (x=⟨hh,i,x.cap,0⟩) && decide (y=⟨i,hh,4503599627370496,0⟩)):=by unfold FU; rw [Bn hxe,Bn hye]
       have hidx:(2*(i:Int)).toNat=2*i:=by omega
       have hidx2:(2*(i:Int)+1).toNat=2*i+1:=by omega
       have hno:FU (hh:Int) rest i=false→(List.range hh).all (FU (hh:Int) rest)=false:=fun h=>by
        rw [← Bool.not_eq_true,List.all_eq_true];intro h9;have:=h9 i (List.mem_range.2 (by omega));rw [h] at this; cases this
       refine Ax (Aa (Aq (Av (Ag (Ae U U (Ad U U (Ab (Aa (Ag (Ap U U (Ae U U ?_)))))))))));refine Cn U U U (by omega) (by omega) ?_;refine AX RR U BO B3 U U (by omega) (by omega) (by omega) ?_;rw [hidx];refine Cd _ U DT B3 U U (((RR.ext0 H.ext).row hxe U)) ?_;refine Bs U Dn H ?_;rintro b6 w - H;refine BL U B3 U U U (by exact CN _) H at0 U ?_;rintro w H;refine Ab (Aa ?_);have HG:=H;have hb6:=H.get at0;have hb1:=H.get at1;obtain ⟨w3,rfl⟩:∃ z,z=w:=⟨_,rfl⟩;have H:=Ctx.start w3 [];refine CI [([0,1,2,3,4],5),([6,7,8,9,10,11,12,13,14,15],16),([17],18)] (fun z=>Ext [] w3 z) [] B0 (by kernel_rfl) (Ext.drew [] w3) ?_;refine AL U U ?_;refine Fb _ U DT B3 U U (fun _ hx=>(BU (b:=b6) (t:=92) (l:=Br x) (hx.to hb6 (by simp)) 0 (Br x) rfl)) ?_;refine Fb _ U Cq BW U U (fun _ hx=>(BU (b:=b1) (t:=33) (l:=A8 r q) (hx.to hb1 (by simp)) 0 (A8 r q) rfl)) ?_
       refine AP U U (AJ U CD U (BM U Bx U (fun _ hx=>(by rw [Au (hx.to hb6 (by simp))]; rfl)) ?_));refine Bu ?_;replace H:=H.drew;refine Al U Aas (Aa2 r q i x.cap _ (by omega)) U ?_;rintro v w ⟨rfl,hx82⟩;replace H:=H.call hx82;rw [hhN];refine Ab (BH (H.ext) (AL U U ?_));refine Aa1 (ks:=[true,true,true,true]) (xs:=Br x) (ys:=Br ⟨hh,i,x.cap,0⟩) (decide (x=⟨hh,i,x.cap,0⟩)) U (by kernel_rfl) U U ⟨rfl,rfl,rfl,rfl,trivial⟩ (KG _ _) ?_;refine Ir U U (GI 84 U ?_ ?_)
       ·intro h6;refine Er U (Er U (Er U (Er U (Er U (Er U (Er U (Er U (Bu (Af U ?_)))))))));refine Ab (BH (H.ext) (AL U U ?_));refine Er U (Bu (An U U (.bool _) U (Ab (BH (H.ext) (BS (Dc U (Ag (Ai U U (Ab (Aa (A9 (AB (Am (Am (AB (Am (AF (v:=(.bool _)) U U U ?_)))))))))))))))));have h6':¬ x=⟨hh,i,x.cap,0⟩:=by simpa using h6
        exact ⟨congrArg Value.bool (hno (by rw [hat,decide_eq_false h6']; rfl)).symm,HG.ext.trans H.ext⟩
       ·intro h6;refine Bq U U (AP U U (UP U U U (by omega) (by omega) ?_));refine Ee U U U (by omega) (by omega) ?_;refine C3 RR U BO B3 U U (by omega) (by omega) (by omega) ?_;rw [hidx2];refine Fb _ U DT B3 U U (fun _ hx=>((RR.ext0 (HG.ext.trans hx)).row hye rfl)) ?_;refine Fb _ U Cq BW U U (fun _ hx=>(BU (b:=b1) (t:=33) (l:=A8 r q) (hx.to hb1 (by simp)) 0 (A8 r q) rfl)) ?_;refine AP U U (Bu (Al U Aat (XV r q i _ (by omega)) U ?_));rintro v w ⟨rfl,hx93⟩;replace H:=H.call hx93;rw [hhN];refine Ab (BH (H.ext) (AL U U ?_));refine Aa1 (ks:=[true,true,true,true]) (xs:=Br y) (ys:=Br ⟨i,hh,4503599627370496,0⟩) (decide (y=⟨i,hh,4503599627370496,0⟩)) U (by kernel_rfl) U U ⟨rfl,rfl,rfl,rfl,trivial⟩ (KG _ _) ?_;refine Bu (A1 U U (.bool _) U (Ab (BH (H.ext) (BS (Ay _ U ?_ ?_)))))
        ·intro h7;refine Ag (Ai U U (Ab (Aa (A9 (AB (Am (Am (AB (Am (AF (v:=(.bool _)) U U U ?_))))))))));have h7':¬ y=⟨i,hh,4503599627370496,0⟩:=by simpa using h7
         exact ⟨congrArg Value.bool (hno (by rw [hat,decide_eq_false h7',Bool.and_false])).symm,HG.ext.trans H.ext⟩
        ·intro h7;refine Ax (A3 (Aa (Aw (Ao U U U (by omega) (by omega) ?_))));refine Ae U U (Ab (Aa ?_));refine ⟨i+1,rfl,⟨rfl,trivial⟩,⟨⟨by omega,fun b hb=>?_⟩,(HG.call H.ext).tail⟩,by omega⟩
         rcases Nat.lt_or_ge b i with h8 | h8
         ·exact hbf b h8
         ·obtain rfl:b=i:=by omega
          have h6':x=⟨hh,b,x.cap,0⟩:=by simpa using h6
          have h7':y=⟨b,hh,4503599627370496,0⟩:=by simpa using h7
          rw [hat,decide_eq_true h6',decide_eq_true h7']; rfl
      ·intro h5;replace h5:=AH h5;obtain rfl:i=hh:=by omega
       refine Bc (Aj (Aj (AD (Aa (Ag (Ai U U (Ab (Aa (A9 (AF (v:=(.bool _)) U U U ?_))))))))));exact ⟨congrArg Value.bool (List.all_eq_true.2 fun b hb=>hbf b (List.mem_range.1 hb)).symm,H.ext⟩
end Go.Proofs.YtapphbmlkdhnmaaGreat

/- Whether a round is right: the walk of the reference's. -/
namespace Go.Proofs.YtapphbmlkdhnmaaGreat
open Go.GV
attribute [local irreducible] AC W Wq Wt

theorem U2 {x:Ed} {f t c:Int}:x=⟨f,t,x.cap,c⟩↔(x.f=f∧x.t=t)∧x.cost=c:=by
 obtain ⟨a,b,c',d⟩:=x;simp [and_assoc]
theorem RJ {l:List Int}:l.Nodup↔∀ (k i:Nat) (x y:Int),k<i→l[k]? = some x→l[i]? = some y→x≠y:=by
 rw [List.Nodup,List.pairwise_iff_getElem];constructor
 ·intro h k i x y hki hx hy;obtain ⟨h1,rfl⟩:=List.getElem?_eq_some_iff.1 hx;obtain ⟨h2,rfl⟩:=List.getElem?_eq_some_iff.1 hy;exact h k i h1 h2 hki
 ·intro h i j hi hj hij;exact h i j _ _ hij (List.getElem?_eq_getElem hi) (List.getElem?_eq_getElem hj)
/-- The same, as far as one has gone. -/
def OV (r:Rnd) (z:Int):Bool:=((((Et r.N r.es r.fl r.pot && decide (0≤r.day)) && decide (r.ids.length≤64)) && decide (0≤z)) && decide (z≤16)) && decide (r.ids.length≤r.es.length)
set_option maxRecDepth 20000 in
set_option maxHeartbeats 16000000 in
theorem G9 (r:Rnd) (q:RSl) (w:World) (RA:RAt w r q) (hEc:r.es.length≤q.cE) (hr:RBnd r):Ret Tryz.prog 31 #[.agg (A8 r q).toArray] w fun v w'=>v = .bool (Bw r)∧Ext [] w w':=by
 obtain ⟨w0,rfl⟩:∃ w0,w0=w:=⟨_,rfl⟩;have H:=Ctx.start w0 [];have hNb:=hr.N;unfold I64 at hNb;have h1e:=hr.es;have h1i:=hr.ids;obtain ⟨ck,hck⟩:∃ ck,ck=Et r.N r.es r.fl r.pot:=⟨_,rfl⟩;refine A2 (fn:=Tryz.f31) Tryz.func31 U [.agg (A8 r q).toArray] U (by kernel_rfl) ?_;refine Ag (Bt U (A8 r q) (.agg _) U U H ?_);rintro b1 w - H;refine Ai U U (Ab (Aa (Ag (Ah U Dk U (AA U DS U H at0 U (AV U Bf U (Ad U U (Ab (Aa (Ag (Ah U C4 U ?_)))))))))));refine Ah U Dj U (AA U BG U H at0 U (T0 U U U ?_));intro z hz;refine Ad U U (Ab (Aa (Aq ?_)));have hhd:OV r z=(((((ck && decide (0≤r.day)) && decide (r.ids.length≤64)) && decide (0≤z)) && decide (z≤16)) && decide (r.ids.length≤r.es.length)):=by unfold OV; rw [← hck]
 refine Ag (B5 (α:=Unit) 1125899906318336 (fun _=>[(49,.bool (!OV r z))]) (fun _ w'=>Ctx w0 [] w' [(b1,Bl 33 (A8 r q))]) U ?_ ?_)
 ·refine Ah U C4 U (Cd _ U C1 Cs U U ((BU (b:=b1) (t:=33) (l:=A8 r q) (H.get at0) 4 [.int .i64 r.N,.slice q.aE r.es.length q.cE] U)) ?_);refine Ah U CW U (Cd _ U QJ MX U U ((BU (b:=b1) (t:=33) (l:=A8 r q) (H.get at0) 6 [.slice q.aF r.fl.length q.cF,.slice q.aP r.pot.length q.cP] U)) ?_);refine Al U ca_20 (R3 r.N q.aE q.aF q.aP _ q.cE _ q.cF _ q.cP r.es r.fl r.pot _ (RA.E.ext0 H.ext) U hr.es (RA.F.ext0 H.ext) U hr.fl (RA.P.ext0 H.ext) U hr.pot) U ?_;rintro v w ⟨rfl,hx23⟩;rw [← hck];replace H:=H.call hx23;refine Bv U U (Ak U U (A4 25 U ?_ ?_))
  ·intro h1;replace h1:=Bo h1;refine Af U (Af U (Af U (An U U (.bool _) U (Ak U U (Af U (Af U (An U U (.bool _) U (Ak U U (Af U ?_)))))))));refine Af U (An U U (.bool _) U (Ak U U (Af U (Af U (An U U (.bool _) U (Ak U U (Af U (Af U (Af U ?_)))))))));refine Af U (Af U (Af U (An U U (.bool _) U (Ab ?_))));exact ⟨rfl,(),rfl,⟨congrArg Value.bool (by rw [hhd,Bool.eq_iff_iff]; simp_all; done),trivial⟩,H⟩
  ·intro h2;replace h2:=Bp h2;refine Ah U K5 U (AA U Bx U H at0 U (AO U U U (A1 U U (.bool _) U (Ak U U (A4 30 U ?_ ?_)))))
   ·intro h3;replace h3:=AG h3;refine Af U (Af U (An U U (.bool _) U (Ak U U (Af U (Af U (An U U (.bool _) U (Ak U U (Af U (Af U ?_)))))))));refine An U U (.bool _) U (Ak U U (Af U (Af U (Af U (Af U (Af U (Af U (An U U (.bool _) U (Ab ?_)))))))));exact ⟨rfl,(),rfl,⟨congrArg Value.bool (by rw [hhd,Bool.eq_iff_iff]; simp_all; done),trivial⟩,H⟩
   ·intro h4;replace h4:=AH h4;refine Ae U U (Ct U U U (A1 U U (.bool _) U (Ak U U (A4 34 U ?_ ?_))))
    ·intro h5;replace h5:=AG h5;refine Af U (Af U (An U U (.bool _) U (Ak U U (Af U (Af U (An U U (.bool _) U (Ak U U (Af U (Af U ?_)))))))));refine Af U (Af U (Af U (Af U (An U U (.bool _) U (Ab ?_)))));exact ⟨rfl,(),rfl,⟨congrArg Value.bool (by rw [hhd,Bool.eq_iff_iff]; simp_all; omega),trivial⟩,H⟩
    ·intro h6;replace h6:=AH h6;refine Ae U U (AO U U U (A1 U U (.bool _) U (Ak U U (A4 38 U ?_ ?_))))
     ·intro h7;replace h7:=AG h7;refine Af U (Af U (An U U (.bool _) U (Ak U U (Af U (Af U (Af U (Af U (Af U (Af U ?_)))))))));refine An U U (.bool _) U (Ab ?_);exact ⟨rfl,(),rfl,⟨congrArg Value.bool (by rw [hhd,Bool.eq_iff_iff]; simp_all; done),trivial⟩,H⟩
     ·intro h8;replace h8:=AH h8;refine Ae U U (Ct U U U (A1 U U (.bool _) U (Ak U U (A4 42 U ?_ ?_))))
      ·intro h9;replace h9:=AG h9;refine Af U (Af U (Af U (Af U (Af U (Af U (An U U (.bool _) U (Ab ?_)))))));exact ⟨rfl,(),rfl,⟨congrArg Value.bool (by rw [hhd,Bool.eq_iff_iff]; simp_all; done),trivial⟩,H⟩
      ·intro h10;replace h10:=AH h10;refine Ah U C4 U (Ah U BD U (AA U C5 U H at0 U (AV U BO U (Ae U U (AO U U U (A1 U U (.bool _) U (Ab ?_)))))));exact ⟨rfl,(),rfl,⟨congrArg Value.bool (by rw [hhd,Bool.eq_iff_iff]; simp_all; omega),trivial⟩,H⟩
 rintro - j49 w H;refine Ay _ U ?_ ?_
 ·intro h1;replace h1:=Bo h1;refine Ag (Ai U U (Ab (Aa (A9 (Am (AF (v:=(.bool _)) U U U ?_))))));refine ⟨congrArg Value.bool (Eq.symm ?_),H.ext⟩;rw [← Bool.not_eq_true];intro hR;unfold Bw at hR;rw [Bool.and_eq_true] at hR;obtain ⟨g1,g2,g3,-,g5,g6⟩:=Ns hR.1;have hNN:=JB g1;have hz':=hz (by omega) (by omega);have:OV r z=true:=by unfold OV; rw [g1,decide_eq_true g2,decide_eq_true g3,decide_eq_true (show 0≤z by omega),decide_eq_true (show z≤16 by omega),decide_eq_true g6]; rfl
  rw [this] at h1; cases h1
 ·intro h1;replace h1:=Bp h1;unfold OV at h1;simp only [Bool.and_eq_true,decide_eq_true_eq] at h1;obtain ⟨⟨⟨⟨⟨g1,g2⟩,g3⟩,gz0⟩,gz16⟩,g6⟩:=h1;have hNN:=JB g1;obtain rfl:z=r.N - 1:=hz (by omega) (by omega);obtain ⟨hh,hhN⟩:∃ hh:Nat,r.N - 1=hh:=⟨(r.N - 1).toNat,by omega⟩
  have hRB:Bw r=(decide r.ids.Nodup && ((r.es.take r.ids.length).all (Ea (r.N - 1)) && GY r)):=by
   unfold Bw Jk;rw [g1,decide_eq_true g2,decide_eq_true g3,decide_eq_true gz16,decide_eq_true g6];simp
  rw [hhN] at hRB ⊢;have RI:=RA.I;have RE:=RA.E
  have hno:∀ (i:Nat) (e:Ed),i<r.ids.length→r.es[i]? = some e→Ea (hh:Int) e=false→Bw r=false:=fun i e hi he hw=>by
   rw [hRB,← Bool.not_eq_true,Bool.and_eq_true,Bool.and_eq_true,List.all_eq_true];rintro ⟨-,h9,-⟩;have:=h9 e (List.mem_of_getElem? (by rw [List.getElem?_take,if_pos hi]; exact he));rw [hw] at this; cases this
  refine Ax (Aa (Aq (Ag (Ad U U (Ab (Aa (Av (Bd 649037107316853452440412134310116 (α:=Nat) (fun i=>[(5,.int .i64 (i:Int))]) (fun i w'=>(i≤r.ids.length∧(∀ (k j:Nat) (x y:Int),k<j→j<i→r.ids[k]? = some x→r.ids[j]? = some y→x≠y)∧∀ (j:Nat) (e:Ed),j<i→r.es[j]? = some e→Ea (hh:Int) e=true)∧Ctx w0 [] w' [(b1,Bl 33 (A8 r q))]) (fun i=>r.ids.length - i) 0 U ?_ ?_ ?_))))))))
  ·exact ⟨rfl,trivial⟩
  ·exact ⟨⟨Nat.zero_le _,fun k j x y _ h=>absurd h (Nat.not_lt_zero _),fun j e h=>absurd h (Nat.not_lt_zero _)⟩,H⟩
  ·clear H;rintro i j5 w ⟨⟨hi,hbn,hbd⟩,H⟩;refine Aq (Ag (Ae U U (Ae U U (AO U U U (Ab (Aa (Ay _ U ?_ ?_)))))))
   ·intro h2;replace h2:=AG h2;obtain ⟨xi,hxi⟩:=AE (l:=r.ids) (i:=i) (by omega);obtain ⟨e,he⟩:=AE (l:=r.es) (i:=i) (by omega);refine Ax (Aa (Aq (Av (Aq (Ag (Ad U U (Ab (Aa (Av (Bd 2361147212637803642948 (α:=Nat) (fun k=>[(6,.int .i64 (k:Int))]) (fun k w'=>(k≤i∧∀ (j:Nat) (x:Int),j<k→r.ids[j]? = some x→x≠xi)∧Ctx w0 [] w' [(b1,Bl 33 (A8 r q))]) (fun k=>i - k) 0 U ?_ ?_ ?_))))))))))
    ·exact ⟨rfl,trivial⟩
    ·exact ⟨⟨Nat.zero_le _,fun j x h=>absurd h (Nat.not_lt_zero _)⟩,H⟩
    ·clear H;rintro k j6 w ⟨⟨hk,hbk⟩,H⟩;refine Aq (Ag (Ae U U (Ae U U (AO U U U (Ab (Aa (Ay _ U ?_ ?_)))))))
     ·intro h3;replace h3:=AG h3;obtain ⟨xk,hxk⟩:=AE (l:=r.ids) (i:=k) (by omega);refine Ax (Aa (Aq (Av (DQ (fun x=>x=_) B0 (by kernel_rfl) U ?_))));refine A7 U Dk U (Ce U DS U (by rintro _ rfl; exact H.drew) at0 U ?_);refine AN U U (BA RI U Bf Be U U (by omega) (by omega) (by rfl) ?_);refine Ch U BR U (by rintro _ rfl; exact (((RI.ext0 H.drew.ext).fld hxk rfl (j:=0) rfl))) ?_;refine A7 U Dk U (Ce U DS U (by rintro _ rfl; exact H.drew) at0 U ?_);refine AN U U (BA RI U Bf Be U U (by omega) (by omega) (by rfl) ?_);refine Ch U BR U (by rintro _ rfl; exact (((RI.ext0 H.drew.ext).fld hxi rfl (j:=0) rfl))) ?_;refine TI U U U (Ca ?_);rintro _ rfl;replace H:=H.drew;refine Ay _ U ?_ ?_
      ·intro h4;replace h4:=AG h4;refine Ag (Ai U U (Ab (Aa (A9 (AB (Am (Am (AB (Am (AB (Am (Am (AB (Am (AF (v:=(.bool _)) U U U ?_)))))))))))))));refine ⟨congrArg Value.bool (Eq.symm ?_),H.ext⟩;rw [hRB,decide_eq_false (fun h=>(RJ.1 h) k i xk xi (by omega) hxk hxi h4)]; rfl
      ·intro h4;replace h4:=AH h4;refine Ax (A3 (Aa (Aw (Ae U U (Ao U U U (by omega) (by omega) ?_)))));refine Ad U U (Ab (Aa ?_));refine ⟨k+1,rfl,⟨rfl,trivial⟩,⟨⟨by omega,fun j x hj hx=>?_⟩,H⟩,by omega⟩
       rcases Nat.lt_or_ge j k with h5 | h5
       ·exact hbk j x h5 hx
       ·obtain rfl:j=k:=by omega
        rw [hxk] at hx; cases hx;exact h4
     ·intro h3;replace h3:=AH h3;obtain rfl:k=i:=by omega
      refine Bc (Aj (Aj (AD (Aa (Ag (Ah U C4 U (Ah U BD U (AA U C5 U H at0 U (Ae U U (AX RE U BO B3 U U (by omega) (by omega) (by rfl) ?_))))))))));refine Cd _ U DT B3 U U (((RE.ext0 H.ext).row he U)) ?_;refine Bs U Dn H ?_;rintro b7 w - H;refine BL U B3 U U U (by exact CN _) H at0 U ?_;rintro w H;refine Ab (Aa ?_);replace H:Ctx w0 [] _ [(b7,Bl 92 (Br e)),(b1,Bl 33 (A8 r q))]:=H;refine Ag (B5 (α:=Unit) 649037107165737726114483394314240 (fun _=>[(108,.bool (!Ea (hh:Int) e))]) (fun _ w'=>Ctx w0 [] w' [(b7,Bl 92 (Br e)),(b1,Bl 33 (A8 r q))]) U ?_ ?_)
      ·refine Ah U CX U (AA U BG U H at0 U (Ae U U (CQ U U U (Ak U U (A4 81 U ?_ ?_)))))
       ·intro h11;replace h11:=AG h11;refine Af U (Af U (Af U (Af U (An U U (.bool _) U (Ak U U (Af U (Af U (Af U (Af U ?_)))))))));refine Af U (An U U (.bool _) U (Ak U U (Af U (Af U (Af U (An U U (.bool _) U (Ak U U (Af U (Af U ?_)))))))));refine Af U (An U U (.bool _) U (Ak U U (Af U (Af U (Af U (An U U (.bool _) U (Ab ?_)))))));exact ⟨rfl,(),rfl,⟨congrArg Value.bool (by unfold Ea; rw [Bool.eq_iff_iff]; simp_all; done),trivial⟩,H⟩
       ·intro h12;replace h12:=AH h12;refine Ah U Dl U (AA U BG U H at0 U (Ae U U (CQ U U U (A1 U U (.bool _) U (Ak U U (A4 87 U ?_ ?_))))))
        ·intro h13;replace h13:=AG h13;refine Af U (Af U (Af U (Af U (Af U (An U U (.bool _) U (Ak U U (Af U (Af U (Af U ?_)))))))));refine An U U (.bool _) U (Ak U U (Af U (Af U (Af U (An U U (.bool _) U (Ak U U (Af U (Af U (Af U ?_)))))))));refine An U U (.bool _) U (Ab ?_);exact ⟨rfl,(),rfl,⟨congrArg Value.bool (by unfold Ea; rw [Bool.eq_iff_iff]; simp_all; done),trivial⟩,H⟩
        ·intro h14;replace h14:=AH h14;refine Ah U CX U (AA U BG U H at0 U (Ah U Dl U (AA U BG U H at0 U (BQ U U U (A1 U U (.bool _) U (Ak U U (A4 94 U ?_ ?_)))))))
         ·intro h15;replace h15:=AG h15;refine Af U (Af U (Af U (An U U (.bool _) U (Ak U U (Af U (Af U (Af U (An U U (.bool _) U (Ak U U ?_)))))))));refine Af U (Af U (Af U (An U U (.bool _) U (Ab ?_))));exact ⟨rfl,(),rfl,⟨congrArg Value.bool (by unfold Ea; rw [Bool.eq_iff_iff]; simp_all; done),trivial⟩,H⟩
         ·intro h16;replace h16:=AH h16;refine Ah U CD U (AA U Bx U H at0 U (AO U U U (A1 U U (.bool _) U (Ak U U (A4 99 U ?_ ?_)))))
          ·intro h17;replace h17:=AG h17;refine Af U (Af U (Af U (An U U (.bool _) U (Ak U U (Af U (Af U (Af U (An U U (.bool _) U (Ab ?_)))))))));exact ⟨rfl,(),rfl,⟨congrArg Value.bool (by unfold Ea; rw [Bool.eq_iff_iff]; simp_all; done),trivial⟩,H⟩
          ·intro h18;replace h18:=AH h18;refine Ah U De U (AA U Bx U H at0 U (AO U U U (A1 U U (.bool _) U (Ak U U (A4 104 U ?_ ?_)))))
           ·intro h19;replace h19:=AG h19;refine Af U (Af U (Af U (An U U (.bool _) U (Ab ?_))));exact ⟨rfl,(),rfl,⟨congrArg Value.bool (by unfold Ea; rw [Bool.eq_iff_iff]; simp_all; done),trivial⟩,H⟩
           ·intro h20;replace h20:=AH h20;refine Ah U De U (AA U Bx U H at0 U (Ct U U U (A1 U U (.bool _) U (Ab ?_))));exact ⟨rfl,(),rfl,⟨congrArg Value.bool (by unfold Ea; rw [Bool.eq_iff_iff]; simp_all; done),trivial⟩,H⟩
      rintro - j108 w H;refine Ay _ U ?_ ?_
      ·intro h4;replace h4:=Bo h4;refine Ag (Ai U U (Ab (Aa (A9 (AB (Am (Am (AB (Am (AF (v:=(.bool _)) U U U ?_))))))))));exact ⟨congrArg Value.bool (hno k e (by omega) he h4).symm,H.ext⟩
      ·intro h4;replace h4:=Bp h4;refine Ax (A3 (Aa (Aw (Ae U U (Ao U U U (by omega) (by omega) ?_)))));refine Ad U U (Ab (Aa ?_));refine ⟨k+1,rfl,⟨rfl,trivial⟩,⟨⟨by omega,fun k' j x y hkj hj hx hy=>?_,fun j e' hj he'=>?_⟩,H.tail⟩,by omega⟩
       ·rcases Nat.lt_or_ge j k with h5 | h5
        ·exact hbn k' j x y hkj h5 hx hy
        ·obtain rfl:j=k:=by omega
         rw [hxi] at hy; cases hy;exact hbk k' x hkj hx
       ·rcases Nat.lt_or_ge j k with h5 | h5
        ·exact hbd j e' h5 he'
        ·obtain rfl:j=k:=by omega
         rw [he] at he'; cases he';exact h4
   ·intro h2;replace h2:=AH h2;obtain rfl:i=r.ids.length:=by omega
    have hnd:r.ids.Nodup:=RJ.2 fun k j x y hkj hx hy=>hbn k j x y hkj (CO hy) hx hy
    have hall:(r.es.take r.ids.length).all (Ea (r.N - 1))=true:=List.all_eq_true.2 fun e he=>by
     obtain ⟨k,hk⟩:=List.mem_iff_getElem?.1 he;rw [List.getElem?_take] at hk
     split at hk
     ·rename_i h7; rw [hhN]; exact hbd k e h7 hk
     ·cases hk
    obtain ⟨rest,hrest⟩:∃ rest,rest=r.es.drop r.ids.length:=⟨_,rfl⟩;have hrl:rest.length=r.es.length - r.ids.length:=by rw [hrest,List.length_drop]
    have hRB2:Bw r=GY r:=by rw [hRB,decide_eq_true hnd,← hhN,hall,Bool.true_and,Bool.true_and]
    rw [hRB2];unfold GY;rw [← hrest,hhN];refine Bc (Aj (Aj (AD (Aa (Ag (Ah U C4 U (Ah U BD U (AA U C5 U H at0 U (Ae U U (Fs U BO B3 U U (by omega) (by omega) ?_))))))))));refine A5 U U (Ab (Aa (Aq (Ag (Ah U FZ U (AA U Fx U H at0 U (Ab (Aa (Ay _ U ?_ ?_)))))))))
    ·intro h3;refine Ag (Ap U U (AV U BO U (BQ U U U (Ai U U (Ab (Aa (A9 (Am (AF (v:=(.bool _)) U U U ?_)))))))));exact ⟨congrArg Value.bool (by rw [if_pos h3,Bool.eq_iff_iff,decide_eq_true_eq,decide_eq_true_eq]; omega),H.ext⟩
    ·intro h3;rw [if_neg (by simp [h3])];refine Ax (Aa (Aq (Ag (Ap U U (AV U BO U (Ae U U (Cn U U U (by omega) (by omega) ?_)))))));refine CC U U U (Ab (Aa (Ay _ U ?_ ?_)))
     ·intro h4;replace h4:=CK h4;refine Ag (Ai U U (Ab (Aa (A9 (Am (AF (v:=(.bool _)) U U U ?_))))));exact ⟨congrArg Value.bool (by rw [decide_eq_false (by omega)]; rfl),H.ext⟩
     ·intro h4;replace h4:=CL h4;rw [decide_eq_true (show (rest.length:Int)=2*(hh:Int) by omega),Bool.true_and,Int.toNat_natCast];have RR:Rd w0 (JZ q.aE q.cE r.ids.length 4) 4 Br rest:=by rw [hrest]; exact RA.E.cut _ _ hEc
      refine Ax (Aa (Aq (Ag (Ad U U (Ab (Aa (Av (Bd 5846006549302344024882180676898671165659244662276 (α:=Nat) (fun i=>[(9,.int .i64 (i:Int))]) (fun i w'=>(i≤hh∧∀ b,b<i→FU (hh:Int) rest b=true)∧Ctx w0 [] w' [(b1,Bl 33 (A8 r q))]) (fun i=>hh - i) 0 U ?_ ?_ ?_))))))))
      ·exact ⟨rfl,trivial⟩
      ·exact ⟨⟨Nat.zero_le _,fun b h=>absurd h (Nat.not_lt_zero _)⟩,H⟩
      ·clear H;rintro i j9 w ⟨⟨hi,hbf⟩,H⟩;refine Aq (Ag (Ae U U (Ae U U (AO U U U (Ab (Aa (Ay _ U ?_ ?_)))))))
       ·intro h5;replace h5:=AG h5;obtain ⟨x,hxe⟩:=AE (l:=rest) (i:=2*i) (by omega);obtain ⟨y,hye⟩:=AE (l:=rest) (i:=2*i+1) (by omega)
        have hat:FU (hh:Int) rest i=(((decide (x.f=(hh:Int)) && decide (x.t=(i:Int))) && decide (x.cost=0)) && decide (y=⟨i,hh,4503599627370496,0⟩)):=by
         unfold FU;rw [Bn hxe,Bn hye]
         congr 1
         rw [Bool.eq_iff_iff,Bool.and_eq_true,Bool.and_eq_true,decide_eq_true_eq,decide_eq_true_eq,decide_eq_true_eq,decide_eq_true_eq];exact U2
        have hidx:(2*(i:Int)).toNat=2*i:=by omega
        have hidx2:(2*(i:Int)+1).toNat=2*i+1:=by omega
        have hnoH:FU (hh:Int) rest i=false→(List.range hh).all (FU (hh:Int) rest)=false:=fun h=>by
         rw [← Bool.not_eq_true,List.all_eq_true];intro h9;have:=h9 i (List.mem_range.2 (by omega));rw [h] at this; cases this
        refine Ax (Aa (Aq (Av (Ag (Ap U U (Ae U U (Cn U U U (by omega) (by omega) ?_)))))));refine AX RR U BO B3 U U (by omega) (by omega) (by omega) ?_;rw [hidx];refine Cd _ U DT B3 U U (((RR.ext0 H.ext).row hxe U)) ?_;refine Bs U Dn H ?_;rintro b10 w - H;refine BL U B3 U U U (by exact CN _) H at0 U ?_;rintro w H;refine Ab (Aa (Ag (Ap U U (Ae U U (Cn U U U (by omega) (by omega) ?_)))));refine Ao U U U (by omega) (by omega) ?_;refine AX RR U BO B3 U U (by omega) (by omega) (by omega) ?_;rw [hidx2];refine Cd _ U DT B3 U U (((RR.ext0 H.ext).row hye U)) ?_;refine Bs U Dn H ?_;rintro b11 w - H;refine BL U B3 U U U (by exact CN _) H at0 U ?_;rintro w H;refine Ab (Aa ?_);replace H:Ctx w0 [] _ [(b11,Bl 92 (Br y)),(b10,Bl 92 (Br x)),(b1,Bl 33 (A8 r q))]:=H
        refine Ag (B5 (α:=Unit) 5846005155527036764650792984882740038101136048128 (fun _=>[(161,.bool (!FU (hh:Int) rest i))]) (fun _ w'=>Ctx w0 [] w' [(b11,Bl 92 (Br y)),(b10,Bl 92 (Br x)),(b1,Bl 33 (A8 r q))]) U ?_ ?_)
        ·refine Ah U CX U (AA U BG U H at1 U (Ae U U (CC U U U (Ak U U (A4 144 U ?_ ?_)))))
         ·intro h21;replace h21:=CK h21;refine Af U (Af U (Af U (Af U (An U U (.bool _) U (Ak U U (Af U (Af U (Af U (An U U (.bool _) U ?_)))))))));refine Ak U U (Af U (Af U (Af U (Af U (Af U (An U U (.bool _) U (Ab ?_)))))));exact ⟨rfl,(),rfl,⟨congrArg Value.bool (by rw [hat,Bool.eq_iff_iff]; simp_all; done),trivial⟩,H⟩
         ·intro h22;replace h22:=CL h22;refine Ah U Dl U (AA U BG U H at1 U (Ae U U (CC U U U (A1 U U (.bool _) U (Ak U U (A4 150 U ?_ ?_))))))
          ·intro h23;replace h23:=CK h23;refine Af U (Af U (Af U (An U U (.bool _) U (Ak U U (Af U (Af U (Af U (Af U (Af U ?_)))))))));refine An U U (.bool _) U (Ab ?_);exact ⟨rfl,(),rfl,⟨congrArg Value.bool (by rw [hat,Bool.eq_iff_iff]; simp_all; done),trivial⟩,H⟩
          ·intro h24;replace h24:=CL h24;refine Ah U De U (AA U Bx U H at1 U (CC U U U (A1 U U (.bool _) U (Ak U U (A4 155 U ?_ ?_)))))
           ·intro h25;replace h25:=CK h25;refine Af U (Af U (Af U (Af U (Af U (An U U (.bool _) U (Ab ?_))))));exact ⟨rfl,(),rfl,⟨congrArg Value.bool (by rw [hat,Bool.eq_iff_iff]; simp_all; done),trivial⟩,H⟩
           ·intro h26;replace h26:=CL h26;refine Bh U DT B3 U H at0 U (Ae U U (Ae U U (Cp (Br ⟨i,hh,4503599627370496,0⟩) U JO Dn (by kernel_rfl) ?_)));refine Abg (ks:=[true,true,true,true]) (xs:=Br y) (ys:=Br ⟨i,hh,4503599627370496,0⟩) (decide (y=⟨i,hh,4503599627370496,0⟩)) U (by kernel_rfl) U U ⟨rfl,rfl,rfl,rfl,trivial⟩ (KG _ _) ?_;refine A1 U U (.bool _) U (Ab ?_);exact ⟨rfl,(),rfl,⟨congrArg Value.bool (by rw [hat,Bool.eq_iff_iff]; simp_all; done),trivial⟩,H⟩
        rintro - j161 w H;refine Ay _ U ?_ ?_
        ·intro h6;replace h6:=Bo h6;refine Ag (Ai U U (Ab (Aa (A9 (AB (Am (Am (AB (Am (AF (v:=(.bool _)) U U U ?_))))))))));exact ⟨congrArg Value.bool (hnoH h6).symm,H.ext⟩
        ·intro h6;replace h6:=Bp h6;refine Ax (A3 (Aa (Aw (Ae U U (Ao U U U (by omega) (by omega) ?_)))));refine Ad U U (Ab (Aa ?_));refine ⟨i+1,rfl,⟨rfl,trivial⟩,⟨⟨by omega,fun b hb=>?_⟩,H.tail.tail⟩,by omega⟩
         rcases Nat.lt_or_ge b i with h8 | h8
         ·exact hbf b h8
         ·obtain rfl:b=i:=by omega
          exact h6
       ·intro h5;replace h5:=AH h5;obtain rfl:i=hh:=by omega
        refine Bc (Aj (Aj (AD (Aa (Ag (Ai U U (Ab (Aa (A9 (AF (v:=(.bool _)) U U U ?_))))))))));exact ⟨congrArg Value.bool (List.all_eq_true.2 fun b hb=>hbf b (List.mem_range.1 hb)).symm,H.ext⟩
end Go.Proofs.YtapphbmlkdhnmaaGreat
