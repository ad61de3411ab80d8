/- Part 13 of the proof. -/
import Derived.Test.YtapphbmlkdhnmaaGreatPart2
import Derived.Test.YtapphbmlkdhnmaaGreatPart12
import Derived.Test.YtapphbmlkdhnmaaGreatPart4
import Derived.Test.YtapphbmlkdhnmaaGreatPart10
/- The function that gets a round of bytes. -/
namespace Go.Proofs.YtapphbmlkdhnmaaGreat
open Go.GV
attribute [local irreducible] AC W Wq Wt

theorem VH {w:World} (a b:Option Addr) (c d n m:Nat) (x y:List UInt8) (Rx:Rd w a 1 B8 x) (Ry:Rd w b 1 B8 y) (hn:x.length=n) (hm:y.length=m) :
  Ret Tryz.prog 84 #[.slice a n c,.slice b m d] w fun v w'=>v = .bool (decide (x=y))∧w=w':=by
 subst hn hm;refine A2 (fn:=Tryz.f84) Tryz.func84 U [.slice a x.length c,.slice b y.length d] U (by kernel_rfl) ?_;refine Ag (Ai U U (Ab (Aa (Ag (Ap U U (LR (l:=x) U C6 Gj SP U Rx ?_))))));refine Ap U U (LR (l:=y) U C6 Gj SP U Ry ?_);refine Wf (l:=x) (m:=y) U U U ?_;refine Ai U U (Ab (Aa (A9 (AF (v:=(.bool _)) U U U ?_))));exact ⟨rfl,rfl⟩
abbrev Aa6 (bd:Nat):Value := .func (.func 146) #[] [ptr bd].toArray
abbrev flwV (b7 b6:Nat):Value := .func (.func 81) #[] [ptr b7,ptr b6].toArray
theorem Yy (a:Option Addr) (c n:Nat) (w:World):Ret Tryz.prog 79 #[.slice a n c] w fun v w'=>∃ ba bd bb,v = .tuple #[G1 bb ba bd,Aa6 bd]∧Ctx w [] w' (tkL ba bd (0,false)++[(bb,Bl 69 [.slice a n c])]):=by
 obtain ⟨w0,rfl⟩:∃ w0,w0=w:=⟨_,rfl⟩;have H:=Ctx.start w0 [];refine A2 (fn:=Tryz.f79) Tryz.func79 U [.slice a n c] U (by kernel_rfl) ?_;refine Ag (Bt U _ (.slice _ _ _) U U H ?_);rintro b1 w - H;refine Cj U .nilFunc U ?_;refine Cj U .nilFunc U ?_;refine Ab (Aa (Ag (Bs U QP H ?_)));rintro b4 w - H;refine Bs U zc_4 H ?_;rintro b5 w - H;refine BX (.int _ _) U EV U U U H at1 (by decide) ?_;rintro w H;refine BX (.bool _) U LG U U U H at0 (by decide) ?_;rintro w H;refine Ab (Aa (Ag (C9 U [_,_,_] U (Cj U (.func _ _ _) U ?_))));refine Ab (Aa (Ag (BP U (.func _ _ _) U ?_)));refine C9 U [_] U (Cj U (.func _ _ _) U ?_);refine Cj U (.func _ _ _) U ?_;refine Ab (Aa (A9 (DG (v1:=(.func _ _ _)) (v2:=(.func _ _ _)) U U U U ?_)));refine ⟨b4,b5,b1,rfl,Ctx.perm H ?_⟩;exact List.Perm.swap _ _ _
theorem Js (l:List UInt8) (s:Nat × Bool):(nx l 1 s).1<256:=by
 unfold nx
 split
 ·show (0:Nat)<_;decide
 ·split
  ·have h1:=JC ((l.drop s.1).take 1);have h2:((l.drop s.1).take 1).length≤1:=by rw [List.length_take]; omega
   have h3:256 ^ ((l.drop s.1).take 1).length≤256 ^ 1:=Nat.pow_le_pow_right (by decide) h2;show numN _<_;omega
  ·show (0:Nat)<_;decide
theorem Yz (l:List UInt8) (s:Nat × Bool):(nx l 2 s).1<65536:=by
 unfold nx
 split
 ·show (0:Nat)<_;decide
 ·split
  ·have h1:=JC ((l.drop s.1).take 2);have h2:((l.drop s.1).take 2).length≤2:=by rw [List.length_take]; omega
   have h3:256 ^ ((l.drop s.1).take 2).length≤256 ^ 2:=Nat.pow_le_pow_right (by decide) h2;show numN _<_;omega
  ·show (0:Nat)<_;decide
theorem perm6 {α:Type} (a b c d e f:α):[a,b,c,d,e,f].Perm [d,e,a,b,f,c] :=
 (pmI [a,b] [c] [d,e,f]).trans (List.Perm.append_right [f,c] (List.perm_append_comm (l₁:=[a,b]) (l₂:=[d,e])))
theorem Ie (h:Hd) (p:PRd):(G4 h p).cmp=h.cmp:=rfl
theorem T3 (l:List UInt8):(hs1 l).1≤l.length:=EF (Nat.zero_le _)
theorem T4 (l:List UInt8):(hs2 l).1≤l.length:=EF (T3 l)
theorem T5 (l:List UInt8):(hs3 l).1≤l.length:=EF (T4 l)
theorem T6 (l:List UInt8):(hs4 l).1≤l.length:=EF (T5 l)
theorem T7 (l:List UInt8):(hs5 l).1≤l.length:=EF (T6 l)
theorem Y0 (l:List UInt8):(hs6 l).1≤l.length:=EF (T7 l)
/-- Nothing gathered yet. -/
abbrev gs0 (s:Nat × Bool):Gs:=⟨⟨[],[],[],[],s⟩,none,0,[],none,0,[],none,0,[],none,0,[]⟩
/-- The head, before the number of nodes is known. -/
abbrev hd0 (l:List UInt8):Hd:=⟨((nx l 8 (hs1 l)).1:Int),s64 (nx l 8 (hs2 l)).1,decide (((nx l 1 (hs3 l)).1:Int)=1),0⟩
theorem Y1 (n:Nat):s64 n<9223372036854775808:=by
 unfold s64 IntKind.wrap;have e1:((2:Int) ^ IntKind.i64.bits)=18446744073709551616:=by kernel_rfl
 have e2:((2:Int) ^ (IntKind.i64.bits - 1))=9223372036854775808:=by kernel_rfl
 simp only [e1,e2]
 split
 ·omega
 ·rename_i h
  simp [IntKind.signed] at h;omega
theorem N6 (l:List UInt8):∀ (d:Nat) (p:PRd),(∀ x∈p.ids,0≤x∧x<18446744073709551616)→∀ x∈(JT l d p).ids,0≤x∧x<18446744073709551616
 | 0,_,h=>h
 | d+1,p,h=>by
  unfold JT
  split
  ·exact h
  ·refine N6 l d _ fun x hx=>?_;have hx:x∈p.ids++[((nx l 8 p.s).1:Int)]:=hx
   rcases List.mem_append.1 hx with h1 | h1
   ·exact h x h1
   ·have h2:=Yv l (k:=8) (by decide) p.s;rw [List.mem_singleton] at h1;omega
theorem Pf (l:List UInt8) (h:Nat):∀ (n i:Nat) (p:PRd),(Gy l h n i p).ids=p.ids
 | 0,_,_=>rfl
 | n+1,i,p=>by
  unfold Gy
  split
  ·rfl
  ·rw [Pf l h n]; rfl
theorem RZ (l:List UInt8):∀ (n:Nat) (p:PRd),(JU l n p).ids=p.ids
 | 0,_=>rfl
 | n+1,p=>by
  unfold JU
  split
  ·rfl
  ·rw [RZ l n]; rfl
theorem Sa (l:List UInt8):∀ x∈(Jp l).ids,0≤x∧x<18446744073709551616:=by
 unfold Jp;dsimp only;rw [RZ]
 split
 ·exact N6 l _ _ (by simp)
 ·rw [Pf]; exact N6 l _ _ (by simp)
theorem Pg {r:Rnd} {w w':World} {v:Value} (hT:Bw r=true→∃ s,v = .tuple #[s,.int .i64 0]∧Fresh w w' 5 1 s ((Fa r).map bv)) (hF:Bw r=false→v = .tuple #[.slice none 0 0,.int .i64 1]∧Ext [] w w') :
  ∃ (a:Option Addr) (c:Nat) (bs:List UInt8) (e:Int),v = .tuple #[.slice a bs.length c,.int .i64 e]∧Rd w' a 1 B8 bs∧Ext [] w w'∧(Bw r=true→e=0∧bs=Fa r)∧(Bw r=false→e=1):=by
 cases h:Bw r with
 | true =>
  obtain ⟨s,rfl,F⟩:=hT h;obtain ⟨a,c,rfl,R,-⟩:=Fresh.rdB F;exact ⟨a,c,Fa r,0,rfl,R,F.ext,fun _=>⟨rfl,rfl⟩,fun h=>(by cases h)⟩
 | false =>
  obtain ⟨rfl,hx⟩:=hF h;exact ⟨none,0,[],1,rfl,Rd.nil,hx,fun h=>(by cases h),fun _=>rfl⟩
/-- What is told of bytes. -/
structure GetRes (l:List UInt8) (w w':World) (v:Value):Prop where
 ok:Hz l=true→∃ q,v = .tuple #[.agg (A8 (LJ l) q).toArray,.int .i64 0]∧RAt w' (LJ l) q∧(LJ l).es.length≤q.cE∧(∀ x∈[q.aI,q.aE,q.aF,q.aP],∀ p,x=some p→w.heap.size≤p.block)
 no:Hz l=false→v = .tuple #[.agg (A8 EY E0).toArray,.int .i64 5]
 ext:Ext [] w w'
set_option maxRecDepth 20000 in
set_option maxHeartbeats 16000000 in
theorem UA (a:Option Addr) (c:Nat) (l:List UInt8) (w:World) (R:Rd w a 1 B8 l) (hc:l.length≤c) (hm:l.length≤100000) (hoff:l≠[]→(adr a).block<w.heap.size) :
  Ret Tryz.prog 28 #[.slice a l.length c] w fun v w'=>(EZ l=true→GetRes l w w' v)∧(EZ l=false→v = .tuple #[.agg (A8 EY E0).toArray,.int .i64 5]∧Ext [] w w'):=by
 obtain ⟨w0,rfl⟩:∃ w0,w0=w:=⟨_,rfl⟩;have H:=Ctx.start w0 [];obtain ⟨rw',hrw⟩:∃ x,x=EZ l:=⟨_,rfl⟩;refine A2 (fn:=Tryz.f28) Tryz.func28 U [.slice a l.length c] U (by kernel_rfl) ?_;refine Ag (Bs U Gk H ?_);rintro b2 w - H;refine Ad U U (Ab (Aa (Aq (Ag (Ap U U (Al U ca_78 (RQ a c l _ (R.ext0 H.ext) (by omega) hc) U ?_))))));rintro v w ⟨rfl,rfl⟩;rw [← hrw];refine Bv U U (Ab (Aa (Ay _ U ?_ ?_)))
 ·intro h1;replace h1:=Bo h1;refine Ag (Cp (A8 EY E0) U L4 Gk (by kernel_rfl) ?_);refine BL U BW U U U (by exact (by decide)) H at0 U ?_;rintro w H;refine Ad U U (Ab (Aa (A9 (Am (Hi U U U Cq BW H at0 U (show _=(.int _ _) from rfl) ?_)))));exact ⟨fun h=>(by rw [h1] at h; cases h),fun _=>⟨rfl,H.ext⟩⟩
 ·intro h1;replace h1:=Bp h1;have hbig:∀ {w:World},Ext [] w0 w→w0.heap.size≤w.heap.size:=fun h=>h.size;refine Ax (Aa (Ag (Ap U U (Al U ca_79 (Yy a c l.length _) U ?_))));rintro v w ⟨ba,bd,bb,rfl,H22⟩;replace H:=Ctx.callEnt H H22.ext (fun x hx=>⟨H22.blk x hx,(H22.own x hx).elim (fun h=>(by cases h)) id⟩) H22.nd;refine BK U U (A6 (v:=G1 bb ba bd) U U U (A6 (v:=Aa6 bd) U U U (Bs U Adx H ?_)));rintro b4 w - H;refine BX (.func _ _ _) U Adr U U U H at0 (by decide) ?_;rintro w H;refine Cj U (.func _ _ _) U ?_;refine Ab (Aa (Ag (C9 U [ptr b4] U (Bs U Ady H ?_))));rintro b6 w - H;refine BX (.func _ _ _) U Ads U U U H at0 (by decide) ?_;rintro w H;refine Ab (Aa ?_);replace H:Ctx w0 [] _ (tkL ba bd (0,false)++[(b6,Bl 139 [NL b4]),(b4,Bl 136 [G1 bb ba bd]),(bb,Bl 69 [.slice a l.length c]),(b2,Bl 33 (A8 EY E0))]):=Ctx.perm H (perm6 _ _ _ _ _ _)
  have X0:GFix (⟨ba,bd,bb,b2,b4,b6,0,a,c,l⟩:Gt) w0:=⟨R,hoff,hc,hm⟩;refine Ag (AA U Ht U H at3 U (C0 U U Hv (Jq (T:=(⟨ba,bd,bb,b2,b4,b6,0,a,c,l⟩:Gt)) (s:=(0,false)) (k:=4) X0 H (by simp) (Nat.zero_le _) (.inr (.inr (.inl U)))) U ?_));rintro v w ⟨rfl,H27,-⟩;replace H:Ctx w0 [] w (tkL ba bd (hs1 l)++[(b6,Bl 139 [NL b4]),(b4,Bl 136 [G1 bb ba bd]),(bb,Bl 69 [.slice a l.length c]),(b2,Bl 33 (A8 EY E0))]):=H27;refine Ab (Aa (DC 68451041408 (α:=Nat) (fun b7=>[(7,ptr b7)]) (fun b7 w'=>Ctx w0 [] w' (gL (⟨ba,bd,bb,b2,b4,b6,b7,a,c,l⟩:Gt) (hd0 l) (gs0 (hs4 l)) (hs4 l))) U ?_ ?_))
  ·skip
   have hSw:∀ x∈[ba,bd],x<w.heap.size:=fun x hx=>by
    simp only [List.mem_cons,List.not_mem_nil,or_false] at hx
    rcases hx with rfl | rfl
    ·exact H.lt (k:=0) U
    ·exact H.lt (k:=1) U
   have hlt:=Ctx.ltI H
   refine E6 (n:=9) (N:=10) (anc:=IU 9 [[],[0],[],[0,1,2],[],[0,1,2,3,4],[0,1,2,3,4,5],[0,1,2,3,4,5,6],[]]) [ba,bd] (fun i=>if i=8 then 7 else 28+i) [isV (G1 bb ba bd),isV (.int .u64 ((nx l 8 (hs1 l)).1:Int)),isV (NL b4),isV (.int .i64 (s64 (nx l 8 (hs2 l)).1)),isV (G1 bb ba bd),isV (.int .u64 ((nx l 1 (hs3 l)).1:Int)),isV (.bool (decide (((nx l 1 (hs3 l)).1:Int)=1))),isV (.agg (A8 (G4 (hd0 l) (gs0 (hs4 l)).p) E0).toArray),nwV w (Bl 33 (A8 EY E0))] [1,3,5] (fun k w'=>Ctx w0 [] w' (tkL ba bd ([hs1 l,hs2 l,hs3 l,hs4 l].getD k (hs1 l))++[(b6,Bl 139 [NL b4]),(b4,Bl 136 [G1 bb ba bd]),(bb,Bl 69 [.slice a l.length c]),(b2,Bl 33 (A8 EY E0))])) (show Tryz.prog.follows .mixedOrders=true by kernel_rfl) U (by decide) (by kernel_rfl) (D8 _) (fun i j _ _ h=>by have h:(if i=8 then 7 else 28+i:Nat)=(if j=8 then 7 else 28+j:Nat):=h; split at h <;> split at h <;> omega) ⟨Bj _ _,Bj _ _,Bj _ _,Bj _ _,Bj _ _,Bj _ _,Bj _ _,Bj _ _,TS hSw _,trivial⟩ (by kernel_rfl) (fun k w w2 h hx=>h.call hx) H.drew (by kernel_rfl) ?_ ?_ ?_
   ·rintro m o e' w' hm hic ho hold hg hx ⟨k,HJ⟩;have hin:∀ t:Nat,t<7→∀ j,j<9→t≠(fun i=>if i=8 then 7 else 28+i) j:=fun t ht j hj=>by dsimp only; split <;> omega
    have g4:e'.g 4=ptr b4:=(hold 4 (hin 4 (by decide))).trans rfl;have g6:e'.g 6=ptr b6:=(hold 6 (hin 6 (by decide))).trans rfl;have hcs:m=0∨m=1∨m=2∨m=3∨m=4∨m=5∨m=6∨m=7∨m=8:=by omega
    rcases hcs with rfl | rfl | rfl | rfl | rfl | rfl | rfl | rfl | rfl
    ·cases Option.some.inj ho;exact AY U Ht g4 (by rw [Au (HJ.get (k:=3) rfl)]; rfl) (Ab ⟨_,.refl _ _,rfl,rfl⟩)
    ·exact absurd (by decide) hic
    ·cases Option.some.inj ho;exact AY U MP g6 (by rw [Au (HJ.get (k:=2) rfl)]; rfl) (Ab ⟨_,.refl _ _,rfl,rfl⟩)
    ·exact absurd (by decide) hic
    ·cases Option.some.inj ho;exact AY U Ht g4 (by rw [Au (HJ.get (k:=3) rfl)]; rfl) (Ab ⟨_,.refl _ _,rfl,rfl⟩)
    ·exact absurd (by decide) hic
    ·cases Option.some.inj ho;exact BQ U (hg 5 (by decide)) U (Ab ⟨_,.refl _ _,rfl,rfl⟩)
    ·cases Option.some.inj ho;refine Cp (A8 (G4 (hd0 l) (gs0 (hs4 l)).p) E0) U L4 Gk ?_ (Ab ⟨_,.refl _ _,rfl,rfl⟩);show Instr.fill _ _ [(0,e'.g 29),(1,e'.g 31),(2,e'.g 34)]=_;rw [show e'.g 29 = .int .u64 ((nx l 8 (hs1 l)).1:Int) from (hg 1 (by decide)),show e'.g 31 = .int .i64 (s64 (nx l 8 (hs2 l)).1) from (hg 3 (by decide)),show e'.g 34 = .bool (decide (((nx l 1 (hs3 l)).1:Int)=1)) from (hg 6 (by decide))];kernel_rfl
    ·cases Option.some.inj ho;refine Bs U Gk (Ctx.start w' []) ?_;intro b w2 _ H;exact Ab ⟨_,H.ext,rfl,b,rfl,H.get at0,Nat.le_trans hx.size ((H.own _ (List.mem_cons_self ..)).elim (fun h=>by cases h) id)⟩
   ·intro k im o e' w' hk ho hold hg hx HJ;have hin:∀ t:Nat,t<7→∀ j,j<9→t≠(fun i=>if i=8 then 7 else 28+i) j:=fun t ht j hj=>by dsimp only; split <;> omega
    have g4:e'.g 4=ptr b4:=(hold 4 (hin 4 (by decide))).trans rfl;have g6:e'.g 6=ptr b6:=(hold 6 (hin 6 (by decide))).trans rfl
    rcases k with _ | _ | _ | k
    ·cases hk;cases Option.some.inj ho;refine C0 U (hg 0 (by decide)) Hv (Jq (T:=(⟨ba,bd,bb,b2,b4,b6,0,a,c,l⟩:Gt)) (k:=8) X0 HJ (by simp) (T3 l) (.inr (.inr (.inr U)))) U ?_;rintro v w2 ⟨rfl,h2,h3⟩;exact Ab ⟨_,h3,rfl,rfl,h2⟩
    ·cases hk;cases Option.some.inj ho;refine C0 U (hg 2 (by decide)) QL (U9 (T:=(⟨ba,bd,bb,b2,b4,b6,0,a,c,l⟩:Gt)) X0 HJ (by simp) (by simp) (T4 l)) U ?_;rintro v w2 ⟨rfl,h2,h3⟩;exact Ab ⟨_,h3,rfl,rfl,h2⟩
    ·cases hk;cases Option.some.inj ho;refine C0 U (hg 4 (by decide)) Hv (Jq (T:=(⟨ba,bd,bb,b2,b4,b6,0,a,c,l⟩:Gt)) (k:=1) X0 HJ (by simp) (T5 l) (.inl U)) U ?_;rintro v w2 ⟨rfl,h2,h3⟩;exact Ab ⟨_,h3,rfl,rfl,h2⟩
    ·simp at hk
   ·intro e' w' hds hold hg hx HJ;have hin:∀ t:Nat,t<7→∀ j,j<9→t≠(fun i=>if i=8 then 7 else 28+i) j:=fun t ht j hj=>by dsimp only; split <;> omega
    obtain ⟨b7,h8,hb7,hn7⟩:=hg 8 (by decide)
    have HB:Ctx w0 [] w' ((b7,Bl 33 (A8 EY E0))::(tkL ba bd (hs4 l)++[(b6,Bl 139 [NL b4]),(b4,Bl 136 [G1 bb ba bd]),(bb,Bl 69 [.slice a l.length c]),(b2,Bl 33 (A8 EY E0))])):=Ctx.add HJ hb7 (.inr (Nat.le_trans H.size hn7)) fun x hx he=>by
     have:=hlt x.1 (List.mem_map_of_mem (f:=(·.1)) hx);omega
    refine BL (l:=A8 EY E0) U BW h8 (hg 7 (by decide)) U (by simp [B4]) HB at0 U fun w3 H3=>Ab ?_;exact ⟨b7,hds,⟨h8,trivial⟩,Ctx.perm H3 List.perm_middle.symm⟩
  ·rintro b7 j6 w H;have X:GFix (⟨ba,bd,bb,b2,b4,b6,b7,a,c,l⟩:Gt) w0:=⟨R,hoff,hc,hm⟩;have hhub:Cf l<256:=Js _ _;have hcnt:Jo l<256:=Js _ _;have hh1:(nx l 1 (hs4 l)).1<256:=hhub;have hh2:(nx l 1 (hs5 l)).1<256:=hcnt;refine DC 4329327035136 (α:=Unit) (fun _=>[(8,.int .i64 (Cf l:Int)),(9,.int .i64 (Jo l:Int))]) (fun _ w'=>Ctx w0 [] w' (gL (⟨ba,bd,bb,b2,b4,b6,b7,a,c,l⟩:Gt) (hd0 l) (gs0 (hs4 l)) (hs6 l))) U ?_ ?_
   ·skip
    refine E6 (n:=7) (N:=8) (anc:=IU 7 [[],[0],[0,1],[],[0,1,3],[0,1,3,4],[0,1,2,3,4]]) [ba,bd] (fun i=>if i=6 then 8 else 36+i) [isV (G1 bb ba bd),isV (.int .u64 ((nx l 1 (hs4 l)).1:Int)),isV (.int .i64 ((nx l 1 (hs4 l)).1:Int)),isV (G1 bb ba bd),isV (.int .u64 ((nx l 1 (hs5 l)).1:Int)),isV (.int .i64 ((nx l 1 (hs5 l)).1:Int)),isV (.int .i64 (Cf l:Int))] [1,4] (fun k w'=>Ctx w0 [] w' (gL (⟨ba,bd,bb,b2,b4,b6,b7,a,c,l⟩:Gt) (hd0 l) (gs0 (hs4 l)) ([hs4 l,hs5 l,hs6 l].getD k (hs4 l)))) (show Tryz.prog.follows .mixedOrders=true by kernel_rfl) U (by decide) (by kernel_rfl) (D8 _) (fun i j _ _ h=>by have h:(if i=6 then 8 else 36+i:Nat)=(if j=6 then 8 else 36+j:Nat):=h; split at h <;> split at h <;> omega) ⟨Bj _ _,Bj _ _,Bj _ _,Bj _ _,Bj _ _,Bj _ _,Bj _ _,trivial⟩ (by kernel_rfl) (fun k w w2 h hx=>h.call hx) H.drew (by kernel_rfl) ?_ ?_ ?_
    ·rintro m o e' w' hm hic ho hold hg hx ⟨k,HJ⟩;have hin:∀ t:Nat,t<8→∀ j,j<7→t≠(fun i=>if i=6 then 8 else 36+i) j:=fun t ht j hj=>by dsimp only; split <;> omega
     have g4:e'.g 4=ptr b4:=(hold 4 (hin 4 (by decide))).trans rfl;have hcs:m=0∨m=1∨m=2∨m=3∨m=4∨m=5∨m=6:=by omega
     rcases hcs with rfl | rfl | rfl | rfl | rfl | rfl | rfl
     ·cases Option.some.inj ho;exact AY U Ht g4 (by rw [Au (HJ.get (k:=4) rfl)]; rfl) (Ab ⟨_,.refl _ _,rfl,rfl⟩)
     ·exact absurd (by decide) hic
     ·cases Option.some.inj ho;exact Dv U (hg 1 (by decide)) Da Fy (by omega) (by omega) (Ab ⟨_,.refl _ _,rfl,rfl⟩)
     ·cases Option.some.inj ho;exact AY U Ht g4 (by rw [Au (HJ.get (k:=4) rfl)]; rfl) (Ab ⟨_,.refl _ _,rfl,rfl⟩)
     ·exact absurd (by decide) hic
     ·cases Option.some.inj ho;exact Dv U (hg 4 (by decide)) Da Fy (by omega) (by omega) (Ab ⟨_,.refl _ _,rfl,rfl⟩)
     ·cases Option.some.inj ho;exact Cj U _ (hg 2 (by decide)) (Ab ⟨_,.refl _ _,rfl,rfl⟩)
    ·intro k im o e' w' hk ho hold hg hx HJ;have hin:∀ t:Nat,t<8→∀ j,j<7→t≠(fun i=>if i=6 then 8 else 36+i) j:=fun t ht j hj=>by dsimp only; split <;> omega
     have g4:e'.g 4=ptr b4:=(hold 4 (hin 4 (by decide))).trans rfl
     rcases k with _ | _ | k
     ·cases hk;cases Option.some.inj ho;refine C0 U (hg 0 (by decide)) Hv (Jr (T:=(⟨ba,bd,bb,b2,b4,b6,b7,a,c,l⟩:Gt)) (k:=1) X HJ (T6 l) (.inl U)) U ?_;rintro v w2 ⟨rfl,h2,h3⟩;exact Ab ⟨_,h3,rfl,rfl,h2⟩
     ·cases hk;cases Option.some.inj ho;refine C0 U (hg 3 (by decide)) Hv (Jr (T:=(⟨ba,bd,bb,b2,b4,b6,b7,a,c,l⟩:Gt)) (k:=1) X HJ (T7 l) (.inl U)) U ?_;rintro v w2 ⟨rfl,h2,h3⟩;exact Ab ⟨_,h3,rfl,rfl,h2⟩
     ·simp at hk
    ·intro e' w' hds hold hg hx HJ;have hin:∀ t:Nat,t<8→∀ j,j<7→t≠(fun i=>if i=6 then 8 else 36+i) j:=fun t ht j hj=>by dsimp only; split <;> omega
     refine Cj U _ (hg 5 (by decide)) (Ab ?_);exact ⟨(),hds,⟨hg 6 (by decide),CH _ _ _,trivial⟩,HJ.call (.refl _ _)⟩
   ·rintro - j7 w H;refine Ag (Ae U U (Ao U U U (by omega) (by omega) ?_));refine Ah U C4 U (Ah U Dj U (BX (.int _ _) U EV U U U H at2 (by (simp; done)) ?_));rintro w H;refine Ab (Aa (Ag (C9 U [ptr b7,ptr b6] U ?_)));replace H:Ctx w0 [] _ (gL (⟨ba,bd,bb,b2,b4,b6,b7,a,c,l⟩:Gt) (hdP l) (gs0 (hs6 l)) (hs6 l)):=H;refine Cj U (.func _ _ _) U ?_;refine Ab (Aa (Aq (Av ?_)));obtain ⟨P1,hP1⟩:∃ P,P=JT l (Jo l) (gs0 (hs6 l)).p:=⟨_,rfl⟩;refine Bd 604462909666577099000320 (α:=Gs × Nat) (fun z=>[(9,.int .i64 (z.2:Int))]) (fun z w'=>GOk (⟨ba,bd,bb,b2,b4,b6,b7,a,c,l⟩:Gt) (hdP l) w0 w' z.1∧JT l z.2 z.1.p=P1∧z.1.p.pot.length=0∧z.1.p.ids.length+z.2≤256∧z.1.p.es.length+z.2≤256∧z.1.p.fl.length+z.2≤256) (fun z=>z.2) (gs0 (hs6 l),Jo l) U ?_ ?_ ?_
    ·exact ⟨rfl,trivial⟩
    ·refine ⟨⟨H,OS.nil,OS.nil,OS.nil,OS.nil,Y0 l⟩,hP1.symm,rfl,?_,?_,?_⟩ <;> (simp; omega)
    ·clear H;rintro ⟨⟨⟨ids,es,fl,pot,p,bad⟩,aI,cI,fI,aE,cE,fE,aF,cF,fF,aP,cP,fP⟩,n⟩ j w ⟨⟨H,OI,OE,OF,OP,hs⟩,hP,hpt,n1,n2,n3⟩; dsimp only at H OI OE OF OP hs hP hpt n1 n2 n3; dsimp only;refine Aq (Ag (B5 (α:=Unit) 8866461766385664 (fun _=>[(52,.bool (decide (0<(n:Int)) && !bad))]) (fun _ w'=>Ctx w0 [] w' (gL (⟨ba,bd,bb,b2,b4,b6,b7,a,c,l⟩:Gt) (hdP l) ⟨⟨ids,es,fl,pot,p,bad⟩,aI,cI,fI,aE,cE,fE,aF,cF,fF,aP,cP,fP⟩ (p,bad))) U ?_ ?_))
     ·refine Ae U U (Ct U U U (Ak U U (A4 49 U ?_ ?_)))
      ·intro h1;replace h1:=AG h1;refine BP U (.func _ _ _) U ?_;refine C0 U U P6 (Qf bd bad _ (H.get (k:=1) U)) U ?_;rintro v w ⟨rfl,hx51⟩;replace H:=H.call hx51;refine An U U (.bool _) U (Ab ?_);exact ⟨rfl,(),rfl,⟨congrArg Value.bool (by simp_all),trivial⟩,H⟩
      ·intro h2;replace h2:=AH h2;refine Af U (Af U (A1 U U (.bool _) U (Ab ?_)));exact ⟨rfl,(),rfl,⟨congrArg Value.bool (by simp_all),trivial⟩,H⟩
     rintro - j52 w H;refine Ay _ U ?_ ?_
     ·intro h2;rw [Bool.and_eq_true,decide_eq_true_eq,Bool.not_eq_true'] at h2;obtain ⟨h3,rfl⟩:=h2;obtain ⟨m,rfl⟩:∃ m,n=m+1:=⟨n - 1,by omega⟩;refine Ax (Aa (Aq (Av (DC 4575657221408423936 (α:=Option Addr × Nat × List Value) (fun _=>[]) (fun z w'=>Ctx w0 [] w' (gL (⟨ba,bd,bb,b2,b4,b6,b7,a,c,l⟩:Gt) (hdP l) ⟨⟨ids++[((nx l 8 (p,false)).1:Int)],es,fl,pot,(nx l 8 (p,false)).2⟩,z.1,z.2.1,z.2.2,aE,cE,fE,aF,cF,fF,aP,cP,fP⟩ (nx l 8 (p,false)).2)∧OS z.1 (ids++[((nx l 8 (p,false)).1:Int)]).length z.2.1 1 z.2.2 ((ids++[((nx l 8 (p,false)).1:Int)]).flatMap U1)) U ?_ ?_))))
      ·skip
       have hSw:=Ctx.ltS H;refine E6 (n:=5) (N:=8) (anc:=IU 5 [[],[0],[],[2],[2,3]]) [ba,bd] (fun i=>55+i) [isV (.pointer (some ⟨b7,3,none⟩)),isV (.slice aI ids.length cI),isV (G1 bb ba bd),isV (.int .u64 ((nx l 8 (p,false)).1:Int)),nsV w 24 1 [.int .u64 ((nx l 8 (p,false)).1:Int)]] [3] (fun k w'=>Ctx w0 [] w' (gL (⟨ba,bd,bb,b2,b4,b6,b7,a,c,l⟩:Gt) (hdP l) ⟨⟨ids,es,fl,pot,p,false⟩,aI,cI,fI,aE,cE,fE,aF,cF,fF,aP,cP,fP⟩ ([(p,false),(nx l 8 (p,false)).2].getD k (p,false)))) (show Tryz.prog.follows .mixedOrders=true by kernel_rfl) U (by decide) (by kernel_rfl) (D8 _) (fun i j _ _ h=>by have h:55+i=55+j:=h; omega) ⟨Bj _ _,Bj _ _,Bj _ _,Bj _ _,Hj hSw _ _ _,trivial⟩ (by kernel_rfl) (fun k w w2 h hx=>h.call hx) H.drew (by kernel_rfl) ?_ ?_ ?_
       ·rintro m o e' w' hm hic ho hold hg hx ⟨k,HJ⟩;have hin:∀ t:Nat,t<55→∀ j,j<5→t≠(fun i=>55+i) j:=fun t ht j hj=>by dsimp only; omega
        have g4:e'.g 4=ptr b4:=(hold 4 (hin 4 (by decide))).trans rfl;have g7:e'.g 7=ptr b7:=(hold 7 (hin 7 (by decide))).trans rfl;have hcs:m=0∨m=1∨m=2∨m=3∨m=4:=by omega
        rcases hcs with rfl | rfl | rfl | rfl | rfl
        ·cases Option.some.inj ho;exact Ah (off:=3) U (by kernel_rfl) g7 (Ab ⟨_,.refl _ _,rfl,rfl⟩)
        ·cases Option.some.inj ho;exact AY U DS (hg 0 (by decide)) (by rw [Au (HJ.get (k:=2) rfl)]; rfl) (Ab ⟨_,.refl _ _,rfl,rfl⟩)
        ·cases Option.some.inj ho;exact AY U Ht g4 (by rw [Au (HJ.get (k:=4) rfl)]; rfl) (Ab ⟨_,.refl _ _,rfl,rfl⟩)
        ·exact absurd (by decide) hic
        ·cases Option.some.inj ho;refine CJ [.int .u64 ((nx l 8 (p,false)).1:Int)] U Bf Be K6 (by decide) (by decide) ?_ (Ctx.start w' []) ?_
         ·show Instr.fill _ _ [(0,e'.g 58)]=_;rw [show e'.g 58 = .int .u64 ((nx l 8 (p,false)).1:Int) from (hg 3 (by decide))];kernel_rfl
         ·intro b w2 _ H;exact Ab ⟨_,H.ext,rfl,b,rfl,H.get at0,Nat.le_trans hx.size ((H.own _ (List.mem_cons_self ..)).elim (fun h=>by cases h) id)⟩
       ·intro k im o e' w' hk ho hold hg hx HJ;have hin:∀ t:Nat,t<55→∀ j,j<5→t≠(fun i=>55+i) j:=fun t ht j hj=>by dsimp only; omega
        have g4:e'.g 4=ptr b4:=(hold 4 (hin 4 (by decide))).trans rfl;have g7:e'.g 7=ptr b7:=(hold 7 (hin 7 (by decide))).trans rfl
        rcases k with _ | k
        ·cases hk;cases Option.some.inj ho;refine C0 U (hg 2 (by decide)) Hv (Jr (T:=(⟨ba,bd,bb,b2,b4,b6,b7,a,c,l⟩:Gt)) (k:=8) X HJ hs (.inr (.inr (.inr U)))) U ?_;rintro v w2 ⟨rfl,h2,h3⟩;exact Ab ⟨_,h3,rfl,rfl,h2⟩
        ·simp at hk
       ·intro e' w' hds hold hg hx HJ;have hin:∀ t:Nat,t<55→∀ j,j<5→t≠(fun i=>55+i) j:=fun t ht j hj=>by dsimp only; omega
        obtain ⟨b4',h4',hb4',hn4'⟩:=hg 4 (by decide);refine Dt U Bf Bf Be TT K6 U (by decide) [.int .u64 ((nx l 8 (p,false)).1:Int)] (hg 1 (by decide)) h4' (Ctx.perm HJ (Qg _ _ _ _)) OI U (by simp [B4]) (fun j v hv=>⟨_,rfl,by rw [Co,Nat.zero_add,Au hb4']; exact hv⟩) (by omega) fun a' c' full' w3 H6 O6=>?_;replace H6:=H6.perm (Qg _ _ _ _).symm;rw [show ids.length+1=(ids++[((nx l 8 (p,false)).1:Int)]).length from by simp] at O6 ⊢;refine Ah (off:=3) U (by kernel_rfl) ((hold 7 (hin 7 (by decide))).trans U) ?_;refine BX (.slice a' (ids++[((nx l 8 (p,false)).1:Int)]).length c') U WS (CH _ _ _) U U H6 at2 (by simp) fun w4 H8=>Ab ?_;exact ⟨(a',c',full'),hds,trivial,H8,by rw [List.flatMap_append,List.flatMap_singleton]; exact O6⟩
      ·rintro ⟨aI,cI,fI⟩ j12 w ⟨H,OI⟩; dsimp only at H OI; (try dsimp only);obtain ⟨idn,hid⟩:∃ x,x=((nx l 8 (p,false)).1:Int):=⟨_,rfl⟩;obtain ⟨s1,hs1'⟩:∃ x,x=(nx l 8 (p,false)).2:=⟨_,rfl⟩;rw [← hid,← hs1'] at H;rw [← hid] at OI;have k1:s1.1≤l.length:=by rw [hs1']; exact EF hs
       have k2:(nx l 1 s1).2.1≤l.length:=EF k1;have k3:(nx l 1 (nx l 1 s1).2).2.1≤l.length:=EF k2;have k4:(nx l 8 (nx l 1 (nx l 1 s1).2).2).2.1≤l.length:=EF k3;have v1:=Js l s1;have v2:=Js l (nx l 1 s1).2;have v5:=Yz l (nx l 8 (nx l 1 (nx l 1 s1).2).2).2;refine DC 2356571555416395220992 (α:=Nat) (fun b11=>[(11,ptr b11)]) (fun b11 w'=>Ctx w0 [] w' (tkL ba bd (nx l 8 (nx l 1 (nx l 1 s1).2).2).2++((b11,Bl 92 (Br ⟨((nx l 1 s1).1:Int),((nx l 1 (nx l 1 s1).2).1:Int),s64 (nx l 8 (nx l 1 (nx l 1 s1).2).2).1,0⟩))::(gC (⟨ba,bd,bb,b2,b4,b6,b7,a,c,l⟩:Gt) (hdP l) (⟨⟨ids++[idn],es,fl,pot,s1⟩,aI,cI,fI,aE,cE,fE,aF,cF,fF,aP,cP,fP⟩:Gs)++gE (⟨⟨ids++[idn],es,fl,pot,s1⟩,aI,cI,fI,aE,cE,fE,aF,cF,fF,aP,cP,fP⟩:Gs))))) U ?_ ?_
       ·skip
        have hSw:=Ctx.ltS H;have hlt:=Ctx.ltI H
        refine E6 (n:=10) (N:=11) (anc:=IU 10 [[],[0],[0,1],[],[0,1,3],[0,1,3,4],[],[0,1,3,4,6],[0,1,2,3,4,5,6,7],[]]) [ba,bd] (fun i=>if i=9 then 11 else 62+i) [isV (G1 bb ba bd),isV (.int .u64 ((nx l 1 s1).1:Int)),isV (.int .i64 ((nx l 1 s1).1:Int)),isV (G1 bb ba bd),isV (.int .u64 ((nx l 1 (nx l 1 s1).2).1:Int)),isV (.int .i64 ((nx l 1 (nx l 1 s1).2).1:Int)),isV (NL b4),isV (.int .i64 (s64 (nx l 8 (nx l 1 (nx l 1 s1).2).2).1)),isV (.agg (Br ⟨((nx l 1 s1).1:Int),((nx l 1 (nx l 1 s1).2).1:Int),s64 (nx l 8 (nx l 1 (nx l 1 s1).2).2).1,0⟩).toArray),nwV w (Bl 92 (Br ⟨0,0,0,0⟩))] [1,4,7] (fun k w'=>Ctx w0 [] w' (gL (⟨ba,bd,bb,b2,b4,b6,b7,a,c,l⟩:Gt) (hdP l) ⟨⟨ids++[idn],es,fl,pot,s1⟩,aI,cI,fI,aE,cE,fE,aF,cF,fF,aP,cP,fP⟩ ([s1,(nx l 1 s1).2,(nx l 1 (nx l 1 s1).2).2,(nx l 8 (nx l 1 (nx l 1 s1).2).2).2].getD k s1))) (show Tryz.prog.follows .mixedOrders=true by kernel_rfl) U (by decide) (by kernel_rfl) (D8 _) (fun i j _ _ h=>by have h:(if i=9 then 11 else 62+i:Nat)=(if j=9 then 11 else 62+j:Nat):=h; split at h <;> split at h <;> omega) ⟨Bj _ _,Bj _ _,Bj _ _,Bj _ _,Bj _ _,Bj _ _,Bj _ _,Bj _ _,Bj _ _,TS hSw _,trivial⟩ (by kernel_rfl) (fun k w w2 h hx=>h.call hx) H.drew (by kernel_rfl) ?_ ?_ ?_
        ·rintro m o e' w' hm hic ho hold hg hx ⟨k,HJ⟩;have hin:∀ t:Nat,t<11→∀ j,j<10→t≠(fun i=>if i=9 then 11 else 62+i) j:=fun t ht j hj=>by dsimp only; split <;> omega
         have g4:e'.g 4=ptr b4:=(hold 4 (hin 4 (by decide))).trans rfl;have g6:e'.g 6=ptr b6:=(hold 6 (hin 6 (by decide))).trans rfl;have hcs:m=0∨m=1∨m=2∨m=3∨m=4∨m=5∨m=6∨m=7∨m=8∨m=9:=by omega
         rcases hcs with rfl | rfl | rfl | rfl | rfl | rfl | rfl | rfl | rfl | rfl
         ·cases Option.some.inj ho;exact AY U Ht g4 (by rw [Au (HJ.get (k:=4) rfl)]; rfl) (Ab ⟨_,.refl _ _,rfl,rfl⟩)
         ·exact absurd (by decide) hic
         ·cases Option.some.inj ho;exact Dv U (hg 1 (by decide)) Da Fy (by omega) (by omega) (Ab ⟨_,.refl _ _,rfl,rfl⟩)
         ·cases Option.some.inj ho;exact AY U Ht g4 (by rw [Au (HJ.get (k:=4) rfl)]; rfl) (Ab ⟨_,.refl _ _,rfl,rfl⟩)
         ·exact absurd (by decide) hic
         ·cases Option.some.inj ho;exact Dv U (hg 4 (by decide)) Da Fy (by omega) (by omega) (Ab ⟨_,.refl _ _,rfl,rfl⟩)
         ·cases Option.some.inj ho;exact AY U MP g6 (by rw [Au (HJ.get (k:=3) rfl)]; rfl) (Ab ⟨_,.refl _ _,rfl,rfl⟩)
         ·exact absurd (by decide) hic
         ·cases Option.some.inj ho;refine Cp (Br ⟨((nx l 1 s1).1:Int),((nx l 1 (nx l 1 s1).2).1:Int),s64 (nx l 8 (nx l 1 (nx l 1 s1).2).2).1,0⟩) U JO Dn ?_ (Ab ⟨_,.refl _ _,rfl,rfl⟩);show Instr.fill _ _ [(0,e'.g 64),(1,e'.g 67),(2,e'.g 69)]=_;rw [show e'.g 64 = .int .i64 ((nx l 1 s1).1:Int) from (hg 2 (by decide)),show e'.g 67 = .int .i64 ((nx l 1 (nx l 1 s1).2).1:Int) from (hg 5 (by decide)),show e'.g 69 = .int .i64 (s64 (nx l 8 (nx l 1 (nx l 1 s1).2).2).1) from (hg 7 (by decide))];kernel_rfl
         ·cases Option.some.inj ho;refine Bs U Dn (Ctx.start w' []) ?_;intro b w2 _ H;exact Ab ⟨_,H.ext,rfl,b,rfl,H.get at0,Nat.le_trans hx.size ((H.own _ (List.mem_cons_self ..)).elim (fun h=>by cases h) id)⟩
        ·intro k im o e' w' hk ho hold hg hx HJ;have hin:∀ t:Nat,t<11→∀ j,j<10→t≠(fun i=>if i=9 then 11 else 62+i) j:=fun t ht j hj=>by dsimp only; split <;> omega
         have g4:e'.g 4=ptr b4:=(hold 4 (hin 4 (by decide))).trans rfl;have g6:e'.g 6=ptr b6:=(hold 6 (hin 6 (by decide))).trans rfl
         rcases k with _ | _ | _ | k
         ·cases hk;cases Option.some.inj ho;refine C0 U (hg 0 (by decide)) Hv (Jr (T:=(⟨ba,bd,bb,b2,b4,b6,b7,a,c,l⟩:Gt)) (k:=1) X HJ k1 (.inl U)) U ?_;rintro v w2 ⟨rfl,h2,h3⟩;exact Ab ⟨_,h3,rfl,rfl,h2⟩
         ·cases hk;cases Option.some.inj ho;refine C0 U (hg 3 (by decide)) Hv (Jr (T:=(⟨ba,bd,bb,b2,b4,b6,b7,a,c,l⟩:Gt)) (k:=1) X HJ k2 (.inl U)) U ?_;rintro v w2 ⟨rfl,h2,h3⟩;exact Ab ⟨_,h3,rfl,rfl,h2⟩
         ·cases hk;cases Option.some.inj ho;refine C0 U (hg 6 (by decide)) QL (Mk (T:=(⟨ba,bd,bb,b2,b4,b6,b7,a,c,l⟩:Gt)) X HJ k3) U ?_;rintro v w2 ⟨rfl,h2,h3⟩;exact Ab ⟨_,h3,rfl,rfl,h2⟩
         ·simp at hk
        ·intro e' w' hds hold hg hx HJ;have hin:∀ t:Nat,t<11→∀ j,j<10→t≠(fun i=>if i=9 then 11 else 62+i) j:=fun t ht j hj=>by dsimp only; split <;> omega
         obtain ⟨b11,h9,hb11,hn11⟩:=hg 9 (by decide)
         have HB:=Ctx.add HJ hb11 (.inr (Nat.le_trans H.size hn11)) fun x hx he=>by
          have:=hlt x.1 (List.mem_map_of_mem (f:=(·.1)) hx);omega
         refine BL (l:=Br ⟨0,0,0,0⟩) U B3 h9 (hg 8 (by decide)) U (CN _) HB at0 U fun w3 H3=>Ab ?_;exact ⟨b11,hds,⟨h9,trivial⟩,Ctx.perm H3 List.perm_middle.symm⟩
       ·rintro b11 j13 w H;obtain ⟨s4,hs4'⟩:∃ x,x=(nx l 8 (nx l 1 (nx l 1 s1).2).2).2:=⟨_,rfl⟩;rw [← hs4'] at H k4 v5;refine Ag (AA U Ht U H at5 U (C0 U U Hv (Jq (T:=(⟨ba,bd,bb,b2,b4,b6,b7,a,c,l⟩:Gt)) (k:=2) X H (by simp) k4 (.inr (.inl U))) U ?_));rintro v w ⟨hv72,H72,-⟩;replace hv72:v = .int .u64 ((nx l 2 s4).1:Int):=hv72;subst hv72;replace H:=H72;refine Dv U U Da GN (by omega) (by omega) ?_;refine EJ U U (by omega) (by omega) ?_;refine Ah U De U (BX (.int .i64 (-((nx l 2 s4).1:Int))) U Bz U U U H at2 (show 0+3<4 by decide) ?_);rintro w H
        replace H:Ctx w0 [] w (tkL ba bd (nx l 2 s4).2++((b11,Bl 92 (Br ⟨((nx l 1 s1).1:Int),((nx l 1 (nx l 1 s1).2).1:Int),s64 (nx l 8 (nx l 1 (nx l 1 s1).2).2).1,-((nx l 2 s4).1:Int)⟩))::(gC (⟨ba,bd,bb,b2,b4,b6,b7,a,c,l⟩:Gt) (hdP l) (⟨⟨ids++[idn],es,fl,pot,s1⟩,aI,cI,fI,aE,cE,fE,aF,cF,fF,aP,cP,fP⟩:Gs)++gE (⟨⟨ids++[idn],es,fl,pot,s1⟩,aI,cI,fI,aE,cE,fE,aF,cF,fF,aP,cP,fP⟩:Gs)))):=H;refine Ab (Aa (Aw (BP U (.func _ _ _) U ?_)));refine Bh U DT B3 U H at2 U (C0 U U WN (Ls (T:=(⟨ba,bd,bb,b2,b4,b6,b7,a,c,l⟩:Gt)) (h:=hdP l) (g:=⟨⟨ids++[idn],es,fl,pot,(nx l 2 s4).2⟩,aI,cI,fI,aE,cE,fE,aF,cF,fF,aP,cP,fP⟩) X ⟨(Ctx.perm H List.perm_middle).tail,OI,OE,OF,OP,EF k4⟩ ⟨((nx l 1 s1).1:Int),((nx l 1 (nx l 1 s1).2).1:Int),s64 (nx l 8 (nx l 1 (nx l 1 s1).2).2).1,-((nx l 2 s4).1:Int)⟩ (by dsimp only; omega) (by dsimp only; omega)) U ?_);rintro v w ⟨g',G',hg'⟩
        refine Ab (A3 (Aa (Aw (Ae U U (Bg U U U (by omega) (by omega) ?_)))));refine Ad U U (Ab (Aa ?_))
        have hP':JT l m g'.p=P1:=by
         rw [hg',hs4',hid,hs1'];exact hP
        refine ⟨(g',m),rfl,⟨congrArg (Value.int .i64) (by omega),trivial⟩,⟨G',hP',?_,?_,?_,?_⟩,by dsimp only; omega⟩ <;> dsimp only <;> rw [hg'] <;> simp only [KS,List.length_append,List.length_cons,List.length_nil] <;> omega
     ·intro h2
      have hPd:(⟨ids,es,fl,pot,p,bad⟩:PRd)=P1:=by
       rw [← hP]
       cases n with
       | zero=>rfl
       | succ n =>
        cases bad with
        | true=>rfl
        | false=>simp at h2
      refine Bc (Aj (Aj (AD (Aa (Aq (Ag (Ad U U (Ab (Aa (Av ?_))))))))));have hN : -9223372036854775808<(Cf l:Int)+1∧(Cf l:Int)+1≤9223372036854775807:=by omega
      obtain ⟨P2,hP2⟩:∃ P,P=if (hdP l).cmp=true then P1 else Gy l (Cf l) (Cf l) 0 P1:=⟨_,rfl⟩;refine Bd 40564818602840431040579915223040 (α:=Gs × Nat) (fun z=>[(12,.int .i64 (z.2:Int))]) (fun z w'=>GOk (⟨ba,bd,bb,b2,b4,b6,b7,a,c,l⟩:Gt) (hdP l) w0 w' z.1∧(if (hdP l).cmp=true then z.1.p else Gy l (Cf l) (Cf l - z.2) z.2 z.1.p)=P2∧z.1.p.pot.length=0∧z.2≤Cf l∧z.1.p.ids.length≤256∧z.1.p.es.length≤256+2*z.2∧z.1.p.fl.length≤256+2*z.2) (fun z=>Cf l - z.2) (⟨⟨ids,es,fl,pot,p,bad⟩,aI,cI,fI,aE,cE,fE,aF,cF,fF,aP,cP,fP⟩,0) U ?_ ?_ ?_
      ·exact ⟨rfl,trivial⟩
      ·refine ⟨⟨H,OI,OE,OF,OP,hs⟩,?_,hpt,Nat.zero_le _,?_,?_,?_⟩
       ·dsimp only;rw [hPd,hP2];rfl
       ·dsimp only; omega
       ·dsimp only; omega
       ·dsimp only; omega
      ·clear H OI OE OF OP hs hPd hP hpt n1 n2 n3 h2;rintro ⟨⟨⟨ids,es,fl,pot,p,bad⟩,aI,cI,fI,aE,cE,fE,aF,cF,fF,aP,cP,fP⟩,i⟩ j2 w ⟨⟨H,OI,OE,OF,OP,hs⟩,hQ,hpt,n0,n1,n2,n3⟩; dsimp only at H OI OE OF OP hs hQ hpt n0 n1 n2 n3; dsimp only;refine Aq (Ag (B5 (α:=Unit) 2475275615660953235210895360 (fun _=>[(90,.bool ((decide ((i:Int)<(Cf l:Int)) && !(hdP l).cmp) && !bad))]) (fun _ w'=>Ctx w0 [] w' (gL (⟨ba,bd,bb,b2,b4,b6,b7,a,c,l⟩:Gt) (hdP l) ⟨⟨ids,es,fl,pot,p,bad⟩,aI,cI,fI,aE,cE,fE,aF,cF,fF,aP,cP,fP⟩ (p,bad))) U ?_ ?_))
       ·refine Ae U U (Ae U U (AO U U U (Ak U U (A4 82 U ?_ ?_))))
        ·intro h3;replace h3:=AG h3;refine Ah U FZ U (AA U Fx U H at2 U (Bv U U (An U U (.bool _) U (Ak U U (A4 87 U ?_ ?_)))))
         ·intro h4;replace h4:=Bo h4;refine BP U (.func _ _ _) U ?_;refine C0 U U P6 (Qf bd bad _ (H.get (k:=1) U)) U ?_;rintro v w ⟨rfl,hx89⟩;replace H:=H.call hx89;refine An U U (.bool _) U (Ab ?_);exact ⟨rfl,(),rfl,⟨congrArg Value.bool (by (simp_all [Ie]; done)),trivial⟩,H⟩
         ·intro h5;replace h5:=Bp h5;refine Af U (Af U (A1 U U (.bool _) U (Ab ?_)));exact ⟨rfl,(),rfl,⟨congrArg Value.bool (by (simp_all [Ie]; done)),trivial⟩,H⟩
        ·intro h6;replace h6:=AH h6;refine Af U (Af U (Af U (A1 U U (.bool _) U (Ak U U (Af U (Af U (A1 U U (.bool _) U (Ab ?_))))))));exact ⟨rfl,(),rfl,⟨congrArg Value.bool (by (simp_all [Ie]; intros; omega)),trivial⟩,H⟩
       rintro - j90 w H;refine Ay _ U ?_ ?_
       ·intro h3;rw [Bool.and_eq_true,Bool.and_eq_true,decide_eq_true_eq,Bool.not_eq_true',Bool.not_eq_true'] at h3;obtain ⟨⟨h4,hcm⟩,rfl⟩:=h3;refine Ax (Aa (Aq (Av (DC 1257747079913946359297510211584 (α:=Gs) (fun _=>[]) (fun g w'=>GOk (⟨ba,bd,bb,b2,b4,b6,b7,a,c,l⟩:Gt) (hdP l) w0 w' g∧g.p=KS l ⟨(Cf l:Int),(i:Int),s64 (nx l 8 (p,false)).1,0⟩ (atP ⟨ids,es,fl,pot,p,false⟩ (nx l 8 (p,false)).2)) U ?_ ?_))))
        ·skip
         have hSw:=Ctx.ltS H;refine E6 (n:=6) (N:=7) (anc:=IU 6 [[],[],[],[],[3],[1,2,3,4]]) [ba,bd] (fun i=>93+i) [isV (flwV b7 b6),isV (.agg (A8 (G4 (hdP l) ⟨ids,es,fl,pot,p,false⟩) ⟨aI,cI,aE,cE,aF,cF,aP,cP⟩).toArray),isV (.int .i64 (i:Int)),isV (NL b4),isV (.int .i64 (s64 (nx l 8 (p,false)).1)),isV (.agg (Br ⟨(Cf l:Int)+1 - 1,(i:Int),s64 (nx l 8 (p,false)).1,0⟩).toArray)] [4] (fun k w'=>Ctx w0 [] w' (gL (⟨ba,bd,bb,b2,b4,b6,b7,a,c,l⟩:Gt) (hdP l) ⟨⟨ids,es,fl,pot,p,false⟩,aI,cI,fI,aE,cE,fE,aF,cF,fF,aP,cP,fP⟩ ([(p,false),(nx l 8 (p,false)).2].getD k (p,false)))) (show Tryz.prog.follows .mixedOrders=true by kernel_rfl) U (by decide) (by kernel_rfl) (D8 _) (fun i j _ _ h=>by have h:93+i=93+j:=h; omega) ⟨Bj _ _,Bj _ _,Bj _ _,Bj _ _,Bj _ _,Bj _ _,trivial⟩ (by kernel_rfl) (fun k w w2 h hx=>h.call hx) H.drew (by kernel_rfl) ?_ ?_ ?_
         ·rintro m o e' w' hm hic ho hold hg hx ⟨k,HJ⟩;have hin:∀ t:Nat,t<93→∀ j,j<6→t≠(fun i=>93+i) j:=fun t ht j hj=>by dsimp only; omega
          have g6:e'.g 6=ptr b6:=(hold 6 (hin 6 (by decide))).trans rfl;have g7:e'.g 7=ptr b7:=(hold 7 (hin 7 (by decide))).trans rfl;have g10:e'.g 10=flwV b7 b6:=(hold 10 (hin 10 (by decide))).trans rfl;have g12:e'.g 12 = .int .i64 (i:Int):=(hold 12 (hin 12 (by decide))).trans rfl;have hcs:m=0∨m=1∨m=2∨m=3∨m=4∨m=5:=by omega
          rcases hcs with rfl | rfl | rfl | rfl | rfl | rfl
          ·cases Option.some.inj ho;exact BP U _ g10 (Ab ⟨_,.refl _ _,rfl,rfl⟩)
          ·cases Option.some.inj ho;exact Cd (A8 (G4 (hdP l) ⟨ids,es,fl,pot,p,false⟩) ⟨aI,cI,aE,cE,aF,cF,aP,cP⟩) U Cq BW g7 U (BU (b:=b7) (t:=33) (l:=A8 (G4 (hdP l) ⟨ids,es,fl,pot,p,false⟩) ⟨aI,cI,aE,cE,aF,cF,aP,cP⟩) (HJ.get (k:=2) U) 0 (A8 (G4 (hdP l) ⟨ids,es,fl,pot,p,false⟩) ⟨aI,cI,aE,cE,aF,cF,aP,cP⟩) U) (Ab ⟨_,.refl _ _,rfl,rfl⟩)
          ·cases Option.some.inj ho;exact BP U _ g12 (Ab ⟨_,.refl _ _,rfl,rfl⟩)
          ·cases Option.some.inj ho;exact AY U MP g6 (by rw [Au (HJ.get (k:=3) rfl)]; rfl) (Ab ⟨_,.refl _ _,rfl,rfl⟩)
          ·exact absurd (by decide) hic
          ·cases Option.some.inj ho;refine Al U Aas (Aa2 (G4 (hdP l) ⟨ids,es,fl,pot,p,false⟩) ⟨aI,cI,aE,cE,aF,cF,aP,cP⟩ (i:Int) (s64 (nx l 8 (p,false)).1) _ hN) ?_ ?_
           ·show [e'.g 94,e'.g 95,e'.g 97]=_;rw [show e'.g 94 = .agg (A8 (G4 (hdP l) ⟨ids,es,fl,pot,p,false⟩) ⟨aI,cI,aE,cE,aF,cF,aP,cP⟩).toArray from hg 1 (by decide),show e'.g 95 = .int .i64 (i:Int) from hg 2 (by decide),show e'.g 97 = .int .i64 (s64 (nx l 8 (p,false)).1) from hg 4 (by decide)]
           ·rintro v w2 ⟨rfl,h2⟩;exact Ab ⟨_,h2,rfl,rfl⟩
         ·intro k im o e' w' hk ho hold hg hx HJ;have hin:∀ t:Nat,t<93→∀ j,j<6→t≠(fun i=>93+i) j:=fun t ht j hj=>by dsimp only; omega
          have g6:e'.g 6=ptr b6:=(hold 6 (hin 6 (by decide))).trans rfl;have g7:e'.g 7=ptr b7:=(hold 7 (hin 7 (by decide))).trans rfl;have g10:e'.g 10=flwV b7 b6:=(hold 10 (hin 10 (by decide))).trans rfl;have g12:e'.g 12 = .int .i64 (i:Int):=(hold 12 (hin 12 (by decide))).trans rfl
          rcases k with _ | k
          ·cases hk;cases Option.some.inj ho;refine C0 U (hg 3 (by decide)) QL (Mk (T:=(⟨ba,bd,bb,b2,b4,b6,b7,a,c,l⟩:Gt)) X HJ hs) U ?_;rintro v w2 ⟨rfl,h2,h3⟩;exact Ab ⟨_,h3,rfl,rfl,h2⟩
          ·simp at hk
         ·intro e' w' hds hold hg hx HJ;have hin:∀ t:Nat,t<93→∀ j,j<6→t≠(fun i=>93+i) j:=fun t ht j hj=>by dsimp only; omega
          refine C0 U (hg 0 (by decide)) WN (Ls (T:=(⟨ba,bd,bb,b2,b4,b6,b7,a,c,l⟩:Gt)) (h:=hdP l) (g:=⟨⟨ids,es,fl,pot,(nx l 8 (p,false)).2⟩,aI,cI,fI,aE,cE,fE,aF,cF,fF,aP,cP,fP⟩) X ⟨HJ,OI,OE,OF,OP,EF hs⟩ ⟨(Cf l:Int)+1 - 1,(i:Int),s64 (nx l 8 (p,false)).1,0⟩ (by dsimp only; omega) (by dsimp only; omega)) ?_ ?_
          ·show _++([e'.g 98]++_)=_;rw [show e'.g 98 = .agg (Br ⟨(Cf l:Int)+1 - 1,(i:Int),s64 (nx l 8 (p,false)).1,0⟩).toArray from hg 5 (by decide)];rfl
          ·rintro v w2 ⟨g',G',hg'⟩;refine Ab ?_;exact ⟨g',hds,trivial,G',by rw [hg',Int.add_sub_cancel]; rfl⟩
        ·rintro ⟨⟨ids',es',fl',pot',s'⟩,aI,cI,fI,aE,cE,fE,aF,cF,fF,aP,cP,fP⟩ j19 w ⟨⟨H,OI,OE,OF,OP,hs'⟩,hg19⟩; dsimp only at H OI OE OF OP hs' hg19; (try dsimp only)
         have e1:ids'.length=ids.length∧es'.length=es.length+1∧fl'.length=fl.length+1∧pot'=pot:=by
          simp only [KS,atP,PRd.mk.injEq] at hg19;obtain ⟨rfl,rfl,rfl,rfl,-⟩:=hg19;simp
         refine Aw (BP U (.func _ _ _) U ?_);refine Bh U Cq BW U H at2 U (Ae U U (Al U Aat (XV (G4 (hdP l) ⟨ids',es',fl',pot',s'⟩) ⟨aI,cI,aE,cE,aF,cF,aP,cP⟩ (i:Int) _ hN) U ?_));rintro v w ⟨rfl,hx103⟩;replace H:=H.call hx103;refine C0 U U WN (Ls (T:=(⟨ba,bd,bb,b2,b4,b6,b7,a,c,l⟩:Gt)) (h:=hdP l) (g:=⟨⟨ids',es',fl',pot',s'⟩,aI,cI,fI,aE,cE,fE,aF,cF,fF,aP,cP,fP⟩) X ⟨H,OI,OE,OF,OP,hs'⟩ ⟨(i:Int),(Cf l:Int)+1 - 1,4503599627370496,0⟩ (by dsimp only; omega) (by dsimp only; omega)) U ?_;rintro v w ⟨g',G',hg'⟩;refine Ab (A3 (Aa (Aw (Ae U U (Ao U U U (by omega) (by omega) ?_)))));refine Ad U U (Ab (Aa ?_))
         have hQ':(if (hdP l).cmp=true then g'.p else Gy l (Cf l) (Cf l - (i+1)) (i+1) g'.p)=P2:=by
          rw [← hQ,if_neg (by rw [hcm]; decide),if_neg (by rw [hcm]; decide),show Cf l - i=(Cf l - (i+1))+1 from by omega];show _=Gy l (Cf l) (Cf l - (i+1)) (i+1) (U8 l (Cf l) i ⟨ids,es,fl,pot,p,false⟩);rw [hg',hg19,Int.add_sub_cancel];rfl
         refine ⟨(g',i+1),rfl,⟨rfl,trivial⟩,⟨G',hQ',?_,?_,?_,?_,?_⟩,by dsimp only; omega⟩ <;> dsimp only <;> (try rw [hg']) <;> (try simp only [KS,List.length_append,List.length_cons,List.length_nil]) <;> (try rw [e1.2.2.2]) <;> omega
       ·intro h3
        have hQd:(⟨ids,es,fl,pot,p,bad⟩:PRd)=P2:=by
         rw [← hQ]
         by_cases hcm:(hdP l).cmp=true
         ·rw [if_pos hcm]
         ·rw [if_neg hcm]
          cases hn:Cf l - i with
          | zero=>rfl
          | succ n =>
           cases bad with
           | true=>rfl
           | false =>
            exfalso;have h5:i<Cf l:=by omega
            simp [hcm] at h3;omega
        refine Bc (Aj (Aj (AD (Aa (Aq (Ag (Ad U U (Ab (Aa (Av ?_))))))))));obtain ⟨P3,hP3⟩:∃ P,P=JU l (Cf l+1) P2:=⟨_,rfl⟩;refine Bd 10633783401460119679889608587740192768 (α:=Gs × Nat) (fun z=>[(13,.int .i64 (z.2:Int))]) (fun z w'=>GOk (⟨ba,bd,bb,b2,b4,b6,b7,a,c,l⟩:Gt) (hdP l) w0 w' z.1∧JU l (Cf l+1 - z.2) z.1.p=P3∧z.1.p.pot.length≤z.2∧z.2≤Cf l+1∧z.1.p.ids.length≤256∧z.1.p.es.length≤1000∧z.1.p.fl.length≤1000) (fun z=>Cf l+1 - z.2) (⟨⟨ids,es,fl,pot,p,bad⟩,aI,cI,fI,aE,cE,fE,aF,cF,fF,aP,cP,fP⟩,0) U ?_ ?_ ?_
        ·exact ⟨rfl,trivial⟩
        ·refine ⟨⟨H,OI,OE,OF,OP,hs⟩,?_,?_,Nat.zero_le _,n1,?_,?_⟩
         ·dsimp only;rw [hQd,hP3];rfl
         ·dsimp only; omega
         ·dsimp only; omega
         ·dsimp only; omega
        ·clear H OI OE OF OP hs hQd hQ hpt n1 n2 n3 n0 h3;rintro ⟨⟨⟨ids,es,fl,pot,p,bad⟩,aI,cI,fI,aE,cE,fE,aF,cF,fF,aP,cP,fP⟩,i⟩ j3 w ⟨⟨H,OI,OE,OF,OP,hs⟩,hQ,hpt,n0,n1,n2,n3⟩; dsimp only at H OI OE OF OP hs hQ hpt n0 n1 n2 n3; dsimp only;refine Aq (Ag (B5 (α:=Unit) 5151732039327524287682601826648064 (fun _=>[(111,.bool (decide ((i:Int)≤(Cf l:Int)) && !bad))]) (fun _ w'=>Ctx w0 [] w' (gL (⟨ba,bd,bb,b2,b4,b6,b7,a,c,l⟩:Gt) (hdP l) ⟨⟨ids,es,fl,pot,p,bad⟩,aI,cI,fI,aE,cE,fE,aF,cF,fF,aP,cP,fP⟩ (p,bad))) U ?_ ?_))
         ·refine Ae U U (Ae U U (IL U U U (Ak U U (A4 108 U ?_ ?_))))
          ·intro h7;replace h7:=AG h7;refine BP U (.func _ _ _) U ?_;refine C0 U U P6 (Qf bd bad _ (H.get (k:=1) U)) U ?_;rintro v w ⟨rfl,hx110⟩;replace H:=H.call hx110;refine An U U (.bool _) U (Ab ?_);exact ⟨rfl,(),rfl,⟨congrArg Value.bool (by (simp_all; done)),trivial⟩,H⟩
          ·intro h8;replace h8:=AH h8;refine Af U (Af U (A1 U U (.bool _) U (Ab ?_)));exact ⟨rfl,(),rfl,⟨congrArg Value.bool (by (simp_all; intros; omega)),trivial⟩,H⟩
         rintro - j111 w H;refine Ay _ U ?_ ?_
         ·intro h3;rw [Bool.and_eq_true,decide_eq_true_eq,Bool.not_eq_true'] at h3;obtain ⟨h4,rfl⟩:=h3;refine Ax (Aa (Aq (Av (J2 10613054778845187672716334496925876224 (α:=Option Addr × Nat × List Value) (fun _=>[]) (fun z w'=>Ctx w0 [] w' (gL (⟨ba,bd,bb,b2,b4,b6,b7,a,c,l⟩:Gt) (hdP l) ⟨⟨ids,es,fl,pot++[s64 (nx l 8 (p,false)).1],(nx l 8 (p,false)).2⟩,aI,cI,fI,aE,cE,fE,aF,cF,fF,z.1,z.2.1,z.2.2⟩ (nx l 8 (p,false)).2)∧OS z.1 (pot++[s64 (nx l 8 (p,false)).1]).length z.2.1 1 z.2.2 ((pot++[s64 (nx l 8 (p,false)).1]).flatMap I1)) U ?_ ?_))))
          ·skip
           have hSw:=Ctx.ltS H;refine E6 (n:=6) (N:=10) (anc:=IU 6 [[],[0],[0,1],[],[3],[3,4]]) [ba,bd] (fun i=>114+i) [isV (.pointer (some ⟨b7,6,none⟩)),isV (.pointer (some ⟨b7,7,none⟩)),isV (.slice aP pot.length cP),isV (NL b4),isV (.int .i64 (s64 (nx l 8 (p,false)).1)),nsV w 2 1 [.int .i64 (s64 (nx l 8 (p,false)).1)]] [4] (fun k w'=>Ctx w0 [] w' (gL (⟨ba,bd,bb,b2,b4,b6,b7,a,c,l⟩:Gt) (hdP l) ⟨⟨ids,es,fl,pot,p,false⟩,aI,cI,fI,aE,cE,fE,aF,cF,fF,aP,cP,fP⟩ ([(p,false),(nx l 8 (p,false)).2].getD k (p,false)))) (show Tryz.prog.follows .mixedOrders=true by kernel_rfl) U (by decide) (by kernel_rfl) (D8 _) (fun i j _ _ h=>by have h:114+i=114+j:=h; omega) ⟨Bj _ _,Bj _ _,Bj _ _,Bj _ _,Bj _ _,Hj hSw _ _ _,trivial⟩ (by kernel_rfl) (fun k w w2 h hx=>h.call hx) H.drew (by kernel_rfl) ?_ ?_ ?_
           ·rintro m o e' w' hm hic ho hold hg hx ⟨k,HJ⟩;have hin:∀ t:Nat,t<114→∀ j,j<6→t≠(fun i=>114+i) j:=fun t ht j hj=>by dsimp only; omega
            have g6:e'.g 6=ptr b6:=(hold 6 (hin 6 (by decide))).trans rfl;have g7:e'.g 7=ptr b7:=(hold 7 (hin 7 (by decide))).trans rfl;have hcs:m=0∨m=1∨m=2∨m=3∨m=4∨m=5:=by omega
            rcases hcs with rfl | rfl | rfl | rfl | rfl | rfl
            ·cases Option.some.inj ho;exact Ah (off:=6) U (by kernel_rfl) g7 (Ab ⟨_,.refl _ _,rfl,rfl⟩)
            ·cases Option.some.inj ho;exact Ah (off:=1) U (by kernel_rfl) (hg 0 (by decide)) (Ab ⟨_,.refl _ _,rfl,rfl⟩)
            ·cases Option.some.inj ho;exact AY U BC (hg 1 (by decide)) (by rw [Au (HJ.get (k:=2) rfl)]; rfl) (Ab ⟨_,.refl _ _,rfl,rfl⟩)
            ·cases Option.some.inj ho;exact AY U MP g6 (by rw [Au (HJ.get (k:=3) rfl)]; rfl) (Ab ⟨_,.refl _ _,rfl,rfl⟩)
            ·exact absurd (by decide) hic
            ·cases Option.some.inj ho;refine CJ [.int .i64 (s64 (nx l 8 (p,false)).1)] U AU Bz FJ (by decide) (by decide) ?_ (Ctx.start w' []) ?_
             ·show Instr.fill _ _ [(0,e'.g 118)]=_;rw [show e'.g 118 = .int .i64 (s64 (nx l 8 (p,false)).1) from (hg 4 (by decide))];kernel_rfl
             ·intro b w2 _ H;exact Ab ⟨_,H.ext,rfl,b,rfl,H.get at0,Nat.le_trans hx.size ((H.own _ (List.mem_cons_self ..)).elim (fun h=>by cases h) id)⟩
           ·intro k im o e' w' hk ho hold hg hx HJ;have hin:∀ t:Nat,t<114→∀ j,j<6→t≠(fun i=>114+i) j:=fun t ht j hj=>by dsimp only; omega
            have g6:e'.g 6=ptr b6:=(hold 6 (hin 6 (by decide))).trans rfl;have g7:e'.g 7=ptr b7:=(hold 7 (hin 7 (by decide))).trans rfl
            rcases k with _ | k
            ·cases hk;cases Option.some.inj ho;refine C0 U (hg 3 (by decide)) QL (Mk (T:=(⟨ba,bd,bb,b2,b4,b6,b7,a,c,l⟩:Gt)) X HJ hs) U ?_;rintro v w2 ⟨rfl,h2,h3⟩;exact Ab ⟨_,h3,rfl,rfl,h2⟩
            ·simp at hk
           ·intro e' w' hds hold hg hx HJ;have hin:∀ t:Nat,t<114→∀ j,j<6→t≠(fun i=>114+i) j:=fun t ht j hj=>by dsimp only; omega
            obtain ⟨b5',h5',hb5',hn5'⟩:=hg 5 (by decide);refine Dt U AU AU Bz Kz FJ U (by decide) [.int .i64 (s64 (nx l 8 (p,false)).1)] (hg 2 (by decide)) h5' (Ctx.perm HJ (Qi _ _ _ _ _ _)) OP U (by simp [B4]) (fun j v hv=>⟨_,rfl,by rw [Co,Nat.zero_add,Au hb5']; exact hv⟩) (by omega) fun a' c' full' w3 H6 O6=>?_;replace H6:=H6.perm (Qi _ _ _ _ _ _).symm;rw [show pot.length+1=(pot++[s64 (nx l 8 (p,false)).1]).length from by simp] at O6 ⊢;refine Ah (off:=6) U (by kernel_rfl) ((hold 7 (hin 7 (by decide))).trans U) ?_;refine Ah (off:=1) U (by kernel_rfl) (CH _ _ _) ?_;refine BX (.slice a' (pot++[s64 (nx l 8 (p,false)).1]).length c') U Ot (CH _ _ _) U U H6 at2 (by simp) fun w4 H8=>Ab ?_;exact ⟨rfl,(a',c',full'),hds,trivial,H8,by rw [List.flatMap_append,List.flatMap_singleton]; exact O6⟩
          ·rintro ⟨aP,cP,fP⟩ j24 w ⟨H,OP⟩; dsimp only at H OP; (try dsimp only);refine A3 (Aa (Aw (Ae U U (Ao U U U (by omega) (by omega) ?_))));refine Ad U U (Ab (Aa ?_))
           have hQ':JU l (Cf l+1 - (i+1)) ⟨ids,es,fl,pot++[s64 (nx l 8 (p,false)).1],(nx l 8 (p,false)).2⟩=P3:=by
            rw [← hQ,show Cf l+1 - i=(Cf l+1 - (i+1))+1 from by omega];rfl
           refine ⟨(⟨⟨ids,es,fl,pot++[s64 (nx l 8 (p,false)).1],(nx l 8 (p,false)).2⟩,aI,cI,fI,aE,cE,fE,aF,cF,fF,aP,cP,fP⟩,i+1),rfl,⟨rfl,trivial⟩,⟨⟨H,OI,OE,OF,OP,EF hs⟩,hQ',?_,?_,n1,n2,n3⟩,by dsimp only; omega⟩
           ·dsimp only; rw [List.length_append,List.length_singleton]; omega
           ·dsimp only; omega
         ·intro h3
          have hL:(⟨ids,es,fl,pot,p,bad⟩:PRd)=Jp l:=by
           have h5:Jp l=P3:=by
            rw [hP3,hP2,hP1];rfl
           rw [h5,← hQ]
           cases hn:Cf l+1 - i with
           | zero=>rfl
           | succ n =>
            cases bad with
            | true=>rfl
            | false =>
             exfalso;simp at h3;omega
          have hr0:G4 (hdP l) ⟨ids,es,fl,pot,p,bad⟩=LJ l:=by unfold LJ; rw [hL]
          have hbad:(Jp l).s.2=bad:=by rw [← hL]
          have hids:∀ x∈ids,0≤x∧x<18446744073709551616:=by
           have h5:=Sa l;rw [← hL] at h5;exact h5
          have hRA:∀ {w:World},(∀ x∈gE ⟨⟨ids,es,fl,pot,p,bad⟩,aI,cI,fI,aE,cE,fE,aF,cF,fF,aP,cP,fP⟩,w.heap[x.1]? = some x.2)→RAt w (G4 (hdP l) ⟨ids,es,fl,pot,p,bad⟩) ⟨aI,cI,aE,cE,aF,cF,aP,cP⟩:=fun {w} m=>by
           exact ⟨OS.rd OI (fun x hx=>m x (List.mem_append_left _ hx)) (by simp) (by decide),OS.rd OE (fun x hx=>m x (List.mem_append_right _ (List.mem_append_left _ hx))) (fun _ _=>rfl) (by decide),OS.rd OF (fun x hx=>m x (List.mem_append_right _ (List.mem_append_right _ (List.mem_append_left _ hx)))) (by simp) (by decide),OS.rd OP (fun x hx=>m x (List.mem_append_right _ (List.mem_append_right _ (List.mem_append_right _ hx)))) (by simp) (by decide),OF.le⟩
          have hpl:pot.length≤1000:=by omega
          have hno:=Yv l (k:=8) (by decide) (hs1 l);refine Bc (Aj (Aj (AD (Aa (Aq (Ag (Bh U Cq BW U H at2 U (Al U WK (Qd (G4 (hdP l) ⟨ids,es,fl,pot,p,bad⟩) ⟨aI,cI,aE,cE,aF,cF,aP,cP⟩ _ (hRA fun x hx=>H.blk x (List.mem_append_right _ (List.mem_append_right _ hx))) OE.le ⟨⟨by show _≤(Cf l:Int)+1; omega,by show (Cf l:Int)+1≤_; omega⟩,by show es.length≤_; omega,by show ids.length≤_; omega,by show fl.length≤_; omega,by show pot.length≤_; omega⟩ ⟨⟨by show (0:Int)≤((nx l 8 (hs1 l)).1:Int); omega,by show ((nx l 8 (hs1 l)).1:Int)<_; omega⟩,hids,Y1 _⟩) U ?_))))))));rintro v w2 ⟨hT,hF⟩;obtain ⟨a9,c9,bs,e9,rfl,R9,hx9,hT9,hF9⟩:=Pg hT hF;replace H:=H.call hx9
          refine BK U U (A6 U U U (A6 U U U (A5 U U (Ad U U (Ab (Aa (Ag (B5 (α:=Unit) 2787252867449406954228501409473613420036096 (fun _=>[(140,.bool (!(!bad && (decide (e9=0) && decide (bs=l)))))]) (fun _ w'=>Ctx w0 [] w' (gL (⟨ba,bd,bb,b2,b4,b6,b7,a,c,l⟩:Gt) (hdP l) ⟨⟨ids,es,fl,pot,p,bad⟩,aI,cI,fI,aE,cE,fE,aF,cF,fF,aP,cP,fP⟩ (p,bad))) U ?_ ?_))))))))
          ·refine BP U (.func _ _ _) U ?_;refine C0 U U P6 (Qf bd bad _ (H.get (k:=1) U)) U ?_;rintro v w ⟨rfl,hx129⟩;replace H:=H.call hx129;replace R9:=R9.ext0 hx129;refine Bv U U (Ak U U (A4 131 U ?_ ?_))
           ·intro h9;replace h9:=Bo h9;refine Af U (Af U (An U U (.bool _) U (Ak U U (Af U (Af U (Af U (Af U (An U U (.bool _) U (Ab ?_)))))))));exact ⟨rfl,(),rfl,⟨congrArg Value.bool (by (simp_all; done)),trivial⟩,H⟩
           ·intro h10;replace h10:=Bp h10;refine Ae U U (CC U U U (A1 U U (.bool _) U (Ak U U (A4 135 U ?_ ?_))))
            ·intro h11;replace h11:=CK h11;refine Af U (Af U (Af U (Af U (An U U (.bool _) U (Ab ?_)))));exact ⟨rfl,(),rfl,⟨congrArg Value.bool (by (simp_all; done)),trivial⟩,H⟩
            ·intro h12;replace h12:=CL h12;refine Ap U U (Ap U U (Al U ca_84 (VH a9 a c9 c _ _ bs l R9 (R.ext0 H.ext) U U) U ?_));rintro v w ⟨rfl,rfl⟩;refine Bv U U (A1 U U (.bool _) U (Ab ?_));exact ⟨rfl,(),rfl,⟨congrArg Value.bool (by (simp_all; done)),trivial⟩,H⟩
          rintro - j140 w H
          have hgetB:Hz l=(!bad && (decide (e9=0) && decide (bs=l))):=by
           unfold Hz;rw [hbad,← hr0]
           cases hw:Bw (G4 (hdP l) ⟨ids,es,fl,pot,p,bad⟩) with
           | true =>
            obtain ⟨rfl,rfl⟩:=hT9 hw;simp
           | false =>
            obtain rfl:=hF9 hw;simp
          refine Ay _ U ?_ ?_
          ·intro h4;replace h4:=Bo h4;have hgf:Hz l=false:=by rw [hgetB]; simpa using h4
           refine Ag (Cp (A8 EY E0) U L4 Gk (by kernel_rfl) ?_);refine BL U BW U U U (by exact (by decide)) H at6 U ?_;rintro w H;refine Ad U U (Ab (Aa (A9 (Am (Hi U U U Cq BW H at6 U (show _=(.int _ _) from rfl) ?_)))));exact ⟨fun _=>⟨fun h=>(by rw [hgf] at h; cases h),fun _=>rfl,H.ext⟩,fun h=>(by rw [h] at h1; cases h1)⟩
          ·intro h4;replace h4:=Bp h4;have hgt:Hz l=true:=by rw [hgetB]; simpa using h4
           refine Ax (Aa (Ag (Bh U Cq BW U H at2 U (BL U BW U U U (by exact (by simp [B4])) H at6 U ?_))));rintro w H;refine Ad U U (Ab (Aa (A9 (Hi U U U Cq BW H at6 U (show _=(.int _ _) from rfl) ?_))));have HE:Ctx w0 [] _ (gE ⟨⟨ids,es,fl,pot,p,bad⟩,aI,cI,fI,aE,cE,fE,aF,cF,fF,aP,cP,fP⟩):=H.drop 7;refine ⟨fun _=>⟨fun _=>⟨⟨aI,cI,aE,cE,aF,cF,aP,cP⟩,by rw [← hr0],by rw [← hr0]; exact hRA fun x hx=>HE.blk x hx,by rw [← hr0]; exact OE.le,?_⟩,fun h=>(by rw [hgt] at h; cases h),H.ext⟩,fun h=>(by rw [h] at h1; cases h1)⟩;intro x hx q hq;simp only [List.mem_cons,List.not_mem_nil,or_false] at hx
           rcases hx with rfl | rfl | rfl | rfl <;> subst hq
           ·exact (HE.own (q.block,Bl 24 fI) (List.mem_append_left _ (List.mem_singleton.2 U))).elim (fun h=>by cases h) id
           ·exact (HE.own (q.block,Bl 92 fE) (List.mem_append_right _ (List.mem_append_left _ (List.mem_singleton.2 U)))).elim (fun h=>by cases h) id
           ·exact (HE.own (q.block,Bl 2 fF) (List.mem_append_right _ (List.mem_append_right _ (List.mem_append_left _ (List.mem_singleton.2 U))))).elim (fun h=>by cases h) id
           ·exact (HE.own (q.block,Bl 2 fP) (List.mem_append_right _ (List.mem_append_right _ (List.mem_append_right _ (List.mem_singleton.2 U))))).elim (fun h=>by cases h) id
end Go.Proofs.YtapphbmlkdhnmaaGreat

/- The bytes of a right round: its sum, how many there are, and that they are read as they were put. -/
namespace Go.Proofs.YtapphbmlkdhnmaaGreat
open Go.GV

/-! ### The sum -/
theorem VI (l:List UInt8) (a b c d:UInt8):EZ (l++[a,b,c,d])=decide ((PY l).toNat=FR [a,b,c,d]):=by
 unfold EZ;have h1:(l++[a,b,c,d]).length - 4=l.length:=by simp
 rw [h1,List.take_left,List.drop_left];simp
theorem Y2 {s:Nat} (h:s<4294967296):FR (leB s 4)=s:=by
 rw [Qe];simp only [FR,UInt8.toNat_ofNat',Nat.reducePow];omega
theorem VJ (l:List UInt8):EZ (l++leB (PY l).toNat 4)=true:=by
 have h:=Y2 (PY l).isLt;rw [Qe] at h ⊢;rw [VI,decide_eq_true_eq];exact h.symm
theorem Sb (r:Rnd):EZ (Fa r)=true:=VJ _
theorem UB {l:List UInt8} (h:Hz l=true):(Jp l).s.2=false∧Bw (LJ l)=true∧Fa (LJ l)=l:=by
 unfold Hz at h
 simpa [Bool.and_eq_true] using h
theorem T8 {l:List UInt8} (h:Hz l=true):EZ l=true:=by
 rw [← (UB h).2.2];exact Sb _
theorem T9 {l:List UInt8} (h:EZ l=false):Hz l=false:=by
 cases h2:Hz l with
 | false=>rfl
 | true=>rw [T8 h2] at h; cases h

/-! ### Bits turned -/
def wholeW:BitVec 32:=CR 32 (~~~ 0#32)
/-- Four bytes one behind the other, turned one after the other. -/
def turnL (l:List UInt8) (k t:Nat):Nat→List UInt8
 | 0=>l
 | i+1=>(turnL l k t i).modify (k+i) fun x=>x ^^^ UInt8.ofNat (t / 2 ^ (8*i))
/-! ### How many there are -/
def hubN (r:Rnd):Nat:=(r.N - 1).toNat
/-- How many there are, by the head. -/
def szB (l:List UInt8):Nat:=35+28*(l.getD 22 0).toNat+24*(if l.getD 20 0=1 then 0 else (l.getD 21 0).toNat)+8*(l.getD 21 0).toNat
/-! ### What is put is got -/
/-- What stands behind k dues. -/
def stD (r:Rnd) (k:Nat):PRd:=⟨r.ids.take k,r.es.take k,r.fl.take k,[],((BJ r++esB r k).length,false)⟩
def stP (r:Rnd) (k:Nat):PRd:=⟨r.ids,r.es.take (r.ids.length+2*k),r.fl.take (r.ids.length+2*k),[],((BJ r++esB r (r.ids.length+2*k)).length,false)⟩
def stT (r:Rnd) (k:Nat):PRd:=⟨r.ids,r.es,r.fl,r.pot.take k,((BJ r++esB r r.es.length++DX (r.pot.take k)).length,false)⟩
/-- What any function of the bytes tells that has a sum, or has none. -/
theorem Y3 {l:List UInt8} {w w':World} {v:Value} (h1:EZ l=true→GetRes l w w' v) (h2:EZ l=false→v = .tuple #[.agg (A8 EY E0).toArray,.int .i64 5]∧Ext [] w w'):GetRes l w w' v:=by
 cases h:EZ l with
 | true=>exact h1 h
 | false =>
  obtain ⟨h3,h4⟩:=h2 h;exact ⟨fun g=>(by rw [T9 h] at g; cases g),fun _=>h3,h4⟩
end Go.Proofs.YtapphbmlkdhnmaaGreat

/- The reference's function that gets a round of bytes. -/
namespace Go.Proofs.YtapphbmlkdhnmaaGreat
open Go.GV
attribute [local irreducible] AC W Wq Wt

structure Kt where
 br:Nat
 b5:Nat
 b2:Nat
 a:Option Addr
 c:Nat
 l:List UInt8
abbrev kC (T:Kt) (h:Hd) (g:Gs):List (Nat × Obj):=[(T.b5,Bl 33 (A8 (G4 h g.p) g.q)),(T.b2,Bl 33 (A8 EY E0))]
abbrev kL (T:Kt) (h:Hd) (g:Gs) (s:Nat × Bool):List (Nat × Obj):=rkL T.br T.a T.c T.l s++(kC T h g++gE g)
structure KOk (T:Kt) (h:Hd) (w0 w:World) (g:Gs):Prop where
 H:Ctx w0 [] w (kL T h g g.p.s)
 I:OS g.aI g.p.ids.length g.cI 1 g.fI (g.p.ids.flatMap U1)
 E:OS g.aE g.p.es.length g.cE 4 g.fE (g.p.es.flatMap Br)
 F:OS g.aF g.p.fl.length g.cF 1 g.fF (g.p.fl.flatMap I1)
 P:OS g.aP g.p.pot.length g.cP 1 g.fP (g.p.pot.flatMap I1)
 hs:g.p.s.1≤T.l.length
structure KFix (T:Kt) (w0:World):Prop where
 R:Rd w0 T.a 1 B8 T.l
 off:T.l≠[]→(adr T.a).block<w0.heap.size
 hc:T.l.length≤T.c
 hm:T.l.length≤100000
theorem Ctx.tkr {T:Kt} {w0 w:World} {s:Nat × Bool} {L:List (Nat × Obj)} (H:Ctx w0 [] w (rkL T.br T.a T.c T.l s++L)) (X:KFix T w0):TkB w [T.br] T.a T.c T.l:=by
 refine ⟨X.R.ext0 H.ext,fun hl h=>?_,X.hc,X.hm⟩;have h1:=X.off hl;have h2:w0.heap.size≤T.br:=(H.own _ (List.mem_cons_self ..)).elim (fun h=>by cases h) id;simp only [List.mem_cons,List.not_mem_nil,or_false] at h;omega
theorem DK {br b5 b2:Nat} {a:Option Addr} {c:Nat} {l:List UInt8} {w0 w:World} {s:Nat × Bool} {L:List (Nat × Obj)} (X:KFix ⟨br,b5,b2,a,c,l⟩ w0) (H:Ctx w0 [] w (rkL br a c l s++L)) (hs:s.1≤l.length) {k:Nat} (hk:KO k) :
  Ret Tryz.prog 92 #[ptr br,.int .i64 (k:Int)] w fun v w'=>v = .int .u64 ((nx l k s).1:Int)∧Ctx w0 [] w' (rkL br a c l (nx l k s).2++L)∧Ext [br] w w' :=
 Ret.mono (Yx br a c l s k w (Ctx.tkr (T:=⟨br,b5,b2,a,c,l⟩) H X) (Ctx.lend H) hs hk) fun _ _ ⟨h1,h2⟩=>⟨h1,Ctx.back H h2,h2.ext⟩
theorem Ctx.ltK {T:Kt} {h:Hd} {g:Gs} {w0 w:World} {s:Nat × Bool} (H:Ctx w0 [] w (kL T h g s)):∀ x∈[T.br],x<w.heap.size:=fun x hx=>by
 simp only [List.mem_cons,List.not_mem_nil,or_false] at hx;subst hx;exact H.lt (k:=0) U
theorem Y4 {α:Type} (x y z:α) (C I E R:List α):(x::([y]++(z::(C++(I++(E++R)))))).Perm ((x::([y]++(z::(C++(I++R)))))++E):=by
 simp only [List.cons_append,List.nil_append];refine List.Perm.cons _ (List.Perm.cons _ (List.Perm.cons _ ?_));rw [List.append_assoc,List.append_assoc];exact List.Perm.append_left _ (List.Perm.append_left _ List.perm_append_comm)
theorem ZW (a b:Ed):∀ v∈Br a++Br b,B4 v=true:=fun v hv=>by
 rcases List.mem_append.1 hv with h | h
 ·exact CN a v h
 ·exact CN b v h
theorem Y5 (a b:Ed):[a,b].flatMap Br=Br a++Br b:=by simp [List.flatMap_cons]

set_option maxRecDepth 20000 in
set_option maxHeartbeats 16000000 in
theorem ZX (a:Option Addr) (c:Nat) (l:List UInt8) (w:World) (R:Rd w a 1 B8 l) (hc:l.length≤c) (hm:l.length≤100000) (hoff:l≠[]→(adr a).block<w.heap.size) :
  Ret Tryz.prog 35 #[.slice a l.length c] w fun v w'=>GetRes l w w' v:=by
 obtain ⟨w0,rfl⟩:∃ w0,w0=w:=⟨_,rfl⟩;have H:=Ctx.start w0 [];refine A2 (fn:=Tryz.f35) Tryz.func35 U [.slice a l.length c] U (by kernel_rfl) ?_;refine Ag (Bs U Gk H ?_);rintro b2 w - H;refine Ad U U (Ab (Aa (Ag (Ap U U (Cp [.slice a l.length c,.int .i64 0,.bool false] U Adm Adz (by kernel_rfl) ?_)))));refine Bt U [.slice a l.length c,.int .i64 0,.bool false] (.agg _) U U H ?_;rintro br w - H;refine D7 U U (Ab (Aa ?_));have X0:KFix (⟨br,0,b2,a,c,l⟩:Kt) w0:=⟨R,hoff,hc,hm⟩;replace H:Ctx w0 [] _ (rkL br a c l (0,false)++[(b2,Bl 33 (A8 EY E0))]):=H;refine Ag (Ba U U (Al U Gz (DK (k:=4) X0 H (Nat.zero_le _) (.inr (.inr (.inl U)))) U ?_));rintro v w ⟨rfl,H19,-⟩;replace H:Ctx w0 [] w (rkL br a c l (hs1 l)++[(b2,Bl 33 (A8 EY E0))]):=H19;refine Ab (Aa (Ag (Ba U U (Al U Gz (DK (k:=8) X0 H (T3 l) (.inr (.inr (.inr U)))) U ?_))));rintro v w ⟨rfl,H21,-⟩
 replace H:Ctx w0 [] w (rkL br a c l (hs2 l)++[(b2,Bl 33 (A8 EY E0))]):=H21;refine Ba U U (Al U Gz (DK (k:=8) X0 H (T4 l) (.inr (.inr (.inr U)))) U ?_);rintro v w ⟨rfl,H23,-⟩;replace H:Ctx w0 [] w (rkL br a c l (hs3 l)++[(b2,Bl 33 (A8 EY E0))]):=H23;refine DR U U Da GN ?_;refine Cp (A8 ⟨((nx l 8 (hs1 l)).1:Int),s64 (nx l 8 (hs2 l)).1,false,[],0,[],[],[]⟩ E0) U L4 Gk (by kernel_rfl) ?_;refine Bs U Gk H ?_;rintro b5 w - H;refine BL U BW U U U (by exact (by simp [B4]; done)) H at0 U ?_;rintro w H;refine Ab (Aa ?_);have X:KFix (⟨br,b5,b2,a,c,l⟩:Kt) w0:=⟨R,hoff,hc,hm⟩;replace H:Ctx w0 [] _ (rkL br a c l (hs3 l)++[(b5,Bl 33 (A8 ⟨((nx l 8 (hs1 l)).1:Int),s64 (nx l 8 (hs2 l)).1,false,[],0,[],[],[]⟩ E0)),(b2,Bl 33 (A8 EY E0))]):=Ctx.perm H (List.Perm.swap _ _ _);refine Ag (Ba U U (Al U Gz (DK (k:=1) X H (T5 l) (.inl U)) U ?_));rintro v w ⟨rfl,H27,-⟩;replace H:=H27
 refine BQ U U U (Ah U FZ U (BX (.bool _) U LG U U U H at1 (by (simp; done)) ?_));rintro w H;refine Ab (Aa ?_);replace H:Ctx w0 [] _ (kL (⟨br,b5,b2,a,c,l⟩:Kt) (hd0 l) (gs0 (hs4 l)) (hs4 l)):=H;have hhub:Cf l<256:=Js _ _;have hcnt:Jo l<256:=Js _ _;have hh1:(nx l 1 (hs4 l)).1<256:=hhub;have hh2:(nx l 1 (hs5 l)).1<256:=hcnt;refine Ag (Ba U U (Al U Gz (DK (k:=1) X H (T6 l) (.inl U)) U ?_));rintro v w ⟨rfl,H31,-⟩;replace H:Ctx w0 [] w (kL (⟨br,b5,b2,a,c,l⟩:Kt) (hd0 l) (gs0 (hs4 l)) (hs5 l)):=H31;refine Dv U U Da Fy (by omega) (by omega) ?_;rw [show ((nx l 1 (hs4 l)).1:Int)=(Cf l:Int) from rfl];refine Ad U U (Ab (Aa (Ag (Ba U U (Al U Gz (DK (k:=1) X H (T7 l) (.inl U)) U ?_)))));rintro v w ⟨rfl,H34,-⟩;replace H:Ctx w0 [] w (kL (⟨br,b5,b2,a,c,l⟩:Kt) (hd0 l) (gs0 (hs4 l)) (hs6 l)):=H34;refine Dv U U Da Fy (by omega) (by omega) ?_;rw [show ((nx l 1 (hs5 l)).1:Int)=(Jo l:Int) from rfl]
 refine Ad U U (Ab (Aa (Ag (Ae U U (Ao U U U (by omega) (by omega) ?_)))));refine Ah U C4 U (Ah U Dj U (BX (.int _ _) U EV U U U H at1 (by (simp; done)) ?_));rintro w H;refine Ab (Aa (Aq (Ag (Ad U U (Ab (Aa (Av ?_)))))));replace H:Ctx w0 [] _ (kL (⟨br,b5,b2,a,c,l⟩:Kt) (hdP l) (gs0 (hs6 l)) (hs6 l)):=H;obtain ⟨P1,hP1⟩:∃ P,P=JT l (Jo l) (gs0 (hs6 l)).p:=⟨_,rfl⟩;refine Bd 9903520314283041099681366784 (α:=Gs × Nat) (fun z=>[(8,.int .i64 (z.2:Int))]) (fun z w'=>KOk (⟨br,b5,b2,a,c,l⟩:Kt) (hdP l) w0 w' z.1∧JT l (Jo l - z.2) z.1.p=P1∧z.2≤Jo l∧z.1.p.pot.length=0∧z.1.p.ids.length≤z.2∧z.1.p.es.length≤z.2∧z.1.p.fl.length≤z.2) (fun z=>Jo l - z.2) (gs0 (hs6 l),0) U ?_ ?_ ?_
 ·exact ⟨rfl,trivial⟩
 ·exact ⟨⟨H,OS.nil,OS.nil,OS.nil,OS.nil,Y0 l⟩,hP1.symm,Nat.zero_le _,rfl,Nat.le_refl _,Nat.le_refl _,Nat.le_refl _⟩
 ·clear H;rintro ⟨⟨⟨ids,es,fl,pot,p,bad⟩,aI,cI,fI,aE,cE,fE,aF,cF,fF,aP,cP,fP⟩,n⟩ j w ⟨⟨H,OI,OE,OF,OP,hs⟩,hP,hnc,hpt,n1,n2,n3⟩; dsimp only at H OI OE OF OP hs hP hnc hpt n1 n2 n3; dsimp only;refine Aq (Ag (B5 (α:=Unit) 1124800395214848 (fun _=>[(49,.bool (decide ((n:Int)<(Jo l:Int)) && !bad))]) (fun _ w'=>Ctx w0 [] w' (kL (⟨br,b5,b2,a,c,l⟩:Kt) (hdP l) ⟨⟨ids,es,fl,pot,p,bad⟩,aI,cI,fI,aE,cE,fE,aF,cF,fF,aP,cP,fP⟩ (p,bad))) U ?_ ?_))
  ·refine Ae U U (Ae U U (AO U U U (Ak U U (A4 43 U ?_ ?_))))
   ·intro h1;replace h1:=AG h1;refine Ba U U (AZ U U (Ah U FI U (AA U Fx U H at0 U (Bv U U (An U U (.bool _) U (Ab ?_))))));exact ⟨rfl,(),rfl,⟨congrArg Value.bool (by (simp_all; done)),trivial⟩,H⟩
   ·intro h2;replace h2:=AH h2;refine Af U (Af U (Af U (Af U (Af U (A1 U U (.bool _) U (Ab ?_))))));exact ⟨rfl,(),rfl,⟨congrArg Value.bool (by (simp_all; intros; omega)),trivial⟩,H⟩
  rintro - j49 w H;refine Ay _ U ?_ ?_
  ·intro h2;rw [Bool.and_eq_true,decide_eq_true_eq,Bool.not_eq_true'] at h2;obtain ⟨h3,rfl⟩:=h2;obtain ⟨m,hm'⟩:∃ m,Jo l - n=m+1:=⟨Jo l - n - 1,by omega⟩;rw [hm'] at hP;refine Ax (Aa (Aq (Av (DC 571957152676052992 (α:=Option Addr × Nat × List Value) (fun _=>[]) (fun z w'=>Ctx w0 [] w' (kL (⟨br,b5,b2,a,c,l⟩:Kt) (hdP l) ⟨⟨ids++[((nx l 8 (p,false)).1:Int)],es,fl,pot,(nx l 8 (p,false)).2⟩,z.1,z.2.1,z.2.2,aE,cE,fE,aF,cF,fF,aP,cP,fP⟩ (nx l 8 (p,false)).2)∧OS z.1 (ids++[((nx l 8 (p,false)).1:Int)]).length z.2.1 1 z.2.2 ((ids++[((nx l 8 (p,false)).1:Int)]).flatMap U1)) U ?_ ?_))))
   ·skip
    have hSw:∀ x∈[br],x<w.heap.size:=Ctx.ltK H;refine E6 (n:=5) (N:=8) (anc:=IU 5 [[],[0],[],[2],[2,3]]) [br] (fun i=>52+i) [isV (.pointer (some ⟨b5,3,none⟩)),isV (.slice aI ids.length cI),isV (ptr br),isV (.int .u64 ((nx l 8 (p,false)).1:Int)),nsV w 24 1 [.int .u64 ((nx l 8 (p,false)).1:Int)]] [3] (fun k w'=>Ctx w0 [] w' (kL (⟨br,b5,b2,a,c,l⟩:Kt) (hdP l) ⟨⟨ids,es,fl,pot,p,false⟩,aI,cI,fI,aE,cE,fE,aF,cF,fF,aP,cP,fP⟩ ([(p,false),(nx l 8 (p,false)).2].getD k (p,false)))) (show Tryz.prog.follows .mixedOrders=true by kernel_rfl) U (by decide) (by kernel_rfl) (D8 _) (fun i j _ _ h=>by have h:52+i=52+j:=h; omega) ⟨Bj _ _,Bj _ _,Bj _ _,Bj _ _,Hj hSw _ _ _,trivial⟩ (by kernel_rfl) (fun k w w2 h hx=>h.call hx) H.drew (by kernel_rfl) ?_ ?_ ?_
    ·rintro m o e' w' hm hic ho hold hg hx ⟨k,HJ⟩;have hin:∀ t:Nat,t<52→∀ j,j<5→t≠(fun i=>52+i) j:=fun t ht j hj=>by dsimp only; omega
     have g4:e'.g 4=ptr br:=(hold 4 (hin 4 (by decide))).trans rfl;have g5:e'.g 5=ptr b5:=(hold 5 (hin 5 (by decide))).trans rfl;have hcs:m=0∨m=1∨m=2∨m=3∨m=4:=by omega
     rcases hcs with rfl | rfl | rfl | rfl | rfl
     ·cases Option.some.inj ho;exact Ah (off:=3) U (by kernel_rfl) g5 (Ab ⟨_,.refl _ _,rfl,rfl⟩)
     ·cases Option.some.inj ho;exact AY U DS (hg 0 (by decide)) (by rw [Au (HJ.get (k:=1) rfl)]; rfl) (Ab ⟨_,.refl _ _,rfl,rfl⟩)
     ·cases Option.some.inj ho;exact BP U _ g4 (Ab ⟨_,.refl _ _,rfl,rfl⟩)
     ·exact absurd (by decide) hic
     ·cases Option.some.inj ho;refine CJ [.int .u64 ((nx l 8 (p,false)).1:Int)] U Bf Be K6 (by decide) (by decide) ?_ (Ctx.start w' []) ?_
      ·show Instr.fill _ _ [(0,e'.g 55)]=_;rw [show e'.g 55 = .int .u64 ((nx l 8 (p,false)).1:Int) from (hg 3 (by decide))];kernel_rfl
      ·intro b w2 _ H;exact Ab ⟨_,H.ext,rfl,b,rfl,H.get at0,Nat.le_trans hx.size ((H.own _ (List.mem_cons_self ..)).elim (fun h=>by cases h) id)⟩
    ·intro k im o e' w' hk ho hold hg hx HJ;have hin:∀ t:Nat,t<52→∀ j,j<5→t≠(fun i=>52+i) j:=fun t ht j hj=>by dsimp only; omega
     have g4:e'.g 4=ptr br:=(hold 4 (hin 4 (by decide))).trans rfl;have g5:e'.g 5=ptr b5:=(hold 5 (hin 5 (by decide))).trans rfl
     rcases k with _ | k
     ·cases hk;cases Option.some.inj ho;refine Al U Gz (DK (k:=8) X HJ hs (.inr (.inr (.inr U)))) ?_ ?_
      ·show [e'.g 54,_]=_;rw [show e'.g 54=ptr br from hg 2 (by decide)];rfl
      ·rintro v w2 ⟨rfl,h2,h3⟩;exact Ab ⟨_,h3,rfl,rfl,h2⟩
     ·simp at hk
    ·intro e' w' hds hold hg hx HJ;have hin:∀ t:Nat,t<52→∀ j,j<5→t≠(fun i=>52+i) j:=fun t ht j hj=>by dsimp only; omega
     obtain ⟨b4',h4',hb4',hn4'⟩:=hg 4 (by decide);refine Dt U Bf Bf Be TT K6 U (by decide) [.int .u64 ((nx l 8 (p,false)).1:Int)] (hg 1 (by decide)) h4' (Ctx.perm HJ (Qg _ _ _ _)) OI U (by simp [B4]) (fun j v hv=>⟨_,rfl,by rw [Co,Nat.zero_add,Au hb4']; exact hv⟩) (by omega) fun a' c' full' w3 H6 O6=>?_;replace H6:=H6.perm (Qg _ _ _ _).symm;rw [show ids.length+1=(ids++[((nx l 8 (p,false)).1:Int)]).length from by simp] at O6 ⊢;refine Ah (off:=3) U (by kernel_rfl) ((hold 5 (hin 5 (by decide))).trans U) ?_;refine BX (.slice a' (ids++[((nx l 8 (p,false)).1:Int)]).length c') U WS (CH _ _ _) U U H6 at1 (by simp) fun w4 H8=>Ab ?_;exact ⟨(a',c',full'),hds,trivial,H8,by rw [List.flatMap_append,List.flatMap_singleton]; exact O6⟩
   ·rintro ⟨aI,cI,fI⟩ j12 w ⟨H,OI⟩; dsimp only at H OI; (try dsimp only);obtain ⟨idn,hid⟩:∃ x,x=((nx l 8 (p,false)).1:Int):=⟨_,rfl⟩;obtain ⟨s1,hs1'⟩:∃ x,x=(nx l 8 (p,false)).2:=⟨_,rfl⟩;rw [← hid,← hs1'] at H;rw [← hid] at OI;have k1:s1.1≤l.length:=by rw [hs1']; exact EF hs
    have k2:(nx l 1 s1).2.1≤l.length:=EF k1;have k3:(nx l 1 (nx l 1 s1).2).2.1≤l.length:=EF k2;have k4:(nx l 8 (nx l 1 (nx l 1 s1).2).2).2.1≤l.length:=EF k3;have v1:=Js l s1;have v2:=Js l (nx l 1 s1).2;refine Ag (Ba U U (Al U Gz (DK (k:=1) X H k1 (.inl U)) U ?_));rintro v w ⟨rfl,H60,-⟩;replace H:Ctx w0 [] w (kL (⟨br,b5,b2,a,c,l⟩:Kt) (hdP l) ⟨⟨ids++[idn],es,fl,pot,s1⟩,aI,cI,fI,aE,cE,fE,aF,cF,fF,aP,cP,fP⟩ (nx l 1 s1).2):=H60;refine Dv U U Da Fy (by omega) (by omega) ?_;refine Ba U U (Al U Gz (DK (k:=1) X H k2 (.inl U)) U ?_);rintro v w ⟨rfl,H63,-⟩;replace H:Ctx w0 [] w (kL (⟨br,b5,b2,a,c,l⟩:Kt) (hdP l) ⟨⟨ids++[idn],es,fl,pot,s1⟩,aI,cI,fI,aE,cE,fE,aF,cF,fF,aP,cP,fP⟩ (nx l 1 (nx l 1 s1).2).2):=H63;refine Dv U U Da Fy (by omega) (by omega) ?_;refine Cp (Br ⟨((nx l 1 s1).1:Int),((nx l 1 (nx l 1 s1).2).1:Int),0,0⟩) U JO Dn (by kernel_rfl) ?_;refine Bs U Dn H ?_;rintro b9 w - H
    refine BL (l:=Br ⟨0,0,0,0⟩) U B3 U U U (CN _) H at0 U ?_;rintro w H;refine Ab (Aa ?_);replace H:Ctx w0 [] _ (rkL br a c l (nx l 1 (nx l 1 s1).2).2++((b9,Bl 92 (Br ⟨((nx l 1 s1).1:Int),((nx l 1 (nx l 1 s1).2).1:Int),0,0⟩))::(kC (⟨br,b5,b2,a,c,l⟩:Kt) (hdP l) ⟨⟨ids++[idn],es,fl,pot,s1⟩,aI,cI,fI,aE,cE,fE,aF,cF,fF,aP,cP,fP⟩++gE ⟨⟨ids++[idn],es,fl,pot,s1⟩,aI,cI,fI,aE,cE,fE,aF,cF,fF,aP,cP,fP⟩))):=Ctx.perm H (List.Perm.swap _ _ _);refine Ag (Ba U U (Al U Gz (DK (k:=8) X H k3 (.inr (.inr (.inr U)))) U ?_));rintro v w ⟨rfl,H67,-⟩;replace H:=H67;refine DR U U Da GN ?_;refine Ah U CD U (BX (.int .i64 (s64 (nx l 8 (nx l 1 (nx l 1 s1).2).2).1)) U Bz U U U H at1 (show 0+2<4 by decide) ?_);rintro w H;refine Ab (Aa ?_);obtain ⟨s4,hs4'⟩:∃ x,x=(nx l 8 (nx l 1 (nx l 1 s1).2).2).2:=⟨_,rfl⟩;rw [← hs4'] at k4
    replace H:Ctx w0 [] w (rkL br a c l s4++((b9,Bl 92 (Br ⟨((nx l 1 s1).1:Int),((nx l 1 (nx l 1 s1).2).1:Int),s64 (nx l 8 (nx l 1 (nx l 1 s1).2).2).1,0⟩))::(kC (⟨br,b5,b2,a,c,l⟩:Kt) (hdP l) ⟨⟨ids++[idn],es,fl,pot,s1⟩,aI,cI,fI,aE,cE,fE,aF,cF,fF,aP,cP,fP⟩++gE ⟨⟨ids++[idn],es,fl,pot,s1⟩,aI,cI,fI,aE,cE,fE,aF,cF,fF,aP,cP,fP⟩))):=by rw [hs4']; exact H
    have v5:=Yz l s4;refine Ag (Ba U U (Al U Gz (DK (k:=2) X H k4 (.inr (.inl U))) U ?_));rintro v w ⟨rfl,H71,-⟩;replace H:=H71;refine Dv U U Da GN (by omega) (by omega) ?_;refine EJ U U (by omega) (by omega) ?_;refine Ah U De U (BX (.int .i64 (-((nx l 2 s4).1:Int))) U Bz U U U H at1 (show 0+3<4 by decide) ?_);rintro w H;refine Ab (Aa ?_);obtain ⟨ed,hed⟩:∃ e:Ed,e=⟨((nx l 1 s1).1:Int),((nx l 1 (nx l 1 s1).2).1:Int),s64 (nx l 8 (nx l 1 (nx l 1 s1).2).2).1,-((nx l 2 s4).1:Int)⟩:=⟨_,rfl⟩;obtain ⟨s5,hs5'⟩:∃ x,x=(nx l 2 s4).2:=⟨_,rfl⟩;have k5:s5.1≤l.length:=by rw [hs5']; exact EF k4
    replace H:Ctx w0 [] w (rkL br a c l s5++((b9,Bl 92 (Br ed))::(kC (⟨br,b5,b2,a,c,l⟩:Kt) (hdP l) ⟨⟨ids++[idn],es,fl,pot,s1⟩,aI,cI,fI,aE,cE,fE,aF,cF,fF,aP,cP,fP⟩++gE ⟨⟨ids++[idn],es,fl,pot,s1⟩,aI,cI,fI,aE,cE,fE,aF,cF,fF,aP,cP,fP⟩))):=by rw [hs5',hed]; exact H
    refine Ag (Ah U C4 U (Ah U BD U (AA U C5 U H at2 U (Cd (Br ed) U DT B3 U U (BU (l:=Br ed) (H.get (k:=1) U) 0 (Br ed) U) ?_))));refine CJ (Br ed) U BO B3 Dn (by decide) (by decide) (by kernel_rfl) H ?_;rintro b79 w - H;refine Dt (a:=aE) (n:=es.length) (c:=cE) U BO BO B3 QK Dn U (by decide) (Br ed) U U (Ctx.perm H (Y4 _ _ _ _ _ _ _)) OE U (CN _) (fun j v hv=>⟨_,rfl,by rw [Co,Nat.zero_add,Au (H.get at0)]; exact hv⟩) (by omega) ?_;rintro aE cE fE w H OE;rw [show es.length+1=(es++[ed]).length from by simp] at OE ⊢;replace H:=Ctx.perm H (Y4 _ _ _ _ _ _ _).symm;refine Ah U C4 U (Ah U BD U (BX (.slice aE (es++[ed]).length cE) U TX U U U H (at3) (by simp) ?_));rintro w H;refine Ab (Aa ?_);replace H:Ctx w0 [] _ (kL (⟨br,b5,b2,a,c,l⟩:Kt) (hdP l) ⟨⟨ids++[idn],es++[ed],fl,pot,s5⟩,aI,cI,fI,aE,cE,fE,aF,cF,fF,aP,cP,fP⟩ s5):=(Ctx.perm H ((List.Perm.swap _ _ _).cons _)).tail.tail
    replace OE:OS aE (es++[ed]).length cE 4 fE ((es++[ed]).flatMap Br):=by rw [List.flatMap_append,List.flatMap_singleton]; exact OE
    refine J2 9893848907726125165795344384 (α:=Option Addr × Nat × List Value) (fun _=>[]) (fun z w'=>Ctx w0 [] w' (kL (⟨br,b5,b2,a,c,l⟩:Kt) (hdP l) ⟨⟨ids++[idn],es++[ed],fl++[s64 (nx l 8 s5).1],pot,(nx l 8 s5).2⟩,aI,cI,fI,aE,cE,fE,z.1,z.2.1,z.2.2,aP,cP,fP⟩ (nx l 8 s5).2)∧OS z.1 (fl++[s64 (nx l 8 s5).1]).length z.2.1 1 z.2.2 ((fl++[s64 (nx l 8 s5).1]).flatMap I1)) U ?_ ?_
    ·skip
     have hSw:∀ x∈[br],x<w.heap.size:=Ctx.ltK H;refine E6 (n:=7) (N:=11) (anc:=IU 7 [[],[0],[0,1],[],[3],[3,4],[3,4,5]]) [br] (fun i=>83+i) [isV (.pointer (some ⟨b5,6,none⟩)),isV (.pointer (some ⟨b5,6,none⟩)),isV (.slice aF fl.length cF),isV (ptr br),isV (.int .u64 ((nx l 8 s5).1:Int)),isV (.int .i64 (s64 (nx l 8 s5).1)),nsV w 2 1 [.int .i64 (s64 (nx l 8 s5).1)]] [4] (fun k w'=>Ctx w0 [] w' (kL (⟨br,b5,b2,a,c,l⟩:Kt) (hdP l) ⟨⟨ids++[idn],es++[ed],fl,pot,s5⟩,aI,cI,fI,aE,cE,fE,aF,cF,fF,aP,cP,fP⟩ ([s5,(nx l 8 s5).2].getD k s5))) (show Tryz.prog.follows .mixedOrders=true by kernel_rfl) U (by decide) (by kernel_rfl) (D8 _) (fun i j _ _ h=>by have h:83+i=83+j:=h; omega) ⟨Bj _ _,Bj _ _,Bj _ _,Bj _ _,Bj _ _,Bj _ _,Hj hSw _ _ _,trivial⟩ (by kernel_rfl) (fun k w w2 h hx=>h.call hx) H.drew (by kernel_rfl) ?_ ?_ ?_
     ·rintro m o e' w' hm hic ho hold hg hx ⟨k,HJ⟩;have hin:∀ t:Nat,t<83→∀ j,j<7→t≠(fun i=>83+i) j:=fun t ht j hj=>by dsimp only; omega
      have g4:e'.g 4=ptr br:=(hold 4 (hin 4 (by decide))).trans rfl;have g5:e'.g 5=ptr b5:=(hold 5 (hin 5 (by decide))).trans rfl;have hcs:m=0∨m=1∨m=2∨m=3∨m=4∨m=5∨m=6:=by omega
      rcases hcs with rfl | rfl | rfl | rfl | rfl | rfl | rfl
      ·cases Option.some.inj ho;exact Ah (off:=6) U (by kernel_rfl) g5 (Ab ⟨_,.refl _ _,rfl,rfl⟩)
      ·cases Option.some.inj ho;exact Ah (off:=0) U (by kernel_rfl) (hg 0 (by decide)) (Ab ⟨_,.refl _ _,rfl,rfl⟩)
      ·cases Option.some.inj ho;exact AY U BC (hg 1 (by decide)) (by rw [Au (HJ.get (k:=1) rfl)]; rfl) (Ab ⟨_,.refl _ _,rfl,rfl⟩)
      ·cases Option.some.inj ho;exact BP U _ g4 (Ab ⟨_,.refl _ _,rfl,rfl⟩)
      ·exact absurd (by decide) hic
      ·cases Option.some.inj ho;exact DR U (hg 4 (by decide)) Da GN (Ab ⟨_,.refl _ _,rfl,rfl⟩)
      ·cases Option.some.inj ho;refine CJ [.int .i64 (s64 (nx l 8 s5).1)] U AU Bz FJ (by decide) (by decide) ?_ (Ctx.start w' []) ?_
       ·show Instr.fill _ _ [(0,e'.g 88)]=_;rw [show e'.g 88 = .int .i64 (s64 (nx l 8 s5).1) from (hg 5 (by decide))];kernel_rfl
       ·intro b w2 _ H;exact Ab ⟨_,H.ext,rfl,b,rfl,H.get at0,Nat.le_trans hx.size ((H.own _ (List.mem_cons_self ..)).elim (fun h=>by cases h) id)⟩
     ·intro k im o e' w' hk ho hold hg hx HJ;have hin:∀ t:Nat,t<83→∀ j,j<7→t≠(fun i=>83+i) j:=fun t ht j hj=>by dsimp only; omega
      have g4:e'.g 4=ptr br:=(hold 4 (hin 4 (by decide))).trans rfl;have g5:e'.g 5=ptr b5:=(hold 5 (hin 5 (by decide))).trans rfl
      rcases k with _ | k
      ·cases hk;cases Option.some.inj ho;refine Al U Gz (DK (k:=8) X HJ k5 (.inr (.inr (.inr U)))) ?_ ?_
       ·show [e'.g 86,_]=_;rw [show e'.g 86=ptr br from hg 3 (by decide)];rfl
       ·rintro v w2 ⟨rfl,h2,h3⟩;exact Ab ⟨_,h3,rfl,rfl,h2⟩
      ·simp at hk
     ·intro e' w' hds hold hg hx HJ;have hin:∀ t:Nat,t<83→∀ j,j<7→t≠(fun i=>83+i) j:=fun t ht j hj=>by dsimp only; omega
      obtain ⟨b5',h5',hb5',hn5'⟩:=hg 6 (by decide);refine Dt U AU AU Bz Kz FJ U (by decide) [.int .i64 (s64 (nx l 8 s5).1)] (hg 2 (by decide)) h5' (Ctx.perm HJ (Lr _ _ _ _ _ _)) OF U (by simp [B4]) (fun j v hv=>⟨_,rfl,by rw [Co,Nat.zero_add,Au hb5']; exact hv⟩) (by omega) fun a' c' full' w3 H6 O6=>?_;replace H6:=H6.perm (Lr _ _ _ _ _ _).symm;rw [show fl.length+1=(fl++[s64 (nx l 8 s5).1]).length from by simp] at O6 ⊢;refine Ah (off:=6) U (by kernel_rfl) ((hold 5 (hin 5 (by decide))).trans U) ?_;refine Ah (off:=0) U (by kernel_rfl) (CH _ _ _) ?_;refine BX (.slice a' (fl++[s64 (nx l 8 s5).1]).length c') U Ot (CH _ _ _) U U H6 at1 (by simp) fun w4 H8=>Ab ?_;exact ⟨rfl,(a',c',full'),hds,trivial,H8,by rw [List.flatMap_append,List.flatMap_singleton]; exact O6⟩
    ·rintro ⟨aF,cF,fF⟩ j16 w ⟨H,OF⟩; dsimp only at H OF; (try dsimp only);refine A3 (Aa (Aw (Ae U U (Ao U U U (by omega) (by omega) ?_))));refine Ad U U (Ab (Aa ?_))
     have hP':JT l (Jo l - (n+1)) ⟨ids++[idn],es++[ed],fl++[s64 (nx l 8 s5).1],pot,(nx l 8 s5).2⟩=P1:=by
      rw [← hP,show Jo l - (n+1)=m from by omega,hs5',hed,hs4',hid,hs1'];rfl
     refine ⟨(⟨⟨ids++[idn],es++[ed],fl++[s64 (nx l 8 s5).1],pot,(nx l 8 s5).2⟩,aI,cI,fI,aE,cE,fE,aF,cF,fF,aP,cP,fP⟩,n+1),rfl,⟨rfl,trivial⟩,⟨⟨H,OI,OE,OF,OP,EF k5⟩,hP',by dsimp only; omega,hpt,?_,?_,?_⟩,by dsimp only; omega⟩ <;> dsimp only <;> rw [List.length_append,List.length_singleton] <;> omega
  ·intro h2
   have hPd:(⟨ids,es,fl,pot,p,bad⟩:PRd)=P1:=by
    rw [← hP]
    cases hn:Jo l - n with
    | zero=>rfl
    | succ k =>
     cases bad with
     | true=>rfl
     | false =>
      exfalso;simp at h2;omega
   refine Bc (Aj (Aj (AD (Aa (Aq (Ag (Ad U U (Ab (Aa (Av ?_))))))))));obtain ⟨P2,hP2⟩:∃ P,P=if (hdP l).cmp=true then P1 else Gy l (Cf l) (Cf l) 0 P1:=⟨_,rfl⟩;refine Bd 1393796574908154042825668108998323401133056 (α:=Gs × Nat) (fun z=>[(10,.int .i64 (z.2:Int))]) (fun z w'=>KOk (⟨br,b5,b2,a,c,l⟩:Kt) (hdP l) w0 w' z.1∧(if (hdP l).cmp=true then z.1.p else Gy l (Cf l) (Cf l - z.2) z.2 z.1.p)=P2∧z.1.p.pot.length=0∧z.2≤Cf l∧z.1.p.ids.length≤256∧z.1.p.es.length≤256+2*z.2∧z.1.p.fl.length≤256+2*z.2) (fun z=>Cf l - z.2) (⟨⟨ids,es,fl,pot,p,bad⟩,aI,cI,fI,aE,cE,fE,aF,cF,fF,aP,cP,fP⟩,0) U ?_ ?_ ?_
   ·exact ⟨rfl,trivial⟩
   ·refine ⟨⟨H,OI,OE,OF,OP,hs⟩,?_,hpt,Nat.zero_le _,?_,?_,?_⟩
    ·dsimp only;rw [hPd,hP2];rfl
    ·dsimp only; omega
    ·dsimp only; omega
    ·dsimp only; omega
   ·clear H OI OE OF OP hs hPd hP hpt n1 n2 n3 h2 hnc;rintro ⟨⟨⟨ids,es,fl,pot,p,bad⟩,aI,cI,fI,aE,cE,fE,aF,cF,fF,aP,cP,fP⟩,i⟩ j2 w ⟨⟨H,OI,OE,OF,OP,hs⟩,hQ,hpt,n0,n1,n2,n3⟩; dsimp only at H OI OE OF OP hs hQ hpt n0 n1 n2 n3; dsimp only;refine Aq (Ag (B5 (α:=Unit) 324508650138112443740956827582464 (fun _=>[(107,.bool ((decide ((i:Int)<(Cf l:Int)) && !(hdP l).cmp) && !bad))]) (fun _ w'=>Ctx w0 [] w' (kL (⟨br,b5,b2,a,c,l⟩:Kt) (hdP l) ⟨⟨ids,es,fl,pot,p,bad⟩,aI,cI,fI,aE,cE,fE,aF,cF,fF,aP,cP,fP⟩ (p,bad))) U ?_ ?_))
    ·refine Ae U U (Ae U U (AO U U U (Ak U U (A4 96 U ?_ ?_))))
     ·intro h3;replace h3:=AG h3;refine Ah U FZ U (AA U Fx U H at1 U (Bv U U (An U U (.bool _) U (Ak U U (A4 101 U ?_ ?_)))))
      ·intro h4;replace h4:=Bo h4;refine Ba U U (AZ U U (Ah U FI U (AA U Fx U H at0 U (Bv U U (An U U (.bool _) U (Ab ?_))))));exact ⟨rfl,(),rfl,⟨congrArg Value.bool (by (simp_all [Ie]; done)),trivial⟩,H⟩
      ·intro h5;replace h5:=Bp h5;refine Af U (Af U (Af U (Af U (Af U (A1 U U (.bool _) U (Ab ?_))))));exact ⟨rfl,(),rfl,⟨congrArg Value.bool (by (simp_all [Ie]; done)),trivial⟩,H⟩
     ·intro h6;replace h6:=AH h6;refine Af U (Af U (Af U (A1 U U (.bool _) U (Ak U U (Af U (Af U (Af U (Af U (Af U ?_)))))))));refine A1 U U (.bool _) U (Ab ?_);exact ⟨rfl,(),rfl,⟨congrArg Value.bool (by (simp_all [Ie]; intros; omega)),trivial⟩,H⟩
    rintro - j107 w H;refine Ay _ U ?_ ?_
    ·intro h3;rw [Bool.and_eq_true,Bool.and_eq_true,decide_eq_true_eq,Bool.not_eq_true',Bool.not_eq_true'] at h3;obtain ⟨⟨h4,hcm⟩,rfl⟩:=h3;refine Ax (Aa (Aq (Av (DC 85069293656019982158936519233859747840 (α:=Option Addr × Nat × List Value) (fun _=>[]) (fun z w'=>Ctx w0 [] w' (kL (⟨br,b5,b2,a,c,l⟩:Kt) (hdP l) ⟨⟨ids,es++[(⟨(Cf l:Int),(i:Int),s64 (nx l 8 (p,false)).1,0⟩:Ed),(⟨(i:Int),(Cf l:Int),4503599627370496,0⟩:Ed)],fl,pot,(nx l 8 (p,false)).2⟩,aI,cI,fI,z.1,z.2.1,z.2.2,aF,cF,fF,aP,cP,fP⟩ (nx l 8 (p,false)).2)∧OS z.1 (es++[(⟨(Cf l:Int),(i:Int),s64 (nx l 8 (p,false)).1,0⟩:Ed),(⟨(i:Int),(Cf l:Int),4503599627370496,0⟩:Ed)]).length z.2.1 4 z.2.2 ((es++[(⟨(Cf l:Int),(i:Int),s64 (nx l 8 (p,false)).1,0⟩:Ed),(⟨(i:Int),(Cf l:Int),4503599627370496,0⟩:Ed)]).flatMap Br)) U ?_ ?_))))
     ·skip
      have hSw:∀ x∈[br],x<w.heap.size:=Ctx.ltK H
      refine E6 (n:=13) (N:=17) (anc:=IU 13 [[],[0],[0,1],[],[],[],[5],[5,6],[3,4,5,6,7],[],[],[9,10],[3,4,5,6,7,8,9,10,11]]) [br] (fun i=>110+i) [isV (.pointer (some ⟨b5,4,none⟩)),isV (.pointer (some ⟨b5,5,none⟩)),isV (.slice aE es.length cE),isV (.int .i64 (Cf l:Int)),isV (.int .i64 (i:Int)),isV (ptr br),isV (.int .u64 ((nx l 8 (p,false)).1:Int)),isV (.int .i64 (s64 (nx l 8 (p,false)).1)),isV (.agg (Br (⟨(Cf l:Int),(i:Int),s64 (nx l 8 (p,false)).1,0⟩:Ed)).toArray),isV (.int .i64 (i:Int)),isV (.int .i64 (Cf l:Int)),isV (.agg (Br (⟨(i:Int),(Cf l:Int),4503599627370496,0⟩:Ed)).toArray),nsV w 92 2 (Br (⟨(Cf l:Int),(i:Int),s64 (nx l 8 (p,false)).1,0⟩:Ed)++Br (⟨(i:Int),(Cf l:Int),4503599627370496,0⟩:Ed))] [6] (fun k w'=>Ctx w0 [] w' (kL (⟨br,b5,b2,a,c,l⟩:Kt) (hdP l) ⟨⟨ids,es,fl,pot,p,false⟩,aI,cI,fI,aE,cE,fE,aF,cF,fF,aP,cP,fP⟩ ([(p,false),(nx l 8 (p,false)).2].getD k (p,false)))) (show Tryz.prog.follows .mixedOrders=true by kernel_rfl) U (by decide) (by kernel_rfl) (D8 _) (fun i j _ _ h=>by have h:110+i=110+j:=h; omega) ⟨Bj _ _,Bj _ _,Bj _ _,Bj _ _,Bj _ _,Bj _ _,Bj _ _,Bj _ _,Bj _ _,Bj _ _,Bj _ _,Bj _ _,Hj hSw _ _ _,trivial⟩ (by kernel_rfl) (fun k w w2 h hx=>h.call hx) H.drew (by kernel_rfl) ?_ ?_ ?_
      ·rintro m o e' w' hm hic ho hold hg hx ⟨k,HJ⟩;have hin:∀ t:Nat,t<110→∀ j,j<13→t≠(fun i=>110+i) j:=fun t ht j hj=>by dsimp only; omega
       have g4:e'.g 4=ptr br:=(hold 4 (hin 4 (by decide))).trans rfl;have g5:e'.g 5=ptr b5:=(hold 5 (hin 5 (by decide))).trans rfl;have g6:e'.g 6 = .int .i64 (Cf l:Int):=(hold 6 (hin 6 (by decide))).trans rfl;have g10:e'.g 10 = .int .i64 (i:Int):=(hold 10 (hin 10 (by decide))).trans rfl;have hcs:m=0∨m=1∨m=2∨m=3∨m=4∨m=5∨m=6∨m=7∨m=8∨m=9∨m=10∨m=11∨m=12:=by omega
       rcases hcs with rfl | rfl | rfl | rfl | rfl | rfl | rfl | rfl | rfl | rfl | rfl | rfl | rfl
       ·cases Option.some.inj ho;exact Ah (off:=4) U (by kernel_rfl) g5 (Ab ⟨_,.refl _ _,rfl,rfl⟩)
       ·cases Option.some.inj ho;exact Ah (off:=1) U (by kernel_rfl) (hg 0 (by decide)) (Ab ⟨_,.refl _ _,rfl,rfl⟩)
       ·cases Option.some.inj ho;exact AY U C5 (hg 1 (by decide)) (by rw [Au (HJ.get (k:=1) rfl)]; rfl) (Ab ⟨_,.refl _ _,rfl,rfl⟩)
       ·cases Option.some.inj ho;exact BP U _ g6 (Ab ⟨_,.refl _ _,rfl,rfl⟩)
       ·cases Option.some.inj ho;exact BP U _ g10 (Ab ⟨_,.refl _ _,rfl,rfl⟩)
       ·cases Option.some.inj ho;exact BP U _ g4 (Ab ⟨_,.refl _ _,rfl,rfl⟩)
       ·exact absurd (by decide) hic
       ·cases Option.some.inj ho;exact DR U (hg 6 (by decide)) Da GN (Ab ⟨_,.refl _ _,rfl,rfl⟩)
       ·cases Option.some.inj ho;refine Cp (Br (⟨(Cf l:Int),(i:Int),s64 (nx l 8 (p,false)).1,0⟩:Ed)) U JO Dn ?_ (Ab ⟨_,.refl _ _,rfl,rfl⟩);show Instr.fill _ _ [(0,e'.g 113),(1,e'.g 114),(2,e'.g 117)]=_;rw [show e'.g 113 = .int .i64 (Cf l:Int) from (hg 3 (by decide)),show e'.g 114 = .int .i64 (i:Int) from (hg 4 (by decide)),show e'.g 117 = .int .i64 (s64 (nx l 8 (p,false)).1) from (hg 7 (by decide))];kernel_rfl
       ·cases Option.some.inj ho;exact BP U _ g10 (Ab ⟨_,.refl _ _,rfl,rfl⟩)
       ·cases Option.some.inj ho;exact BP U _ g6 (Ab ⟨_,.refl _ _,rfl,rfl⟩)
       ·cases Option.some.inj ho;refine Cp (Br (⟨(i:Int),(Cf l:Int),4503599627370496,0⟩:Ed)) U JO Dn ?_ (Ab ⟨_,.refl _ _,rfl,rfl⟩);show Instr.fill _ _ [(0,e'.g 119),(1,e'.g 120),(2,_)]=_;rw [show e'.g 119 = .int .i64 (i:Int) from hg 9 (by decide),show e'.g 120 = .int .i64 (Cf l:Int) from hg 10 (by decide)];kernel_rfl
       ·cases Option.some.inj ho;refine CJ (Br (⟨(Cf l:Int),(i:Int),s64 (nx l 8 (p,false)).1,0⟩:Ed)++Br (⟨(i:Int),(Cf l:Int),4503599627370496,0⟩:Ed)) U BO B3 Dn (by decide) (by decide) ?_ (Ctx.start w' []) ?_
        ·show Instr.fill _ _ [(0,e'.g 118),(1,e'.g 121)]=_;rw [show e'.g 118 = .agg (Br (⟨(Cf l:Int),(i:Int),s64 (nx l 8 (p,false)).1,0⟩:Ed)).toArray from hg 8 (by decide),show e'.g 121 = .agg (Br (⟨(i:Int),(Cf l:Int),4503599627370496,0⟩:Ed)).toArray from hg 11 (by decide)];kernel_rfl
        ·intro b w2 _ H;exact Ab ⟨_,H.ext,rfl,b,rfl,H.get at0,Nat.le_trans hx.size ((H.own _ (List.mem_cons_self ..)).elim (fun h=>by cases h) id)⟩
      ·intro k im o e' w' hk ho hold hg hx HJ;have hin:∀ t:Nat,t<110→∀ j,j<13→t≠(fun i=>110+i) j:=fun t ht j hj=>by dsimp only; omega
       have g4:e'.g 4=ptr br:=(hold 4 (hin 4 (by decide))).trans rfl;have g5:e'.g 5=ptr b5:=(hold 5 (hin 5 (by decide))).trans rfl;have g6:e'.g 6 = .int .i64 (Cf l:Int):=(hold 6 (hin 6 (by decide))).trans rfl;have g10:e'.g 10 = .int .i64 (i:Int):=(hold 10 (hin 10 (by decide))).trans rfl
       rcases k with _ | k
       ·cases hk;cases Option.some.inj ho;refine Al U Gz (DK (k:=8) X HJ hs (.inr (.inr (.inr U)))) ?_ ?_
        ·show [e'.g 115,_]=_;rw [show e'.g 115=ptr br from hg 5 (by decide)];rfl
        ·rintro v w2 ⟨rfl,h2,h3⟩;exact Ab ⟨_,h3,rfl,rfl,h2⟩
       ·simp at hk
      ·intro e' w' hds hold hg hx HJ;have hin:∀ t:Nat,t<110→∀ j,j<13→t≠(fun i=>110+i) j:=fun t ht j hj=>by dsimp only; omega
       obtain ⟨b12',h12',hb12',hn12'⟩:=hg 12 (by decide);refine Dt U BO BO B3 QK Dn U (by decide) (Br (⟨(Cf l:Int),(i:Int),s64 (nx l 8 (p,false)).1,0⟩:Ed)++Br (⟨(i:Int),(Cf l:Int),4503599627370496,0⟩:Ed)) (hg 2 (by decide)) h12' (Ctx.perm HJ (Qh _ _ _ _ _)) OE U (ZW _ _) (fun j v hv=>⟨_,rfl,by rw [Co,Nat.zero_add,Au hb12']; exact hv⟩) (by omega) fun a' c' full' w3 H6 O6=>?_;replace H6:=H6.perm (Qh _ _ _ _ _).symm;rw [show es.length+2=(es++[(⟨(Cf l:Int),(i:Int),s64 (nx l 8 (p,false)).1,0⟩:Ed),(⟨(i:Int),(Cf l:Int),4503599627370496,0⟩:Ed)]).length from by simp] at O6 ⊢;refine Ah (off:=4) U (by kernel_rfl) ((hold 5 (hin 5 (by decide))).trans U) ?_;refine Ah (off:=1) U (by kernel_rfl) (CH _ _ _) ?_;refine BX (.slice a' (es++[(⟨(Cf l:Int),(i:Int),s64 (nx l 8 (p,false)).1,0⟩:Ed),(⟨(i:Int),(Cf l:Int),4503599627370496,0⟩:Ed)]).length c') U TX (CH _ _ _) U U H6 at1 (by simp) fun w4 H8=>Ab ?_
       exact ⟨(a',c',full'),hds,trivial,H8,by rw [List.flatMap_append,Y5]; exact O6⟩
     ·rintro ⟨aE,cE,fE⟩ j20 w ⟨H,OE⟩; dsimp only at H OE; (try dsimp only);obtain ⟨s1,hs1'⟩:∃ x,x=(nx l 8 (p,false)).2:=⟨_,rfl⟩;rw [← hs1'] at H;have k1:s1.1≤l.length:=by rw [hs1']; exact EF hs
      have k2:(nx l 8 s1).2.1≤l.length:=EF k1;refine Ag (Ba U U (Al U Gz (DK (k:=8) X H k1 (.inr (.inr (.inr U)))) U ?_));rintro v w ⟨rfl,H127,-⟩;replace H:Ctx w0 [] w (kL (⟨br,b5,b2,a,c,l⟩:Kt) (hdP l) ⟨⟨ids,es++[(⟨(Cf l:Int),(i:Int),s64 (nx l 8 (p,false)).1,0⟩:Ed),(⟨(i:Int),(Cf l:Int),4503599627370496,0⟩:Ed)],fl,pot,s1⟩,aI,cI,fI,aE,cE,fE,aF,cF,fF,aP,cP,fP⟩ (nx l 8 s1).2):=H127;refine DR U U Da GN ?_
      refine Ad U U (Ab (Aa (J2 1393116010174322069419055642825659057700864 (α:=Option Addr × Nat × List Value) (fun _=>[]) (fun z w'=>Ctx w0 [] w' (kL (⟨br,b5,b2,a,c,l⟩:Kt) (hdP l) ⟨⟨ids,es++[(⟨(Cf l:Int),(i:Int),s64 (nx l 8 (p,false)).1,0⟩:Ed),(⟨(i:Int),(Cf l:Int),4503599627370496,0⟩:Ed)],fl++[s64 (nx l 8 s1).1,s64 (nx l 8 (nx l 8 s1).2).1],pot,(nx l 8 (nx l 8 s1).2).2⟩,aI,cI,fI,aE,cE,fE,z.1,z.2.1,z.2.2,aP,cP,fP⟩ (nx l 8 (nx l 8 s1).2).2)∧OS z.1 (fl++[s64 (nx l 8 s1).1,s64 (nx l 8 (nx l 8 s1).2).1]).length z.2.1 1 z.2.2 ((fl++[s64 (nx l 8 s1).1,s64 (nx l 8 (nx l 8 s1).2).1]).flatMap I1)) U ?_ ?_)))
      ·skip
       have hSw:∀ x∈[br],x<w.heap.size:=Ctx.ltK H
       refine E6 (n:=8) (N:=12) (anc:=IU 8 [[],[0],[0,1],[],[],[4],[4,5],[3,4,5,6]]) [br] (fun i=>129+i) [isV (.pointer (some ⟨b5,6,none⟩)),isV (.pointer (some ⟨b5,6,none⟩)),isV (.slice aF fl.length cF),isV (.int .i64 (s64 (nx l 8 s1).1)),isV (ptr br),isV (.int .u64 ((nx l 8 (nx l 8 s1).2).1:Int)),isV (.int .i64 (s64 (nx l 8 (nx l 8 s1).2).1)),nsV w 2 2 [.int .i64 (s64 (nx l 8 s1).1),.int .i64 (s64 (nx l 8 (nx l 8 s1).2).1)]] [5] (fun k w'=>Ctx w0 [] w' (kL (⟨br,b5,b2,a,c,l⟩:Kt) (hdP l) ⟨⟨ids,es++[(⟨(Cf l:Int),(i:Int),s64 (nx l 8 (p,false)).1,0⟩:Ed),(⟨(i:Int),(Cf l:Int),4503599627370496,0⟩:Ed)],fl,pot,(nx l 8 s1).2⟩,aI,cI,fI,aE,cE,fE,aF,cF,fF,aP,cP,fP⟩ ([(nx l 8 s1).2,(nx l 8 (nx l 8 s1).2).2].getD k (nx l 8 s1).2))) (show Tryz.prog.follows .mixedOrders=true by kernel_rfl) U (by decide) (by kernel_rfl) (D8 _) (fun i j _ _ h=>by have h:129+i=129+j:=h; omega) ⟨Bj _ _,Bj _ _,Bj _ _,Bj _ _,Bj _ _,Bj _ _,Bj _ _,Hj hSw _ _ _,trivial⟩ (by kernel_rfl) (fun k w w2 h hx=>h.call hx) H.drew (by kernel_rfl) ?_ ?_ ?_
       ·rintro m o e' w' hm hic ho hold hg hx ⟨k,HJ⟩;have hin:∀ t:Nat,t<129→∀ j,j<8→t≠(fun i=>129+i) j:=fun t ht j hj=>by dsimp only; omega
        have g4:e'.g 4=ptr br:=(hold 4 (hin 4 (by decide))).trans rfl;have g5:e'.g 5=ptr b5:=(hold 5 (hin 5 (by decide))).trans rfl;have g11:e'.g 11 = .int .i64 (s64 (nx l 8 s1).1):=(hold 11 (hin 11 (by decide))).trans rfl;have hcs:m=0∨m=1∨m=2∨m=3∨m=4∨m=5∨m=6∨m=7:=by omega
        rcases hcs with rfl | rfl | rfl | rfl | rfl | rfl | rfl | rfl
        ·cases Option.some.inj ho;exact Ah (off:=6) U (by kernel_rfl) g5 (Ab ⟨_,.refl _ _,rfl,rfl⟩)
        ·cases Option.some.inj ho;exact Ah (off:=0) U (by kernel_rfl) (hg 0 (by decide)) (Ab ⟨_,.refl _ _,rfl,rfl⟩)
        ·cases Option.some.inj ho;exact AY U BC (hg 1 (by decide)) (by rw [Au (HJ.get (k:=1) rfl)]; rfl) (Ab ⟨_,.refl _ _,rfl,rfl⟩)
        ·cases Option.some.inj ho;exact BP U _ g11 (Ab ⟨_,.refl _ _,rfl,rfl⟩)
        ·cases Option.some.inj ho;exact BP U _ g4 (Ab ⟨_,.refl _ _,rfl,rfl⟩)
        ·exact absurd (by decide) hic
        ·cases Option.some.inj ho;exact DR U (hg 5 (by decide)) Da GN (Ab ⟨_,.refl _ _,rfl,rfl⟩)
        ·cases Option.some.inj ho;refine CJ [.int .i64 (s64 (nx l 8 s1).1),.int .i64 (s64 (nx l 8 (nx l 8 s1).2).1)] U AU Bz FJ (by decide) (by decide) ?_ (Ctx.start w' []) ?_
         ·show Instr.fill _ _ [(0,e'.g 132),(1,e'.g 135)]=_;rw [show e'.g 132 = .int .i64 (s64 (nx l 8 s1).1) from (hg 3 (by decide)),show e'.g 135 = .int .i64 (s64 (nx l 8 (nx l 8 s1).2).1) from (hg 6 (by decide))];kernel_rfl
         ·intro b w2 _ H;exact Ab ⟨_,H.ext,rfl,b,rfl,H.get at0,Nat.le_trans hx.size ((H.own _ (List.mem_cons_self ..)).elim (fun h=>by cases h) id)⟩
       ·intro k im o e' w' hk ho hold hg hx HJ;have hin:∀ t:Nat,t<129→∀ j,j<8→t≠(fun i=>129+i) j:=fun t ht j hj=>by dsimp only; omega
        have g4:e'.g 4=ptr br:=(hold 4 (hin 4 (by decide))).trans rfl;have g5:e'.g 5=ptr b5:=(hold 5 (hin 5 (by decide))).trans rfl;have g11:e'.g 11 = .int .i64 (s64 (nx l 8 s1).1):=(hold 11 (hin 11 (by decide))).trans rfl
        rcases k with _ | k
        ·cases hk;cases Option.some.inj ho;refine Al U Gz (DK (k:=8) X HJ k2 (.inr (.inr (.inr U)))) ?_ ?_
         ·show [e'.g 133,_]=_;rw [show e'.g 133=ptr br from hg 4 (by decide)];rfl
         ·rintro v w2 ⟨rfl,h2,h3⟩;exact Ab ⟨_,h3,rfl,rfl,h2⟩
        ·simp at hk
       ·intro e' w' hds hold hg hx HJ;have hin:∀ t:Nat,t<129→∀ j,j<8→t≠(fun i=>129+i) j:=fun t ht j hj=>by dsimp only; omega
        obtain ⟨b7',h7',hb7',hn7'⟩:=hg 7 (by decide);refine Dt U AU AU Bz Kz FJ U (by decide) [.int .i64 (s64 (nx l 8 s1).1),.int .i64 (s64 (nx l 8 (nx l 8 s1).2).1)] (hg 2 (by decide)) h7' (Ctx.perm HJ (Lr _ _ _ _ _ _)) OF U (by simp [B4]) (fun j v hv=>⟨_,rfl,by rw [Co,Nat.zero_add,Au hb7']; exact hv⟩) (by omega) fun a' c' full' w3 H6 O6=>?_;replace H6:=H6.perm (Lr _ _ _ _ _ _).symm;rw [show fl.length+2=(fl++[s64 (nx l 8 s1).1,s64 (nx l 8 (nx l 8 s1).2).1]).length from by simp] at O6 ⊢;refine Ah (off:=6) U (by kernel_rfl) ((hold 5 (hin 5 (by decide))).trans U) ?_;refine Ah (off:=0) U (by kernel_rfl) (CH _ _ _) ?_;refine BX (.slice a' (fl++[s64 (nx l 8 s1).1,s64 (nx l 8 (nx l 8 s1).2).1]).length c') U Ot (CH _ _ _) U U H6 at1 (by simp) fun w4 H8=>Ab ?_;exact ⟨rfl,(a',c',full'),hds,trivial,H8,by rw [List.flatMap_append]; exact O6⟩
      ·rintro ⟨aF,cF,fF⟩ j22 w ⟨H,OF⟩; dsimp only at H OF; (try dsimp only);refine A3 (Aa (Aw (Ae U U (Ao U U U (by omega) (by omega) ?_))));refine Ad U U (Ab (Aa ?_))
       have hQ':(if (hdP l).cmp=true then (⟨ids,es++[(⟨(Cf l:Int),(i:Int),s64 (nx l 8 (p,false)).1,0⟩:Ed),(⟨(i:Int),(Cf l:Int),4503599627370496,0⟩:Ed)],fl++[s64 (nx l 8 s1).1,s64 (nx l 8 (nx l 8 s1).2).1],pot,(nx l 8 (nx l 8 s1).2).2⟩:PRd) else Gy l (Cf l) (Cf l - (i+1)) (i+1) ⟨ids,es++[(⟨(Cf l:Int),(i:Int),s64 (nx l 8 (p,false)).1,0⟩:Ed),(⟨(i:Int),(Cf l:Int),4503599627370496,0⟩:Ed)],fl++[s64 (nx l 8 s1).1,s64 (nx l 8 (nx l 8 s1).2).1],pot,(nx l 8 (nx l 8 s1).2).2⟩)=P2:=by
        rw [← hQ,if_neg (by rw [hcm]; decide),if_neg (by rw [hcm]; decide),show Cf l - i=(Cf l - (i+1))+1 from by omega];show _=Gy l (Cf l) (Cf l - (i+1)) (i+1) (U8 l (Cf l) i ⟨ids,es,fl,pot,p,false⟩);unfold U8 KS atP;dsimp only;rw [← hs1',List.append_assoc,List.append_assoc];rfl
       refine ⟨(⟨⟨ids,es++[(⟨(Cf l:Int),(i:Int),s64 (nx l 8 (p,false)).1,0⟩:Ed),(⟨(i:Int),(Cf l:Int),4503599627370496,0⟩:Ed)],fl++[s64 (nx l 8 s1).1,s64 (nx l 8 (nx l 8 s1).2).1],pot,(nx l 8 (nx l 8 s1).2).2⟩,aI,cI,fI,aE,cE,fE,aF,cF,fF,aP,cP,fP⟩,i+1),rfl,⟨rfl,trivial⟩,⟨⟨H,OI,OE,OF,OP,EF k2⟩,hQ',hpt,by dsimp only; omega,n1,?_,?_⟩,by dsimp only; omega⟩ <;> dsimp only <;> simp only [List.length_append,List.length_cons,List.length_nil] <;> omega
    ·intro h3
     have hQd:(⟨ids,es,fl,pot,p,bad⟩:PRd)=P2:=by
      rw [← hQ]
      by_cases hcm:(hdP l).cmp=true
      ·rw [if_pos hcm]
      ·rw [if_neg hcm]
       cases hn:Cf l - i with
       | zero=>rfl
       | succ n =>
        cases bad with
        | true=>rfl
        | false =>
         exfalso;have h5:i<Cf l:=by omega
         simp [hcm] at h3;omega
     refine Bc (Aj (Aj (AD (Aa (Aq (Ag (Ad U U (Ab (Aa (Av ?_))))))))));obtain ⟨P3,hP3⟩:∃ P,P=JU l (Cf l+1) P2:=⟨_,rfl⟩;refine Bd 5846005155527036764650792984882740038101136052224 (α:=Gs × Nat) (fun z=>[(12,.int .i64 (z.2:Int))]) (fun z w'=>KOk (⟨br,b5,b2,a,c,l⟩:Kt) (hdP l) w0 w' z.1∧JU l (Cf l+1 - z.2) z.1.p=P3∧z.1.p.pot.length≤z.2∧z.2≤Cf l+1∧z.1.p.ids.length≤256∧z.1.p.es.length≤1000∧z.1.p.fl.length≤1000) (fun z=>Cf l+1 - z.2) (⟨⟨ids,es,fl,pot,p,bad⟩,aI,cI,fI,aE,cE,fE,aF,cF,fF,aP,cP,fP⟩,0) U ?_ ?_ ?_
     ·exact ⟨rfl,trivial⟩
     ·refine ⟨⟨H,OI,OE,OF,OP,hs⟩,?_,?_,Nat.zero_le _,n1,?_,?_⟩
      ·dsimp only;rw [hQd,hP3];rfl
      ·dsimp only; omega
      ·dsimp only; omega
      ·dsimp only; omega
     ·clear H OI OE OF OP hs hQd hQ hpt n1 n2 n3 n0 h3;rintro ⟨⟨⟨ids,es,fl,pot,p,bad⟩,aI,cI,fI,aE,cE,fE,aF,cF,fF,aP,cP,fP⟩,i⟩ j3 w ⟨⟨H,OI,OE,OF,OP,hs⟩,hQ,hpt,n0,n1,n2,n3⟩; dsimp only at H OI OE OF OP hs hQ hpt n0 n1 n2 n3; dsimp only;refine Aq (Ag (B5 (α:=Unit) 1425853896131051717111939987057454613788622848 (fun _=>[(149,.bool (decide ((i:Int)≤(Cf l:Int)) && !bad))]) (fun _ w'=>Ctx w0 [] w' (kL (⟨br,b5,b2,a,c,l⟩:Kt) (hdP l) ⟨⟨ids,es,fl,pot,p,bad⟩,aI,cI,fI,aE,cE,fE,aF,cF,fF,aP,cP,fP⟩ (p,bad))) U ?_ ?_))
      ·refine Ae U U (Ae U U (IL U U U (Ak U U (A4 143 U ?_ ?_))))
       ·intro h7;replace h7:=AG h7;refine Ba U U (AZ U U (Ah U FI U (AA U Fx U H at0 U (Bv U U (An U U (.bool _) U (Ab ?_))))));exact ⟨rfl,(),rfl,⟨congrArg Value.bool (by (simp_all; done)),trivial⟩,H⟩
       ·intro h8;replace h8:=AH h8;refine Af U (Af U (Af U (Af U (Af U (A1 U U (.bool _) U (Ab ?_))))));exact ⟨rfl,(),rfl,⟨congrArg Value.bool (by (simp_all; intros; omega)),trivial⟩,H⟩
      rintro - j149 w H;refine Ay _ U ?_ ?_
      ·intro h3;rw [Bool.and_eq_true,decide_eq_true_eq,Bool.not_eq_true'] at h3;obtain ⟨h4,rfl⟩:=h3;refine Ax (Aa (Aq (Av (J2 5840297558552787833290506186987334098078199185408 (α:=Option Addr × Nat × List Value) (fun _=>[]) (fun z w'=>Ctx w0 [] w' (kL (⟨br,b5,b2,a,c,l⟩:Kt) (hdP l) ⟨⟨ids,es,fl,pot++[s64 (nx l 8 (p,false)).1],(nx l 8 (p,false)).2⟩,aI,cI,fI,aE,cE,fE,aF,cF,fF,z.1,z.2.1,z.2.2⟩ (nx l 8 (p,false)).2)∧OS z.1 (pot++[s64 (nx l 8 (p,false)).1]).length z.2.1 1 z.2.2 ((pot++[s64 (nx l 8 (p,false)).1]).flatMap I1)) U ?_ ?_))))
       ·skip
        have hSw:∀ x∈[br],x<w.heap.size:=Ctx.ltK H;refine E6 (n:=7) (N:=11) (anc:=IU 7 [[],[0],[0,1],[],[3],[3,4],[3,4,5]]) [br] (fun i=>152+i) [isV (.pointer (some ⟨b5,6,none⟩)),isV (.pointer (some ⟨b5,7,none⟩)),isV (.slice aP pot.length cP),isV (ptr br),isV (.int .u64 ((nx l 8 (p,false)).1:Int)),isV (.int .i64 (s64 (nx l 8 (p,false)).1)),nsV w 2 1 [.int .i64 (s64 (nx l 8 (p,false)).1)]] [4] (fun k w'=>Ctx w0 [] w' (kL (⟨br,b5,b2,a,c,l⟩:Kt) (hdP l) ⟨⟨ids,es,fl,pot,p,false⟩,aI,cI,fI,aE,cE,fE,aF,cF,fF,aP,cP,fP⟩ ([(p,false),(nx l 8 (p,false)).2].getD k (p,false)))) (show Tryz.prog.follows .mixedOrders=true by kernel_rfl) U (by decide) (by kernel_rfl) (D8 _) (fun i j _ _ h=>by have h:152+i=152+j:=h; omega) ⟨Bj _ _,Bj _ _,Bj _ _,Bj _ _,Bj _ _,Bj _ _,Hj hSw _ _ _,trivial⟩ (by kernel_rfl) (fun k w w2 h hx=>h.call hx) H.drew (by kernel_rfl) ?_ ?_ ?_
        ·rintro m o e' w' hm hic ho hold hg hx ⟨k,HJ⟩;have hin:∀ t:Nat,t<152→∀ j,j<7→t≠(fun i=>152+i) j:=fun t ht j hj=>by dsimp only; omega
         have g4:e'.g 4=ptr br:=(hold 4 (hin 4 (by decide))).trans rfl;have g5:e'.g 5=ptr b5:=(hold 5 (hin 5 (by decide))).trans rfl;have hcs:m=0∨m=1∨m=2∨m=3∨m=4∨m=5∨m=6:=by omega
         rcases hcs with rfl | rfl | rfl | rfl | rfl | rfl | rfl
         ·cases Option.some.inj ho;exact Ah (off:=6) U (by kernel_rfl) g5 (Ab ⟨_,.refl _ _,rfl,rfl⟩)
         ·cases Option.some.inj ho;exact Ah (off:=1) U (by kernel_rfl) (hg 0 (by decide)) (Ab ⟨_,.refl _ _,rfl,rfl⟩)
         ·cases Option.some.inj ho;exact AY U BC (hg 1 (by decide)) (by rw [Au (HJ.get (k:=1) rfl)]; rfl) (Ab ⟨_,.refl _ _,rfl,rfl⟩)
         ·cases Option.some.inj ho;exact BP U _ g4 (Ab ⟨_,.refl _ _,rfl,rfl⟩)
         ·exact absurd (by decide) hic
         ·cases Option.some.inj ho;exact DR U (hg 4 (by decide)) Da GN (Ab ⟨_,.refl _ _,rfl,rfl⟩)
         ·cases Option.some.inj ho;refine CJ [.int .i64 (s64 (nx l 8 (p,false)).1)] U AU Bz FJ (by decide) (by decide) ?_ (Ctx.start w' []) ?_
          ·show Instr.fill _ _ [(0,e'.g 157)]=_;rw [show e'.g 157 = .int .i64 (s64 (nx l 8 (p,false)).1) from (hg 5 (by decide))];kernel_rfl
          ·intro b w2 _ H;exact Ab ⟨_,H.ext,rfl,b,rfl,H.get at0,Nat.le_trans hx.size ((H.own _ (List.mem_cons_self ..)).elim (fun h=>by cases h) id)⟩
        ·intro k im o e' w' hk ho hold hg hx HJ;have hin:∀ t:Nat,t<152→∀ j,j<7→t≠(fun i=>152+i) j:=fun t ht j hj=>by dsimp only; omega
         have g4:e'.g 4=ptr br:=(hold 4 (hin 4 (by decide))).trans rfl;have g5:e'.g 5=ptr b5:=(hold 5 (hin 5 (by decide))).trans rfl
         rcases k with _ | k
         ·cases hk;cases Option.some.inj ho;refine Al U Gz (DK (k:=8) X HJ hs (.inr (.inr (.inr U)))) ?_ ?_
          ·show [e'.g 155,_]=_;rw [show e'.g 155=ptr br from hg 3 (by decide)];rfl
          ·rintro v w2 ⟨rfl,h2,h3⟩;exact Ab ⟨_,h3,rfl,rfl,h2⟩
         ·simp at hk
        ·intro e' w' hds hold hg hx HJ;have hin:∀ t:Nat,t<152→∀ j,j<7→t≠(fun i=>152+i) j:=fun t ht j hj=>by dsimp only; omega
         obtain ⟨b5',h5',hb5',hn5'⟩:=hg 6 (by decide);refine Dt U AU AU Bz Kz FJ U (by decide) [.int .i64 (s64 (nx l 8 (p,false)).1)] (hg 2 (by decide)) h5' (Ctx.perm HJ (Qi _ _ _ _ _ _)) OP U (by simp [B4]) (fun j v hv=>⟨_,rfl,by rw [Co,Nat.zero_add,Au hb5']; exact hv⟩) (by omega) fun a' c' full' w3 H6 O6=>?_;replace H6:=H6.perm (Qi _ _ _ _ _ _).symm;rw [show pot.length+1=(pot++[s64 (nx l 8 (p,false)).1]).length from by simp] at O6 ⊢;refine Ah (off:=6) U (by kernel_rfl) ((hold 5 (hin 5 (by decide))).trans U) ?_;refine Ah (off:=1) U (by kernel_rfl) (CH _ _ _) ?_;refine BX (.slice a' (pot++[s64 (nx l 8 (p,false)).1]).length c') U Ot (CH _ _ _) U U H6 at1 (by simp) fun w4 H8=>Ab ?_;exact ⟨rfl,(a',c',full'),hds,trivial,H8,by rw [List.flatMap_append,List.flatMap_singleton]; exact O6⟩
       ·rintro ⟨aP,cP,fP⟩ j26 w ⟨H,OP⟩; dsimp only at H OP; (try dsimp only);refine A3 (Aa (Aw (Ae U U (Ao U U U (by omega) (by omega) ?_))));refine Ad U U (Ab (Aa ?_))
        have hQ':JU l (Cf l+1 - (i+1)) ⟨ids,es,fl,pot++[s64 (nx l 8 (p,false)).1],(nx l 8 (p,false)).2⟩=P3:=by
         rw [← hQ,show Cf l+1 - i=(Cf l+1 - (i+1))+1 from by omega];rfl
        refine ⟨(⟨⟨ids,es,fl,pot++[s64 (nx l 8 (p,false)).1],(nx l 8 (p,false)).2⟩,aI,cI,fI,aE,cE,fE,aF,cF,fF,aP,cP,fP⟩,i+1),rfl,⟨rfl,trivial⟩,⟨⟨H,OI,OE,OF,OP,EF hs⟩,hQ',?_,?_,n1,n2,n3⟩,by dsimp only; omega⟩
        ·dsimp only; rw [List.length_append,List.length_singleton]; omega
        ·dsimp only; omega
      ·intro h3
       have hL:(⟨ids,es,fl,pot,p,bad⟩:PRd)=Jp l:=by
        have h5:Jp l=P3:=by
         rw [hP3,hP2,hP1];rfl
        rw [h5,← hQ]
        cases hn:Cf l+1 - i with
        | zero=>rfl
        | succ n =>
         cases bad with
         | true=>rfl
         | false =>
          exfalso;simp at h3;omega
       have hr0:G4 (hdP l) ⟨ids,es,fl,pot,p,bad⟩=LJ l:=by unfold LJ; rw [hL]
       have hbad:(Jp l).s.2=bad:=by rw [← hL]
       have hids:∀ x∈ids,0≤x∧x<18446744073709551616:=by
        have h5:=Sa l;rw [← hL] at h5;exact h5
       have hRA:∀ {w:World},(∀ x∈gE ⟨⟨ids,es,fl,pot,p,bad⟩,aI,cI,fI,aE,cE,fE,aF,cF,fF,aP,cP,fP⟩,w.heap[x.1]? = some x.2)→RAt w (G4 (hdP l) ⟨ids,es,fl,pot,p,bad⟩) ⟨aI,cI,aE,cE,aF,cF,aP,cP⟩:=fun {w} m=>by
        exact ⟨OS.rd OI (fun x hx=>m x (List.mem_append_left _ hx)) (by simp) (by decide),OS.rd OE (fun x hx=>m x (List.mem_append_right _ (List.mem_append_left _ hx))) (fun _ _=>rfl) (by decide),OS.rd OF (fun x hx=>m x (List.mem_append_right _ (List.mem_append_right _ (List.mem_append_left _ hx)))) (by simp) (by decide),OS.rd OP (fun x hx=>m x (List.mem_append_right _ (List.mem_append_right _ (List.mem_append_right _ hx)))) (by simp) (by decide),OF.le⟩
       have hpl:pot.length≤1000:=by omega
       have hno:=Yv l (k:=8) (by decide) (hs1 l);refine Bc (Aj (Aj (AD (Aa (Aq (Ag (Ba U U (AZ U U (Ah U FI U (AA U Fx U H at0 U (Ab (Aa (Ay _ U ?_ ?_)))))))))))))
       ·intro h4;subst h4;have hgf:Hz l=false:=by unfold Hz; rw [hbad]; rfl
        refine Ag (Cp (A8 EY E0) U L4 Gk (by kernel_rfl) ?_);refine BL U BW U U U (by exact (by simp [B4]; done)) H at2 U ?_;rintro w H;refine Ad U U (Ab (Aa (A9 (Am (Hi U U U Cq BW H at2 U (show _=(.int _ _) from rfl) ?_)))));exact ⟨fun h=>(by rw [hgf] at h; cases h),fun _=>rfl,H.ext⟩
       ·intro h4;subst h4;refine Ax (Aa (Ag (Cd (A8 (G4 (hdP l) ⟨ids,es,fl,pot,p,false⟩) ⟨aI,cI,aE,cE,aF,cF,aP,cP⟩) U Cq BW U U (BU (l:=A8 (G4 (hdP l) ⟨ids,es,fl,pot,p,false⟩) ⟨aI,cI,aE,cE,aF,cF,aP,cP⟩) (H.get (k:=1) U) 0 (A8 (G4 (hdP l) ⟨ids,es,fl,pot,p,false⟩) ⟨aI,cI,aE,cE,aF,cF,aP,cP⟩) U) ?_)));refine Al U Aap (U7 (G4 (hdP l) ⟨ids,es,fl,pot,p,false⟩) ⟨aI,cI,aE,cE,aF,cF,aP,cP⟩ _ (hRA fun x hx=>H.blk x (List.mem_append_right _ (List.mem_append_right _ hx))) OE.le ⟨⟨by show _≤(Cf l:Int)+1; omega,by show (Cf l:Int)+1≤_; omega⟩,by show es.length≤_; omega,by show ids.length≤_; omega,by show fl.length≤_; omega,by show pot.length≤_; omega⟩ ⟨⟨by show (0:Int)≤((nx l 8 (hs1 l)).1:Int); omega,by show ((nx l 8 (hs1 l)).1:Int)<_; omega⟩,hids,Y1 _⟩) U ?_;rintro v w2 ⟨hT,hF⟩;obtain ⟨a9,c9,bs,e9,rfl,R9,hx9,hT9,hF9⟩:=Pg hT hF;replace H:=H.call hx9
        refine BK U U (A6 (v := .slice a9 bs.length c9) U U U (A6 (v := .int .i64 e9) U U U (A5 U U (Ad U U (Ab (Aa (Aq (Ag (B5 (α:=Unit) 3059004771025270338363731761225812471988967544671174656 (fun _=>[(180,.bool (!(decide (e9=0) && decide (bs=l))))]) (fun _ w'=>Ctx w0 [] w' (kL (⟨br,b5,b2,a,c,l⟩:Kt) (hdP l) ⟨⟨ids,es,fl,pot,p,false⟩,aI,cI,fI,aE,cE,fE,aF,cF,fF,aP,cP,fP⟩ (p,false))) U ?_ ?_)))))))))
        ·refine Ae U U (CC U U U (Ak U U (A4 174 U ?_ ?_)))
         ·intro h9;replace h9:=CK h9;refine Af U (Af U (Af U (Af U (Af U (An U U (.bool _) U (Ab ?_))))));exact ⟨rfl,(),rfl,⟨congrArg Value.bool (by (simp_all; done)),trivial⟩,H⟩
         ·intro h10;replace h10:=CL h10;refine Ap U U (LR (l:=bs) U C6 Gj SP U R9 ?_);refine Ap U U (LR (l:=l) U C6 Gj SP U (R.ext0 H.ext) ?_);refine Wg (l:=bs) (m:=l) U U U ?_;refine A1 U U (.bool _) U (Ab ?_);exact ⟨rfl,(),rfl,⟨congrArg Value.bool (by (simp_all; done)),trivial⟩,H⟩
        rintro - j180 w H
        have hgetB:Hz l=(decide (e9=0) && decide (bs=l)):=by
         unfold Hz;rw [hbad,← hr0]
         cases hw:Bw (G4 (hdP l) ⟨ids,es,fl,pot,p,false⟩) with
         | true =>
          obtain ⟨rfl,rfl⟩:=hT9 hw;simp
         | false =>
          obtain rfl:=hF9 hw;simp
        refine Ay _ U ?_ ?_
        ·intro h4;replace h4:=Bo h4;have hgf:Hz l=false:=by rw [hgetB]; simpa using h4
         refine Ag (Cp (A8 EY E0) U L4 Gk (by kernel_rfl) ?_);refine BL U BW U U U (by exact (by simp [B4]; done)) H at2 U ?_;rintro w H;refine Ad U U (Ab (Aa (A9 (Am (Hi U U U Cq BW H at2 U (show _=(.int _ _) from rfl) ?_)))));exact ⟨fun h=>(by rw [hgf] at h; cases h),fun _=>rfl,H.ext⟩
        ·intro h4;replace h4:=Bp h4;have hgt:Hz l=true:=by rw [hgetB]; simpa using h4
         refine Ax (Aa (Ag (Bh U Cq BW U H at1 U (BL U BW U U U (by exact (by simp [B4]; done)) H at2 U ?_))));rintro w H;refine Ad U U (Ab (Aa (A9 (Hi U U U Cq BW H at2 U (show _=(.int _ _) from rfl) ?_))));have HE:Ctx w0 [] _ (gE ⟨⟨ids,es,fl,pot,p,false⟩,aI,cI,fI,aE,cE,fE,aF,cF,fF,aP,cP,fP⟩):=H.drop 3;refine ⟨fun _=>⟨⟨aI,cI,aE,cE,aF,cF,aP,cP⟩,by rw [← hr0],by rw [← hr0]; exact hRA fun x hx=>HE.blk x hx,by rw [← hr0]; exact OE.le,?_⟩,fun h=>(by rw [hgt] at h; cases h),H.ext⟩;intro x hx q hq;simp only [List.mem_cons,List.not_mem_nil,or_false] at hx
         rcases hx with rfl | rfl | rfl | rfl <;> subst hq
         ·exact (HE.own (q.block,Bl 24 fI) (List.mem_append_left _ (List.mem_singleton.2 U))).elim (fun h=>by cases h) id
         ·exact (HE.own (q.block,Bl 92 fE) (List.mem_append_right _ (List.mem_append_left _ (List.mem_singleton.2 U)))).elim (fun h=>by cases h) id
         ·exact (HE.own (q.block,Bl 2 fF) (List.mem_append_right _ (List.mem_append_right _ (List.mem_append_left _ (List.mem_singleton.2 U))))).elim (fun h=>by cases h) id
         ·exact (HE.own (q.block,Bl 2 fP) (List.mem_append_right _ (List.mem_append_right _ (List.mem_append_right _ (List.mem_singleton.2 U))))).elim (fun h=>by cases h) id
end Go.Proofs.YtapphbmlkdhnmaaGreat

/- What the law plans: a round of rooms and dues. -/
namespace Go.Proofs.YtapphbmlkdhnmaaGreat
open Go.GV
attribute [local irreducible] AC W Wq Wt

structure PlnR (rs:List Int) (ds:List Du) (net:Bool) (r:Rnd):Prop where
 no:r.no=3
 day:r.day=2
 cmp:r.cmp=net
 ids:r.ids=(opn ds).map Du.id
 N:r.N=((rs.length+1:Nat):Int)
 es:r.es=D9 rs (opn ds) net
 chk:Et r.N r.es r.fl r.pot=true
def Aer (w:World) (rs:List Int) (ds:List Du) (net:Bool) (v:Value) (w':World):Prop :=
 Ext [] w w'∧((Dy rs ds=false∧v = .tuple #[.agg rnd0.toArray,.bool false]) ∨
  (Dy rs ds=true∧∃ r q,v = .tuple #[.agg (A8 r q).toArray,.bool true]∧PlnR rs ds net r∧RAt w' r q∧ROff q r (fun x=>x<w.heap.size)∧r.es.length≤q.cE))
set_option maxRecDepth 20000 in
set_option maxHeartbeats 4000000 in
theorem Qj (a b:Option Addr) (n c m e:Nat) (rs:List Int) (ds:List Du) (net:Bool) (w:World) (R:Rd w a 1 I1 rs) (hn:rs.length=n) (hn2:n≤1000) (Rd':Rd w b 7 DW ds) (hm:ds.length=m) (hm2:m≤1000) :
  Ret Tryz.prog 30 #[.slice a n c,.slice b m e,.bool net] w (Aer w rs ds net):=by
 subst hn hm;obtain ⟨w0,rfl⟩:∃ w0,w0=w:=⟨_,rfl⟩;have H:=Ctx.start w0 [];refine A2 (fn:=Tryz.f30) Tryz.func30 U [.slice a rs.length c,.slice b ds.length e,.bool net] U (by kernel_rfl) ?_;refine Ag (Bs U Gk H ?_);rintro b6 w - H;refine Ai U U (Ab (Aa ?_));cases hbb:Dy rs ds
 ·skip
  refine Ag (Ap U U (Ap U U (Ak U U (Al U Aar (OQ a b _ c _ e rs ds net _ (R.ext0 H.ext) U (by omega) (Rd'.ext0 H.ext) U (by omega)) U ?_))));rintro v w ⟨hx18,⟨-,rfl⟩ | ⟨hb1,-⟩⟩
  rotate_left
  (rw [hbb] at hb1; cases hb1)
  replace H:=H.call hx18;refine BK U U (A6 U U U (A6 U U U (A6 U U U (Bs U TY H ?_))));rintro b8 w - H;refine BL U Cs U U U (by exact (by decide)) H at0 U ?_;rintro w H;refine A5 U U (Ad U U (Ab (Aa (Aq (Ag (Ae U U (CC U U U (Ab (Aa (Ay _ U ?_ ?_))))))))))
  ·intro h1;replace h1:=CK h1;refine Ag (Cp rnd0 U L4 Gk (by kernel_rfl) ?_);refine BL U BW U U U (by exact (by decide)) H at1 U ?_;rintro w H;refine Ai U U (Ab (Aa (A9 (Am (Hi U U U Cq BW H at1 U (show _=(.bool _) from rfl) ?_)))));exact ⟨H.ext,.inl ⟨hbb,rfl⟩⟩
  ·intro h1;replace h1:=CL h1;exact absurd h1 (by decide)
 ·skip
  have hB:=(Nr (by omega)).1 hbb;obtain ⟨es,hes⟩:∃ es,es=D9 rs (opn ds) net:=⟨_,rfl⟩;refine Ag (Ap U U (Ap U U (Ak U U ?_)));have hlb:=H.lt at0;refine Al U Aar (OQ a b _ c _ e rs ds net _ (R.ext0 H.ext) U (by omega) (Rd'.ext0 H.ext) U (by omega)) U ?_;rintro v w ⟨hx18,⟨hb1,-⟩ | ⟨-,aE,nE,cE,vI,rfl,SE,SI⟩⟩
  (rw [hbb] at hb1; cases hb1)
  replace H:=H.call hx18;rw [← hes] at SE;obtain ⟨aE,cE,hE1,hEl,RE,hEn⟩:=SE.ex;obtain ⟨aI,cI,rfl,-,RI,hIn⟩:=SI.ex;cases hE1;have hx018:=H.ext;have hb60:w0.heap.size≤b6:=(H.own _ (List.mem_cons_self ..)).elim (fun h=>by cases h) id;obtain ⟨w18,rfl⟩:∃ z,z=w:=⟨_,rfl⟩;replace H:=Ctx.lend (L1:=[_]) (L2:=[]) H;dsimp only [List.map] at H;have hs24:=hx18.size;refine BK U U (A6 U U U (A6 U U U (A6 U U U (Bs U TY H ?_))));rintro b8 w - H;refine BL U Cs U U U (by exact (by simp [B4])) H at0 U ?_;rintro w H;refine A5 U U (Ad U U (Ab (Aa (Aq (Ag (Ae U U (CC U U U (Ab (Aa (Ay _ U ?_ ?_))))))))))
  ·intro h1;replace h1:=CK h1;exact absurd h1 (by decide)
  ·intro h1;replace h1:=CL h1;have hri:Ci ((rs.length+1:Nat):Int) es=true:=by rw [hes]; exact hB.right net
   have hE6:es≠[]→(adr aE).block∉[b6]:=fun h=>by have:=hEn h; rw [List.mem_singleton]; omega
   have hI6:(opn ds).map Du.id≠[]→(adr aI).block∉[b6]:=fun h=>by have:=hIn h; rw [List.mem_singleton]; omega
   have hE26:=RE.lt' (fun _ _=>rfl) (by decide);have hI26:=RI.lt' (fun _ _=>rfl) (by decide);refine Ax (Aa (Ag (Bh U C1 Cs U H at0 U ?_)));have hl8:=H.lt at0;have hl6:=H.lt at1;refine Al U ca_59 (ZJ (rs.length+1) aE cE es _ (RE.ext' H.ext hE6) hri) U ?_;rintro v w ⟨bf,bp,x,p,k,rfl,hF,hov,hpb,HB⟩;replace H:=H.call HB.ext;have RF:Rd w (some ⟨bf,0,none⟩) 1 I1 (tab x es.length):=Cu (HB.get at0);have RP:Rd w (some ⟨bp,0,none⟩) 1 I1 (tab p (rs.length+1)):=Cu (HB.get at1);have hbf:=(HB.own _ (List.mem_of_getElem? at0)).elim (fun h=>by cases h) id;have hbp:=(HB.own _ (List.mem_of_getElem? at1)).elim (fun h=>by cases h) id;dsimp only at hbf hbp;replace RE:=RE.ext' H.ext hE6;replace RI:=RI.ext' H.ext hI6;have hb80:=(H.own _ (List.mem_of_getElem? at0)).elim (fun h => .inl (List.mem_singleton.1 h)) Or.inr;have hx027:=hx018.then H.ext (fun x hx => .inr (by rw [List.mem_singleton.1 hx]; exact hb60))
   have hs36:=HB.ext.size;have hs26:=H.size;obtain ⟨w36,rfl⟩:∃ z,z=w:=⟨_,rfl⟩;replace H:=Ctx.lend (L1:=[_,_]) (L2:=[]) H;dsimp only [List.map] at H;refine BK U U (A6 U U U (A6 U U U (A6 U U U (Bs U WV H ?_))));rintro b11 w - H;refine BL U MX U U U (by exact (by simp [B4])) H at0 U ?_;rintro w H;refine Ad U U (Ad U U (Ab (Aa ?_)));obtain ⟨r,hr⟩:∃ r:Rnd,r=⟨3,2,net,(opn ds).map Du.id,((rs.length+1:Nat):Int),es,tab x es.length,tab p (rs.length+1)⟩:=⟨_,rfl⟩;obtain ⟨q,hq⟩:∃ q:RSl,q=⟨aI,cI,aE,cE,some ⟨bf,0,none⟩,es.length,some ⟨bp,0,none⟩,rs.length+1⟩:=⟨_,rfl⟩
   have hcells:A8 r q=[.int .u64 3,.int .i64 2,.bool net,.slice aI ((opn ds).map Du.id).length cI,.int .i64 ((rs.length+1:Nat):Int),.slice aE es.length cE,.slice (some ⟨bf,0,none⟩) es.length es.length,.slice (some ⟨bp,0,none⟩) (rs.length+1) (rs.length+1)]:=by
    rw [hr,hq];unfold A8;dsimp only;rw [CV,CV]
   refine Ag (Ak U U (Ap U U (Bh U C1 Cs U H at1 U (Bh U QJ MX U H at0 U (Cp [.int .u64 3,.int .i64 2,.bool net,.slice aI ((opn ds).map Du.id).length cI,.int .i64 ((rs.length+1:Nat):Int),.slice aE es.length cE,.slice (some ⟨bf,0,none⟩) es.length es.length,.slice (some ⟨bp,0,none⟩) (rs.length+1) (rs.length+1)] U L4 Gk (by kernel_rfl) ?_)))));refine Ae U U (BQ U U U (BL U BW U U U (by exact (by simp [B4])) H at2 U ?_));rintro w H;refine Ai U U (Ab (Aa (A9 (Hi U U U Cq BW H at2 U (show _=(.bool _) from rfl) ?_))))
   have h8:w0.heap.size≤b8:=by rcases hb80 with h | h <;> omega
   have hxx:=hx027.then H.ext fun x hx => .inr (by simp only [List.mem_cons,List.not_mem_nil,or_false] at hx; omega);refine ⟨hxx,.inr ⟨hbb,r,q,by rw [hcells]; rfl,⟨by rw [hr],by rw [hr],by rw [hr],by rw [hr],by rw [hr],by rw [hr]; exact hes,?_⟩,⟨?_,?_,?_,?_,?_⟩,⟨?_,?_,?_,?_⟩,by rw [hr,hq]; exact hEl⟩⟩
   ·rw [hr]; exact Tu hri hF hov hpb
   ·rw [hr,hq]; exact RI.ext' H.ext fun h=>by have h1:=hI26 h; have h2:=hI6 h; rw [List.mem_singleton] at h2; simp only [List.mem_cons,List.not_mem_nil,or_false]; rcases hb80 with h3 | h3 <;> omega
   ·rw [hr,hq]; exact RE.ext' H.ext fun h=>by have h1:=hE26 h; have h2:=hE6 h; rw [List.mem_singleton] at h2; simp only [List.mem_cons,List.not_mem_nil,or_false]; rcases hb80 with h3 | h3 <;> omega
   ·rw [hr,hq]; exact RF.ext' H.ext fun _=>by show bf∉[b8,b6]; simp only [List.mem_cons,List.not_mem_nil,or_false]; omega
   ·rw [hr,hq]; exact RP.ext' H.ext fun _=>by show bp∉[b8,b6]; simp only [List.mem_cons,List.not_mem_nil,or_false]; omega
   ·rw [hr,hq]; dsimp only; rw [CV]; exact Nat.le_refl _
   ·rw [hr,hq]; intro h; have:=hIn h; dsimp only; omega
   ·rw [hr,hq]; intro h; have:=hEn h; dsimp only; omega
   ·rw [hr,hq]; intro _; show ¬ bf<w0.heap.size; omega
   ·rw [hr,hq]; intro _; show ¬ bp<w0.heap.size; omega
end Go.Proofs.YtapphbmlkdhnmaaGreat

/- The law's example. -/
namespace Go.Proofs.YtapphbmlkdhnmaaGreat
open Go.GV
attribute [local irreducible] AC W Wq Wt

abbrev xR3:List Int:=[5,0]
abbrev xD3:List Du:=[⟨7,0,1,9,2,0,false⟩]
abbrev xE3:List Ed:=[⟨0,1,9,-2⟩,⟨2,0,5,0⟩,⟨0,2,4503599627370496,0⟩,⟨2,1,0,0⟩,⟨1,2,4503599627370496,0⟩]
theorem xe3:D9 xR3 (opn xD3) false=xE3:=by decide
theorem xb3:Dy xR3 xD3=true:=by decide
theorem ZY {rs:List Int} {ds:List Du} {net:Bool} {r:Rnd} (P:PlnR rs ds net r) (hd:ds.length≤1000000):RBnd r:=by
 obtain ⟨h1,h2,-⟩:=HY.1 P.chk;obtain ⟨g1,g2,g3,-⟩:=Cb (BN (FK h1).1).2.1;have g4:=(BN (FK h1).1).1;have g5:=(Kh h2).1;refine ⟨⟨by omega,by omega⟩,by omega,?_,by omega,by omega⟩;rw [P.ids,List.length_map];exact Nat.le_trans (List.length_filter_le _ _) hd
theorem Y6 {rs:List Int} {ds:List Du} {net:Bool} {r:Rnd} (P:PlnR rs ds net r):Ci r.N r.es=true∧BF r.N r.es r.fl=true∧(∀ v,v<r.N.toNat→BE (grE r.N r.es) (flE r.fl) v=0)∧Fine (grE r.N r.es) (Cv r.es) (flE r.fl) (EB r.pot):=by
 obtain ⟨h1,-,h3⟩:=HY.1 P.chk;obtain ⟨h4,h5⟩:=FK h1;exact ⟨(BN h4).2.1,h4,h5,h3⟩
theorem xw3 {r:Rnd} (P:PlnR xR3 xD3 false r):Bw r=true∧Ia r 7=(5,9,0)∧Ic r 1=(5,0,0)∧FW r=(10,0)∧(Fa r).length=127∧Ia r 8=(0,0,4)∧Ic r 2=(0,0,10):=by
 obtain ⟨p1,p2,p3,p4⟩:=Y6 P;obtain ⟨no,day,cmp,ids,N,es,fl,pot⟩:=r;obtain ⟨h1,h2,h3,h4,h5,h6,h7⟩:=P;dsimp only at h1 h2 h3 h4 h5 h6 h7 p1 p2 p3 p4;have h4':ids=[7]:=h4.trans (by decide);have h5':N=3:=h5;have h6':es=xE3:=h6.trans xe3;subst h1 h2 h3 h4' h5' h6'
 have hR:Bw ⟨3,2,false,[7],3,xE3,fl,pot⟩=true:=by
  unfold Bw Jk GY;dsimp only;rw [h7];rfl
 have hW:=HZ hR;have hlen:fl.length=5:=hW.len;have hpl:(pot.length:Int)=3:=hW.pot;have hg:=Kj p1;obtain ⟨x,hx⟩:∃ x,x=flE fl:=⟨_,rfl⟩;rw [← hx] at p3 p4;have o0:=p3 0 (by decide);have i0:=p4.in' 0 (by decide);have i1:=p4.in' 1 (by decide);have i2:=p4.in' 2 (by decide)
 have hbest:=Fine.best hg p4 p3 (y:=fun i=>[5,5,0,0,5].getD i 0) (fun i hi=>by
  have hi':i<5:=hi
  match i,hi' with
  | 0,_=>decide
  | 1,_=>decide
  | 2,_=>decide
  | 3,_=>decide
  | 4,_=>decide) (fun v hv=>by
  have hv':v<3:=hv
  match v,hv' with
  | 0,_=>decide
  | 1,_=>decide
  | 2,_=>decide)
 have hc1:Hk (grE 3 xE3) (fun i=>[5,5,0,0,5].getD i 0) = -10:=by decide
 have hc2:Hk (grE 3 xE3) x = -(2*x 0):=by
  show 0+x 0 * -2+x 1*0+x 2*0+x 3*0+x 4*0=_;omega
 have e0:BE (grE 3 xE3) x 0 = -(x 0)+x 1 - x 2:=by
  show 0+(0 - 1)*x 0+(1 - 0)*x 1+(0 - 1)*x 2+(0 - 0)*x 3+(0 - 0)*x 4=_;omega
 have c1:Cv xE3 1=5:=rfl
 have hx0:x 0=5:=by
  rw [hc1,hc2] at hbest;rw [e0] at o0;rw [c1] at i1;omega
 have hf0:fl.getD 0 0=5:=by rw [← hx0,hx]; rfl
 refine ⟨hR,?_,?_,?_,?_,?_,?_⟩
 ·unfold Ia;rw [if_pos hR];show (fl.getD 0 0,(9:Int),(0:Int))=_;rw [hf0]
 ·unfold Ic;rw [if_pos hR];show (0+fl.getD 0 0,0+(0:Int),(0:Int))=_;rw [hf0];rfl
 ·unfold FW;rw [if_pos hR];show (0 + -(-2:Int)*fl.getD 0 0,(0:Int))=_;rw [hf0];rfl
 ·unfold Fa Fw;rw [List.length_append,List.length_append,List.length_append,GC,Di,U6];have:(esB ⟨3,2,false,[7],3,xE3,fl,pot⟩ 5).length=76:=by simp [esB,eB,List.range_succ,CS]
  show 23+(esB ⟨3,2,false,[7],3,xE3,fl,pot⟩ 5).length+8*pot.length+4=127;omega
 ·unfold Ia;rw [if_pos hR];rfl
 ·unfold Ic;rw [if_pos hR];rfl
theorem ZZ:EZ []=false:=by decide
theorem Aes {rs:List Int} {ds:List Du} {net:Bool} {r:Rnd} (P:PlnR rs ds net r) (hd:∀ d∈ds,0≤d.id∧d.id<18446744073709551616):WU r:=by
 refine ⟨by rw [P.no]; decide,fun x hx=>?_,by rw [P.day]; decide⟩;rw [P.ids] at hx;obtain ⟨d,h1,rfl⟩:=List.mem_map.1 hx;exact hd d (List.mem_filter.1 h1).1
set_option maxRecDepth 20000 in
set_option maxHeartbeats 4000000 in
theorem N7 (w:World):Ret Tryz.prog 27 #[] w fun v w'=>v = .bool true∧Ext [] w w':=by
 obtain ⟨w0,rfl⟩:∃ w0,w0=w:=⟨_,rfl⟩;have H:=Ctx.start w0 [];refine A2 (fn:=Tryz.f27) Tryz.func27 U [] U (by kernel_rfl) ?_;refine Ag (Ai U U (Ab (Aa (Ag (CJ [.int .i64 5,.int .i64 0] U AU Bz FJ (by decide) (by decide) (by kernel_rfl) H ?_)))));rintro b22 w - H;refine Cp (DW ⟨7,0,1,9,2,0,false⟩) U WQ FQ (by kernel_rfl) ?_;refine D4 _ (.agg _) U D0 Dm FQ U (by decide) (by decide) U U U H ?_;rintro b24 w - H;refine Al U ca_30 (Qj (some ⟨b22,0,none⟩) (some ⟨b24,0,none⟩) 2 2 1 1 xR3 xD3 false _ (Yo (H.get at1)) U (by decide) (Rd.of_bl (xs:=xD3) (enc:=DW) (r:=[]) (H.get at0) U (by decide)) U (by decide)) U ?_;rintro v w ⟨hx25,⟨hb,-⟩ | ⟨-,r,q,rfl,P,RA,-,hEc⟩⟩
 (exact absurd hb (by rw [xb3]; decide))
 replace H:=H.call hx25;obtain ⟨y1,y2,y3,y4,y5,y6,y7⟩:=xw3 P;have hB:=ZY P (by decide);have hU:=Aes P (by decide);have hx0:=H.ext;obtain ⟨w1,rfl⟩:∃ z,z=w:=⟨_,rfl⟩;replace H:=Ctx.start w1 [];refine BK U U (A6 U U U (A6 U U U (Bs U Gk H ?_)));rintro b1 w - H;refine BL U BW U U U (by exact (by simp [B4])) H at0 U ?_;rintro w H;refine Ai U U (Ab (Aa (Aq (Ag (Ak U U (Bv U U (Ab (Aa (EQ U (Ax (Aa (Ag ?_))))))))))));refine Bh U Cq BW U H at0 U (Al U WL (Nt r q 7 _ (RA.ext0 H.ext) hEc hB) U ?_);rintro v w ⟨rfl,hx⟩;rw [y2];replace H:=H.call hx;refine BK U U (A6 U U U (A6 U U U (A6 U U U (Ad U U (Ad U U (Ad U U (Ab (Aa (Ag (Bh U Cq BW U H at0 U ?_))))))))));refine Al U WM (Nv r q 1 _ (RA.ext0 H.ext) hEc hB) U ?_;rintro v w ⟨rfl,hx⟩;rw [y3];replace H:=H.call hx;refine BK U U (A6 U U U (A6 U U U (A6 U U U (Ad U U (Ad U U (Ad U U (Ab (Aa (Ag (Bh U Cq BW U H at0 U ?_))))))))))
 refine Al U Aaq (OY r q _ (RA.ext0 H.ext) hEc hB) U ?_;rintro v w ⟨rfl,hx⟩;rw [y4];replace H:=H.call hx;refine BK U U (A6 U U U (A6 U U U (Ad U U (Ad U U (Ab (Aa (Ag (Bh U Cq BW U H at0 U (Al U WK (Qd r q _ (RA.ext0 H.ext) hEc hB hU) U ?_)))))))));rintro v w ⟨hT,-⟩;obtain ⟨s,rfl,F⟩:=hT y1;obtain ⟨a9,c9,rfl,-⟩:=Fresh.rdB F;rw [y5];replace H:=H.call F.ext;refine BK U U (A6 U U U (A6 U U U (A5 U U (Ad U U (Ab (Aa (Ag (Bh U Cq BW U H at0 U (Al U WL (Nt r q 8 _ (RA.ext0 H.ext) hEc hB) U ?_)))))))));rintro v w ⟨rfl,hx⟩;rw [y6];replace H:=H.call hx;refine BK U U (A6 U U U (A6 U U U (A6 U U U (Ad U U (Ad U U (Ad U U (Ab (Aa (Ag (Bh U Cq BW U H at0 U ?_))))))))));refine Al U WM (Nv r q 2 _ (RA.ext0 H.ext) hEc hB) U ?_;rintro v w ⟨rfl,hx⟩;rw [y7];replace H:=H.call hx
 refine BK U U (A6 U U U (A6 U U U (A6 U U U (Ad U U (Ad U U (Ad U U (Ab (Aa (Ag (Al U Aao (UA none 0 [] _ Rd.nil (Nat.le_refl _) (Nat.zero_le _) (fun h=>absurd rfl h)) U ?_))))))))));rintro v w ⟨-,hN⟩;obtain ⟨rfl,hx⟩:=hN ZZ;replace H:=H.call hx;refine BK U U (A6 U U U (A6 U U U (Bs U Gk H ?_)));rintro b19 w - H;refine BL U BW U U U (by exact (by simp [B4])) H at0 U ?_;rintro w H;refine Ad U U (Ab (Aa (Ag (Bh U Cq BW U H at1 U (Al U MQ (FV r q _ (RA.ext0 H.ext) hEc hB) U ?_)))));rintro v w ⟨rfl,hx⟩;rw [y1];replace H:=H.call hx;refine Ak U U (Ae U U (BQ U U U (An U U (.bool _) U (Ak U U (Ae U U (BQ U U U (An U U (.bool _) U (Ak U U (Ae U U ?_)))))))));refine BQ U U U (An U U (.bool _) U (Ak U U (Ae U U (BQ U U U (An U U (.bool _) U (Ak U U (Ae U U (BQ U U U (An U U (.bool _) U ?_)))))))))
 refine Ak U U (Ae U U (BQ U U U (An U U (.bool _) U (Ak U U (Ae U U (BQ U U U (An U U (.bool _) U (Ak U U (Ae U U ?_)))))))));refine BQ U U U (An U U (.bool _) U (Ak U U (Ap U U (AV U C6 U (BQ U U U (An U U (.bool _) U (Ak U U (Ae U U (BQ U U U ?_)))))))));refine An U U (.bool _) U (Ak U U (Ae U U (BQ U U U (An U U (.bool _) U (Ak U U (Ae U U (BQ U U U (An U U (.bool _) U (Ak U U ?_)))))))));refine Ae U U (BQ U U U (An U U (.bool _) U (Ai U U (Ab (Aa (A9 (AF (v:=(.bool _)) U U U ?_)))))));exact ⟨rfl,hx0.trans H.ext⟩
end Go.Proofs.YtapphbmlkdhnmaaGreat

/- A round with anything of it turned is not right. -/
namespace Go.Proofs.YtapphbmlkdhnmaaGreat
open Go.GV

end Go.Proofs.YtapphbmlkdhnmaaGreat

/- A copy of a net; the law of turned rounds. -/
namespace Go.Proofs.YtapphbmlkdhnmaaGreat
open Go.GV
attribute [local irreducible] AC W Wq Wt

end Go.Proofs.YtapphbmlkdhnmaaGreat
