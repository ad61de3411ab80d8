/- Part 13 of the proof. -/
import Derived.Test.YtapphbmlkdhnmaaGreatPart2
import Derived.Test.YtapphbmlkdhnmaaGreatPart12
import Derived.Test.YtapphbmlkdhnmaaGreatPart4
import Derived.Test.YtapphbmlkdhnmaaGreatPart10
import Derived.Test.YtapphbmlkdhnmaaGreatPart11
import Derived.Test.YtapphbmlkdhnmaaGreatRows
/- The function that gets a round of bytes. -/
namespace Go.Proofs.YtapphbmlkdhnmaaGreat
open Go.GV
attribute [local irreducible] A2 W Wq Wt

theorem V5 {w:World} (a b:Option Addr) (c d n m:Nat) (x y:List UInt8) (Rx:Rd w a 1 B8 x) (Ry:Rd w b 1 B8 y) (hn:x.length=n) (hm:y.length=m) :
  Ret Tryz.prog 84 #[.slice a n c,.slice b m d] w fun v w'=>v = .bool (decide (x=y))∧w=w':=by
 subst hn hm
 refine A1 (fn:=Tryz.f84) Tryz.func84 rfl [.slice a x.length c,.slice b y.length d] rfl (by kernel_rfl) ?_
 refine Ag (Ai rfl rfl (Ab (Aa (Ag (An rfl rfl (Lv (l:=x) rfl C9 Iz WE rfl Rx ?_))))))
 refine An rfl rfl (Lv (l:=y) rfl C9 Iz WE rfl Ry ?_)
 refine VR (l:=x) (m:=y) rfl rfl rfl ?_
 refine Ai rfl rfl (Ab (Aa (A9 (AB (v:=(.bool _)) rfl rfl rfl ?_))))
 exact ⟨rfl,rfl⟩
abbrev Aam (bd:Nat):Value := .func (.func 146) #[] [ptr bd].toArray
abbrev flwV (b7 b6:Nat):Value := .func (.func 81) #[] [ptr b7,ptr b6].toArray
theorem Yh (a:Option Addr) (c n:Nat) (w:World):Ret Tryz.prog 79 #[.slice a n c] w fun v w'=>∃ ba bd bb,v = .tuple #[FU bb ba bd,Aam bd]∧Ctx w [] w' (tkL ba bd (0,false)++[(bb,Bl 69 [.slice a n c])]):=by
 obtain ⟨w0,rfl⟩:∃ w0,w0=w:=⟨_,rfl⟩
 have H:=Ctx.start w0 []
 refine A1 (fn:=Tryz.f79) Tryz.func79 rfl [.slice a n c] rfl (by kernel_rfl) ?_
 refine Ag (Bs rfl _ (.slice _ _ _) rfl rfl H ?_)
 rintro b1 w - H
 refine BW rfl .nilFunc rfl ?_
 refine BW rfl .nilFunc rfl ?_
 refine Ab (Aa (Ag (Bm rfl Qv H ?_)))
 rintro b4 w - H
 refine Bm rfl zc_4 H ?_
 rintro b5 w - H
 refine Cj (.int _ _) rfl EJ rfl rfl rfl H at1 (by decide) ?_
 rintro w H
 refine Cj (.bool _) rfl Pd rfl rfl rfl H at0 (by decide) ?_
 rintro w H
 refine Ab (Aa (Ag (C1 rfl [_,_,_] rfl (BW rfl (.func _ _ _) rfl ?_))))
 refine Ab (Aa (Ag (Cd rfl (.func _ _ _) rfl ?_)))
 refine C1 rfl [_] rfl (BW rfl (.func _ _ _) rfl ?_)
 refine BW rfl (.func _ _ _) rfl ?_
 refine Ab (Aa (A9 (DK (v1:=(.func _ _ _)) (v2:=(.func _ _ _)) rfl rfl rfl rfl ?_)))
 refine ⟨b4,b5,b1,rfl,Ctx.perm H ?_⟩
 exact List.Perm.swap _ _ _
theorem P8 (l:List UInt8) (s:Nat × Bool):(nx l 1 s).1<256:=by
 unfold nx
 split
 ·show (0:Nat)<_
  decide
 ·split
  ·have h1:=Kp ((l.drop s.1).take 1)
   have h2:((l.drop s.1).take 1).length≤1:=by rw [List.length_take]; omega
   have h3:256 ^ ((l.drop s.1).take 1).length≤256 ^ 1:=Nat.pow_le_pow_right (by decide) h2
   show numN _<_
   omega
  ·show (0:Nat)<_
   decide
theorem Ad7 (l:List UInt8) (s:Nat × Bool):(nx l 2 s).1<65536:=by
 unfold nx
 split
 ·show (0:Nat)<_
  decide
 ·split
  ·have h1:=Kp ((l.drop s.1).take 2)
   have h2:((l.drop s.1).take 2).length≤2:=by rw [List.length_take]; omega
   have h3:256 ^ ((l.drop s.1).take 2).length≤256 ^ 2:=Nat.pow_le_pow_right (by decide) h2
   show numN _<_
   omega
  ·show (0:Nat)<_
   decide
theorem perm6 {α:Type} (a b c d e f:α):[a,b,c,d,e,f].Perm [d,e,a,b,f,c] :=
 (pmI [a,b] [c] [d,e,f]).trans (List.Perm.append_right [f,c] (List.perm_append_comm (l₁:=[a,b]) (l₂:=[d,e])))
theorem MV (h:Hd) (p:PRd):(Ij h p).cmp=h.cmp:=rfl
theorem Yi (l:List UInt8):(hs1 l).1≤l.length:=GJ (Nat.zero_le _)
theorem Yj (l:List UInt8):(hs2 l).1≤l.length:=GJ (Yi l)
theorem Yk (l:List UInt8):(hs3 l).1≤l.length:=GJ (Yj l)
theorem Yl (l:List UInt8):(hs4 l).1≤l.length:=GJ (Yk l)
theorem Ym (l:List UInt8):(hs5 l).1≤l.length:=GJ (Yl l)
theorem Ad8 (l:List UInt8):(hs6 l).1≤l.length:=GJ (Ym l)
/-- Nothing gathered yet. -/
abbrev gs0 (s:Nat × Bool):Gs:=⟨⟨[],[],[],[],s⟩,none,0,[],none,0,[],none,0,[],none,0,[]⟩
/-- The head, before the number of nodes is known. -/
abbrev hd0 (l:List UInt8):Hd:=⟨((nx l 8 (hs1 l)).1:Int),s64 (nx l 8 (hs2 l)).1,decide (((nx l 1 (hs3 l)).1:Int)=1),0⟩
theorem Yn (n:Nat):s64 n<9223372036854775808:=by
 unfold s64 IntKind.wrap
 have e1:((2:Int) ^ IntKind.i64.bits)=18446744073709551616:=by kernel_rfl
 have e2:((2:Int) ^ (IntKind.i64.bits - 1))=9223372036854775808:=by kernel_rfl
 simp only [e1,e2]
 split
 ·omega
 ·rename_i h
  simp [IntKind.signed] at h
  omega
theorem MW (l:List UInt8):∀ (d:Nat) (p:PRd),(∀ x∈p.ids,0≤x∧x<18446744073709551616)→∀ x∈(Kr l d p).ids,0≤x∧x<18446744073709551616
 | 0,_,h=>h
 | d+1,p,h=>by
  unfold Kr
  split
  ·exact h
  ·refine MW l d _ fun x hx=>?_
   have hx:x∈p.ids++[((nx l 8 p.s).1:Int)]:=hx
   rcases List.mem_append.1 hx with h1 | h1
   ·exact h x h1
   ·have h2:=Ya l (k:=8) (by decide) p.s
    rw [List.mem_singleton] at h1
    omega
theorem Oq (l:List UInt8) (h:Nat):∀ (n i:Nat) (p:PRd),(G5 l h n i p).ids=p.ids
 | 0,_,_=>rfl
 | n+1,i,p=>by
  unfold G5
  split
  ·rfl
  ·rw [Oq l h n]; rfl
theorem Rg (l:List UInt8):∀ (n:Nat) (p:PRd),(Ks l n p).ids=p.ids
 | 0,_=>rfl
 | n+1,p=>by
  unfold Ks
  split
  ·rfl
  ·rw [Rg l n]; rfl
theorem Rh (l:List UInt8):∀ x∈(Jx l).ids,0≤x∧x<18446744073709551616:=by
 unfold Jx
 dsimp only
 rw [Rg]
 split
 ·exact MW l _ _ (by simp)
 ·rw [Oq]; exact MW l _ _ (by simp)
theorem V6 {r:Rnd} {w w':World} {v:Value} (hT:BA r=true→∃ s,v = .tuple #[s,.int .i64 0]∧Fresh w w' 5 1 s ((Ca r).map bv)) (hF:BA r=false→v = .tuple #[.slice none 0 0,.int .i64 1]∧Ext [] w w') :
  ∃ (a:Option Addr) (c:Nat) (bs:List UInt8) (e:Int),v = .tuple #[.slice a bs.length c,.int .i64 e]∧Rd w' a 1 B8 bs∧Ext [] w w'∧(BA r=true→e=0∧bs=Ca r)∧(BA r=false→e=1):=by
 cases h:BA r with
 | true =>
  obtain ⟨s,rfl,F⟩:=hT h
  obtain ⟨a,c,rfl,R,-⟩:=Fresh.rdB F
  exact ⟨a,c,Ca r,0,rfl,R,F.ext,fun _=>⟨rfl,rfl⟩,fun h=>(by cases h)⟩
 | false =>
  obtain ⟨rfl,hx⟩:=hF h
  exact ⟨none,0,[],1,rfl,Rd.nil,hx,fun h=>(by cases h),fun _=>rfl⟩
/-- What is told of bytes. -/
structure GetRes (l:List UInt8) (w w':World) (v:Value):Prop where
 ok:FZ l=true→∃ q,v = .tuple #[.agg (AH (HZ l) q).toArray,.int .i64 0]∧RAt w' (HZ l) q∧(HZ l).es.length≤q.cE∧(∀ x∈[q.aI,q.aE,q.aF,q.aP],∀ p,x=some p→w.heap.size≤p.block)
 no:FZ l=false→v = .tuple #[.agg (AH G6 Fw).toArray,.int .i64 5]
 ext:Ext [] w w'
set_option maxRecDepth 20000 in
set_option maxHeartbeats 16000000 in
theorem Jj (a:Option Addr) (c:Nat) (l:List UInt8) (w:World) (R:Rd w a 1 B8 l) (hc:l.length≤c) (hm:l.length≤100000) (hoff:l≠[]→(adr a).block<w.heap.size) :
  Ret Tryz.prog 28 #[.slice a l.length c] w fun v w'=>(Es l=true→GetRes l w w' v)∧(Es l=false→v = .tuple #[.agg (AH G6 Fw).toArray,.int .i64 5]∧Ext [] w w'):=by
 obtain ⟨w0,rfl⟩:∃ w0,w0=w:=⟨_,rfl⟩
 have H:=Ctx.start w0 []
 obtain ⟨rw',hrw⟩:∃ x,x=Es l:=⟨_,rfl⟩
 refine A1 (fn:=Tryz.f28) Tryz.func28 rfl [.slice a l.length c] rfl (by kernel_rfl) ?_
 refine Ag (Bm rfl FI H ?_)
 rintro b2 w - H
 refine Af rfl rfl (Ab (Aa (Aq (Ag (An rfl rfl (Ao rfl ca_78 (QW a c l _ (R.ext0 H.ext) (by omega) hc) rfl ?_))))))
 rintro v w ⟨rfl,rfl⟩
 rw [← hrw]
 refine Bu rfl rfl (Ab (Aa (Ax _ rfl ?_ ?_)))
 ·intro h1
  replace h1:=Bp h1
  refine Ag (CC (AH G6 Fw) rfl Qt FI (by kernel_rfl) ?_)
  refine BD rfl C2 rfl rfl rfl (by exact (by decide)) H at0 rfl ?_
  rintro w H
  refine Af rfl rfl (Ab (Aa (A9 (Al (JV rfl rfl rfl CQ C2 H at0 rfl (show _=(.int _ _) from rfl) ?_)))))
  exact ⟨fun h=>(by rw [h1] at h; cases h),fun _=>⟨rfl,H.ext⟩⟩
 ·intro h1
  replace h1:=Bq h1
  have hbig:∀ {w:World},Ext [] w0 w→w0.heap.size≤w.heap.size:=fun h=>h.size
  refine Av (Aa (Ag (An rfl rfl (Ao rfl ca_79 (Yh a c l.length _) rfl ?_))))
  rintro v w ⟨ba,bd,bb,rfl,H22⟩
  replace H:=Ctx.callEnt H H22.ext (fun x hx=>⟨H22.blk x hx,(H22.own x hx).elim (fun h=>(by cases h)) id⟩) H22.nd
  refine BG rfl rfl (A7 (v:=FU bb ba bd) rfl rfl rfl (A7 (v:=Aam bd) rfl rfl rfl (Bm rfl Ac9 H ?_)))
  rintro b4 w - H
  refine Cj (.func _ _ _) rfl Ac3 rfl rfl rfl H at0 (by decide) ?_
  rintro w H
  refine BW rfl (.func _ _ _) rfl ?_
  refine Ab (Aa (Ag (C1 rfl [ptr b4] rfl (Bm rfl Ada H ?_))))
  rintro b6 w - H
  refine Cj (.func _ _ _) rfl Ac4 rfl rfl rfl H at0 (by decide) ?_
  rintro w H
  refine Ab (Aa ?_)
  replace H:Ctx w0 [] _ (tkL ba bd (0,false)++[(b6,Bl 139 [Ns b4]),(b4,Bl 136 [FU bb ba bd]),(bb,Bl 69 [.slice a l.length c]),(b2,Bl 33 (AH G6 Fw))]):=Ctx.perm H (perm6 _ _ _ _ _ _)
  have X0:GFix (⟨ba,bd,bb,b2,b4,b6,0,a,c,l⟩:Gt) w0:=⟨R,hoff,hc,hm⟩
  refine Ag (AA rfl GM rfl H at3 rfl (Cs rfl rfl GO (IH (T:=(⟨ba,bd,bb,b2,b4,b6,0,a,c,l⟩:Gt)) (s:=(0,false)) (k:=4) X0 H (by simp) (Nat.zero_le _) (.inr (.inr (.inl rfl)))) rfl ?_))
  rintro v w ⟨rfl,H27,-⟩
  replace H:Ctx w0 [] w (tkL ba bd (hs1 l)++[(b6,Bl 139 [Ns b4]),(b4,Bl 136 [FU bb ba bd]),(bb,Bl 69 [.slice a l.length c]),(b2,Bl 33 (AH G6 Fw))]):=H27
  refine Ab (Aa (Dw 68451041408 (α:=Nat) (fun b7=>[(7,ptr b7)]) (fun b7 w'=>Ctx w0 [] w' (gL (⟨ba,bd,bb,b2,b4,b6,b7,a,c,l⟩:Gt) (hd0 l) (gs0 (hs4 l)) (hs4 l))) rfl ?_ ?_))
  ·skip
   have hSw:∀ x∈[ba,bd],x<w.heap.size:=fun x hx=>by
    simp only [List.mem_cons,List.not_mem_nil,or_false] at hx
    rcases hx with rfl | rfl
    ·exact H.lt (k:=0) rfl
    ·exact H.lt (k:=1) rfl
   have hlt:=Ctx.ltI H
   refine Gm (n:=9) (N:=10) (anc:=Ln 9 [[],[0],[],[0,1,2],[],[0,1,2,3,4],[0,1,2,3,4,5],[0,1,2,3,4,5,6],[]]) [ba,bd] (fun i=>if i=8 then 7 else 28+i) [isV (FU bb ba bd),isV (.int .u64 ((nx l 8 (hs1 l)).1:Int)),isV (Ns b4),isV (.int .i64 (s64 (nx l 8 (hs2 l)).1)),isV (FU bb ba bd),isV (.int .u64 ((nx l 1 (hs3 l)).1:Int)),isV (.bool (decide (((nx l 1 (hs3 l)).1:Int)=1))),isV (.agg (AH (Ij (hd0 l) (gs0 (hs4 l)).p) Fw).toArray),nwV w (Bl 33 (AH G6 Fw))] [1,3,5] (fun k w'=>Ctx w0 [] w' (tkL ba bd ([hs1 l,hs2 l,hs3 l,hs4 l].getD k (hs1 l))++[(b6,Bl 139 [Ns b4]),(b4,Bl 136 [FU bb ba bd]),(bb,Bl 69 [.slice a l.length c]),(b2,Bl 33 (AH G6 Fw))])) (show Tryz.prog.follows .mixedOrders=true by kernel_rfl) rfl (by decide) (by kernel_rfl) (Ey _) (fun i j _ _ h=>by have h:(if i=8 then 7 else 28+i:Nat)=(if j=8 then 7 else 28+j:Nat):=h; split at h <;> split at h <;> omega) ⟨BO _ _,BO _ _,BO _ _,BO _ _,BO _ _,BO _ _,BO _ _,BO _ _,T1 hSw _,trivial⟩ (by kernel_rfl) (fun k w w2 h hx=>h.call hx) H.drew (by kernel_rfl) ?_ ?_ ?_
   ·rintro m o e' w' hm hic ho hold hg hx ⟨k,HJ⟩
    have hin:∀ t:Nat,t<7→∀ j,j<9→t≠(fun i=>if i=8 then 7 else 28+i) j:=fun t ht j hj=>by dsimp only; split <;> omega
    have g4:e'.g 4=ptr b4:=(hold 4 (hin 4 (by decide))).trans rfl
    have g6:e'.g 6=ptr b6:=(hold 6 (hin 6 (by decide))).trans rfl
    have hcs:m=0∨m=1∨m=2∨m=3∨m=4∨m=5∨m=6∨m=7∨m=8:=by omega
    rcases hcs with rfl | rfl | rfl | rfl | rfl | rfl | rfl | rfl | rfl
    ·cases Option.some.inj ho
     exact AX rfl GM g4 (by rw [Ay (HJ.get (k:=3) rfl)]; rfl) (Ab ⟨_,.refl _ _,rfl,rfl⟩)
    ·exact absurd (by decide) hic
    ·cases Option.some.inj ho
     exact AX rfl Ms g6 (by rw [Ay (HJ.get (k:=2) rfl)]; rfl) (Ab ⟨_,.refl _ _,rfl,rfl⟩)
    ·exact absurd (by decide) hic
    ·cases Option.some.inj ho
     exact AX rfl GM g4 (by rw [Ay (HJ.get (k:=3) rfl)]; rfl) (Ab ⟨_,.refl _ _,rfl,rfl⟩)
    ·exact absurd (by decide) hic
    ·cases Option.some.inj ho
     exact BX rfl (hg 5 (by decide)) rfl (Ab ⟨_,.refl _ _,rfl,rfl⟩)
    ·cases Option.some.inj ho
     refine CC (AH (Ij (hd0 l) (gs0 (hs4 l)).p) Fw) rfl Qt FI ?_ (Ab ⟨_,.refl _ _,rfl,rfl⟩)
     show Instr.fill _ _ [(0,e'.g 29),(1,e'.g 31),(2,e'.g 34)]=_
     rw [show e'.g 29 = .int .u64 ((nx l 8 (hs1 l)).1:Int) from (hg 1 (by decide)),show e'.g 31 = .int .i64 (s64 (nx l 8 (hs2 l)).1) from (hg 3 (by decide)),show e'.g 34 = .bool (decide (((nx l 1 (hs3 l)).1:Int)=1)) from (hg 6 (by decide))]
     kernel_rfl
    ·cases Option.some.inj ho
     refine Bm rfl FI (Ctx.start w' []) ?_
     intro b w2 _ H
     exact Ab ⟨_,H.ext,rfl,b,rfl,H.get at0,Nat.le_trans hx.size ((H.own _ (List.mem_cons_self ..)).elim (fun h=>by cases h) id)⟩
   ·intro k im o e' w' hk ho hold hg hx HJ
    have hin:∀ t:Nat,t<7→∀ j,j<9→t≠(fun i=>if i=8 then 7 else 28+i) j:=fun t ht j hj=>by dsimp only; split <;> omega
    have g4:e'.g 4=ptr b4:=(hold 4 (hin 4 (by decide))).trans rfl
    have g6:e'.g 6=ptr b6:=(hold 6 (hin 6 (by decide))).trans rfl
    rcases k with _ | _ | _ | k
    ·cases hk
     cases Option.some.inj ho
     refine Cs rfl (hg 0 (by decide)) GO (IH (T:=(⟨ba,bd,bb,b2,b4,b6,0,a,c,l⟩:Gt)) (k:=8) X0 HJ (by simp) (Yi l) (.inr (.inr (.inr rfl)))) rfl ?_
     rintro v w2 ⟨rfl,h2,h3⟩
     exact Ab ⟨_,h3,rfl,rfl,h2⟩
    ·cases hk
     cases Option.some.inj ho
     refine Cs rfl (hg 2 (by decide)) Qq (Uj (T:=(⟨ba,bd,bb,b2,b4,b6,0,a,c,l⟩:Gt)) X0 HJ (by simp) (by simp) (Yj l)) rfl ?_
     rintro v w2 ⟨rfl,h2,h3⟩
     exact Ab ⟨_,h3,rfl,rfl,h2⟩
    ·cases hk
     cases Option.some.inj ho
     refine Cs rfl (hg 4 (by decide)) GO (IH (T:=(⟨ba,bd,bb,b2,b4,b6,0,a,c,l⟩:Gt)) (k:=1) X0 HJ (by simp) (Yk l) (.inl rfl)) rfl ?_
     rintro v w2 ⟨rfl,h2,h3⟩
     exact Ab ⟨_,h3,rfl,rfl,h2⟩
    ·simp at hk
   ·intro e' w' hds hold hg hx HJ
    have hin:∀ t:Nat,t<7→∀ j,j<9→t≠(fun i=>if i=8 then 7 else 28+i) j:=fun t ht j hj=>by dsimp only; split <;> omega
    obtain ⟨b7,h8,hb7,hn7⟩:=hg 8 (by decide)
    have HB:Ctx w0 [] w' ((b7,Bl 33 (AH G6 Fw))::(tkL ba bd (hs4 l)++[(b6,Bl 139 [Ns b4]),(b4,Bl 136 [FU bb ba bd]),(bb,Bl 69 [.slice a l.length c]),(b2,Bl 33 (AH G6 Fw))])):=Ctx.add HJ hb7 (.inr (Nat.le_trans H.size hn7)) fun x hx he=>by
     have:=hlt x.1 (List.mem_map_of_mem (f:=(·.1)) hx)
     omega
    refine BD (l:=AH G6 Fw) rfl C2 h8 (hg 7 (by decide)) rfl (by simp [Bz]) HB at0 rfl fun w3 H3=>Ab ?_
    exact ⟨b7,hds,⟨h8,trivial⟩,Ctx.perm H3 List.perm_middle.symm⟩
  ·rintro b7 j6 w H
   have X:GFix (⟨ba,bd,bb,b2,b4,b6,b7,a,c,l⟩:Gt) w0:=⟨R,hoff,hc,hm⟩
   have hhub:DO l<256:=P8 _ _
   have hcnt:Ta l<256:=P8 _ _
   have hh1:(nx l 1 (hs4 l)).1<256:=hhub
   have hh2:(nx l 1 (hs5 l)).1<256:=hcnt
   refine Dw 4329327035136 (α:=Unit) (fun _=>[(8,.int .i64 (DO l:Int)),(9,.int .i64 (Ta l:Int))]) (fun _ w'=>Ctx w0 [] w' (gL (⟨ba,bd,bb,b2,b4,b6,b7,a,c,l⟩:Gt) (hd0 l) (gs0 (hs4 l)) (hs6 l))) rfl ?_ ?_
   ·skip
    refine Gm (n:=7) (N:=8) (anc:=Ln 7 [[],[0],[0,1],[],[0,1,3],[0,1,3,4],[0,1,2,3,4]]) [ba,bd] (fun i=>if i=6 then 8 else 36+i) [isV (FU bb ba bd),isV (.int .u64 ((nx l 1 (hs4 l)).1:Int)),isV (.int .i64 ((nx l 1 (hs4 l)).1:Int)),isV (FU bb ba bd),isV (.int .u64 ((nx l 1 (hs5 l)).1:Int)),isV (.int .i64 ((nx l 1 (hs5 l)).1:Int)),isV (.int .i64 (DO l:Int))] [1,4] (fun k w'=>Ctx w0 [] w' (gL (⟨ba,bd,bb,b2,b4,b6,b7,a,c,l⟩:Gt) (hd0 l) (gs0 (hs4 l)) ([hs4 l,hs5 l,hs6 l].getD k (hs4 l)))) (show Tryz.prog.follows .mixedOrders=true by kernel_rfl) rfl (by decide) (by kernel_rfl) (Ey _) (fun i j _ _ h=>by have h:(if i=6 then 8 else 36+i:Nat)=(if j=6 then 8 else 36+j:Nat):=h; split at h <;> split at h <;> omega) ⟨BO _ _,BO _ _,BO _ _,BO _ _,BO _ _,BO _ _,BO _ _,trivial⟩ (by kernel_rfl) (fun k w w2 h hx=>h.call hx) H.drew (by kernel_rfl) ?_ ?_ ?_
    ·rintro m o e' w' hm hic ho hold hg hx ⟨k,HJ⟩
     have hin:∀ t:Nat,t<8→∀ j,j<7→t≠(fun i=>if i=6 then 8 else 36+i) j:=fun t ht j hj=>by dsimp only; split <;> omega
     have g4:e'.g 4=ptr b4:=(hold 4 (hin 4 (by decide))).trans rfl
     have hcs:m=0∨m=1∨m=2∨m=3∨m=4∨m=5∨m=6:=by omega
     rcases hcs with rfl | rfl | rfl | rfl | rfl | rfl | rfl
     ·cases Option.some.inj ho
      exact AX rfl GM g4 (by rw [Ay (HJ.get (k:=4) rfl)]; rfl) (Ab ⟨_,.refl _ _,rfl,rfl⟩)
     ·exact absurd (by decide) hic
     ·cases Option.some.inj ho
      exact Eh rfl (hg 1 (by decide)) FH Gu (by omega) (by omega) (Ab ⟨_,.refl _ _,rfl,rfl⟩)
     ·cases Option.some.inj ho
      exact AX rfl GM g4 (by rw [Ay (HJ.get (k:=4) rfl)]; rfl) (Ab ⟨_,.refl _ _,rfl,rfl⟩)
     ·exact absurd (by decide) hic
     ·cases Option.some.inj ho
      exact Eh rfl (hg 4 (by decide)) FH Gu (by omega) (by omega) (Ab ⟨_,.refl _ _,rfl,rfl⟩)
     ·cases Option.some.inj ho
      exact BW rfl _ (hg 2 (by decide)) (Ab ⟨_,.refl _ _,rfl,rfl⟩)
    ·intro k im o e' w' hk ho hold hg hx HJ
     have hin:∀ t:Nat,t<8→∀ j,j<7→t≠(fun i=>if i=6 then 8 else 36+i) j:=fun t ht j hj=>by dsimp only; split <;> omega
     have g4:e'.g 4=ptr b4:=(hold 4 (hin 4 (by decide))).trans rfl
     rcases k with _ | _ | k
     ·cases hk
      cases Option.some.inj ho
      refine Cs rfl (hg 0 (by decide)) GO (II (T:=(⟨ba,bd,bb,b2,b4,b6,b7,a,c,l⟩:Gt)) (k:=1) X HJ (Yl l) (.inl rfl)) rfl ?_
      rintro v w2 ⟨rfl,h2,h3⟩
      exact Ab ⟨_,h3,rfl,rfl,h2⟩
     ·cases hk
      cases Option.some.inj ho
      refine Cs rfl (hg 3 (by decide)) GO (II (T:=(⟨ba,bd,bb,b2,b4,b6,b7,a,c,l⟩:Gt)) (k:=1) X HJ (Ym l) (.inl rfl)) rfl ?_
      rintro v w2 ⟨rfl,h2,h3⟩
      exact Ab ⟨_,h3,rfl,rfl,h2⟩
     ·simp at hk
    ·intro e' w' hds hold hg hx HJ
     have hin:∀ t:Nat,t<8→∀ j,j<7→t≠(fun i=>if i=6 then 8 else 36+i) j:=fun t ht j hj=>by dsimp only; split <;> omega
     refine BW rfl _ (hg 5 (by decide)) (Ab ?_)
     exact ⟨(),hds,⟨hg 6 (by decide),Dt _ _ _,trivial⟩,HJ.call (.refl _ _)⟩
   ·rintro - j7 w H
    refine Ag (Ad rfl rfl (Ap rfl rfl rfl (by omega) (by omega) ?_))
    refine Ah rfl DG rfl (Ah rfl Dn rfl (Cj (.int _ _) rfl EJ rfl rfl rfl H at2 (by (simp; done)) ?_))
    rintro w H
    refine Ab (Aa (Ag (C1 rfl [ptr b7,ptr b6] rfl ?_)))
    replace H:Ctx w0 [] _ (gL (⟨ba,bd,bb,b2,b4,b6,b7,a,c,l⟩:Gt) (hdP l) (gs0 (hs6 l)) (hs6 l)):=H
    refine BW rfl (.func _ _ _) rfl ?_
    refine Ab (Aa (Aq (Au ?_)))
    obtain ⟨P1,hP1⟩:∃ P,P=Kr l (Ta l) (gs0 (hs6 l)).p:=⟨_,rfl⟩
    refine Bi 604462909666577099000320 (α:=Gs × Nat) (fun z=>[(9,.int .i64 (z.2:Int))]) (fun z w'=>GOk (⟨ba,bd,bb,b2,b4,b6,b7,a,c,l⟩:Gt) (hdP l) w0 w' z.1∧Kr l z.2 z.1.p=P1∧z.1.p.pot.length=0∧z.1.p.ids.length+z.2≤256∧z.1.p.es.length+z.2≤256∧z.1.p.fl.length+z.2≤256) (fun z=>z.2) (gs0 (hs6 l),Ta l) rfl ?_ ?_ ?_
    ·exact ⟨rfl,trivial⟩
    ·refine ⟨⟨H,OS.nil,OS.nil,OS.nil,OS.nil,Ad8 l⟩,hP1.symm,rfl,?_,?_,?_⟩ <;> (simp; omega)
    ·clear H
     rintro ⟨⟨⟨ids,es,fl,pot,p,bad⟩,aI,cI,fI,aE,cE,fE,aF,cF,fF,aP,cP,fP⟩,n⟩ j w ⟨⟨H,OI,OE,OF,OP,hs⟩,hP,hpt,n1,n2,n3⟩; dsimp only at H OI OE OF OP hs hP hpt n1 n2 n3; dsimp only
     refine Aq (Ag (B5 (α:=Unit) 8866461766385664 (fun _=>[(52,.bool (decide (0<(n:Int)) && !bad))]) (fun _ w'=>Ctx w0 [] w' (gL (⟨ba,bd,bb,b2,b4,b6,b7,a,c,l⟩:Gt) (hdP l) ⟨⟨ids,es,fl,pot,p,bad⟩,aI,cI,fI,aE,cE,fE,aF,cF,fF,aP,cP,fP⟩ (p,bad))) rfl ?_ ?_))
     ·refine Ad rfl rfl (C0 rfl rfl rfl (Ak rfl rfl (A8 49 rfl ?_ ?_)))
      ·intro h1
       replace h1:=AF h1
       refine Cd rfl (.func _ _ _) rfl ?_
       refine Cs rfl rfl OX (P7 bd bad _ (H.get (k:=1) rfl)) rfl ?_
       rintro v w ⟨rfl,hx51⟩
       replace H:=H.call hx51
       refine Am rfl rfl (.bool _) rfl (Ab ?_)
       exact ⟨rfl,(),rfl,⟨congrArg Value.bool (by simp_all),trivial⟩,H⟩
      ·intro h2
       replace h2:=AG h2
       refine Ae rfl (Ae rfl (A3 rfl rfl (.bool _) rfl (Ab ?_)))
       exact ⟨rfl,(),rfl,⟨congrArg Value.bool (by simp_all),trivial⟩,H⟩
     rintro - j52 w H
     refine Ax _ rfl ?_ ?_
     ·intro h2
      rw [Bool.and_eq_true,decide_eq_true_eq,Bool.not_eq_true'] at h2
      obtain ⟨h3,rfl⟩:=h2
      obtain ⟨m,rfl⟩:∃ m,n=m+1:=⟨n - 1,by omega⟩
      refine Av (Aa (Aq (Au (Dw 4575657221408423936 (α:=Option Addr × Nat × List Value) (fun _=>[]) (fun z w'=>Ctx w0 [] w' (gL (⟨ba,bd,bb,b2,b4,b6,b7,a,c,l⟩:Gt) (hdP l) ⟨⟨ids++[((nx l 8 (p,false)).1:Int)],es,fl,pot,(nx l 8 (p,false)).2⟩,z.1,z.2.1,z.2.2,aE,cE,fE,aF,cF,fF,aP,cP,fP⟩ (nx l 8 (p,false)).2)∧OS z.1 (ids++[((nx l 8 (p,false)).1:Int)]).length z.2.1 1 z.2.2 ((ids++[((nx l 8 (p,false)).1:Int)]).flatMap U1)) rfl ?_ ?_))))
      ·skip
       have hSw:=Ctx.ltS H
       refine Gm (n:=5) (N:=8) (anc:=Ln 5 [[],[0],[],[2],[2,3]]) [ba,bd] (fun i=>55+i) [isV (.pointer (some ⟨b7,3,none⟩)),isV (.slice aI ids.length cI),isV (FU bb ba bd),isV (.int .u64 ((nx l 8 (p,false)).1:Int)),nsV w 24 1 [.int .u64 ((nx l 8 (p,false)).1:Int)]] [3] (fun k w'=>Ctx w0 [] w' (gL (⟨ba,bd,bb,b2,b4,b6,b7,a,c,l⟩:Gt) (hdP l) ⟨⟨ids,es,fl,pot,p,false⟩,aI,cI,fI,aE,cE,fE,aF,cF,fF,aP,cP,fP⟩ ([(p,false),(nx l 8 (p,false)).2].getD k (p,false)))) (show Tryz.prog.follows .mixedOrders=true by kernel_rfl) rfl (by decide) (by kernel_rfl) (Ey _) (fun i j _ _ h=>by have h:55+i=55+j:=h; omega) ⟨BO _ _,BO _ _,BO _ _,BO _ _,OR hSw _ _ _,trivial⟩ (by kernel_rfl) (fun k w w2 h hx=>h.call hx) H.drew (by kernel_rfl) ?_ ?_ ?_
       ·rintro m o e' w' hm hic ho hold hg hx ⟨k,HJ⟩
        have hin:∀ t:Nat,t<55→∀ j,j<5→t≠(fun i=>55+i) j:=fun t ht j hj=>by dsimp only; omega
        have g4:e'.g 4=ptr b4:=(hold 4 (hin 4 (by decide))).trans rfl
        have g7:e'.g 7=ptr b7:=(hold 7 (hin 7 (by decide))).trans rfl
        have hcs:m=0∨m=1∨m=2∨m=3∨m=4:=by omega
        rcases hcs with rfl | rfl | rfl | rfl | rfl
        ·cases Option.some.inj ho
         exact Ah (off:=3) rfl (by kernel_rfl) g7 (Ab ⟨_,.refl _ _,rfl,rfl⟩)
        ·cases Option.some.inj ho
         exact AX rfl Fm (hg 0 (by decide)) (by rw [Ay (HJ.get (k:=2) rfl)]; rfl) (Ab ⟨_,.refl _ _,rfl,rfl⟩)
        ·cases Option.some.inj ho
         exact AX rfl GM g4 (by rw [Ay (HJ.get (k:=4) rfl)]; rfl) (Ab ⟨_,.refl _ _,rfl,rfl⟩)
        ·exact absurd (by decide) hic
        ·cases Option.some.inj ho
         refine Dm [.int .u64 ((nx l 8 (p,false)).1:Int)] rfl Be AY M4 (by decide) (by decide) ?_ (Ctx.start w' []) ?_
         ·show Instr.fill _ _ [(0,e'.g 58)]=_
          rw [show e'.g 58 = .int .u64 ((nx l 8 (p,false)).1:Int) from (hg 3 (by decide))]
          kernel_rfl
         ·intro b w2 _ H
          exact Ab ⟨_,H.ext,rfl,b,rfl,H.get at0,Nat.le_trans hx.size ((H.own _ (List.mem_cons_self ..)).elim (fun h=>by cases h) id)⟩
       ·intro k im o e' w' hk ho hold hg hx HJ
        have hin:∀ t:Nat,t<55→∀ j,j<5→t≠(fun i=>55+i) j:=fun t ht j hj=>by dsimp only; omega
        have g4:e'.g 4=ptr b4:=(hold 4 (hin 4 (by decide))).trans rfl
        have g7:e'.g 7=ptr b7:=(hold 7 (hin 7 (by decide))).trans rfl
        rcases k with _ | k
        ·cases hk
         cases Option.some.inj ho
         refine Cs rfl (hg 2 (by decide)) GO (II (T:=(⟨ba,bd,bb,b2,b4,b6,b7,a,c,l⟩:Gt)) (k:=8) X HJ hs (.inr (.inr (.inr rfl)))) rfl ?_
         rintro v w2 ⟨rfl,h2,h3⟩
         exact Ab ⟨_,h3,rfl,rfl,h2⟩
        ·simp at hk
       ·intro e' w' hds hold hg hx HJ
        have hin:∀ t:Nat,t<55→∀ j,j<5→t≠(fun i=>55+i) j:=fun t ht j hj=>by dsimp only; omega
        obtain ⟨b4',h4',hb4',hn4'⟩:=hg 4 (by decide)
        refine DT rfl Be Be AY Wk M4 rfl (by decide) [.int .u64 ((nx l 8 (p,false)).1:Int)] (hg 1 (by decide)) h4' (Ctx.perm HJ (Yd _ _ _ _)) OI rfl (by simp [Bz]) (fun j v hv=>⟨_,rfl,by rw [Cx,Nat.zero_add,Ay hb4']; exact hv⟩) (by omega) fun a' c' full' w3 H6 O6=>?_
        replace H6:=H6.perm (Yd _ _ _ _).symm
        rw [show ids.length+1=(ids++[((nx l 8 (p,false)).1:Int)]).length from by simp] at O6 ⊢
        refine Ah (off:=3) rfl (by kernel_rfl) ((hold 7 (hin 7 (by decide))).trans rfl) ?_
        refine Cj (.slice a' (ids++[((nx l 8 (p,false)).1:Int)]).length c') rfl Aaa (Dt _ _ _) rfl rfl H6 at2 (by simp) fun w4 H8=>Ab ?_
        exact ⟨(a',c',full'),hds,trivial,H8,by rw [List.flatMap_append,List.flatMap_singleton]; exact O6⟩
      ·rintro ⟨aI,cI,fI⟩ j12 w ⟨H,OI⟩; dsimp only at H OI; (try dsimp only)
       obtain ⟨idn,hid⟩:∃ x,x=((nx l 8 (p,false)).1:Int):=⟨_,rfl⟩
       obtain ⟨s1,hs1'⟩:∃ x,x=(nx l 8 (p,false)).2:=⟨_,rfl⟩
       rw [← hid,← hs1'] at H
       rw [← hid] at OI
       have k1:s1.1≤l.length:=by rw [hs1']; exact GJ hs
       have k2:(nx l 1 s1).2.1≤l.length:=GJ k1
       have k3:(nx l 1 (nx l 1 s1).2).2.1≤l.length:=GJ k2
       have k4:(nx l 8 (nx l 1 (nx l 1 s1).2).2).2.1≤l.length:=GJ k3
       have v1:=P8 l s1
       have v2:=P8 l (nx l 1 s1).2
       have v5:=Ad7 l (nx l 8 (nx l 1 (nx l 1 s1).2).2).2
       refine Dw 2356571555416395220992 (α:=Nat) (fun b11=>[(11,ptr b11)]) (fun b11 w'=>Ctx w0 [] w' (tkL ba bd (nx l 8 (nx l 1 (nx l 1 s1).2).2).2++((b11,Bl 92 (Bv ⟨((nx l 1 s1).1:Int),((nx l 1 (nx l 1 s1).2).1:Int),s64 (nx l 8 (nx l 1 (nx l 1 s1).2).2).1,0⟩))::(gC (⟨ba,bd,bb,b2,b4,b6,b7,a,c,l⟩:Gt) (hdP l) (⟨⟨ids++[idn],es,fl,pot,s1⟩,aI,cI,fI,aE,cE,fE,aF,cF,fF,aP,cP,fP⟩:Gs)++gE (⟨⟨ids++[idn],es,fl,pot,s1⟩,aI,cI,fI,aE,cE,fE,aF,cF,fF,aP,cP,fP⟩:Gs))))) rfl ?_ ?_
       ·skip
        have hSw:=Ctx.ltS H
        have hlt:=Ctx.ltI H
        refine Gm (n:=10) (N:=11) (anc:=Ln 10 [[],[0],[0,1],[],[0,1,3],[0,1,3,4],[],[0,1,3,4,6],[0,1,2,3,4,5,6,7],[]]) [ba,bd] (fun i=>if i=9 then 11 else 62+i) [isV (FU bb ba bd),isV (.int .u64 ((nx l 1 s1).1:Int)),isV (.int .i64 ((nx l 1 s1).1:Int)),isV (FU bb ba bd),isV (.int .u64 ((nx l 1 (nx l 1 s1).2).1:Int)),isV (.int .i64 ((nx l 1 (nx l 1 s1).2).1:Int)),isV (Ns b4),isV (.int .i64 (s64 (nx l 8 (nx l 1 (nx l 1 s1).2).2).1)),isV (.agg (Bv ⟨((nx l 1 s1).1:Int),((nx l 1 (nx l 1 s1).2).1:Int),s64 (nx l 8 (nx l 1 (nx l 1 s1).2).2).1,0⟩).toArray),nwV w (Bl 92 (Bv ⟨0,0,0,0⟩))] [1,4,7] (fun k w'=>Ctx w0 [] w' (gL (⟨ba,bd,bb,b2,b4,b6,b7,a,c,l⟩:Gt) (hdP l) ⟨⟨ids++[idn],es,fl,pot,s1⟩,aI,cI,fI,aE,cE,fE,aF,cF,fF,aP,cP,fP⟩ ([s1,(nx l 1 s1).2,(nx l 1 (nx l 1 s1).2).2,(nx l 8 (nx l 1 (nx l 1 s1).2).2).2].getD k s1))) (show Tryz.prog.follows .mixedOrders=true by kernel_rfl) rfl (by decide) (by kernel_rfl) (Ey _) (fun i j _ _ h=>by have h:(if i=9 then 11 else 62+i:Nat)=(if j=9 then 11 else 62+j:Nat):=h; split at h <;> split at h <;> omega) ⟨BO _ _,BO _ _,BO _ _,BO _ _,BO _ _,BO _ _,BO _ _,BO _ _,BO _ _,T1 hSw _,trivial⟩ (by kernel_rfl) (fun k w w2 h hx=>h.call hx) H.drew (by kernel_rfl) ?_ ?_ ?_
        ·rintro m o e' w' hm hic ho hold hg hx ⟨k,HJ⟩
         have hin:∀ t:Nat,t<11→∀ j,j<10→t≠(fun i=>if i=9 then 11 else 62+i) j:=fun t ht j hj=>by dsimp only; split <;> omega
         have g4:e'.g 4=ptr b4:=(hold 4 (hin 4 (by decide))).trans rfl
         have g6:e'.g 6=ptr b6:=(hold 6 (hin 6 (by decide))).trans rfl
         have hcs:m=0∨m=1∨m=2∨m=3∨m=4∨m=5∨m=6∨m=7∨m=8∨m=9:=by omega
         rcases hcs with rfl | rfl | rfl | rfl | rfl | rfl | rfl | rfl | rfl | rfl
         ·cases Option.some.inj ho
          exact AX rfl GM g4 (by rw [Ay (HJ.get (k:=4) rfl)]; rfl) (Ab ⟨_,.refl _ _,rfl,rfl⟩)
         ·exact absurd (by decide) hic
         ·cases Option.some.inj ho
          exact Eh rfl (hg 1 (by decide)) FH Gu (by omega) (by omega) (Ab ⟨_,.refl _ _,rfl,rfl⟩)
         ·cases Option.some.inj ho
          exact AX rfl GM g4 (by rw [Ay (HJ.get (k:=4) rfl)]; rfl) (Ab ⟨_,.refl _ _,rfl,rfl⟩)
         ·exact absurd (by decide) hic
         ·cases Option.some.inj ho
          exact Eh rfl (hg 4 (by decide)) FH Gu (by omega) (by omega) (Ab ⟨_,.refl _ _,rfl,rfl⟩)
         ·cases Option.some.inj ho
          exact AX rfl Ms g6 (by rw [Ay (HJ.get (k:=3) rfl)]; rfl) (Ab ⟨_,.refl _ _,rfl,rfl⟩)
         ·exact absurd (by decide) hic
         ·cases Option.some.inj ho
          refine CC (Bv ⟨((nx l 1 s1).1:Int),((nx l 1 (nx l 1 s1).2).1:Int),s64 (nx l 8 (nx l 1 (nx l 1 s1).2).2).1,0⟩) rfl Mz DH ?_ (Ab ⟨_,.refl _ _,rfl,rfl⟩)
          show Instr.fill _ _ [(0,e'.g 64),(1,e'.g 67),(2,e'.g 69)]=_
          rw [show e'.g 64 = .int .i64 ((nx l 1 s1).1:Int) from (hg 2 (by decide)),show e'.g 67 = .int .i64 ((nx l 1 (nx l 1 s1).2).1:Int) from (hg 5 (by decide)),show e'.g 69 = .int .i64 (s64 (nx l 8 (nx l 1 (nx l 1 s1).2).2).1) from (hg 7 (by decide))]
          kernel_rfl
         ·cases Option.some.inj ho
          refine Bm rfl DH (Ctx.start w' []) ?_
          intro b w2 _ H
          exact Ab ⟨_,H.ext,rfl,b,rfl,H.get at0,Nat.le_trans hx.size ((H.own _ (List.mem_cons_self ..)).elim (fun h=>by cases h) id)⟩
        ·intro k im o e' w' hk ho hold hg hx HJ
         have hin:∀ t:Nat,t<11→∀ j,j<10→t≠(fun i=>if i=9 then 11 else 62+i) j:=fun t ht j hj=>by dsimp only; split <;> omega
         have g4:e'.g 4=ptr b4:=(hold 4 (hin 4 (by decide))).trans rfl
         have g6:e'.g 6=ptr b6:=(hold 6 (hin 6 (by decide))).trans rfl
         rcases k with _ | _ | _ | k
         ·cases hk
          cases Option.some.inj ho
          refine Cs rfl (hg 0 (by decide)) GO (II (T:=(⟨ba,bd,bb,b2,b4,b6,b7,a,c,l⟩:Gt)) (k:=1) X HJ k1 (.inl rfl)) rfl ?_
          rintro v w2 ⟨rfl,h2,h3⟩
          exact Ab ⟨_,h3,rfl,rfl,h2⟩
         ·cases hk
          cases Option.some.inj ho
          refine Cs rfl (hg 3 (by decide)) GO (II (T:=(⟨ba,bd,bb,b2,b4,b6,b7,a,c,l⟩:Gt)) (k:=1) X HJ k2 (.inl rfl)) rfl ?_
          rintro v w2 ⟨rfl,h2,h3⟩
          exact Ab ⟨_,h3,rfl,rfl,h2⟩
         ·cases hk
          cases Option.some.inj ho
          refine Cs rfl (hg 6 (by decide)) Qq (LH (T:=(⟨ba,bd,bb,b2,b4,b6,b7,a,c,l⟩:Gt)) X HJ k3) rfl ?_
          rintro v w2 ⟨rfl,h2,h3⟩
          exact Ab ⟨_,h3,rfl,rfl,h2⟩
         ·simp at hk
        ·intro e' w' hds hold hg hx HJ
         have hin:∀ t:Nat,t<11→∀ j,j<10→t≠(fun i=>if i=9 then 11 else 62+i) j:=fun t ht j hj=>by dsimp only; split <;> omega
         obtain ⟨b11,h9,hb11,hn11⟩:=hg 9 (by decide)
         have HB:=Ctx.add HJ hb11 (.inr (Nat.le_trans H.size hn11)) fun x hx he=>by
          have:=hlt x.1 (List.mem_map_of_mem (f:=(·.1)) hx)
          omega
         refine BD (l:=Bv ⟨0,0,0,0⟩) rfl BC h9 (hg 8 (by decide)) rfl (Dk _) HB at0 rfl fun w3 H3=>Ab ?_
         exact ⟨b11,hds,⟨h9,trivial⟩,Ctx.perm H3 List.perm_middle.symm⟩
       ·rintro b11 j13 w H
        obtain ⟨s4,hs4'⟩:∃ x,x=(nx l 8 (nx l 1 (nx l 1 s1).2).2).2:=⟨_,rfl⟩
        rw [← hs4'] at H k4 v5
        refine Ag (AA rfl GM rfl H at5 rfl (Cs rfl rfl GO (IH (T:=(⟨ba,bd,bb,b2,b4,b6,b7,a,c,l⟩:Gt)) (k:=2) X H (by simp) k4 (.inr (.inl rfl))) rfl ?_))
        rintro v w ⟨hv72,H72,-⟩
        replace hv72:v = .int .u64 ((nx l 2 s4).1:Int):=hv72
        subst hv72
        replace H:=H72
        refine Eh rfl rfl FH Sp (by omega) (by omega) ?_
        refine EN rfl rfl (by omega) (by omega) ?_
        refine Ah rfl Dq rfl (Cj (.int .i64 (-((nx l 2 s4).1:Int))) rfl B2 rfl rfl rfl H at2 (show 0+3<4 by decide) ?_)
        rintro w H
        replace H:Ctx w0 [] w (tkL ba bd (nx l 2 s4).2++((b11,Bl 92 (Bv ⟨((nx l 1 s1).1:Int),((nx l 1 (nx l 1 s1).2).1:Int),s64 (nx l 8 (nx l 1 (nx l 1 s1).2).2).1,-((nx l 2 s4).1:Int)⟩))::(gC (⟨ba,bd,bb,b2,b4,b6,b7,a,c,l⟩:Gt) (hdP l) (⟨⟨ids++[idn],es,fl,pot,s1⟩,aI,cI,fI,aE,cE,fE,aF,cF,fF,aP,cP,fP⟩:Gs)++gE (⟨⟨ids++[idn],es,fl,pot,s1⟩,aI,cI,fI,aE,cE,fE,aF,cF,fF,aP,cP,fP⟩:Gs)))):=H
        refine Ab (Aa (Aw (Cd rfl (.func _ _ _) rfl ?_)))
        refine Bh rfl DX BC rfl H at2 rfl (Cs rfl rfl W9 (KH (T:=(⟨ba,bd,bb,b2,b4,b6,b7,a,c,l⟩:Gt)) (h:=hdP l) (g:=⟨⟨ids++[idn],es,fl,pot,(nx l 2 s4).2⟩,aI,cI,fI,aE,cE,fE,aF,cF,fF,aP,cP,fP⟩) X ⟨(Ctx.perm H List.perm_middle).tail,OI,OE,OF,OP,GJ k4⟩ ⟨((nx l 1 s1).1:Int),((nx l 1 (nx l 1 s1).2).1:Int),s64 (nx l 8 (nx l 1 (nx l 1 s1).2).2).1,-((nx l 2 s4).1:Int)⟩ (by dsimp only; omega) (by dsimp only; omega)) rfl ?_)
        rintro v w ⟨g',G',hg'⟩
        refine Ab (A5 (Aa (Aw (Ad rfl rfl (Bf rfl rfl rfl (by omega) (by omega) ?_)))))
        refine Af rfl rfl (Ab (Aa ?_))
        have hP':Kr l m g'.p=P1:=by
         rw [hg',hs4',hid,hs1']
         exact hP
        refine ⟨(g',m),rfl,⟨congrArg (Value.int .i64) (by omega),trivial⟩,⟨G',hP',?_,?_,?_,?_⟩,by dsimp only; omega⟩ <;> dsimp only <;> rw [hg'] <;> simp only [Jw,List.length_append,List.length_cons,List.length_nil] <;> omega
     ·intro h2
      have hPd:(⟨ids,es,fl,pot,p,bad⟩:PRd)=P1:=by
       rw [← hP]
       cases n with
       | zero=>rfl
       | succ n =>
        cases bad with
        | true=>rfl
        | false=>simp at h2
      refine Bd (Aj (Aj (AD (Aa (Aq (Ag (Af rfl rfl (Ab (Aa (Au ?_))))))))))
      have hN : -9223372036854775808<(DO l:Int)+1∧(DO l:Int)+1≤9223372036854775807:=by omega
      obtain ⟨P2,hP2⟩:∃ P,P=if (hdP l).cmp=true then P1 else G5 l (DO l) (DO l) 0 P1:=⟨_,rfl⟩
      refine Bi 40564818602840431040579915223040 (α:=Gs × Nat) (fun z=>[(12,.int .i64 (z.2:Int))]) (fun z w'=>GOk (⟨ba,bd,bb,b2,b4,b6,b7,a,c,l⟩:Gt) (hdP l) w0 w' z.1∧(if (hdP l).cmp=true then z.1.p else G5 l (DO l) (DO l - z.2) z.2 z.1.p)=P2∧z.1.p.pot.length=0∧z.2≤DO l∧z.1.p.ids.length≤256∧z.1.p.es.length≤256+2*z.2∧z.1.p.fl.length≤256+2*z.2) (fun z=>DO l - z.2) (⟨⟨ids,es,fl,pot,p,bad⟩,aI,cI,fI,aE,cE,fE,aF,cF,fF,aP,cP,fP⟩,0) rfl ?_ ?_ ?_
      ·exact ⟨rfl,trivial⟩
      ·refine ⟨⟨H,OI,OE,OF,OP,hs⟩,?_,hpt,Nat.zero_le _,?_,?_,?_⟩
       ·dsimp only
        rw [hPd,hP2]
        rfl
       ·dsimp only; omega
       ·dsimp only; omega
       ·dsimp only; omega
      ·clear H OI OE OF OP hs hPd hP hpt n1 n2 n3 h2
       rintro ⟨⟨⟨ids,es,fl,pot,p,bad⟩,aI,cI,fI,aE,cE,fE,aF,cF,fF,aP,cP,fP⟩,i⟩ j2 w ⟨⟨H,OI,OE,OF,OP,hs⟩,hQ,hpt,n0,n1,n2,n3⟩; dsimp only at H OI OE OF OP hs hQ hpt n0 n1 n2 n3; dsimp only
       refine Aq (Ag (B5 (α:=Unit) 2475275615660953235210895360 (fun _=>[(90,.bool ((decide ((i:Int)<(DO l:Int)) && !(hdP l).cmp) && !bad))]) (fun _ w'=>Ctx w0 [] w' (gL (⟨ba,bd,bb,b2,b4,b6,b7,a,c,l⟩:Gt) (hdP l) ⟨⟨ids,es,fl,pot,p,bad⟩,aI,cI,fI,aE,cE,fE,aF,cF,fF,aP,cP,fP⟩ (p,bad))) rfl ?_ ?_))
       ·refine Ad rfl rfl (Ad rfl rfl (AN rfl rfl rfl (Ak rfl rfl (A8 82 rfl ?_ ?_))))
        ·intro h3
         replace h3:=AF h3
         refine Ah rfl IX rfl (AA rfl Hf rfl H at2 rfl (Bu rfl rfl (Am rfl rfl (.bool _) rfl (Ak rfl rfl (A8 87 rfl ?_ ?_)))))
         ·intro h4
          replace h4:=Bp h4
          refine Cd rfl (.func _ _ _) rfl ?_
          refine Cs rfl rfl OX (P7 bd bad _ (H.get (k:=1) rfl)) rfl ?_
          rintro v w ⟨rfl,hx89⟩
          replace H:=H.call hx89
          refine Am rfl rfl (.bool _) rfl (Ab ?_)
          exact ⟨rfl,(),rfl,⟨congrArg Value.bool (by (simp_all [MV]; done)),trivial⟩,H⟩
         ·intro h5
          replace h5:=Bq h5
          refine Ae rfl (Ae rfl (A3 rfl rfl (.bool _) rfl (Ab ?_)))
          exact ⟨rfl,(),rfl,⟨congrArg Value.bool (by (simp_all [MV]; done)),trivial⟩,H⟩
        ·intro h6
         replace h6:=AG h6
         refine Ae rfl (Ae rfl (Ae rfl (A3 rfl rfl (.bool _) rfl (Ak rfl rfl (Ae rfl (Ae rfl (A3 rfl rfl (.bool _) rfl (Ab ?_))))))))
         exact ⟨rfl,(),rfl,⟨congrArg Value.bool (by (simp_all [MV]; intros; omega)),trivial⟩,H⟩
       rintro - j90 w H
       refine Ax _ rfl ?_ ?_
       ·intro h3
        rw [Bool.and_eq_true,Bool.and_eq_true,decide_eq_true_eq,Bool.not_eq_true',Bool.not_eq_true'] at h3
        obtain ⟨⟨h4,hcm⟩,rfl⟩:=h3
        refine Av (Aa (Aq (Au (Dw 1257747079913946359297510211584 (α:=Gs) (fun _=>[]) (fun g w'=>GOk (⟨ba,bd,bb,b2,b4,b6,b7,a,c,l⟩:Gt) (hdP l) w0 w' g∧g.p=Jw l ⟨(DO l:Int),(i:Int),s64 (nx l 8 (p,false)).1,0⟩ (atP ⟨ids,es,fl,pot,p,false⟩ (nx l 8 (p,false)).2)) rfl ?_ ?_))))
        ·skip
         have hSw:=Ctx.ltS H
         refine Gm (n:=6) (N:=7) (anc:=Ln 6 [[],[],[],[],[3],[1,2,3,4]]) [ba,bd] (fun i=>93+i) [isV (flwV b7 b6),isV (.agg (AH (Ij (hdP l) ⟨ids,es,fl,pot,p,false⟩) ⟨aI,cI,aE,cE,aF,cF,aP,cP⟩).toArray),isV (.int .i64 (i:Int)),isV (Ns b4),isV (.int .i64 (s64 (nx l 8 (p,false)).1)),isV (.agg (Bv ⟨(DO l:Int)+1 - 1,(i:Int),s64 (nx l 8 (p,false)).1,0⟩).toArray)] [4] (fun k w'=>Ctx w0 [] w' (gL (⟨ba,bd,bb,b2,b4,b6,b7,a,c,l⟩:Gt) (hdP l) ⟨⟨ids,es,fl,pot,p,false⟩,aI,cI,fI,aE,cE,fE,aF,cF,fF,aP,cP,fP⟩ ([(p,false),(nx l 8 (p,false)).2].getD k (p,false)))) (show Tryz.prog.follows .mixedOrders=true by kernel_rfl) rfl (by decide) (by kernel_rfl) (Ey _) (fun i j _ _ h=>by have h:93+i=93+j:=h; omega) ⟨BO _ _,BO _ _,BO _ _,BO _ _,BO _ _,BO _ _,trivial⟩ (by kernel_rfl) (fun k w w2 h hx=>h.call hx) H.drew (by kernel_rfl) ?_ ?_ ?_
         ·rintro m o e' w' hm hic ho hold hg hx ⟨k,HJ⟩
          have hin:∀ t:Nat,t<93→∀ j,j<6→t≠(fun i=>93+i) j:=fun t ht j hj=>by dsimp only; omega
          have g6:e'.g 6=ptr b6:=(hold 6 (hin 6 (by decide))).trans rfl
          have g7:e'.g 7=ptr b7:=(hold 7 (hin 7 (by decide))).trans rfl
          have g10:e'.g 10=flwV b7 b6:=(hold 10 (hin 10 (by decide))).trans rfl
          have g12:e'.g 12 = .int .i64 (i:Int):=(hold 12 (hin 12 (by decide))).trans rfl
          have hcs:m=0∨m=1∨m=2∨m=3∨m=4∨m=5:=by omega
          rcases hcs with rfl | rfl | rfl | rfl | rfl | rfl
          ·cases Option.some.inj ho
           exact Cd rfl _ g10 (Ab ⟨_,.refl _ _,rfl,rfl⟩)
          ·cases Option.some.inj ho
           exact Cr (AH (Ij (hdP l) ⟨ids,es,fl,pot,p,false⟩) ⟨aI,cI,aE,cE,aF,cF,aP,cP⟩) rfl CQ C2 g7 rfl (CF (b:=b7) (t:=33) (l:=AH (Ij (hdP l) ⟨ids,es,fl,pot,p,false⟩) ⟨aI,cI,aE,cE,aF,cF,aP,cP⟩) (HJ.get (k:=2) rfl) 0 (AH (Ij (hdP l) ⟨ids,es,fl,pot,p,false⟩) ⟨aI,cI,aE,cE,aF,cF,aP,cP⟩) rfl) (Ab ⟨_,.refl _ _,rfl,rfl⟩)
          ·cases Option.some.inj ho
           exact Cd rfl _ g12 (Ab ⟨_,.refl _ _,rfl,rfl⟩)
          ·cases Option.some.inj ho
           exact AX rfl Ms g6 (by rw [Ay (HJ.get (k:=3) rfl)]; rfl) (Ab ⟨_,.refl _ _,rfl,rfl⟩)
          ·exact absurd (by decide) hic
          ·cases Option.some.inj ho
           refine Ao rfl ZW (Aai (Ij (hdP l) ⟨ids,es,fl,pot,p,false⟩) ⟨aI,cI,aE,cE,aF,cF,aP,cP⟩ (i:Int) (s64 (nx l 8 (p,false)).1) _ hN) ?_ ?_
           ·show [e'.g 94,e'.g 95,e'.g 97]=_
            rw [show e'.g 94 = .agg (AH (Ij (hdP l) ⟨ids,es,fl,pot,p,false⟩) ⟨aI,cI,aE,cE,aF,cF,aP,cP⟩).toArray from hg 1 (by decide),show e'.g 95 = .int .i64 (i:Int) from hg 2 (by decide),show e'.g 97 = .int .i64 (s64 (nx l 8 (p,false)).1) from hg 4 (by decide)]
           ·rintro v w2 ⟨rfl,h2⟩
            exact Ab ⟨_,h2,rfl,rfl⟩
         ·intro k im o e' w' hk ho hold hg hx HJ
          have hin:∀ t:Nat,t<93→∀ j,j<6→t≠(fun i=>93+i) j:=fun t ht j hj=>by dsimp only; omega
          have g6:e'.g 6=ptr b6:=(hold 6 (hin 6 (by decide))).trans rfl
          have g7:e'.g 7=ptr b7:=(hold 7 (hin 7 (by decide))).trans rfl
          have g10:e'.g 10=flwV b7 b6:=(hold 10 (hin 10 (by decide))).trans rfl
          have g12:e'.g 12 = .int .i64 (i:Int):=(hold 12 (hin 12 (by decide))).trans rfl
          rcases k with _ | k
          ·cases hk
           cases Option.some.inj ho
           refine Cs rfl (hg 3 (by decide)) Qq (LH (T:=(⟨ba,bd,bb,b2,b4,b6,b7,a,c,l⟩:Gt)) X HJ hs) rfl ?_
           rintro v w2 ⟨rfl,h2,h3⟩
           exact Ab ⟨_,h3,rfl,rfl,h2⟩
          ·simp at hk
         ·intro e' w' hds hold hg hx HJ
          have hin:∀ t:Nat,t<93→∀ j,j<6→t≠(fun i=>93+i) j:=fun t ht j hj=>by dsimp only; omega
          refine Cs rfl (hg 0 (by decide)) W9 (KH (T:=(⟨ba,bd,bb,b2,b4,b6,b7,a,c,l⟩:Gt)) (h:=hdP l) (g:=⟨⟨ids,es,fl,pot,(nx l 8 (p,false)).2⟩,aI,cI,fI,aE,cE,fE,aF,cF,fF,aP,cP,fP⟩) X ⟨HJ,OI,OE,OF,OP,GJ hs⟩ ⟨(DO l:Int)+1 - 1,(i:Int),s64 (nx l 8 (p,false)).1,0⟩ (by dsimp only; omega) (by dsimp only; omega)) ?_ ?_
          ·show _++([e'.g 98]++_)=_
           rw [show e'.g 98 = .agg (Bv ⟨(DO l:Int)+1 - 1,(i:Int),s64 (nx l 8 (p,false)).1,0⟩).toArray from hg 5 (by decide)]
           rfl
          ·rintro v w2 ⟨g',G',hg'⟩
           refine Ab ?_
           exact ⟨g',hds,trivial,G',by rw [hg',Int.add_sub_cancel]; rfl⟩
        ·rintro ⟨⟨ids',es',fl',pot',s'⟩,aI,cI,fI,aE,cE,fE,aF,cF,fF,aP,cP,fP⟩ j19 w ⟨⟨H,OI,OE,OF,OP,hs'⟩,hg19⟩; dsimp only at H OI OE OF OP hs' hg19; (try dsimp only)
         have e1:ids'.length=ids.length∧es'.length=es.length+1∧fl'.length=fl.length+1∧pot'=pot:=by
          simp only [Jw,atP,PRd.mk.injEq] at hg19
          obtain ⟨rfl,rfl,rfl,rfl,-⟩:=hg19
          simp
         refine Aw (Cd rfl (.func _ _ _) rfl ?_)
         refine Bh rfl CQ C2 rfl H at2 rfl (Ad rfl rfl (Ao rfl ZX (XH (Ij (hdP l) ⟨ids',es',fl',pot',s'⟩) ⟨aI,cI,aE,cE,aF,cF,aP,cP⟩ (i:Int) _ hN) rfl ?_))
         rintro v w ⟨rfl,hx103⟩
         replace H:=H.call hx103
         refine Cs rfl rfl W9 (KH (T:=(⟨ba,bd,bb,b2,b4,b6,b7,a,c,l⟩:Gt)) (h:=hdP l) (g:=⟨⟨ids',es',fl',pot',s'⟩,aI,cI,fI,aE,cE,fE,aF,cF,fF,aP,cP,fP⟩) X ⟨H,OI,OE,OF,OP,hs'⟩ ⟨(i:Int),(DO l:Int)+1 - 1,4503599627370496,0⟩ (by dsimp only; omega) (by dsimp only; omega)) rfl ?_
         rintro v w ⟨g',G',hg'⟩
         refine Ab (A5 (Aa (Aw (Ad rfl rfl (Ap rfl rfl rfl (by omega) (by omega) ?_)))))
         refine Af rfl rfl (Ab (Aa ?_))
         have hQ':(if (hdP l).cmp=true then g'.p else G5 l (DO l) (DO l - (i+1)) (i+1) g'.p)=P2:=by
          rw [← hQ,if_neg (by rw [hcm]; decide),if_neg (by rw [hcm]; decide),show DO l - i=(DO l - (i+1))+1 from by omega]
          show _=G5 l (DO l) (DO l - (i+1)) (i+1) (Ui l (DO l) i ⟨ids,es,fl,pot,p,false⟩)
          rw [hg',hg19,Int.add_sub_cancel]
          rfl
         refine ⟨(g',i+1),rfl,⟨rfl,trivial⟩,⟨G',hQ',?_,?_,?_,?_,?_⟩,by dsimp only; omega⟩ <;> dsimp only <;> (try rw [hg']) <;> (try simp only [Jw,List.length_append,List.length_cons,List.length_nil]) <;> (try rw [e1.2.2.2]) <;> omega
       ·intro h3
        have hQd:(⟨ids,es,fl,pot,p,bad⟩:PRd)=P2:=by
         rw [← hQ]
         by_cases hcm:(hdP l).cmp=true
         ·rw [if_pos hcm]
         ·rw [if_neg hcm]
          cases hn:DO l - i with
          | zero=>rfl
          | succ n =>
           cases bad with
           | true=>rfl
           | false =>
            exfalso
            have h5:i<DO l:=by omega
            simp [hcm] at h3
            omega
        refine Bd (Aj (Aj (AD (Aa (Aq (Ag (Af rfl rfl (Ab (Aa (Au ?_))))))))))
        obtain ⟨P3,hP3⟩:∃ P,P=Ks l (DO l+1) P2:=⟨_,rfl⟩
        refine Bi 10633783401460119679889608587740192768 (α:=Gs × Nat) (fun z=>[(13,.int .i64 (z.2:Int))]) (fun z w'=>GOk (⟨ba,bd,bb,b2,b4,b6,b7,a,c,l⟩:Gt) (hdP l) w0 w' z.1∧Ks l (DO l+1 - z.2) z.1.p=P3∧z.1.p.pot.length≤z.2∧z.2≤DO l+1∧z.1.p.ids.length≤256∧z.1.p.es.length≤1000∧z.1.p.fl.length≤1000) (fun z=>DO l+1 - z.2) (⟨⟨ids,es,fl,pot,p,bad⟩,aI,cI,fI,aE,cE,fE,aF,cF,fF,aP,cP,fP⟩,0) rfl ?_ ?_ ?_
        ·exact ⟨rfl,trivial⟩
        ·refine ⟨⟨H,OI,OE,OF,OP,hs⟩,?_,?_,Nat.zero_le _,n1,?_,?_⟩
         ·dsimp only
          rw [hQd,hP3]
          rfl
         ·dsimp only; omega
         ·dsimp only; omega
         ·dsimp only; omega
        ·clear H OI OE OF OP hs hQd hQ hpt n1 n2 n3 n0 h3
         rintro ⟨⟨⟨ids,es,fl,pot,p,bad⟩,aI,cI,fI,aE,cE,fE,aF,cF,fF,aP,cP,fP⟩,i⟩ j3 w ⟨⟨H,OI,OE,OF,OP,hs⟩,hQ,hpt,n0,n1,n2,n3⟩; dsimp only at H OI OE OF OP hs hQ hpt n0 n1 n2 n3; dsimp only
         refine Aq (Ag (B5 (α:=Unit) 5151732039327524287682601826648064 (fun _=>[(111,.bool (decide ((i:Int)≤(DO l:Int)) && !bad))]) (fun _ w'=>Ctx w0 [] w' (gL (⟨ba,bd,bb,b2,b4,b6,b7,a,c,l⟩:Gt) (hdP l) ⟨⟨ids,es,fl,pot,p,bad⟩,aI,cI,fI,aE,cE,fE,aF,cF,fF,aP,cP,fP⟩ (p,bad))) rfl ?_ ?_))
         ·refine Ad rfl rfl (Ad rfl rfl (J3 rfl rfl rfl (Ak rfl rfl (A8 108 rfl ?_ ?_))))
          ·intro h7
           replace h7:=AF h7
           refine Cd rfl (.func _ _ _) rfl ?_
           refine Cs rfl rfl OX (P7 bd bad _ (H.get (k:=1) rfl)) rfl ?_
           rintro v w ⟨rfl,hx110⟩
           replace H:=H.call hx110
           refine Am rfl rfl (.bool _) rfl (Ab ?_)
           exact ⟨rfl,(),rfl,⟨congrArg Value.bool (by (simp_all; done)),trivial⟩,H⟩
          ·intro h8
           replace h8:=AG h8
           refine Ae rfl (Ae rfl (A3 rfl rfl (.bool _) rfl (Ab ?_)))
           exact ⟨rfl,(),rfl,⟨congrArg Value.bool (by (simp_all; intros; omega)),trivial⟩,H⟩
         rintro - j111 w H
         refine Ax _ rfl ?_ ?_
         ·intro h3
          rw [Bool.and_eq_true,decide_eq_true_eq,Bool.not_eq_true'] at h3
          obtain ⟨h4,rfl⟩:=h3
          refine Av (Aa (Aq (Au (OQ 10613054778845187672716334496925876224 (α:=Option Addr × Nat × List Value) (fun _=>[]) (fun z w'=>Ctx w0 [] w' (gL (⟨ba,bd,bb,b2,b4,b6,b7,a,c,l⟩:Gt) (hdP l) ⟨⟨ids,es,fl,pot++[s64 (nx l 8 (p,false)).1],(nx l 8 (p,false)).2⟩,aI,cI,fI,aE,cE,fE,aF,cF,fF,z.1,z.2.1,z.2.2⟩ (nx l 8 (p,false)).2)∧OS z.1 (pot++[s64 (nx l 8 (p,false)).1]).length z.2.1 1 z.2.2 ((pot++[s64 (nx l 8 (p,false)).1]).flatMap I1)) rfl ?_ ?_))))
          ·skip
           have hSw:=Ctx.ltS H
           refine Gm (n:=6) (N:=10) (anc:=Ln 6 [[],[0],[0,1],[],[3],[3,4]]) [ba,bd] (fun i=>114+i) [isV (.pointer (some ⟨b7,6,none⟩)),isV (.pointer (some ⟨b7,7,none⟩)),isV (.slice aP pot.length cP),isV (Ns b4),isV (.int .i64 (s64 (nx l 8 (p,false)).1)),nsV w 2 1 [.int .i64 (s64 (nx l 8 (p,false)).1)]] [4] (fun k w'=>Ctx w0 [] w' (gL (⟨ba,bd,bb,b2,b4,b6,b7,a,c,l⟩:Gt) (hdP l) ⟨⟨ids,es,fl,pot,p,false⟩,aI,cI,fI,aE,cE,fE,aF,cF,fF,aP,cP,fP⟩ ([(p,false),(nx l 8 (p,false)).2].getD k (p,false)))) (show Tryz.prog.follows .mixedOrders=true by kernel_rfl) rfl (by decide) (by kernel_rfl) (Ey _) (fun i j _ _ h=>by have h:114+i=114+j:=h; omega) ⟨BO _ _,BO _ _,BO _ _,BO _ _,BO _ _,OR hSw _ _ _,trivial⟩ (by kernel_rfl) (fun k w w2 h hx=>h.call hx) H.drew (by kernel_rfl) ?_ ?_ ?_
           ·rintro m o e' w' hm hic ho hold hg hx ⟨k,HJ⟩
            have hin:∀ t:Nat,t<114→∀ j,j<6→t≠(fun i=>114+i) j:=fun t ht j hj=>by dsimp only; omega
            have g6:e'.g 6=ptr b6:=(hold 6 (hin 6 (by decide))).trans rfl
            have g7:e'.g 7=ptr b7:=(hold 7 (hin 7 (by decide))).trans rfl
            have hcs:m=0∨m=1∨m=2∨m=3∨m=4∨m=5:=by omega
            rcases hcs with rfl | rfl | rfl | rfl | rfl | rfl
            ·cases Option.some.inj ho
             exact Ah (off:=6) rfl (by kernel_rfl) g7 (Ab ⟨_,.refl _ _,rfl,rfl⟩)
            ·cases Option.some.inj ho
             exact Ah (off:=1) rfl (by kernel_rfl) (hg 0 (by decide)) (Ab ⟨_,.refl _ _,rfl,rfl⟩)
            ·cases Option.some.inj ho
             exact AX rfl BF (hg 1 (by decide)) (by rw [Ay (HJ.get (k:=2) rfl)]; rfl) (Ab ⟨_,.refl _ _,rfl,rfl⟩)
            ·cases Option.some.inj ho
             exact AX rfl Ms g6 (by rw [Ay (HJ.get (k:=3) rfl)]; rfl) (Ab ⟨_,.refl _ _,rfl,rfl⟩)
            ·exact absurd (by decide) hic
            ·cases Option.some.inj ho
             refine Dm [.int .i64 (s64 (nx l 8 (p,false)).1)] rfl AR B2 GP (by decide) (by decide) ?_ (Ctx.start w' []) ?_
             ·show Instr.fill _ _ [(0,e'.g 118)]=_
              rw [show e'.g 118 = .int .i64 (s64 (nx l 8 (p,false)).1) from (hg 4 (by decide))]
              kernel_rfl
             ·intro b w2 _ H
              exact Ab ⟨_,H.ext,rfl,b,rfl,H.get at0,Nat.le_trans hx.size ((H.own _ (List.mem_cons_self ..)).elim (fun h=>by cases h) id)⟩
           ·intro k im o e' w' hk ho hold hg hx HJ
            have hin:∀ t:Nat,t<114→∀ j,j<6→t≠(fun i=>114+i) j:=fun t ht j hj=>by dsimp only; omega
            have g6:e'.g 6=ptr b6:=(hold 6 (hin 6 (by decide))).trans rfl
            have g7:e'.g 7=ptr b7:=(hold 7 (hin 7 (by decide))).trans rfl
            rcases k with _ | k
            ·cases hk
             cases Option.some.inj ho
             refine Cs rfl (hg 3 (by decide)) Qq (LH (T:=(⟨ba,bd,bb,b2,b4,b6,b7,a,c,l⟩:Gt)) X HJ hs) rfl ?_
             rintro v w2 ⟨rfl,h2,h3⟩
             exact Ab ⟨_,h3,rfl,rfl,h2⟩
            ·simp at hk
           ·intro e' w' hds hold hg hx HJ
            have hin:∀ t:Nat,t<114→∀ j,j<6→t≠(fun i=>114+i) j:=fun t ht j hj=>by dsimp only; omega
            obtain ⟨b5',h5',hb5',hn5'⟩:=hg 5 (by decide)
            refine DT rfl AR AR B2 OV GP rfl (by decide) [.int .i64 (s64 (nx l 8 (p,false)).1)] (hg 2 (by decide)) h5' (Ctx.perm HJ (Yg _ _ _ _ _ _)) OP rfl (by simp [Bz]) (fun j v hv=>⟨_,rfl,by rw [Cx,Nat.zero_add,Ay hb5']; exact hv⟩) (by omega) fun a' c' full' w3 H6 O6=>?_
            replace H6:=H6.perm (Yg _ _ _ _ _ _).symm
            rw [show pot.length+1=(pot++[s64 (nx l 8 (p,false)).1]).length from by simp] at O6 ⊢
            refine Ah (off:=6) rfl (by kernel_rfl) ((hold 7 (hin 7 (by decide))).trans rfl) ?_
            refine Ah (off:=1) rfl (by kernel_rfl) (Dt _ _ _) ?_
            refine Cj (.slice a' (pot++[s64 (nx l 8 (p,false)).1]).length c') rfl WD (Dt _ _ _) rfl rfl H6 at2 (by simp) fun w4 H8=>Ab ?_
            exact ⟨rfl,(a',c',full'),hds,trivial,H8,by rw [List.flatMap_append,List.flatMap_singleton]; exact O6⟩
          ·rintro ⟨aP,cP,fP⟩ j24 w ⟨H,OP⟩; dsimp only at H OP; (try dsimp only)
           refine A5 (Aa (Aw (Ad rfl rfl (Ap rfl rfl rfl (by omega) (by omega) ?_))))
           refine Af rfl rfl (Ab (Aa ?_))
           have hQ':Ks l (DO l+1 - (i+1)) ⟨ids,es,fl,pot++[s64 (nx l 8 (p,false)).1],(nx l 8 (p,false)).2⟩=P3:=by
            rw [← hQ,show DO l+1 - i=(DO l+1 - (i+1))+1 from by omega]
            rfl
           refine ⟨(⟨⟨ids,es,fl,pot++[s64 (nx l 8 (p,false)).1],(nx l 8 (p,false)).2⟩,aI,cI,fI,aE,cE,fE,aF,cF,fF,aP,cP,fP⟩,i+1),rfl,⟨rfl,trivial⟩,⟨⟨H,OI,OE,OF,OP,GJ hs⟩,hQ',?_,?_,n1,n2,n3⟩,by dsimp only; omega⟩
           ·dsimp only; rw [List.length_append,List.length_singleton]; omega
           ·dsimp only; omega
         ·intro h3
          have hL:(⟨ids,es,fl,pot,p,bad⟩:PRd)=Jx l:=by
           have h5:Jx l=P3:=by
            rw [hP3,hP2,hP1]
            rfl
           rw [h5,← hQ]
           cases hn:DO l+1 - i with
           | zero=>rfl
           | succ n =>
            cases bad with
            | true=>rfl
            | false =>
             exfalso
             simp at h3
             omega
          have hr0:Ij (hdP l) ⟨ids,es,fl,pot,p,bad⟩=HZ l:=by unfold HZ; rw [hL]
          have hbad:(Jx l).s.2=bad:=by rw [← hL]
          have hids:∀ x∈ids,0≤x∧x<18446744073709551616:=by
           have h5:=Rh l
           rw [← hL] at h5
           exact h5
          have hRA:∀ {w:World},(∀ x∈gE ⟨⟨ids,es,fl,pot,p,bad⟩,aI,cI,fI,aE,cE,fE,aF,cF,fF,aP,cP,fP⟩,w.heap[x.1]? = some x.2)→RAt w (Ij (hdP l) ⟨ids,es,fl,pot,p,bad⟩) ⟨aI,cI,aE,cE,aF,cF,aP,cP⟩:=fun {w} m=>by
           exact ⟨OS.rd OI (fun x hx=>m x (List.mem_append_left _ hx)) (by simp) (by decide),OS.rd OE (fun x hx=>m x (List.mem_append_right _ (List.mem_append_left _ hx))) (fun _ _=>rfl) (by decide),OS.rd OF (fun x hx=>m x (List.mem_append_right _ (List.mem_append_right _ (List.mem_append_left _ hx)))) (by simp) (by decide),OS.rd OP (fun x hx=>m x (List.mem_append_right _ (List.mem_append_right _ (List.mem_append_right _ hx)))) (by simp) (by decide),OF.le⟩
          have hpl:pot.length≤1000:=by omega
          have hno:=Ya l (k:=8) (by decide) (hs1 l)
          refine Bd (Aj (Aj (AD (Aa (Aq (Ag (Bh rfl CQ C2 rfl H at2 rfl (Ao rfl T4 (LF (Ij (hdP l) ⟨ids,es,fl,pot,p,bad⟩) ⟨aI,cI,aE,cE,aF,cF,aP,cP⟩ _ (hRA fun x hx=>H.blk x (List.mem_append_right _ (List.mem_append_right _ hx))) OE.le ⟨⟨by show _≤(DO l:Int)+1; omega,by show (DO l:Int)+1≤_; omega⟩,by show es.length≤_; omega,by show ids.length≤_; omega,by show fl.length≤_; omega,by show pot.length≤_; omega⟩ ⟨⟨by show (0:Int)≤((nx l 8 (hs1 l)).1:Int); omega,by show ((nx l 8 (hs1 l)).1:Int)<_; omega⟩,hids,Yn _⟩) rfl ?_))))))))
          rintro v w2 ⟨hT,hF⟩
          obtain ⟨a9,c9,bs,e9,rfl,R9,hx9,hT9,hF9⟩:=V6 hT hF
          replace H:=H.call hx9
          refine BG rfl rfl (A7 rfl rfl rfl (A7 rfl rfl rfl (AJ rfl rfl (Af rfl rfl (Ab (Aa (Ag (B5 (α:=Unit) 2787252867449406954228501409473613420036096 (fun _=>[(140,.bool (!(!bad && (decide (e9=0) && decide (bs=l)))))]) (fun _ w'=>Ctx w0 [] w' (gL (⟨ba,bd,bb,b2,b4,b6,b7,a,c,l⟩:Gt) (hdP l) ⟨⟨ids,es,fl,pot,p,bad⟩,aI,cI,fI,aE,cE,fE,aF,cF,fF,aP,cP,fP⟩ (p,bad))) rfl ?_ ?_))))))))
          ·refine Cd rfl (.func _ _ _) rfl ?_
           refine Cs rfl rfl OX (P7 bd bad _ (H.get (k:=1) rfl)) rfl ?_
           rintro v w ⟨rfl,hx129⟩
           replace H:=H.call hx129
           replace R9:=R9.ext0 hx129
           refine Bu rfl rfl (Ak rfl rfl (A8 131 rfl ?_ ?_))
           ·intro h9
            replace h9:=Bp h9
            refine Ae rfl (Ae rfl (Am rfl rfl (.bool _) rfl (Ak rfl rfl (Ae rfl (Ae rfl (Ae rfl (Ae rfl (Am rfl rfl (.bool _) rfl (Ab ?_)))))))))
            exact ⟨rfl,(),rfl,⟨congrArg Value.bool (by (simp_all; done)),trivial⟩,H⟩
           ·intro h10
            replace h10:=Bq h10
            refine Ad rfl rfl (CH rfl rfl rfl (A3 rfl rfl (.bool _) rfl (Ak rfl rfl (A8 135 rfl ?_ ?_))))
            ·intro h11
             replace h11:=CO h11
             refine Ae rfl (Ae rfl (Ae rfl (Ae rfl (Am rfl rfl (.bool _) rfl (Ab ?_)))))
             exact ⟨rfl,(),rfl,⟨congrArg Value.bool (by (simp_all; done)),trivial⟩,H⟩
            ·intro h12
             replace h12:=CP h12
             refine An rfl rfl (An rfl rfl (Ao rfl ca_84 (V5 a9 a c9 c _ _ bs l R9 (R.ext0 H.ext) rfl rfl) rfl ?_))
             rintro v w ⟨rfl,rfl⟩
             refine Bu rfl rfl (A3 rfl rfl (.bool _) rfl (Ab ?_))
             exact ⟨rfl,(),rfl,⟨congrArg Value.bool (by (simp_all; done)),trivial⟩,H⟩
          rintro - j140 w H
          have hgetB:FZ l=(!bad && (decide (e9=0) && decide (bs=l))):=by
           unfold FZ
           rw [hbad,← hr0]
           cases hw:BA (Ij (hdP l) ⟨ids,es,fl,pot,p,bad⟩) with
           | true =>
            obtain ⟨rfl,rfl⟩:=hT9 hw
            simp
           | false =>
            obtain rfl:=hF9 hw
            simp
          refine Ax _ rfl ?_ ?_
          ·intro h4
           replace h4:=Bp h4
           have hgf:FZ l=false:=by rw [hgetB]; simpa using h4
           refine Ag (CC (AH G6 Fw) rfl Qt FI (by kernel_rfl) ?_)
           refine BD rfl C2 rfl rfl rfl (by exact (by decide)) H at6 rfl ?_
           rintro w H
           refine Af rfl rfl (Ab (Aa (A9 (Al (JV rfl rfl rfl CQ C2 H at6 rfl (show _=(.int _ _) from rfl) ?_)))))
           exact ⟨fun _=>⟨fun h=>(by rw [hgf] at h; cases h),fun _=>rfl,H.ext⟩,fun h=>(by rw [h] at h1; cases h1)⟩
          ·intro h4
           replace h4:=Bq h4
           have hgt:FZ l=true:=by rw [hgetB]; simpa using h4
           refine Av (Aa (Ag (Bh rfl CQ C2 rfl H at2 rfl (BD rfl C2 rfl rfl rfl (by exact (by simp [Bz])) H at6 rfl ?_))))
           rintro w H
           refine Af rfl rfl (Ab (Aa (A9 (JV rfl rfl rfl CQ C2 H at6 rfl (show _=(.int _ _) from rfl) ?_))))
           have HE:Ctx w0 [] _ (gE ⟨⟨ids,es,fl,pot,p,bad⟩,aI,cI,fI,aE,cE,fE,aF,cF,fF,aP,cP,fP⟩):=H.drop 7
           refine ⟨fun _=>⟨fun _=>⟨⟨aI,cI,aE,cE,aF,cF,aP,cP⟩,by rw [← hr0],by rw [← hr0]; exact hRA fun x hx=>HE.blk x hx,by rw [← hr0]; exact OE.le,?_⟩,fun h=>(by rw [hgt] at h; cases h),H.ext⟩,fun h=>(by rw [h] at h1; cases h1)⟩
           intro x hx q hq
           simp only [List.mem_cons,List.not_mem_nil,or_false] at hx
           rcases hx with rfl | rfl | rfl | rfl <;> subst hq
           ·exact (HE.own (q.block,Bl 24 fI) (List.mem_append_left _ (List.mem_singleton.2 rfl))).elim (fun h=>by cases h) id
           ·exact (HE.own (q.block,Bl 92 fE) (List.mem_append_right _ (List.mem_append_left _ (List.mem_singleton.2 rfl)))).elim (fun h=>by cases h) id
           ·exact (HE.own (q.block,Bl 2 fF) (List.mem_append_right _ (List.mem_append_right _ (List.mem_append_left _ (List.mem_singleton.2 rfl))))).elim (fun h=>by cases h) id
           ·exact (HE.own (q.block,Bl 2 fP) (List.mem_append_right _ (List.mem_append_right _ (List.mem_append_right _ (List.mem_singleton.2 rfl))))).elim (fun h=>by cases h) id
end Go.Proofs.YtapphbmlkdhnmaaGreat

/- The bytes of a right round: its sum, how many there are, and that they are read as they were put. -/
namespace Go.Proofs.YtapphbmlkdhnmaaGreat
open Go.GV

/-! ### The sum -/
theorem V7 {l:List UInt8} (h:4≤l.length):∃ m a b c d,l=m++[a,b,c,d]:=by
 refine ⟨l.take (l.length - 4),?_⟩
 have h1:(l.drop (l.length - 4)).length=4:=by rw [List.length_drop]; omega
 match h2:l.drop (l.length - 4),h1 with
 | [a,b,c,d],_=>exact ⟨a,b,c,d,by rw [← h2,List.take_append_drop]⟩
theorem Ot (l:List UInt8) (a b c d:UInt8):Es (l++[a,b,c,d])=decide ((Px l).toNat=EZ [a,b,c,d]):=by
 unfold Es
 have h1:(l++[a,b,c,d]).length - 4=l.length:=by simp
 rw [h1,List.take_left,List.drop_left]
 simp
theorem Rj {s:Nat} (h:s<4294967296):EZ (leB s 4)=s:=by
 rw [P6]
 simp only [EZ,UInt8.toNat_ofNat',Nat.reducePow]
 omega
theorem V8 (l:List UInt8):Es (l++leB (Px l).toNat 4)=true:=by
 have h:=Rj (Px l).isLt
 rw [P6] at h ⊢
 rw [Ot,decide_eq_true_eq]
 exact h.symm
theorem Li (r:Rnd):Es (Ca r)=true:=V8 _
theorem LI {l:List UInt8} (h:FZ l=true):(Jx l).s.2=false∧BA (HZ l)=true∧Ca (HZ l)=l:=by
 unfold FZ at h
 simpa [Bool.and_eq_true] using h
theorem Tb {l:List UInt8} (h:FZ l=true):Es l=true:=by
 rw [← (LI h).2.2]
 exact Li _
theorem MX {l:List UInt8} (h:Es l=false):FZ l=false:=by
 cases h2:FZ l with
 | false=>rfl
 | true=>rw [Tb h2] at h; cases h

/-! ### Bits turned -/
def KI:BitVec 32:=Cg 32 (~~~ 0#32)
theorem P9 {x n:Nat} (z:Nat) (h:x<2 ^ n):x ^^^ (z*2 ^ n)=x+z*2 ^ n:=by
 rw [Nat.add_comm,Nat.mul_comm,Nat.two_pow_add_eq_or_of_lt h]
 apply Nat.eq_of_testBit_eq
 intro i
 rw [Nat.testBit_xor,Nat.testBit_or,Nat.testBit_two_pow_mul]
 by_cases hi:i<n
 ·rw [decide_eq_false (show ¬ n≤i by omega)]; simp
 ·rw [Nat.testBit_lt_two_pow (Nat.lt_of_lt_of_le h (Nat.pow_le_pow_right (by decide) (by omega)))]; simp
theorem Ou {a b c d:UInt8}:(Lh a b c d).toNat=EZ [a,b,c,d]:=by
 have ha:=a.toNat_lt
 have hb:=b.toNat_lt
 have hc:=c.toNat_lt
 have hd:=d.toNat_lt
 unfold Lh
 rw [BitVec.toNat_xor,BitVec.toNat_xor,BitVec.toNat_xor,BitVec.toNat_shiftLeft,BitVec.toNat_shiftLeft,BitVec.toNat_shiftLeft,IE,IE,IE,IE,Nat.shiftLeft_eq,Nat.shiftLeft_eq,Nat.shiftLeft_eq,
  Nat.mod_eq_of_lt (show b.toNat*2 ^ 8<2 ^ 32 by omega),Nat.mod_eq_of_lt (show c.toNat*2 ^ 16<2 ^ 32 by omega),Nat.mod_eq_of_lt (show d.toNat*2 ^ 24<2 ^ 32 by omega),
  P9 (n:=8) _ (by omega),P9 (n:=16) _ (by omega),P9 (n:=24) _ (by omega)]
 simp only [EZ]
 omega
theorem Lj {l:List UInt8} (hl:4≤l.length) (h:Es l=true):l.foldl E2 (~~~ 0#32)=KI:=by
 obtain ⟨m,a,b,c,d,rfl⟩:=V7 hl
 rw [Ot,decide_eq_true_eq,← Ou] at h
 rw [List.foldl_append,four]
 unfold KI
 unfold Px XO at h
 have h1:=BitVec.eq_of_toNat_eq h
 revert h1
 generalize m.foldl E2 (~~~ 0#32)=s
 intro h1
 rw [← h1]
 congr 1
 apply BitVec.eq_of_getLsbD_eq
 intro i hi
 rw [BitVec.getLsbD_xor,BitVec.getLsbD_not,BitVec.getLsbD_not,BitVec.getLsbD_zero]
 cases s.getLsbD i <;> simp [hi]
theorem Rl:∀ (l:List UInt8) (w v:BitVec 32),l.foldl E2 (w ^^^ v)=l.foldl E2 w ^^^ Cg (8*l.length) v
 | [],w,v=>rfl
 | x::l,w,v=>by
  have h1:E2 (w ^^^ v) x=E2 w x ^^^ Cg 8 v:=by
   unfold E2
   rw [show w ^^^ v ^^^ De x=(w ^^^ De x) ^^^ v by ac_rfl,EY]
  rw [List.foldl_cons,List.foldl_cons,h1,Rl l,EF]
  congr 2
  rw [List.length_cons]; omega
theorem Hv:∀ (l:List UInt8) (p:Nat) (c:UInt8) (w:BitVec 32),p<l.length→(l.modify p fun x=>x ^^^ c).foldl E2 w=l.foldl E2 w ^^^ Cg (8*(l.length - p)) (De c)
 | [],p,c,w,h=>absurd h (Nat.not_lt_zero _)
 | x::l,0,c,w,_=>by
  have h1:E2 w (x ^^^ c)=E2 w x ^^^ Cg 8 (De c):=by
   unfold E2
   rw [XQ,show w ^^^ (De x ^^^ De c)=(w ^^^ De x) ^^^ De c by ac_rfl,EY]
  rw [List.modify_zero_cons,List.foldl_cons,List.foldl_cons,h1,Rl,EF]
  congr 2
  rw [List.length_cons]; omega
 | x::l,p+1,c,w,h=>by
  rw [List.modify_succ_cons,List.foldl_cons,List.foldl_cons,Hv l p c _ (by simpa using h)]
  congr 2
  rw [List.length_cons]; omega
/-- Four bytes one behind the other, turned one after the other. -/
def FV (l:List UInt8) (k t:Nat):Nat→List UInt8
 | 0=>l
 | i+1=>(FV l k t i).modify (k+i) fun x=>x ^^^ UInt8.ofNat (t / 2 ^ (8*i))
theorem KL (l:List UInt8) (k t:Nat):∀ i,(FV l k t i).length=l.length
 | 0=>rfl
 | i+1=>by unfold FV; rw [List.length_modify,KL l k t i]
theorem MY (c:UInt8) {n m:Nat} (hn:n≤24):Cg m (De c)=Cg (n+m) (De c <<< n):=by
 rw [← EF,LC c n hn]
theorem V9 {l:List UInt8} {k t:Nat} (hk:k+4≤l.length) (w:BitVec 32) :
  (FV l k t 4).foldl E2 w=l.foldl E2 w ^^^ Cg (8*(l.length - k)) (Lh (UInt8.ofNat t) (UInt8.ofNat (t / 2 ^ 8)) (UInt8.ofNat (t / 2 ^ 16)) (UInt8.ofNat (t / 2 ^ 24))):=by
 have h1:FV l k t 4=(((l.modify k fun x=>x ^^^ UInt8.ofNat t).modify (k+1) fun x=>x ^^^ UInt8.ofNat (t / 2 ^ 8)).modify (k+2) fun x=>x ^^^ UInt8.ofNat (t / 2 ^ 16)).modify (k+3) fun x=>x ^^^ UInt8.ofNat (t / 2 ^ 24):=by
  simp [FV]
 rw [h1,Hv _ _ _ _ (by simp only [List.length_modify]; omega),Hv _ _ _ _ (by simp only [List.length_modify]; omega),Hv _ _ _ _ (by simp only [List.length_modify]; omega),Hv _ _ _ _ (by omega)]
 simp only [List.length_modify]
 unfold Lh
 rw [EY,EY,EY,MY (UInt8.ofNat (t / 2 ^ 8)) (n:=8) (by decide),MY (UInt8.ofNat (t / 2 ^ 16)) (n:=16) (by decide),MY (UInt8.ofNat (t / 2 ^ 24)) (n:=24) (by decide),
  show 8+8*(l.length - (k+1))=8*(l.length - k) by omega,show 16+8*(l.length - (k+2))=8*(l.length - k) by omega,show 24+8*(l.length - (k+3))=8*(l.length - k) by omega]
 simp only [BitVec.xor_assoc]
theorem PA {l:List UInt8} (hr:Es l=true) {k t:Nat} (hk:k+4≤l.length) (ht:t<4294967296) (h0:t≠0):Es (FV l k t 4)=false:=by
 rw [Bool.eq_false_iff]
 intro h
 have h1:=Lj (by rw [KL]; omega) h
 rw [V9 hk,Lj (by omega) hr] at h1
 have h2:Cg (8*(l.length - k)) (Lh (UInt8.ofNat t) (UInt8.ofNat (t / 2 ^ 8)) (UInt8.ofNat (t / 2 ^ 16)) (UInt8.ofNat (t / 2 ^ 24)))=Cg (8*(l.length - k)) 0#32:=by
  rw [MT]
  have h3:KI ^^^ (KI ^^^ Cg (8*(l.length - k)) (Lh (UInt8.ofNat t) (UInt8.ofNat (t / 2 ^ 8)) (UInt8.ofNat (t / 2 ^ 16)) (UInt8.ofNat (t / 2 ^ 24))))=KI ^^^ KI:=by rw [h1]
  rw [← BitVec.xor_assoc,BitVec.xor_self,BitVec.zero_xor] at h3
  exact h3
 have h4:=congrArg BitVec.toNat (Vy h2)
 rw [Ou,← P6,Rj ht] at h4
 exact h0 h4
theorem MZ (l:List UInt8) (k:Nat):∀ i,FV l k 0 i=l
 | 0=>rfl
 | i+1=>by
  unfold FV
  rw [MZ l k i]
  have h:(fun x:UInt8=>x ^^^ UInt8.ofNat (0 / 2 ^ (8*i)))=id:=by
   funext x
   rw [Nat.zero_div]
   show x ^^^ 0=x
   exact UInt8.xor_zero
  rw [h,List.modify_id]

/-! ### How many there are -/
theorem Ov {r:Rnd} {i:Nat} {e:Ed} {x:Int} (hi:i<r.ids.length):eB r i e x=BL (u64 (r.ids.getD i 0)) 8++[by8 e.f,by8 e.t]++BL (u64 e.cap) 8++BL (u64 (-e.cost)) 2++BL (u64 x) 8:=by
 unfold eB
 rw [if_pos hi]
theorem Uk {r:Rnd} (W:WR r):∀ k,k≤r.ids.length→(esB r k).length=28*k
 | 0,_=>rfl
 | k+1,h=>by
  have hd:=W.de
  have hl:=W.len
  obtain ⟨e,he⟩:=AC (l:=r.es) (i:=k) (by omega)
  obtain ⟨x,hx⟩:=AC (l:=r.fl) (i:=k) (by omega)
  rw [IG he hx,List.length_append,Uk W k (by omega),Ov (by omega)]
  simp only [List.length_append,Df,List.length_cons,List.length_nil]
  omega
theorem Rm {r:Rnd} (W:WR r):∀ k,r.ids.length+2*k≤r.es.length→(esB r (r.ids.length+2*k)).length=28*r.ids.length+24*k
 | 0,_=>by rw [show r.ids.length+2*0=r.ids.length from by omega,Uk W _ (Nat.le_refl _)]; omega
 | k+1,h=>by
  obtain ⟨e1,e2,x1,x2,-,-,-,-,h5⟩:=Uh W (k:=k) (by omega)
  rw [h5]
  simp only [List.length_append,Df]
  rw [Rm W k (by omega)]
  omega
def Ga (r:Rnd):Nat:=(r.N - 1).toNat
theorem Rn {r:Rnd} (W:WR r):r.es.length=r.ids.length+2*(bif r.cmp then 0 else Ga r):=by
 have h:=W.rest
 have hd:=W.de
 have hN:=W.N1
 unfold GU at h
 unfold Ga
 cases hc:r.cmp with
 | true =>
  rw [if_pos hc,decide_eq_true_eq,List.length_drop] at h
  rw [cond_true]
  omega
 | false =>
  rw [if_neg (by rw [hc]; decide),Bool.and_eq_true,decide_eq_true_eq,List.length_drop] at h
  have h2:=h.1
  rw [cond_false]
  omega
theorem KM {r:Rnd} (W:WR r):(Ca r).length=35+28*r.ids.length+24*(bif r.cmp then 0 else Ga r)+8*Ga r:=by
 have h1:=Rn W
 have h2:=Rm W (bif r.cmp then 0 else Ga r) (by omega)
 have h3:=W.pot
 have hN:=W.N1
 rw [← h1] at h2
 unfold Ca FO
 simp only [List.length_append,Ug,F5,Ft,h2]
 unfold Ga
 unfold Ga at h2
 omega
/-- How many there are, by the head. -/
def szB (l:List UInt8):Nat:=35+28*(l.getD 22 0).toNat+24*(if l.getD 20 0=1 then 0 else (l.getD 21 0).toNat)+8*(l.getD 21 0).toNat
theorem Ul {x:Int} (h0:0≤x) (h1:x<256):(by8 x).toNat=x.toNat:=by
 unfold by8
 rw [UInt8.toNat_ofNat']
 omega
theorem ZF (r:Rnd):(B7 r).getD 20 0=(bif r.cmp then 1 else 0)∧(B7 r).getD 21 0=by8 (r.N - 1)∧(B7 r).getD 22 0=by8 r.ids.length:=by
 have h:B7 r=(gwit++BL (u64 r.no) 8++BL (u64 r.day) 8)++[bif r.cmp then 1 else 0,by8 (r.N - 1),by8 r.ids.length]:=rfl
 have hl:(gwit++BL (u64 r.no) 8++BL (u64 r.day) 8).length=20:=by simp [gwit,Df]
 rw [h]
 refine ⟨?_,?_,?_⟩ <;> rw [List.getD_eq_getElem?_getD,List.getElem?_append_right (by omega),hl] <;> rfl
theorem Tc (r:Rnd):∃ Z,Ca r=B7 r++Z:=⟨esB r r.es.length++D6 r.pot++leB (Px (FO r)).toNat 4,by unfold Ca FO; simp only [List.append_assoc]⟩
theorem Na (r:Rnd) {j:Nat} (hj:j<23):(Ca r).getD j 0=(B7 r).getD j 0:=by
 obtain ⟨Z,hZ⟩:=Tc r
 rw [hZ,List.getD_eq_getElem?_getD,List.getElem?_append_left (by rw [F5]; exact hj),List.getD_eq_getElem?_getD]
theorem Ro {r:Rnd} (W:WR r):(Ca r).length=szB (Ca r):=by
 obtain ⟨h1,h2,h3⟩:=ZF r
 have hN:=W.N1
 have hN2:=W.N17
 have hd:=W.d64
 unfold szB
 rw [KM W,Na r (by decide),Na r (by decide),Na r (by decide),h1,h2,h3,Ul (by omega) (by omega),Ul (by omega) (by omega)]
 unfold Ga
 cases r.cmp <;> simp
/-- None begins another, longer one. -/
theorem Lk {r s:Rnd} (W:WR r) (V:WR s) {Z:List UInt8} (h:Ca r++Z=Ca s):Z=[]:=by
 have h1:=Ro W
 have h2:=Ro V
 have hl:=KM W
 have h3:szB (Ca s)=szB (Ca r):=by
  have ha:∀ j,j<23→(Ca s).getD j 0=(Ca r).getD j 0:=fun j hj=>by
   rw [← h,List.getD_eq_getElem?_getD,List.getElem?_append_left (by omega),List.getD_eq_getElem?_getD]
  unfold szB
  rw [ha 20 (by decide),ha 21 (by decide),ha 22 (by decide)]
 have h4:(Ca r++Z).length=(Ca r).length:=by rw [h,h2,h3,← h1]
 rw [List.length_append] at h4
 exact List.eq_nil_of_length_eq_zero (by omega)
theorem Yo {r:Rnd} (W:WR r) {k:Nat} (hk:k<(Ca r).length):FZ ((Ca r).take k)=false:=by
 cases h:FZ ((Ca r).take k) with
 | false=>rfl
 | true =>
  exfalso
  obtain ⟨-,h2,h3⟩:=LI h
  have h4:=Lk (Jv h2) W (Z:=(Ca r).drop k) (by rw [h3,List.take_append_drop])
  have h5:=congrArg List.length h4
  rw [List.length_drop,List.length_nil] at h5
  omega
theorem VA {r:Rnd} (W:WR r) (x:UInt8):FZ (Ca r++[x])=false:=by
 cases h:FZ (Ca r++[x]) with
 | false=>rfl
 | true =>
  obtain ⟨-,h2,h3⟩:=LI h
  cases Lk W (Jv h2) (Z:=[x]) h3.symm

/-! ### What is put is got -/
theorem Td (n k:Nat):BL n (k+1)=BL (n / 256) k++[UInt8.ofNat n]:=by
 unfold BL
 rw [List.range_succ,List.map_append]
 congr 1
 ·refine List.map_congr_left fun i hi=>?_
  have hi':=List.mem_range.1 hi
  rw [Nat.div_div_eq_div_mul,show (256:Nat)=2 ^ 8 from rfl,← Nat.pow_add]
  congr 3
  omega
 ·simp
theorem Yp (k:Nat):∀ n,numN (BL n k)=n % 256 ^ k:=by
 induction k with
 | zero=>intro n; simp [BL,numN,Nat.mod_one]
 | succ k ih =>
  intro n
  rw [Td,Ol,ih]
  have h1:(UInt8.ofNat n).toNat=n % 256:=by simp [UInt8.toNat_ofNat']
  rw [h1,Nat.pow_succ,Nat.mul_comm (256 ^ k) 256,Nat.mod_mul]
  omega
theorem EH {l A:List UInt8} {n k:Nat} (h:A++BL n k <+: l) (hn:n<256 ^ k):nx l k (A.length,false)=(n,((A++BL n k).length,false)):=by
 obtain ⟨Z,rfl⟩:=h
 rw [XZ (by simp only [List.length_append,Df]; omega),List.append_assoc,List.drop_left,List.take_left' (Df n k),Yp,Nat.mod_eq_of_lt hn]
 simp only [List.length_append,Df]
theorem Fu {A B l:List UInt8} (h:A++B <+: l):A <+: l:=(List.prefix_append A B).trans h
theorem Ia {x:Int} (h0 : -9223372036854775808≤x) (h1:x<9223372036854775808):s64 (u64 x)=x:=by
 unfold s64 IntKind.wrap u64
 have e1:((2:Int) ^ IntKind.i64.bits)=18446744073709551616:=by kernel_rfl
 have e2:((2:Int) ^ (IntKind.i64.bits - 1))=9223372036854775808:=by kernel_rfl
 have e3:IntKind.i64.signed=true:=rfl
 simp only [e1,e2,e3,Bool.true_and,decide_eq_true_eq]
 split <;> omega
/-- What stands behind k dues. -/
def stD (r:Rnd) (k:Nat):PRd:=⟨r.ids.take k,r.es.take k,r.fl.take k,[],((B7 r++esB r k).length,false)⟩
theorem Yq {r:Rnd} (W:WR r) (hu:WU r) {l:List UInt8} {k:Nat} (hk:k<r.ids.length) (h:B7 r++esB r (k+1) <+: l):dueP l (stD r k)=stD r (k+1):=by
 have hd:=W.de
 have hl:=W.len
 have hN:=W.N17
 obtain ⟨e,he⟩:=AC (l:=r.es) (i:=k) (by omega)
 obtain ⟨x,hx⟩:=AC (l:=r.fl) (i:=k) (by omega)
 obtain ⟨y,hy⟩:=AC (l:=r.ids) (i:=k) hk
 have hE:=CN ((BR (BE W.wi).2.1).2.2.2.1 e (List.mem_of_getElem? he))
 have hw:=Pw (W.due k e hk he)
 have hF:=Ue W hx
 have hI:=hu.ids y (List.mem_of_getElem? hy)
 have hyD:r.ids.getD k 0=y:=by rw [List.getD_eq_getElem?_getD,hy]; rfl
 have g1:u64 y<256 ^ 8:=F3 y
 have g2:u64 e.f<256 ^ 1:=by unfold u64; omega
 have g3:u64 e.t<256 ^ 1:=by unfold u64; omega
 have g4:u64 e.cap<256 ^ 8:=F3 _
 have g5:u64 (-e.cost)<256 ^ 2:=by unfold u64; omega
 have g6:u64 x<256 ^ 8:=F3 _
 have hS:B7 r++esB r (k+1)=B7 r++esB r k++BL (u64 y) 8++BL (u64 e.f) 1++BL (u64 e.t) 1++BL (u64 e.cap) 8++BL (u64 (-e.cost)) 2++BL (u64 x) 8:=by
  rw [IG he hx,Ov hk,hyD,Kq hE.1 (by omega),Kq hE.2.2.1 (by omega)]
  simp only [List.append_assoc,List.cons_append,List.nil_append]
 have hT:=hS ▸ h
 have p5:=Fu hT
 have p4:=Fu p5
 have p3:=Fu p4
 have p2:=Fu p3
 have p1:=Fu p2
 have e1:=EH p1 g1
 have e2:=EH p2 g2
 have e3:=EH p3 g3
 have e4:=EH p4 g4
 have e5:=EH p5 g5
 have e6:=EH hT g6
 have q1:((u64 y:Nat):Int)=y:=JI hI.1 hI.2
 have q2:((u64 e.f:Nat):Int)=e.f:=JI hE.1 (by omega)
 have q3:((u64 e.t:Nat):Int)=e.t:=JI hE.2.2.1 (by omega)
 have q4:s64 (u64 e.cap)=e.cap:=Ia (by omega) (by omega)
 have q5 : -((u64 (-e.cost):Nat):Int)=e.cost:=by rw [JI (by omega) (by omega)]; omega
 have q6:s64 (u64 x)=x:=Ia (by omega) (by omega)
 unfold dueP Jw atP idP stD
 simp only [e1,e2,e3,e4,e5,e6,q1,q2,q3,q4,q5,q6]
 rw [hS,C5 hy,C5 he,C5 hx]
theorem ZG (r:Rnd) {j k:Nat} (h:j≤k):esB r j <+: esB r k:=by
 unfold esB
 obtain ⟨m,rfl⟩:∃ m,k=j+m:=⟨k - j,by omega⟩
 rw [List.range_add,List.flatMap_append]
 exact List.prefix_append ..
theorem Nb (r:Rnd) {j k:Nat} (h:j≤k):B7 r++esB r j <+: B7 r++esB r k:=by
 obtain ⟨Z,hZ⟩:=ZG r h
 exact ⟨Z,by rw [List.append_assoc,hZ]⟩
theorem Um {r:Rnd} (W:WR r) (hu:WU r) {l:List UInt8} (h:B7 r++esB r r.ids.length <+: l):∀ n k,k+n=r.ids.length→Kr l n (stD r k)=stD r r.ids.length
 | 0,k,hk=>by rw [show k=r.ids.length from by omega]; rfl
 | n+1,k,hk=>by
  have h1:(stD r k).s.2=false:=rfl
  unfold Kr
  rw [if_neg (by rw [h1]; decide),Yq W hu (by omega) ((Nb r (by omega)).trans h)]
  exact Um W hu h n (k+1) (by omega)
def stP (r:Rnd) (k:Nat):PRd:=⟨r.ids,r.es.take (r.ids.length+2*k),r.fl.take (r.ids.length+2*k),[],((B7 r++esB r (r.ids.length+2*k)).length,false)⟩
theorem VB {r:Rnd} (W:WR r) {l:List UInt8} {k:Nat} (hk:r.ids.length+2*k+1<r.es.length) (h:B7 r++esB r (r.ids.length+2*(k+1)) <+: l):Ui l (Ga r) k (stP r k)=stP r (k+1):=by
 obtain ⟨e1,e2,x1,x2,h1,h2,h3,h4,h5⟩:=Uh W hk
 have hN:=W.N1
 have hE1:=CN ((BR (BE W.wi).2.1).2.2.2.1 e1 (List.mem_of_getElem? h1))
 have hF1:=Ue W h3
 have hF2:=Ue W h4
 have hE1':e1=⟨(Ga r:Int),(k:Int),e1.cap,0⟩:=by
  rcases (LG W (by omega) h1).2.2 with ⟨b,hb,_,hf,ht,hc⟩ | ⟨b,hb,-⟩
  ·obtain ⟨f,t,c,co⟩:=e1
   dsimp only at hf ht hc ⊢
   rw [hf,ht,hc,show b=k from by omega]
   unfold Ga
   congr 1
   omega
  ·omega
 have hE2':e2=⟨(k:Int),(Ga r:Int),4503599627370496,0⟩:=by
  rcases (LG W (by omega) h2).2.2 with ⟨b,hb,-⟩ | ⟨b,hb,_,hf,ht,hc,ho⟩
  ·omega
  ·obtain ⟨f,t,c,co⟩:=e2
   dsimp only at hf ht hc ho ⊢
   rw [hf,ht,hc,ho,show b=k from by omega]
   unfold Ga
   congr 1
   omega
 have hS:B7 r++esB r (r.ids.length+2*(k+1))=B7 r++esB r (r.ids.length+2*k)++BL (u64 e1.cap) 8++BL (u64 x1) 8++BL (u64 x2) 8:=by
  rw [h5]
  simp only [List.append_assoc]
 have hT:=hS ▸ h
 have p2:=Fu hT
 have p1:=Fu p2
 have a1:=EH p1 (show u64 e1.cap<256 ^ 8 from F3 _)
 have a2:=EH p2 (show u64 x1<256 ^ 8 from F3 _)
 have a3:=EH hT (show u64 x2<256 ^ 8 from F3 _)
 have q1:s64 (u64 e1.cap)=e1.cap:=Ia (by omega) (by omega)
 have q2:s64 (u64 x1)=x1:=Ia (by omega) (by omega)
 have q3:s64 (u64 x2)=x2:=Ia (by omega) (by omega)
 unfold Ui Jw atP stP
 simp only [a1,a2,a3,q1,q2,q3]
 rw [hS,show r.ids.length+2*(k+1)=r.ids.length+2*k+1+1 from by omega,C5 h2,C5 h1,C5 h4,C5 h3,← hE1',← hE2']
theorem Rq {r:Rnd} (W:WR r) {l:List UInt8} {h0:Nat} (hh:r.ids.length+2*h0=r.es.length) (h:B7 r++esB r r.es.length <+: l):∀ n k,k+n=h0→G5 l (Ga r) n k (stP r k)=stP r h0
 | 0,k,hk=>by rw [show k=h0 from by omega]; rfl
 | n+1,k,hk=>by
  have h1:(stP r k).s.2=false:=rfl
  unfold G5
  rw [if_neg (by rw [h1]; decide),VB W (by omega) ((Nb r (by omega)).trans h)]
  exact Rq W hh h n (k+1) (by omega)
def stT (r:Rnd) (k:Nat):PRd:=⟨r.ids,r.es,r.fl,r.pot.take k,((B7 r++esB r r.es.length++D6 (r.pot.take k)).length,false)⟩
theorem ZH {r:Rnd} (W:WR r) {k:Nat} {x:Int} (h:r.pot[k]? = some x) : -9223372036854775808≤x∧x<9223372036854775808:=by
 have h1:=(Gg.1 W.chk).2.1
 unfold E3 at h1
 rw [Bool.and_eq_true,List.all_eq_true] at h1
 have h2:=h1.1 x (List.mem_of_getElem? h)
 unfold I8 at h2
 simp only [Bool.and_eq_true,decide_eq_true_eq] at h2
 omega
theorem Yr {r:Rnd} (W:WR r) {l:List UInt8} {k:Nat} (hk:k<r.pot.length) (h:B7 r++esB r r.es.length++D6 (r.pot.take (k+1)) <+: l):potP l (stT r k)=stT r (k+1):=by
 obtain ⟨x,hx⟩:=AC (l:=r.pot) (i:=k) hk
 have hb:=ZH W hx
 have hS:B7 r++esB r r.es.length++D6 (r.pot.take (k+1))=B7 r++esB r r.es.length++D6 (r.pot.take k)++BL (u64 x) 8:=by
  rw [Om hx]
  simp only [List.append_assoc]
 have hT:=hS ▸ h
 have a1:=EH hT (show u64 x<256 ^ 8 from F3 _)
 have q1:s64 (u64 x)=x:=Ia hb.1 hb.2
 unfold potP stT
 simp only [a1,q1]
 rw [hS,C5 hx]
theorem Ys (p:List Int) {j k:Nat} (h:j≤k):D6 (p.take j) <+: D6 (p.take k):=by
 obtain ⟨Z,hZ⟩:p.take j <+: p.take k:=by
  refine ⟨(p.take k).drop j,?_⟩
  have h1:p.take j=(p.take k).take j:=by rw [List.take_take,Nat.min_eq_left h]
  rw [h1,List.take_append_drop]
 exact ⟨D6 Z,by rw [← Ra,hZ]⟩
theorem Un {r:Rnd} (W:WR r) {l:List UInt8} (h:B7 r++esB r r.es.length++D6 r.pot <+: l):∀ n k,k+n=r.pot.length→Ks l n (stT r k)=stT r r.pot.length
 | 0,k,hk=>by rw [show k=r.pot.length from by omega]; rfl
 | n+1,k,hk=>by
  have h1:(stT r k).s.2=false:=rfl
  have h2:B7 r++esB r r.es.length++D6 (r.pot.take (k+1)) <+: l:=by
   refine List.IsPrefix.trans ?_ h
   obtain ⟨Z,hZ⟩:=Ys r.pot (j:=k+1) (k:=r.pot.length) (by omega)
   rw [List.take_of_length_le (Nat.le_refl _)] at hZ
   exact ⟨Z,by rw [List.append_assoc,hZ]⟩
  unfold Ks
  rw [if_neg (by rw [h1]; decide),Yr W (by omega) h2]
  exact Un W h n (k+1) (by omega)
theorem ZI {r:Rnd} (W:WR r) {l:List UInt8} (h:B7 r <+: l):hs1 l=(4,false)∧(nx l 8 (hs1 l)).1=u64 r.no∧(nx l 8 (hs2 l)).1=u64 r.day∧(nx l 1 (hs3 l)).1=(bif r.cmp then 1 else 0)∧DO l=Ga r∧Ta l=r.ids.length∧hs6 l=(23,false):=by
 have hN:=W.N1
 have hN2:=W.N17
 have hd:=W.d64
 have hS:B7 r=([]:List UInt8)++BL 1196902740 4++BL (u64 r.no) 8++BL (u64 r.day) 8++BL (bif r.cmp then 1 else 0) 1++BL (u64 (r.N - 1)) 1++BL (u64 (r.ids.length:Int)) 1:=by
  rw [Kq (x:=r.N - 1) (by omega) (by omega),Kq (x:=(r.ids.length:Int)) (by omega) (by omega),XY]
  have h4:BL 1196902740 4=gwit:=by decide
  rw [h4]
  unfold B7
  simp only [List.append_assoc,List.cons_append,List.nil_append]
 have hT:=hS ▸ h
 have p5:=Fu hT
 have p4:=Fu p5
 have p3:=Fu p4
 have p2:=Fu p3
 have p1:=Fu p2
 have a1:=EH p1 (by decide)
 have a2:=EH p2 (show u64 r.no<256 ^ 8 from F3 _)
 have a3:=EH p3 (show u64 r.day<256 ^ 8 from F3 _)
 have a4:=EH p4 (by cases r.cmp <;> decide)
 have a5:=EH p5 (show u64 (r.N - 1)<256 ^ 1 by unfold u64; omega)
 have a6:=EH hT (show u64 (r.ids.length:Int)<256 ^ 1 by unfold u64; omega)
 have b1:hs1 l=((([]:List UInt8)++BL 1196902740 4).length,false):=by unfold hs1; rw [show ((0,false):Nat × Bool)=(([]:List UInt8).length,false) from rfl,a1]
 have b2:hs2 l=((([]:List UInt8)++BL 1196902740 4++BL (u64 r.no) 8).length,false):=by unfold hs2; rw [b1,a2]
 have b3:hs3 l=((([]:List UInt8)++BL 1196902740 4++BL (u64 r.no) 8++BL (u64 r.day) 8).length,false):=by unfold hs3; rw [b2,a3]
 have b4:hs4 l=((([]:List UInt8)++BL 1196902740 4++BL (u64 r.no) 8++BL (u64 r.day) 8++BL (bif r.cmp then 1 else 0) 1).length,false):=by unfold hs4; rw [b3,a4]
 have b5:hs5 l=((([]:List UInt8)++BL 1196902740 4++BL (u64 r.no) 8++BL (u64 r.day) 8++BL (bif r.cmp then 1 else 0) 1++BL (u64 (r.N - 1)) 1).length,false):=by unfold hs5; rw [b4,a5]
 refine ⟨?_,by rw [b1,a2],by rw [b2,a3],by rw [b3,a4],?_,?_,?_⟩
 ·rw [b1]; simp [Df]
 ·unfold DO
  rw [b4,a5]
  unfold Ga u64
  dsimp only
  omega
 ·unfold Ta
  rw [b5,a6]
  unfold u64
  dsimp only
  omega
 ·unfold hs6
  rw [b5,a6,← hS,F5]
theorem Nc {r:Rnd} (W:WR r) (hu:WU r):Jx (Ca r)=stT r r.pot.length∧hdP (Ca r)=⟨r.no,r.day,r.cmp,r.N⟩:=by
 have hN:=W.N1
 have hp:=W.pot
 have hl:=W.len
 have hB:B7 r++esB r r.es.length++D6 r.pot <+: Ca r:=List.prefix_append ..
 have hA:B7 r++esB r r.es.length <+: Ca r:=Fu hB
 have hH:B7 r <+: Ca r:=Fu hA
 obtain ⟨-,h1,h2,h3,h4,h5,h6⟩:=ZI W hH
 have hcmp:decide (((nx (Ca r) 1 (hs3 (Ca r))).1:Int)=1)=r.cmp:=by rw [h3]; cases r.cmp <;> rfl
 have hhd:hdP (Ca r)=⟨r.no,r.day,r.cmp,r.N⟩:=by
  unfold hdP
  rw [hcmp,h1,h2,h4,JI hu.no.1 hu.no.2,Ia (by have:=W.day; omega) hu.day]
  unfold Ga
  rw [show (((r.N - 1).toNat:Nat):Int)+1=r.N by omega]
 have hd:=Um W hu ((Nb r W.de).trans hA) r.ids.length 0 (by omega)
 have hst:stD r 0=⟨[],[],[],[],(23,false)⟩:=by
  unfold stD
  rw [show esB r 0=[] from rfl,List.append_nil,F5]
  rfl
 rw [hst] at hd
 have hst2:stD r r.ids.length=stP r 0:=by
  unfold stD stP
  rw [List.take_of_length_le (Nat.le_refl _),show r.ids.length+2*0=r.ids.length from by omega]
 have hc:=Rn W
 have hend:stP r (bif r.cmp then 0 else Ga r)=stT r 0:=by
  unfold stP stT
  rw [← hc,List.take_of_length_le (Nat.le_refl _),List.take_of_length_le (by omega),List.take_zero,QZ,List.append_nil]
 refine ⟨?_,hhd⟩
 unfold Jx
 simp only [hhd,h4,h5,h6,hd,hst2]
 have h7:(if r.cmp=true then stP r 0 else G5 (Ca r) (Ga r) (Ga r) 0 (stP r 0))=stT r 0:=by
  cases hcm:r.cmp with
  | true =>
   rw [hcm,cond_true] at hend
   rw [if_pos rfl,hend]
  | false =>
   rw [hcm,cond_false] at hend hc
   rw [if_neg (by decide),Rq W hc.symm hA (Ga r) 0 (by omega),hend]
 rw [h7,show Ga r+1=r.pot.length from by unfold Ga; omega]
 exact Un W hB r.pot.length 0 (by omega)
theorem Nd {r:Rnd} (W:WR r) (hu:WU r):HZ (Ca r)=r:=by
 obtain ⟨h1,h2⟩:=Nc W hu
 unfold HZ
 rw [h1,h2]
 unfold Ij stT
 rw [List.take_of_length_le (Nat.le_refl _)]
theorem Nf {r:Rnd} (h:BA r=true) (hu:WU r):FZ (Ca r)=true:=by
 have W:=Jv h
 unfold FZ
 rw [Nd W hu,h,(Nc W hu).1]
 simp [stT]
/-- What any function of the bytes tells that has a sum, or has none. -/
theorem IJ {l:List UInt8} {w w':World} {v:Value} (h1:Es l=true→GetRes l w w' v) (h2:Es l=false→v = .tuple #[.agg (AH G6 Fw).toArray,.int .i64 5]∧Ext [] w w'):GetRes l w w' v:=by
 cases h:Es l with
 | true=>exact h1 h
 | false =>
  obtain ⟨h3,h4⟩:=h2 h
  exact ⟨fun g=>(by rw [MX h] at g; cases g),fun _=>h3,h4⟩
end Go.Proofs.YtapphbmlkdhnmaaGreat

/- The reference's function that gets a round of bytes. -/
namespace Go.Proofs.YtapphbmlkdhnmaaGreat
open Go.GV
attribute [local irreducible] A2 W Wq Wt

structure Kt where
 br:Nat
 b5:Nat
 b2:Nat
 a:Option Addr
 c:Nat
 l:List UInt8
abbrev kC (T:Kt) (h:Hd) (g:Gs):List (Nat × Obj):=[(T.b5,Bl 33 (AH (Ij h g.p) g.q)),(T.b2,Bl 33 (AH G6 Fw))]
abbrev kL (T:Kt) (h:Hd) (g:Gs) (s:Nat × Bool):List (Nat × Obj):=rkL T.br T.a T.c T.l s++(kC T h g++gE g)
structure KOk (T:Kt) (h:Hd) (w0 w:World) (g:Gs):Prop where
 H:Ctx w0 [] w (kL T h g g.p.s)
 I:OS g.aI g.p.ids.length g.cI 1 g.fI (g.p.ids.flatMap U1)
 E:OS g.aE g.p.es.length g.cE 4 g.fE (g.p.es.flatMap Bv)
 F:OS g.aF g.p.fl.length g.cF 1 g.fF (g.p.fl.flatMap I1)
 P:OS g.aP g.p.pot.length g.cP 1 g.fP (g.p.pot.flatMap I1)
 hs:g.p.s.1≤T.l.length
structure KFix (T:Kt) (w0:World):Prop where
 R:Rd w0 T.a 1 B8 T.l
 off:T.l≠[]→(adr T.a).block<w0.heap.size
 hc:T.l.length≤T.c
 hm:T.l.length≤100000
end Go.Proofs.YtapphbmlkdhnmaaGreat

/- What the law plans: a round of rooms and dues. -/
namespace Go.Proofs.YtapphbmlkdhnmaaGreat
open Go.GV
attribute [local irreducible] A2 W Wq Wt

structure PlnR (rs:List Int) (ds:List Du) (net:Bool) (r:Rnd):Prop where
 no:r.no=3
 day:r.day=2
 cmp:r.cmp=net
 ids:r.ids=(opn ds).map Du.id
 N:r.N=((rs.length+1:Nat):Int)
 es:r.es=Dg rs (opn ds) net
 chk:Ea r.N r.es r.fl r.pot=true
def Ad9 (w:World) (rs:List Int) (ds:List Du) (net:Bool) (v:Value) (w':World):Prop :=
 Ext [] w w'∧((CV rs ds=false∧v = .tuple #[.agg rnd0.toArray,.bool false]) ∨
  (CV rs ds=true∧∃ r q,v = .tuple #[.agg (AH r q).toArray,.bool true]∧PlnR rs ds net r∧RAt w' r q∧ROff q r (fun x=>x<w.heap.size)∧r.es.length≤q.cE))
set_option maxRecDepth 20000 in
set_option maxHeartbeats 4000000 in
theorem Ib (a b:Option Addr) (n c m e:Nat) (rs:List Int) (ds:List Du) (net:Bool) (w:World) (R:Rd w a 1 I1 rs) (hn:rs.length=n) (hn2:n≤1000) (Rd':Rd w b 7 Ee ds) (hm:ds.length=m) (hm2:m≤1000) :
  Ret Tryz.prog 30 #[.slice a n c,.slice b m e,.bool net] w (Ad9 w rs ds net):=by
 subst hn hm
 obtain ⟨w0,rfl⟩:∃ w0,w0=w:=⟨_,rfl⟩
 have H:=Ctx.start w0 []
 refine A1 (fn:=Tryz.f30) Tryz.func30 rfl [.slice a rs.length c,.slice b ds.length e,.bool net] rfl (by kernel_rfl) ?_
 refine Ag (Bm rfl FI H ?_)
 rintro b6 w - H
 refine Ai rfl rfl (Ab (Aa ?_))
 cases hbb:CV rs ds
 ·skip
  refine Ag (An rfl rfl (An rfl rfl (Ak rfl rfl (Ao rfl ZV (Ob a b _ c _ e rs ds net _ (R.ext0 H.ext) rfl (by omega) (Rd'.ext0 H.ext) rfl (by omega)) rfl ?_))))
  rintro v w ⟨hx18,⟨-,rfl⟩ | ⟨hb1,-⟩⟩
  rotate_left
  (rw [hbb] at hb1; cases hb1)
  replace H:=H.call hx18
  refine BG rfl rfl (A7 rfl rfl rfl (A7 rfl rfl rfl (A7 rfl rfl rfl (Bm rfl T8 H ?_))))
  rintro b8 w - H
  refine BD rfl Ci rfl rfl rfl (by exact (by decide)) H at0 rfl ?_
  rintro w H
  refine AJ rfl rfl (Af rfl rfl (Ab (Aa (Aq (Ag (Ad rfl rfl (CH rfl rfl rfl (Ab (Aa (Ax _ rfl ?_ ?_))))))))))
  ·intro h1
   replace h1:=CO h1
   refine Ag (CC rnd0 rfl Qt FI (by kernel_rfl) ?_)
   refine BD rfl C2 rfl rfl rfl (by exact (by decide)) H at1 rfl ?_
   rintro w H
   refine Ai rfl rfl (Ab (Aa (A9 (Al (JV rfl rfl rfl CQ C2 H at1 rfl (show _=(.bool _) from rfl) ?_)))))
   exact ⟨H.ext,.inl ⟨hbb,rfl⟩⟩
  ·intro h1
   replace h1:=CP h1
   exact absurd h1 (by decide)
 ·skip
  have hB:=(MP (by omega)).1 hbb
  obtain ⟨es,hes⟩:∃ es,es=Dg rs (opn ds) net:=⟨_,rfl⟩
  refine Ag (An rfl rfl (An rfl rfl (Ak rfl rfl ?_)))
  have hlb:=H.lt at0
  refine Ao rfl ZV (Ob a b _ c _ e rs ds net _ (R.ext0 H.ext) rfl (by omega) (Rd'.ext0 H.ext) rfl (by omega)) rfl ?_
  rintro v w ⟨hx18,⟨hb1,-⟩ | ⟨-,aE,nE,cE,vI,rfl,SE,SI⟩⟩
  (rw [hbb] at hb1; cases hb1)
  replace H:=H.call hx18
  rw [← hes] at SE
  obtain ⟨aE,cE,hE1,hEl,RE,hEn⟩:=SE.ex
  obtain ⟨aI,cI,rfl,-,RI,hIn⟩:=SI.ex
  cases hE1
  have hx018:=H.ext
  have hb60:w0.heap.size≤b6:=(H.own _ (List.mem_cons_self ..)).elim (fun h=>by cases h) id
  obtain ⟨w18,rfl⟩:∃ z,z=w:=⟨_,rfl⟩
  replace H:=Ctx.lend (L1:=[_]) (L2:=[]) H
  dsimp only [List.map] at H
  have hs24:=hx18.size
  refine BG rfl rfl (A7 rfl rfl rfl (A7 rfl rfl rfl (A7 rfl rfl rfl (Bm rfl T8 H ?_))))
  rintro b8 w - H
  refine BD rfl Ci rfl rfl rfl (by exact (by simp [Bz])) H at0 rfl ?_
  rintro w H
  refine AJ rfl rfl (Af rfl rfl (Ab (Aa (Aq (Ag (Ad rfl rfl (CH rfl rfl rfl (Ab (Aa (Ax _ rfl ?_ ?_))))))))))
  ·intro h1
   replace h1:=CO h1
   exact absurd h1 (by decide)
  ·intro h1
   replace h1:=CP h1
   have hri:BV ((rs.length+1:Nat):Int) es=true:=by rw [hes]; exact hB.right net
   have hE6:es≠[]→(adr aE).block∉[b6]:=fun h=>by have:=hEn h; rw [List.mem_singleton]; omega
   have hI6:(opn ds).map Du.id≠[]→(adr aI).block∉[b6]:=fun h=>by have:=hIn h; rw [List.mem_singleton]; omega
   have hE26:=RE.lt' (fun _ _=>rfl) (by decide)
   have hI26:=RI.lt' (fun _ _=>rfl) (by decide)
   refine Av (Aa (Ag (Bh rfl Cu Ci rfl H at0 rfl ?_)))
   have hl8:=H.lt at0
   have hl6:=H.lt at1
   refine Ao rfl ca_59 (Z5 (rs.length+1) aE cE es _ (RE.ext' H.ext hE6) hri) rfl ?_
   rintro v w ⟨bf,bp,x,p,k,rfl,hF,hov,hpb,HB⟩
   replace H:=H.call HB.ext
   have RF:Rd w (some ⟨bf,0,none⟩) 1 I1 (tab x es.length):=Ct (HB.get at0)
   have RP:Rd w (some ⟨bp,0,none⟩) 1 I1 (tab p (rs.length+1)):=Ct (HB.get at1)
   have hbf:=(HB.own _ (List.mem_of_getElem? at0)).elim (fun h=>by cases h) id
   have hbp:=(HB.own _ (List.mem_of_getElem? at1)).elim (fun h=>by cases h) id
   dsimp only at hbf hbp
   replace RE:=RE.ext' H.ext hE6
   replace RI:=RI.ext' H.ext hI6
   have hb80:=(H.own _ (List.mem_of_getElem? at0)).elim (fun h => .inl (List.mem_singleton.1 h)) Or.inr
   have hx027:=hx018.then H.ext (fun x hx => .inr (by rw [List.mem_singleton.1 hx]; exact hb60))
   have hs36:=HB.ext.size
   have hs26:=H.size
   obtain ⟨w36,rfl⟩:∃ z,z=w:=⟨_,rfl⟩
   replace H:=Ctx.lend (L1:=[_,_]) (L2:=[]) H
   dsimp only [List.map] at H
   refine BG rfl rfl (A7 rfl rfl rfl (A7 rfl rfl rfl (A7 rfl rfl rfl (Bm rfl WF H ?_))))
   rintro b11 w - H
   refine BD rfl M1 rfl rfl rfl (by exact (by simp [Bz])) H at0 rfl ?_
   rintro w H
   refine Af rfl rfl (Af rfl rfl (Ab (Aa ?_)))
   obtain ⟨r,hr⟩:∃ r:Rnd,r=⟨3,2,net,(opn ds).map Du.id,((rs.length+1:Nat):Int),es,tab x es.length,tab p (rs.length+1)⟩:=⟨_,rfl⟩
   obtain ⟨q,hq⟩:∃ q:RSl,q=⟨aI,cI,aE,cE,some ⟨bf,0,none⟩,es.length,some ⟨bp,0,none⟩,rs.length+1⟩:=⟨_,rfl⟩
   have hcells:AH r q=[.int .u64 3,.int .i64 2,.bool net,.slice aI ((opn ds).map Du.id).length cI,.int .i64 ((rs.length+1:Nat):Int),.slice aE es.length cE,.slice (some ⟨bf,0,none⟩) es.length es.length,.slice (some ⟨bp,0,none⟩) (rs.length+1) (rs.length+1)]:=by
    rw [hr,hq]
    unfold AH
    dsimp only
    rw [Db,Db]
   refine Ag (Ak rfl rfl (An rfl rfl (Bh rfl Cu Ci rfl H at1 rfl (Bh rfl Qn M1 rfl H at0 rfl (CC [.int .u64 3,.int .i64 2,.bool net,.slice aI ((opn ds).map Du.id).length cI,.int .i64 ((rs.length+1:Nat):Int),.slice aE es.length cE,.slice (some ⟨bf,0,none⟩) es.length es.length,.slice (some ⟨bp,0,none⟩) (rs.length+1) (rs.length+1)] rfl Qt FI (by kernel_rfl) ?_)))))
   refine Ad rfl rfl (BX rfl rfl rfl (BD rfl C2 rfl rfl rfl (by exact (by simp [Bz])) H at2 rfl ?_))
   rintro w H
   refine Ai rfl rfl (Ab (Aa (A9 (JV rfl rfl rfl CQ C2 H at2 rfl (show _=(.bool _) from rfl) ?_))))
   have h8:w0.heap.size≤b8:=by rcases hb80 with h | h <;> omega
   have hxx:=hx027.then H.ext fun x hx => .inr (by simp only [List.mem_cons,List.not_mem_nil,or_false] at hx; omega)
   refine ⟨hxx,.inr ⟨hbb,r,q,by rw [hcells]; rfl,⟨by rw [hr],by rw [hr],by rw [hr],by rw [hr],by rw [hr],by rw [hr]; exact hes,?_⟩,⟨?_,?_,?_,?_,?_⟩,⟨?_,?_,?_,?_⟩,by rw [hr,hq]; exact hEl⟩⟩
   ·rw [hr]; exact SP hri hF hov hpb
   ·rw [hr,hq]; exact RI.ext' H.ext fun h=>by have h1:=hI26 h; have h2:=hI6 h; rw [List.mem_singleton] at h2; simp only [List.mem_cons,List.not_mem_nil,or_false]; rcases hb80 with h3 | h3 <;> omega
   ·rw [hr,hq]; exact RE.ext' H.ext fun h=>by have h1:=hE26 h; have h2:=hE6 h; rw [List.mem_singleton] at h2; simp only [List.mem_cons,List.not_mem_nil,or_false]; rcases hb80 with h3 | h3 <;> omega
   ·rw [hr,hq]; exact RF.ext' H.ext fun _=>by show bf∉[b8,b6]; simp only [List.mem_cons,List.not_mem_nil,or_false]; omega
   ·rw [hr,hq]; exact RP.ext' H.ext fun _=>by show bp∉[b8,b6]; simp only [List.mem_cons,List.not_mem_nil,or_false]; omega
   ·rw [hr,hq]; dsimp only; rw [Db]; exact Nat.le_refl _
   ·rw [hr,hq]; intro h; have:=hIn h; dsimp only; omega
   ·rw [hr,hq]; intro h; have:=hEn h; dsimp only; omega
   ·rw [hr,hq]; intro _; show ¬ bf<w0.heap.size; omega
   ·rw [hr,hq]; intro _; show ¬ bp<w0.heap.size; omega
end Go.Proofs.YtapphbmlkdhnmaaGreat

/- The law's example. -/
namespace Go.Proofs.YtapphbmlkdhnmaaGreat
open Go.GV
attribute [local irreducible] A2 W Wq Wt

abbrev xR3:List Int:=[5,0]
abbrev xD3:List Du:=[⟨7,0,1,9,2,0,false⟩]
abbrev xE3:List Ed:=[⟨0,1,9,-2⟩,⟨2,0,5,0⟩,⟨0,2,4503599627370496,0⟩,⟨2,1,0,0⟩,⟨1,2,4503599627370496,0⟩]
theorem xe3:Dg xR3 (opn xD3) false=xE3:=by decide
theorem xb3:CV xR3 xD3=true:=by decide
theorem Uo {rs:List Int} {ds:List Du} {net:Bool} {r:Rnd} (P:PlnR rs ds net r) (hd:ds.length≤1000000):RBnd r:=by
 obtain ⟨h1,h2,-⟩:=Gg.1 P.chk
 obtain ⟨g1,g2,g3,-⟩:=BR (BE (Fq h1).1).2.1
 have g4:=(BE (Fq h1).1).1
 have g5:=(JE h2).1
 refine ⟨⟨by omega,by omega⟩,by omega,?_,by omega,by omega⟩
 rw [P.ids,List.length_map]
 exact Nat.le_trans (List.length_filter_le _ _) hd
theorem Yt {rs:List Int} {ds:List Du} {net:Bool} {r:Rnd} (P:PlnR rs ds net r):BV r.N r.es=true∧B1 r.N r.es r.fl=true∧(∀ v,v<r.N.toNat→B0 (grE r.N r.es) (flE r.fl) v=0)∧Fine (grE r.N r.es) (Cl r.es) (flE r.fl) (Ez r.pot):=by
 obtain ⟨h1,-,h3⟩:=Gg.1 P.chk
 obtain ⟨h4,h5⟩:=Fq h1
 exact ⟨(BE h4).2.1,h4,h5,h3⟩
theorem xw3 {r:Rnd} (P:PlnR xR3 xD3 false r):BA r=true∧Lf r 7=(5,9,0)∧Lg r 1=(5,0,0)∧JH r=(10,0)∧(Ca r).length=127∧Lf r 8=(0,0,4)∧Lg r 2=(0,0,10):=by
 obtain ⟨p1,p2,p3,p4⟩:=Yt P
 obtain ⟨no,day,cmp,ids,N,es,fl,pot⟩:=r
 obtain ⟨h1,h2,h3,h4,h5,h6,h7⟩:=P
 dsimp only at h1 h2 h3 h4 h5 h6 h7 p1 p2 p3 p4
 have h4':ids=[7]:=h4.trans (by decide)
 have h5':N=3:=h5
 have h6':es=xE3:=h6.trans xe3
 subst h1 h2 h3 h4' h5' h6'
 have hR:BA ⟨3,2,false,[7],3,xE3,fl,pot⟩=true:=by
  unfold BA ID GU
  dsimp only
  rw [h7]
  rfl
 have hW:=Jv hR
 have hlen:fl.length=5:=hW.len
 have hpl:(pot.length:Int)=3:=hW.pot
 have hg:=JG p1
 obtain ⟨x,hx⟩:∃ x,x=flE fl:=⟨_,rfl⟩
 rw [← hx] at p3 p4
 have o0:=p3 0 (by decide)
 have i0:=p4.in' 0 (by decide)
 have i1:=p4.in' 1 (by decide)
 have i2:=p4.in' 2 (by decide)
 have hbest:=Fine.best hg p4 p3 (y:=fun i=>[5,5,0,0,5].getD i 0) (fun i hi=>by
  have hi':i<5:=hi
  match i,hi' with
  | 0,_=>decide
  | 1,_=>decide
  | 2,_=>decide
  | 3,_=>decide
  | 4,_=>decide) (fun v hv=>by
  have hv':v<3:=hv
  match v,hv' with
  | 0,_=>decide
  | 1,_=>decide
  | 2,_=>decide)
 have hc1:GA (grE 3 xE3) (fun i=>[5,5,0,0,5].getD i 0) = -10:=by decide
 have hc2:GA (grE 3 xE3) x = -(2*x 0):=by
  show 0+x 0 * -2+x 1*0+x 2*0+x 3*0+x 4*0=_
  omega
 have e0:B0 (grE 3 xE3) x 0 = -(x 0)+x 1 - x 2:=by
  show 0+(0 - 1)*x 0+(1 - 0)*x 1+(0 - 1)*x 2+(0 - 0)*x 3+(0 - 0)*x 4=_
  omega
 have c1:Cl xE3 1=5:=rfl
 have hx0:x 0=5:=by
  rw [hc1,hc2] at hbest
  rw [e0] at o0
  rw [c1] at i1
  omega
 have hf0:fl.getD 0 0=5:=by rw [← hx0,hx]; rfl
 refine ⟨hR,?_,?_,?_,?_,?_,?_⟩
 ·unfold Lf
  rw [if_pos hR]
  show (fl.getD 0 0,(9:Int),(0:Int))=_
  rw [hf0]
 ·unfold Lg
  rw [if_pos hR]
  show (0+fl.getD 0 0,0+(0:Int),(0:Int))=_
  rw [hf0]
  rfl
 ·unfold JH
  rw [if_pos hR]
  show (0 + -(-2:Int)*fl.getD 0 0,(0:Int))=_
  rw [hf0]
  rfl
 ·unfold Ca FO
  rw [List.length_append,List.length_append,List.length_append,F5,Ft,Ug]
  have:(esB ⟨3,2,false,[7],3,xE3,fl,pot⟩ 5).length=76:=by simp [esB,eB,List.range_succ,Df]
  show 23+(esB ⟨3,2,false,[7],3,xE3,fl,pot⟩ 5).length+8*pot.length+4=127
  omega
 ·unfold Lf
  rw [if_pos hR]
  rfl
 ·unfold Lg
  rw [if_pos hR]
  rfl
theorem ZJ:Es []=false:=by decide
theorem Yu {rs:List Int} {ds:List Du} {net:Bool} {r:Rnd} (P:PlnR rs ds net r) (hd:∀ d∈ds,0≤d.id∧d.id<18446744073709551616):WU r:=by
 refine ⟨by rw [P.no]; decide,fun x hx=>?_,by rw [P.day]; decide⟩
 rw [P.ids] at hx
 obtain ⟨d,h1,rfl⟩:=List.mem_map.1 hx
 exact hd d (List.mem_filter.1 h1).1
set_option maxRecDepth 20000 in
set_option maxHeartbeats 4000000 in
theorem Ic (w:World):Ret Tryz.prog 27 #[] w fun v w'=>v = .bool true∧Ext [] w w':=by
 obtain ⟨w0,rfl⟩:∃ w0,w0=w:=⟨_,rfl⟩
 have H:=Ctx.start w0 []
 refine A1 (fn:=Tryz.f27) Tryz.func27 rfl [] rfl (by kernel_rfl) ?_
 refine Ag (Ai rfl rfl (Ab (Aa (Ag (Dm [.int .i64 5,.int .i64 0] rfl AR B2 GP (by decide) (by decide) (by kernel_rfl) H ?_)))))
 rintro b22 w - H
 refine CC (Ee ⟨7,0,1,9,2,0,false⟩) rfl pl_62 Ig (by kernel_rfl) ?_
 refine DC _ (.agg _) rfl DY D4 Ig rfl (by decide) (by decide) rfl rfl rfl H ?_
 rintro b24 w - H
 refine Ao rfl W8 (Ib (some ⟨b22,0,none⟩) (some ⟨b24,0,none⟩) 2 2 1 1 xR3 xD3 false _ (XW (H.get at1)) rfl (by decide) (Rd.of_bl (xs:=xD3) (enc:=Ee) (r:=[]) (H.get at0) rfl (by decide)) rfl (by decide)) rfl ?_
 rintro v w ⟨hx25,⟨hb,-⟩ | ⟨-,r,q,rfl,P,RA,-,hEc⟩⟩
 (exact absurd hb (by rw [xb3]; decide))
 replace H:=H.call hx25
 obtain ⟨y1,y2,y3,y4,y5,y6,y7⟩:=xw3 P
 have hB:=Uo P (by decide)
 have hU:=Yu P (by decide)
 have hx0:=H.ext
 obtain ⟨w1,rfl⟩:∃ z,z=w:=⟨_,rfl⟩
 replace H:=Ctx.start w1 []
 refine BG rfl rfl (A7 rfl rfl rfl (A7 rfl rfl rfl (Bm rfl FI H ?_)))
 rintro b1 w - H
 refine BD rfl C2 rfl rfl rfl (by exact (by simp [Bz])) H at0 rfl ?_
 rintro w H
 refine Ai rfl rfl (Ab (Aa (Aq (Ag (Ak rfl rfl (Bu rfl rfl (Ab (Aa (Fg rfl (Av (Aa (Ag ?_))))))))))))
 refine Bh rfl CQ C2 rfl H at0 rfl (Ao rfl ZT (QS r q 7 _ (RA.ext0 H.ext) hEc hB) rfl ?_)
 rintro v w ⟨rfl,hx⟩
 rw [y2]
 replace H:=H.call hx
 refine BG rfl rfl (A7 rfl rfl rfl (A7 rfl rfl rfl (A7 rfl rfl rfl (Af rfl rfl (Af rfl rfl (Af rfl rfl (Ab (Aa (Ag (Bh rfl CQ C2 rfl H at0 rfl ?_))))))))))
 refine Ao rfl ZU (QT r q 1 _ (RA.ext0 H.ext) hEc hB) rfl ?_
 rintro v w ⟨rfl,hx⟩
 rw [y3]
 replace H:=H.call hx
 refine BG rfl rfl (A7 rfl rfl rfl (A7 rfl rfl rfl (A7 rfl rfl rfl (Af rfl rfl (Af rfl rfl (Af rfl rfl (Ab (Aa (Ag (Bh rfl CQ C2 rfl H at0 rfl ?_))))))))))
 refine Ao rfl ca_44 (Vx r q _ (RA.ext0 H.ext) hEc hB) rfl ?_
 rintro v w ⟨rfl,hx⟩
 rw [y4]
 replace H:=H.call hx
 refine BG rfl rfl (A7 rfl rfl rfl (A7 rfl rfl rfl (Af rfl rfl (Af rfl rfl (Ab (Aa (Ag (Bh rfl CQ C2 rfl H at0 rfl (Ao rfl T4 (LF r q _ (RA.ext0 H.ext) hEc hB hU) rfl ?_)))))))))
 rintro v w ⟨hT,-⟩
 obtain ⟨s,rfl,F⟩:=hT y1
 obtain ⟨a9,c9,rfl,-⟩:=Fresh.rdB F
 rw [y5]
 replace H:=H.call F.ext
 refine BG rfl rfl (A7 rfl rfl rfl (A7 rfl rfl rfl (AJ rfl rfl (Af rfl rfl (Ab (Aa (Ag (Bh rfl CQ C2 rfl H at0 rfl (Ao rfl ZT (QS r q 8 _ (RA.ext0 H.ext) hEc hB) rfl ?_)))))))))
 rintro v w ⟨rfl,hx⟩
 rw [y6]
 replace H:=H.call hx
 refine BG rfl rfl (A7 rfl rfl rfl (A7 rfl rfl rfl (A7 rfl rfl rfl (Af rfl rfl (Af rfl rfl (Af rfl rfl (Ab (Aa (Ag (Bh rfl CQ C2 rfl H at0 rfl ?_))))))))))
 refine Ao rfl ZU (QT r q 2 _ (RA.ext0 H.ext) hEc hB) rfl ?_
 rintro v w ⟨rfl,hx⟩
 rw [y7]
 replace H:=H.call hx
 refine BG rfl rfl (A7 rfl rfl rfl (A7 rfl rfl rfl (A7 rfl rfl rfl (Af rfl rfl (Af rfl rfl (Af rfl rfl (Ab (Aa (Ag (Ao rfl NI (Jj none 0 [] _ Rd.nil (Nat.le_refl _) (Nat.zero_le _) (fun h=>absurd rfl h)) rfl ?_))))))))))
 rintro v w ⟨-,hN⟩
 obtain ⟨rfl,hx⟩:=hN ZJ
 replace H:=H.call hx
 refine BG rfl rfl (A7 rfl rfl rfl (A7 rfl rfl rfl (Bm rfl FI H ?_)))
 rintro b19 w - H
 refine BD rfl C2 rfl rfl rfl (by exact (by simp [Bz])) H at0 rfl ?_
 rintro w H
 refine Af rfl rfl (Ab (Aa (Ag (Bh rfl CQ C2 rfl H at1 rfl (Ao rfl Qp (Ht r q _ (RA.ext0 H.ext) hEc hB) rfl ?_)))))
 rintro v w ⟨rfl,hx⟩
 rw [y1]
 replace H:=H.call hx
 refine Ak rfl rfl (Ad rfl rfl (BX rfl rfl rfl (Am rfl rfl (.bool _) rfl (Ak rfl rfl (Ad rfl rfl (BX rfl rfl rfl (Am rfl rfl (.bool _) rfl (Ak rfl rfl (Ad rfl rfl ?_)))))))))
 refine BX rfl rfl rfl (Am rfl rfl (.bool _) rfl (Ak rfl rfl (Ad rfl rfl (BX rfl rfl rfl (Am rfl rfl (.bool _) rfl (Ak rfl rfl (Ad rfl rfl (BX rfl rfl rfl (Am rfl rfl (.bool _) rfl ?_)))))))))
 refine Ak rfl rfl (Ad rfl rfl (BX rfl rfl rfl (Am rfl rfl (.bool _) rfl (Ak rfl rfl (Ad rfl rfl (BX rfl rfl rfl (Am rfl rfl (.bool _) rfl (Ak rfl rfl (Ad rfl rfl ?_)))))))))
 refine BX rfl rfl rfl (Am rfl rfl (.bool _) rfl (Ak rfl rfl (An rfl rfl (AU rfl C9 rfl (BX rfl rfl rfl (Am rfl rfl (.bool _) rfl (Ak rfl rfl (Ad rfl rfl (BX rfl rfl rfl ?_)))))))))
 refine Am rfl rfl (.bool _) rfl (Ak rfl rfl (Ad rfl rfl (BX rfl rfl rfl (Am rfl rfl (.bool _) rfl (Ak rfl rfl (Ad rfl rfl (BX rfl rfl rfl (Am rfl rfl (.bool _) rfl (Ak rfl rfl ?_)))))))))
 refine Ad rfl rfl (BX rfl rfl rfl (Am rfl rfl (.bool _) rfl (Ai rfl rfl (Ab (Aa (A9 (AB (v:=(.bool _)) rfl rfl rfl ?_)))))))
 exact ⟨rfl,hx0.trans H.ext⟩
end Go.Proofs.YtapphbmlkdhnmaaGreat

/- A round with anything of it turned is not right. -/
namespace Go.Proofs.YtapphbmlkdhnmaaGreat
open Go.GV

end Go.Proofs.YtapphbmlkdhnmaaGreat

/- A copy of a net; the law of turned rounds. -/
namespace Go.Proofs.YtapphbmlkdhnmaaGreat
open Go.GV
attribute [local irreducible] A2 W Wq Wt

end Go.Proofs.YtapphbmlkdhnmaaGreat

/- What may be paid is worth no more than the round that is planned: plain law. -/
namespace Go.Proofs.YtapphbmlkdhnmaaGreat
open Go.GV

/-- What a bank may go down by. -/
def baseK (rs:List Int) (net:Bool) (k:Nat):Int:=if net=true then 0 else rs.getD k 0
def Aan (rs:List Int) (os:List Du) (net:Bool) (xs:List Int) (k:Nat):Int:=baseK rs net k+byK rs os net xs k
/-- What may be paid. -/
structure PermP (rs:List Int) (ds:List Du) (net:Bool) (xs:List Int):Prop where
 B:Bright rs ds
 pay:PayIn (opn ds) xs
 left:∀ k,k<rs.length→0≤Aan rs (opn ds) net xs k∧(net=true→Aan rs (opn ds) net xs k=0)
def worthS (os:List Du) (xs:List Int) (k:Nat):Int:=Bx (fun i=>(os.getD i d00).we*xs.getD i 0) k
/-- What flows where that is paid. -/
def flowY (rs:List Int) (os:List Du) (net:Bool) (xs:List Int) (i:Nat):Int :=
 if i<os.length then flE xs i else if (i - os.length) % 2=0 then max 0 (-byK rs os net xs ((i - os.length) / 2)) else max 0 (byK rs os net xs ((i - os.length) / 2))
end Go.Proofs.YtapphbmlkdhnmaaGreat

/- What is the same is told to be the same: rounds, rooms, dues. -/
namespace Go.Proofs.YtapphbmlkdhnmaaGreat
open Go.GV
attribute [local irreducible] A2 W Wq Wt

set_option maxRecDepth 20000 in
set_option maxHeartbeats 4000000 in
theorem VC (r:Rnd) (q s:RSl) (w:World) (RA:RAt w r q) (RB:RAt w r s) (hr:RBnd r) :
  Ret Tryz.prog 32 #[.agg (AH r q).toArray,.agg (AH r s).toArray] w fun v w'=>v = .bool true∧Ext [] w w':=by
 obtain ⟨w0,rfl⟩:∃ w0,w0=w:=⟨_,rfl⟩
 have H:=Ctx.start w0 []
 have he:=hr.es
 have hi:=hr.ids
 have hf:=hr.fl
 have hp:=hr.pot
 refine A1 (fn:=Tryz.f32) Tryz.func32 rfl [.agg (AH r q).toArray,.agg (AH r s).toArray] rfl (by kernel_rfl) ?_
 refine Ag (Bs rfl (AH r q) (.agg _) rfl rfl H ?_)
 rintro b2 w - H
 refine Bs rfl (AH r s) (.agg _) rfl rfl H ?_
 rintro b3 w - H
 refine Ai rfl rfl (Ab (Aa (Aq (Ag (B5 (α:=Unit) 73786976294838206208 (fun _=>[(65,.bool (false))]) (fun _ w'=>Ctx w0 [] w' [(b3,Bl 33 (AH r s)),(b2,Bl 33 (AH r q))]) rfl ?_ ?_)))))
 ·refine Ah rfl Pa rfl (AA rfl BK rfl H at1 rfl (Ah rfl Pa rfl (AA rfl BK rfl H at0 rfl (CH rfl rfl rfl (Ak rfl rfl (A8 13 rfl ?_ ?_))))))
  ·intro h1
   replace h1:=CO h1
   refine Ae rfl (Ae rfl (Ae rfl (Ae rfl (Ae rfl (Am rfl rfl (.bool _) rfl (Ak rfl rfl (Ae rfl (Ae rfl (Ae rfl ?_)))))))))
   refine Ae rfl (Ae rfl (Am rfl rfl (.bool _) rfl (Ak rfl rfl (Ae rfl (Ae rfl (Ae rfl (Ae rfl (Ae rfl (Ae rfl ?_)))))))))
   refine Am rfl rfl (.bool _) rfl (Ak rfl rfl (Ae rfl (Ae rfl (Ae rfl (Ae rfl (Ae rfl (Ae rfl (Ae rfl (Am rfl rfl (.bool _) rfl ?_)))))))))
   refine Ak rfl rfl (Ae rfl (Ae rfl (Ae rfl (Ae rfl (Ae rfl (Ae rfl (Ae rfl (Ae rfl (Ae rfl ?_)))))))))
   refine Am rfl rfl (.bool _) rfl (Ak rfl rfl (Ae rfl (Ae rfl (Ae rfl (Ae rfl (Ae rfl (Ae rfl (Ae rfl (Ae rfl ?_)))))))))
   refine Ae rfl (Am rfl rfl (.bool _) rfl (Ab ?_))
   exact ⟨rfl,(),rfl,⟨congrArg Value.bool (by (simp_all; done)),trivial⟩,H⟩
  ·intro h2
   replace h2:=CP h2
   refine Ah rfl Lx rfl (AA rfl Bw rfl H at1 rfl (Ah rfl Lx rfl (AA rfl Bw rfl H at0 rfl (CH rfl rfl rfl (A3 rfl rfl (.bool _) rfl (Ak rfl rfl (A8 20 rfl ?_ ?_)))))))
   ·intro h3
    replace h3:=CO h3
    refine Ae rfl (Ae rfl (Ae rfl (Ae rfl (Ae rfl (Am rfl rfl (.bool _) rfl (Ak rfl rfl (Ae rfl (Ae rfl (Ae rfl ?_)))))))))
    refine Ae rfl (Ae rfl (Ae rfl (Am rfl rfl (.bool _) rfl (Ak rfl rfl (Ae rfl (Ae rfl (Ae rfl (Ae rfl (Ae rfl ?_)))))))))
    refine Ae rfl (Ae rfl (Am rfl rfl (.bool _) rfl (Ak rfl rfl (Ae rfl (Ae rfl (Ae rfl (Ae rfl (Ae rfl (Ae rfl ?_)))))))))
    refine Ae rfl (Ae rfl (Ae rfl (Am rfl rfl (.bool _) rfl (Ak rfl rfl (Ae rfl (Ae rfl (Ae rfl (Ae rfl (Ae rfl ?_)))))))))
    refine Ae rfl (Ae rfl (Ae rfl (Ae rfl (Am rfl rfl (.bool _) rfl (Ab ?_)))))
    exact ⟨rfl,(),rfl,⟨congrArg Value.bool (by (simp_all; done)),trivial⟩,H⟩
   ·intro h4
    replace h4:=CP h4
    refine Ah rfl IX rfl (AA rfl Hf rfl H at1 rfl (Ah rfl IX rfl (AA rfl Hf rfl H at0 rfl (YC un_4 rfl rfl rfl ?_))))
    refine A3 rfl rfl (.bool _) rfl (Ak rfl rfl (A8 27 rfl ?_ ?_))
    ·intro h5
     refine Ae rfl (Ae rfl (Ae rfl (Ae rfl (Ae rfl (Ae rfl (Am rfl rfl (.bool _) rfl (Ak rfl rfl (Ae rfl (Ae rfl ?_)))))))))
     refine Ae rfl (Ae rfl (Ae rfl (Ae rfl (Ae rfl (Am rfl rfl (.bool _) rfl (Ak rfl rfl (Ae rfl (Ae rfl (Ae rfl ?_)))))))))
     refine Ae rfl (Ae rfl (Ae rfl (Ae rfl (Ae rfl (Ae rfl (Am rfl rfl (.bool _) rfl (Ak rfl rfl (Ae rfl (Ae rfl ?_)))))))))
     refine Ae rfl (Ae rfl (Ae rfl (Ae rfl (Ae rfl (Ae rfl (Ae rfl (Am rfl rfl (.bool _) rfl (Ab ?_))))))))
     exact ⟨rfl,(),rfl,⟨congrArg Value.bool (by (simp_all; done)),trivial⟩,H⟩
    ·intro h6
     refine Ah rfl DG rfl (Cr _ rfl Cu Ci rfl rfl ((CF (l:=AH r q) (H.get at1) 4 [.int .i64 r.N,.slice q.aE r.es.length q.cE] rfl)) ?_)
     refine Ah rfl DG rfl (Cr _ rfl Cu Ci rfl rfl ((CF (l:=AH r s) (H.get at0) 4 [.int .i64 r.N,.slice s.aE r.es.length s.cE] rfl)) ?_)
     refine Ao rfl ca_19 (SQ r.N r.N q.aE s.aE _ q.cE _ s.cE r.es r.es _ (RA.E.ext0 H.ext) rfl he (RB.E.ext0 H.ext) rfl he) rfl ?_
     rintro v w ⟨rfl,hx32⟩
     replace H:=H.call hx32
     rw [show Oe r.N r.N r.es r.es=true by simp [Oe]]
     refine Bu rfl rfl (A3 rfl rfl (.bool _) rfl (Ak rfl rfl (A8 35 rfl ?_ ?_)))
     ·intro h7
      replace h7:=Bp h7
      refine Ae rfl (Ae rfl (Ae rfl (Ae rfl (Ae rfl (Ae rfl (Ae rfl (Am rfl rfl (.bool _) rfl (Ak rfl rfl (Ae rfl ?_)))))))))
      refine Ae rfl (Ae rfl (Ae rfl (Ae rfl (Ae rfl (Ae rfl (Ae rfl (Ae rfl (Am rfl rfl (.bool _) rfl (Ak rfl rfl ?_)))))))))
      refine Ae rfl (Ae rfl (Ae rfl (Ae rfl (Ae rfl (Ae rfl (Ae rfl (Ae rfl (Ae rfl (Am rfl rfl (.bool _) rfl ?_)))))))))
      refine Ab ?_
      exact ⟨rfl,(),rfl,⟨congrArg Value.bool (by (simp_all; done)),trivial⟩,H⟩
     ·intro h8
      replace h8:=Bq h8
      refine Ah rfl ED rfl (AA rfl Fm rfl H at1 rfl (AU rfl Be rfl (Ah rfl ED rfl (AA rfl Fm rfl H at0 rfl (AU rfl Be rfl (CH rfl rfl rfl (A3 rfl rfl (.bool _) rfl (Ak rfl rfl (A8 44 rfl ?_ ?_)))))))))
      ·intro h9
       replace h9:=CO h9
       refine Ae rfl (Ae rfl (Ae rfl (Ae rfl (Ae rfl (Ae rfl (Ae rfl (Ae rfl (Ae rfl (Am rfl rfl (.bool _) rfl ?_)))))))))
       refine Ak rfl rfl (Ae rfl (Ae rfl (Ae rfl (Ae rfl (Ae rfl (Ae rfl (Ae rfl (Ae rfl (Ae rfl ?_)))))))))
       refine Am rfl rfl (.bool _) rfl (Ab ?_)
       exact ⟨rfl,(),rfl,⟨congrArg Value.bool (by (simp_all; done)),trivial⟩,H⟩
      ·intro h10
       replace h10:=CP h10
       refine Ah rfl Ep rfl (Ah rfl Fp rfl (AA rfl BF rfl H at1 rfl (AU rfl AR rfl (Ah rfl Ep rfl (Ah rfl Fp rfl (AA rfl BF rfl H at0 rfl (AU rfl AR rfl (CH rfl rfl rfl (A3 rfl rfl (.bool _) rfl ?_)))))))))
       refine Ak rfl rfl (A8 55 rfl ?_ ?_)
       ·intro h11
        replace h11:=CO h11
        refine Ae rfl (Ae rfl (Ae rfl (Ae rfl (Ae rfl (Ae rfl (Ae rfl (Ae rfl (Ae rfl (Am rfl rfl (.bool _) rfl ?_)))))))))
        refine Ab ?_
        exact ⟨rfl,(),rfl,⟨congrArg Value.bool (by (simp_all; done)),trivial⟩,H⟩
       ·intro h12
        replace h12:=CP h12
        refine Ah rfl Ep rfl (Ah rfl F7 rfl (AA rfl BF rfl H at1 rfl (AU rfl AR rfl (Ah rfl Ep rfl (Ah rfl F7 rfl (AA rfl BF rfl H at0 rfl (AU rfl AR rfl (CH rfl rfl rfl (A3 rfl rfl (.bool _) rfl ?_)))))))))
        refine Ab ?_
        exact ⟨rfl,(),rfl,⟨congrArg Value.bool (by (simp_all; done)),trivial⟩,H⟩
 rintro - j65 w H
 refine Fg rfl (Av (Aa (Aq (Ag (Af rfl rfl (Ab (Aa (Au (Bi 19342739326857771957092400 (α:=Nat) (fun i=>[(5,.int .i64 (i:Int))]) (fun i w'=>i≤r.ids.length∧Ctx w0 [] w' [(b3,Bl 33 (AH r s)),(b2,Bl 33 (AH r q))]) (fun i=>r.ids.length - i) 0 rfl ?_ ?_ ?_)))))))))
 ·exact ⟨rfl,trivial⟩
 ·exact ⟨Nat.zero_le _,H⟩
 ·clear H
  rintro i j w ⟨hii,H⟩
  refine Aq (Ag (Ad rfl rfl (Ah rfl ED rfl (AA rfl Fm rfl H at1 rfl (AU rfl Be rfl (AN rfl rfl rfl (Ab (Aa (Ax _ rfl ?_ ?_)))))))))
  ·intro h2
   replace h2:=AF h2
   obtain ⟨x,hx⟩:=AC (l:=r.ids) (i:=i) (by omega)
   refine Av (Aa (Aq (Au (DS (fun x=>x=_) B3 (by kernel_rfl) rfl ?_))))
   refine A6 rfl ED rfl (BZ rfl Fm rfl (by rintro _ rfl; exact H.drew) at1 rfl ?_)
   refine AM rfl rfl (BN RA.I rfl Be AY rfl rfl (by omega) (by omega) (by rfl) ?_)
   refine Cc rfl BK rfl (by rintro _ rfl; exact (((RA.I.ext0 H.drew.ext).one (f:=Fb) hx))) ?_
   refine A6 rfl ED rfl (BZ rfl Fm rfl (by rintro _ rfl; exact H.drew) at0 rfl ?_)
   refine AM rfl rfl (BN RB.I rfl Be AY rfl rfl (by omega) (by omega) (by rfl) ?_)
   refine Cc rfl BK rfl (by rintro _ rfl; exact (((RB.I.ext0 H.drew.ext).one (f:=Fb) hx))) ?_
   refine N6 rfl rfl rfl (BQ ?_)
   rintro _ rfl
   replace H:=H.drew
   refine Ax _ rfl ?_ ?_
   ·intro h3
    replace h3:=CO h3
    omega
   ·intro h3
    replace h3:=CP h3
    refine Av (A5 (Aa (Aw (Ad rfl rfl (Ap rfl rfl rfl (by omega) (by omega) ?_)))))
    refine Af rfl rfl (Ab (Aa ?_))
    exact ⟨i+1,rfl,⟨rfl,trivial⟩,⟨by omega,H⟩,by omega⟩
  ·intro h2
   replace h2:=AG h2
   refine Bd (Aj (Aj (AD (Aa (Aq (Ag (Af rfl rfl (Ab (Aa (Au (Bi 40564799864490227013827707273296 (α:=Nat) (fun i=>[(6,.int .i64 (i:Int))]) (fun i w'=>i≤r.fl.length∧Ctx w0 [] w' [(b3,Bl 33 (AH r s)),(b2,Bl 33 (AH r q))]) (fun i=>r.fl.length - i) 0 rfl ?_ ?_ ?_)))))))))))
   ·exact ⟨rfl,trivial⟩
   ·exact ⟨Nat.zero_le _,H⟩
   ·clear H
    rintro i2 j2 w ⟨hii2,H⟩
    refine Aq (Ag (Ad rfl rfl (Ah rfl Ep rfl (Ah rfl Fp rfl (AA rfl BF rfl H at1 rfl (AU rfl AR rfl (AN rfl rfl rfl (Ab (Aa (Ax _ rfl ?_ ?_))))))))))
    ·intro h3
     replace h3:=AF h3
     obtain ⟨x,hx⟩:=AC (l:=r.fl) (i:=i2) (by omega)
     refine Av (Aa (Aq (Au (DS (fun x=>x=_) B3 (by kernel_rfl) rfl ?_))))
     refine A6 rfl Ep rfl (A6 rfl Fp rfl (BZ rfl BF rfl (by rintro _ rfl; exact H.drew) at1 rfl ?_))
     refine AM rfl rfl (BN RA.F rfl AR B2 rfl rfl (by omega) (by omega) (by rfl) ?_)
     refine Cc rfl Bw rfl (by rintro _ rfl; exact (((RA.F.ext0 H.drew.ext).one (f:=UI) hx))) ?_
     refine A6 rfl Ep rfl (A6 rfl Fp rfl (BZ rfl BF rfl (by rintro _ rfl; exact H.drew) at0 rfl ?_))
     refine AM rfl rfl (BN RB.F rfl AR B2 rfl rfl (by omega) (by omega) (by rfl) ?_)
     refine Cc rfl Bw rfl (by rintro _ rfl; exact (((RB.F.ext0 H.drew.ext).one (f:=UI) hx))) ?_
     refine N6 rfl rfl rfl (BQ ?_)
     rintro _ rfl
     replace H:=H.drew
     refine Ax _ rfl ?_ ?_
     ·intro h4
      replace h4:=CO h4
      omega
     ·intro h4
      replace h4:=CP h4
      refine Av (A5 (Aa (Aw (Ad rfl rfl (Ap rfl rfl rfl (by omega) (by omega) ?_)))))
      refine Af rfl rfl (Ab (Aa ?_))
      exact ⟨i2+1,rfl,⟨rfl,trivial⟩,⟨by omega,H⟩,by omega⟩
    ·intro h3
     replace h3:=AG h3
     refine Bd (Aj (Aj (AD (Aa (Aq (Ag (Af rfl rfl (Ab (Aa (Au (Bi 85070551165415408562502803963439480976 (α:=Nat) (fun i=>[(7,.int .i64 (i:Int))]) (fun i w'=>i≤r.pot.length∧Ctx w0 [] w' [(b3,Bl 33 (AH r s)),(b2,Bl 33 (AH r q))]) (fun i=>r.pot.length - i) 0 rfl ?_ ?_ ?_)))))))))))
     ·exact ⟨rfl,trivial⟩
     ·exact ⟨Nat.zero_le _,H⟩
     ·clear H
      rintro i3 j3 w ⟨hii3,H⟩
      refine Aq (Ag (Ad rfl rfl (Ah rfl Ep rfl (Ah rfl F7 rfl (AA rfl BF rfl H at1 rfl (AU rfl AR rfl (AN rfl rfl rfl (Ab (Aa (Ax _ rfl ?_ ?_))))))))))
      ·intro h4
       replace h4:=AF h4
       obtain ⟨x,hx⟩:=AC (l:=r.pot) (i:=i3) (by omega)
       refine Av (Aa (Aq (Au (DS (fun x=>x=_) B3 (by kernel_rfl) rfl ?_))))
       refine A6 rfl Ep rfl (A6 rfl F7 rfl (BZ rfl BF rfl (by rintro _ rfl; exact H.drew) at1 rfl ?_))
       refine AM rfl rfl (BN RA.P rfl AR B2 rfl rfl (by omega) (by omega) (by rfl) ?_)
       refine Cc rfl Bw rfl (by rintro _ rfl; exact (((RA.P.ext0 H.drew.ext).one (f:=UI) hx))) ?_
       refine A6 rfl Ep rfl (A6 rfl F7 rfl (BZ rfl BF rfl (by rintro _ rfl; exact H.drew) at0 rfl ?_))
       refine AM rfl rfl (BN RB.P rfl AR B2 rfl rfl (by omega) (by omega) (by rfl) ?_)
       refine Cc rfl Bw rfl (by rintro _ rfl; exact (((RB.P.ext0 H.drew.ext).one (f:=UI) hx))) ?_
       refine N6 rfl rfl rfl (BQ ?_)
       rintro _ rfl
       replace H:=H.drew
       refine Ax _ rfl ?_ ?_
       ·intro h5
        replace h5:=CO h5
        omega
       ·intro h5
        replace h5:=CP h5
        refine Av (A5 (Aa (Aw (Ad rfl rfl (Ap rfl rfl rfl (by omega) (by omega) ?_)))))
        refine Af rfl rfl (Ab (Aa ?_))
        exact ⟨i3+1,rfl,⟨rfl,trivial⟩,⟨by omega,H⟩,by omega⟩
      ·intro h4
       replace h4:=AG h4
       refine Bd (Aj (Aj (AD (Aa (Ag (Ai rfl rfl (Ab (Aa (A9 (AB (v:=(.bool _)) rfl rfl rfl ?_))))))))))
       exact ⟨rfl,H.ext⟩
/-- Is it more than is gone through? -/
def vastB (r:Rnd):Bool:=((decide (2000<r.es.length) || decide (2000<r.fl.length)) || decide (2000<r.pot.length)) || decide (200<r.ids.length)
end Go.Proofs.YtapphbmlkdhnmaaGreat

/- What the form reads of this seat's arguments. -/
namespace Go.Proofs.YtapphbmlkdhnmaaGreat
open Go.GV Go.ChangeShapes Go.WideShapes

theorem own:ownKnob Tryz.prog.godebug=none:=by kernel_rfl
theorem ZK:laidOutB Tryz.prog=true:=by kernel_rfl
section
variable {H:Type} {enc:TypeId × Value→H} {w:World} {base:Nat} {spare:Nat→Bool} {held:Bool}
theorem Yv:∃ fs,Tryz.prog.underlying 62=some (.struct fs)∧(List.range 7).map (fun i=>fs[i]?.map fun f=>(f.type,f.offset))=[some (24,0),some (3,1),some (3,2),some (2,3),some (2,4),some (2,5),some (4,6)]:=⟨_,Tryz.underlying62,by kernel_rfl⟩
theorem Up:Tryz.prog.cellsOf 62=7:=by kernel_rfl
theorem Yw:Tryz.prog.cellsOf 2=1:=by kernel_rfl
/-- What a due's numbers may be, as its type has it. -/
def DuT (d:Du):Prop:=(0≤d.id∧d.id<18446744073709551616)∧I64 d.fr∧I64 d.to∧I64 d.am∧I64 d.we∧I64 d.un
theorem Aea:∀ n cs y,DataW.trod enc Tryz.prog w base spare held n 62 cs=some y→∃ d:Du,cs=Ee d∧DuT d:=by
 intro n cs y h
 obtain ⟨fs,ht,hf⟩:=Yv
 have hl:=UD ht h
 rw [Up] at hl
 simp only [List.range,List.range.loop,List.map_cons,List.map_nil,List.cons.injEq,and_true] at hf
 obtain ⟨f0,f1,f2,f3,f4,f5,f6⟩:=hf
 obtain ⟨a,ha,a1,a2⟩:=IW ht h 0 0 f0 Tryz.underlying24
 obtain ⟨b,hb,hb'⟩:=IW ht h 1 1 f1 Tryz.underlying3
 obtain ⟨c,hc,hc'⟩:=IW ht h 2 2 f2 Tryz.underlying3
 obtain ⟨d,hd,hd'⟩:=IW ht h 3 3 f3 Tryz.underlying2
 obtain ⟨e,he,he'⟩:=IW ht h 4 4 f4 Tryz.underlying2
 obtain ⟨f,hf,hf'⟩:=IW ht h 5 5 f5 Tryz.underlying2
 obtain ⟨g,hg⟩:=Wg ht h 6 6 f6 Tryz.underlying4
 refine ⟨⟨a,b,c,d,e,f,g⟩,?_,⟨a1,by have a3:a≤18446744073709551615:=a2; dsimp only; omega⟩,hb',hc',hd',he',hf'⟩
 match cs,hl with
 | [_,_,_,_,_,_,_],_ =>
  simp at ha hb hc hd he hf hg
  simp [ha,hb,hc,hd,he,hf,hg]
def EdT (e:Ed):Prop:=I64 e.f∧I64 e.t∧I64 e.cap∧I64 e.cost
/-- What a round's numbers may be, as its type has it. -/
structure RT (r:Rnd):Prop where
 no:0≤r.no∧r.no<18446744073709551616
 day:I64 r.day
 ids:∀ x∈r.ids,0≤x∧x<18446744073709551616
 N:I64 r.N
 es:∀ e∈r.es,EdT e
 fl:∀ x∈r.fl,I64 x
 pot:∀ x∈r.pot,I64 x
set_option maxRecDepth 100000 in
theorem du_of {b:Nat} {v:Value} {d:DataW H} {ps:List MemPlace} (hv:Value.okWide Tryz.prog w .any b 23 v) (h:DataW.Trod enc Tryz.prog w base spare held 23 v d ps):∃ a c l,v = .slice a l.length c∧Rd w a 7 Ee l∧∀ x∈l,DuT x:=by
 obtain ⟨a,c,l,h1,h2,-,-,h3⟩:=OT Tryz.underlying23 Up (by decide) Aea (okWide_slice Tryz.underlying23 hv) h
 exact ⟨a,c,l,h1,h2,h3⟩
set_option maxRecDepth 100000 in
theorem ZL {b:Nat} {v:Value} {d:DataW H} {ps:List MemPlace} (hv:Value.okWide Tryz.prog w .any b 29 v) (h:DataW.Trod enc Tryz.prog w base spare held 29 v d ps):∃ a c l,v = .slice a l.length c∧Rd w a 1 I1 l∧l.length≤c∧∀ x∈l,I64 x:=by
 obtain ⟨a,c,l,h1,h2,hc,-,h3⟩:=OT Tryz.underlying29 Yw (by decide) (T2 Tryz.underlying2) (okWide_slice Tryz.underlying29 hv) h
 exact ⟨a,c,l,h1,h2,hc,h3⟩
theorem Yx:∀ n cs y,DataW.trod enc Tryz.prog w base spare held n 5 cs=some y→∃ b:UInt8,cs=B8 b∧True:=by
 intro n cs y h
 obtain ⟨d,rfl,h1,h2⟩:=T2 Tryz.underlying5 n cs y h
 have h1:(0:Int)≤d:=h1
 have h2:d≤255:=h2
 refine ⟨UInt8.ofNat d.toNat,?_,trivial⟩
 have:(UInt8.ofNat d.toNat).toNat=d.toNat:=by simp [UInt8.toNat_ofNat']; omega
 rw [B8,bv,this,Int.toNat_of_nonneg h1]
theorem VD:Tryz.prog.cellsOf 5=1:=by kernel_rfl
set_option maxRecDepth 100000 in
theorem Yy {b:Nat} {v:Value} {d:DataW H} {ps:List MemPlace} (hv:Value.okWide Tryz.prog w .any b 69 v) (h:DataW.Trod enc Tryz.prog w base spare held 69 v d ps):∃ a c l,v = .slice a l.length c∧Rd w a 1 B8 l∧l.length≤c:=by
 obtain ⟨a,c,l,h1,h2,hc,-,-⟩:=OT Tryz.underlying69 VD (by decide) Yx (okWide_slice Tryz.underlying69 hv) h
 exact ⟨a,c,l,h1,h2,hc⟩
end
end Go.Proofs.YtapphbmlkdhnmaaGreat

/- The law of what any round and any bytes are told to be: the walk. -/
namespace Go.Proofs.YtapphbmlkdhnmaaGreat
open Go.GV
attribute [local irreducible] A2 W Wq Wt

def Jm (l:List UInt8):Rnd:=if FZ l=true then HZ l else G6
def JJ (l:List UInt8):Int:=if FZ l=true then 0 else 5
theorem LJ {l:List UInt8} {w w':World} {v:Value} (h:GetRes l w w' v):∃ q,v = .tuple #[.agg (AH (Jm l) q).toArray,.int .i64 (JJ l)]∧RAt w' (Jm l) q:=by
 unfold Jm JJ
 cases hb:FZ l with
 | true =>
  obtain ⟨q,h1,h2,-⟩:=h.ok hb
  exact ⟨q,h1,h2⟩
 | false =>
  exact ⟨Fw,h.no hb,⟨Rd.nil,Rd.nil,Rd.nil,Rd.nil,Nat.le_refl _⟩⟩
theorem Yz {l:List UInt8} {w w':World} {v:Value} (h:GetRes l w w' v):∃ q,v = .tuple #[.agg (AH (Jm l) q).toArray,.int .i64 (JJ l)]∧RAt w' (Jm l) q∧(FZ l=true→(Jm l).es.length≤q.cE):=by
 unfold Jm JJ
 cases hb:FZ l with
 | true =>
  obtain ⟨q,h1,h2,h3,-⟩:=h.ok hb
  exact ⟨q,h1,h2,fun _=>h3⟩
 | false =>
  exact ⟨Fw,h.no hb,⟨Rd.nil,Rd.nil,Rd.nil,Rd.nil,Nat.le_refl _⟩,fun h=>by cases h⟩
theorem Aeb {r:Rnd} (W:WR r):RBnd r:=by
 have h1:=W.N1
 have h2:=W.N17
 have h3:=W.d64
 have h4:=W.e200
 have h5:=W.len
 have h6:=W.pot
 exact ⟨⟨by omega,by omega⟩,by omega,by omega,by omega,by omega⟩
def Te (r:Rnd):List UInt8:=if BA r=true then Ca r else []
def Y0 (r:Rnd):Int:=if BA r=true then 0 else 1
theorem Uq {r:Rnd} {w w':World} {v:Value} (hT:BA r=true→∃ s,v = .tuple #[s,.int .i64 0]∧Fresh w w' 5 1 s ((Ca r).map bv)) (hF:BA r=false→v = .tuple #[.slice none 0 0,.int .i64 1]∧Ext [] w w') :
  ∃ (a:Option Addr) (c:Nat),v = .tuple #[.slice a (Te r).length c,.int .i64 (Y0 r)]∧Rd w' a 1 B8 (Te r)∧Ext [] w w'∧(Te r).length≤c:=by
 unfold Te Y0
 cases h:BA r with
 | true =>
  obtain ⟨s,rfl,F⟩:=hT h
  obtain ⟨a,n,c,full,rfl,O,hb⟩:=F.ex
  obtain ⟨a',c',e,R,-⟩:=Fresh.rdB F
  cases e
  exact ⟨a,c,rfl,R,F.ext,O.le⟩
 | false =>
  obtain ⟨rfl,hx⟩:=hF h
  exact ⟨none,0,rfl,Rd.nil,hx,Nat.le_refl _⟩
end Go.Proofs.YtapphbmlkdhnmaaGreat

/- The law of turned rounds: the walk. -/
namespace Go.Proofs.YtapphbmlkdhnmaaGreat
open Go.GV
attribute [local irreducible] A2 W Wq Wt

end Go.Proofs.YtapphbmlkdhnmaaGreat
