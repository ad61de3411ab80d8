/- Part 13 of the proof. The last text: WitnessTurned: for every input the law answers true, and turns nothing. -/
import Derived.Test.YtapphbmlkdhnmaaGreatPart2
import Derived.Test.YtapphbmlkdhnmaaGreatPart12
import Derived.Test.YtapphbmlkdhnmaaGreatPart4
import Derived.Test.YtapphbmlkdhnmaaGreatPart10
import Derived.Test.YtapphbmlkdhnmaaGreatRows
/- The function that gets a round of bytes. -/
namespace Go.Proofs.YtapphbmlkdhnmaaGreat
open Go.GV
attribute [local irreducible] A4 W Wq Wt

theorem U5 {w:World} (a b:Option Addr) (c d n m:Nat) (x y:List UInt8) (Rx:Rd w a 1 B8 x) (Ry:Rd w b 1 B8 y) (hn:x.length=n) (hm:y.length=m) :
  Ret Tryz.prog 84 #[.slice a n c,.slice b m d] w fun v w'=>v = .bool (decide (x=y))∧w=w':=by
 subst hn hm
 refine A2 (fn:=Tryz.f84) Tryz.func84 rfl [.slice a x.length c,.slice b y.length d] rfl (by kernel_rfl) ?_
 refine Af (Ai rfl rfl (Ab (Aa (Af (An rfl rfl (Sx (l:=x) rfl Dt Jn un_9 rfl Rx ?_))))))
 refine An rfl rfl (Sx (l:=y) rfl Dt Jn un_9 rfl Ry ?_)
 refine UO (l:=x) (m:=y) rfl rfl rfl ?_
 refine Ai rfl rfl (Ab (Aa (A5 (A8 (v:=(.bool _)) rfl rfl rfl ?_))))
 exact ⟨rfl,rfl⟩
abbrev Zi (bd:Nat):Value := .func (.func 146) #[] [ptr bd].toArray
abbrev flwV (b7 b6:Nat):Value := .func (.func 81) #[] [ptr b7,ptr b6].toArray
theorem Xe (a:Option Addr) (c n:Nat) (w:World):Ret Tryz.prog 79 #[.slice a n c] w fun v w'=>∃ ba bd bb,v = .tuple #[FP bb ba bd,Zi bd]∧Ctx w [] w' (tkL ba bd (0,false)++[(bb,Bl 69 [.slice a n c])]):=by
 obtain ⟨w0,rfl⟩:∃ w0,w0=w:=⟨_,rfl⟩
 have H:=Ctx.start w0 []
 refine A2 (fn:=Tryz.f79) Tryz.func79 rfl [.slice a n c] rfl (by kernel_rfl) ?_
 refine Af (Bu rfl _ (.slice _ _ _) rfl rfl H ?_)
 rintro b1 w - H
 refine BU rfl .nilFunc rfl ?_
 refine BU rfl .nilFunc rfl ?_
 refine Ab (Aa (Af (Bn rfl PL H ?_)))
 rintro b4 w - H
 refine Bn rfl zc_4 H ?_
 rintro b5 w - H
 refine BF (.int _ _) rfl EG rfl rfl rfl H at1 (by decide) ?_
 rintro w H
 refine BF (.bool _) rfl MF rfl rfl rfl H at0 (by decide) ?_
 rintro w H
 refine Ab (Aa (Af (Cy rfl [_,_,_] rfl (BU rfl (.func _ _ _) rfl ?_))))
 refine Ab (Aa (Af (BX rfl (.func _ _ _) rfl ?_)))
 refine Cy rfl [_] rfl (BU rfl (.func _ _ _) rfl ?_)
 refine BU rfl (.func _ _ _) rfl ?_
 refine Ab (Aa (A5 (DI (v1:=(.func _ _ _)) (v2:=(.func _ _ _)) rfl rfl rfl rfl ?_)))
 refine ⟨b4,b5,b1,rfl,Ctx.perm H ?_⟩
 exact List.Perm.swap _ _ _
theorem OX (l:List UInt8) (s:Nat × Bool):(nx l 1 s).1<256:=by
 unfold nx
 split
 ·show (0:Nat)<_
  decide
 ·split
  ·have h1:=JO ((l.drop s.1).take 1)
   have h2:((l.drop s.1).take 1).length≤1:=by rw [List.length_take]; omega
   have h3:256 ^ ((l.drop s.1).take 1).length≤256 ^ 1:=Nat.pow_le_pow_right (by decide) h2
   show numN _<_
   omega
  ·show (0:Nat)<_
   decide
theorem Acc (l:List UInt8) (s:Nat × Bool):(nx l 2 s).1<65536:=by
 unfold nx
 split
 ·show (0:Nat)<_
  decide
 ·split
  ·have h1:=JO ((l.drop s.1).take 2)
   have h2:((l.drop s.1).take 2).length≤2:=by rw [List.length_take]; omega
   have h3:256 ^ ((l.drop s.1).take 2).length≤256 ^ 2:=Nat.pow_le_pow_right (by decide) h2
   show numN _<_
   omega
  ·show (0:Nat)<_
   decide
theorem perm6 {α:Type} (a b c d e f:α):[a,b,c,d,e,f].Perm [d,e,a,b,f,c] :=
 (pmI [a,b] [c] [d,e,f]).trans (List.Perm.append_right [f,c] (List.perm_append_comm (l₁:=[a,b]) (l₂:=[d,e])))
theorem M4 (h:Hd) (p:PRd):(IW h p).cmp=h.cmp:=rfl
theorem Xf (l:List UInt8):(hs1 l).1≤l.length:=G9 (Nat.zero_le _)
theorem Xg (l:List UInt8):(hs2 l).1≤l.length:=G9 (Xf l)
theorem Xh (l:List UInt8):(hs3 l).1≤l.length:=G9 (Xg l)
theorem Xi (l:List UInt8):(hs4 l).1≤l.length:=G9 (Xh l)
theorem Xj (l:List UInt8):(hs5 l).1≤l.length:=G9 (Xi l)
theorem Acd (l:List UInt8):(hs6 l).1≤l.length:=G9 (Xj l)
/-- Nothing gathered yet. -/
abbrev gs0 (s:Nat × Bool):Gs:=⟨⟨[],[],[],[],s⟩,none,0,[],none,0,[],none,0,[],none,0,[]⟩
/-- The head, before the number of nodes is known. -/
abbrev hd0 (l:List UInt8):Hd:=⟨((nx l 8 (hs1 l)).1:Int),s64 (nx l 8 (hs2 l)).1,decide (((nx l 1 (hs3 l)).1:Int)=1),0⟩
theorem Ace (n:Nat):s64 n<9223372036854775808:=by
 unfold s64 IntKind.wrap
 have e1:((2:Int) ^ IntKind.i64.bits)=18446744073709551616:=by kernel_rfl
 have e2:((2:Int) ^ (IntKind.i64.bits - 1))=9223372036854775808:=by kernel_rfl
 simp only [e1,e2]
 split
 ·omega
 ·rename_i h
  simp [IntKind.signed] at h
  omega
theorem M5 (l:List UInt8):∀ (d:Nat) (p:PRd),(∀ x∈p.ids,0≤x∧x<18446744073709551616)→∀ x∈(My l d p).ids,0≤x∧x<18446744073709551616
 | 0,_,h=>h
 | d+1,p,h=>by
  unfold My
  split
  ·exact h
  ·refine M5 l d _ fun x hx=>?_
   have hx:x∈p.ids++[((nx l 8 p.s).1:Int)]:=hx
   rcases List.mem_append.1 hx with h1 | h1
   ·exact h x h1
   ·have h2:=Zg l (k:=8) (by decide) p.s
    rw [List.mem_singleton] at h1
    omega
theorem NK (l:List UInt8) (h:Nat):∀ (n i:Nat) (p:PRd),(I0 l h n i p).ids=p.ids
 | 0,_,_=>rfl
 | n+1,i,p=>by
  unfold I0
  split
  ·rfl
  ·rw [NK l h n]; rfl
theorem Q4 (l:List UInt8):∀ (n:Nat) (p:PRd),(Mz l n p).ids=p.ids
 | 0,_=>rfl
 | n+1,p=>by
  unfold Mz
  split
  ·rfl
  ·rw [Q4 l n]; rfl
theorem Xk (l:List UInt8):∀ x∈(M1 l).ids,0≤x∧x<18446744073709551616:=by
 unfold M1
 dsimp only
 rw [Q4]
 split
 ·exact M5 l _ _ (by simp)
 ·rw [NK]; exact M5 l _ _ (by simp)
theorem U6 {r:Rnd} {w w':World} {v:Value} (hT:Bx r=true→∃ s,v = .tuple #[s,.int .i64 0]∧Fresh w w' 5 1 s ((HM r).map bv)) (hF:Bx r=false→v = .tuple #[.slice none 0 0,.int .i64 1]∧Ext [] w w') :
  ∃ (a:Option Addr) (c:Nat) (bs:List UInt8) (e:Int),v = .tuple #[.slice a bs.length c,.int .i64 e]∧Rd w' a 1 B8 bs∧Ext [] w w'∧(Bx r=true→e=0∧bs=HM r)∧(Bx r=false→e=1):=by
 cases h:Bx r with
 | true =>
  obtain ⟨s,rfl,F⟩:=hT h
  obtain ⟨a,c,rfl,R,-⟩:=Fresh.rdB F
  exact ⟨a,c,HM r,0,rfl,R,F.ext,fun _=>⟨rfl,rfl⟩,fun h=>(by cases h)⟩
 | false =>
  obtain ⟨rfl,hx⟩:=hF h
  exact ⟨none,0,[],1,rfl,Rd.nil,hx,fun h=>(by cases h),fun _=>rfl⟩
/-- What is told of bytes. -/
structure GetRes (l:List UInt8) (w w':World) (v:Value):Prop where
 ok:U4 l=true→∃ q,v = .tuple #[.agg (AJ (Sj l) q).toArray,.int .i64 0]∧RAt w' (Sj l) q∧(Sj l).es.length≤q.cE∧(∀ x∈[q.aI,q.aE,q.aF,q.aP],∀ p,x=some p→w.heap.size≤p.block)
 no:U4 l=false→v = .tuple #[.agg (AJ HS GA).toArray,.int .i64 5]
 ext:Ext [] w w'
set_option maxRecDepth 20000 in
set_option maxHeartbeats 16000000 in
theorem Y7 (a:Option Addr) (c:Nat) (l:List UInt8) (w:World) (R:Rd w a 1 B8 l) (hc:l.length≤c) (hm:l.length≤100000) (hoff:l≠[]→(adr a).block<w.heap.size) :
  Ret Tryz.prog 28 #[.slice a l.length c] w fun v w'=>(Ju l=true→GetRes l w w' v)∧(Ju l=false→v = .tuple #[.agg (AJ HS GA).toArray,.int .i64 5]∧Ext [] w w'):=by
 obtain ⟨w0,rfl⟩:∃ w0,w0=w:=⟨_,rfl⟩
 have H:=Ctx.start w0 []
 obtain ⟨rw',hrw⟩:∃ x,x=Ju l:=⟨_,rfl⟩
 refine A2 (fn:=Tryz.f28) Tryz.func28 rfl [.slice a l.length c] rfl (by kernel_rfl) ?_
 refine Af (Bn rfl GR H ?_)
 rintro b2 w - H
 refine Ae rfl rfl (Ab (Aa (Au (Af (An rfl rfl (Am rfl ca_78 (Qz a c l _ (R.ext0 H.ext) (by omega) hc) rfl ?_))))))
 rintro v w ⟨rfl,rfl⟩
 rw [← hrw]
 refine Bs rfl rfl (Ab (Aa (Ax _ rfl ?_ ?_)))
 ·intro h1
  replace h1:=Bp h1
  refine Af (C7 (AJ HS GA) rfl PK GR (by kernel_rfl) ?_)
  refine BG rfl Cw rfl rfl rfl (by exact (by decide)) H at0 rfl ?_
  rintro w H
  refine Ae rfl rfl (Ab (Aa (A5 (Ak (J6 rfl rfl rfl CB Cw H at0 rfl (show _=(.int _ _) from rfl) ?_)))))
  exact ⟨fun h=>(by rw [h1] at h; cases h),fun _=>⟨rfl,H.ext⟩⟩
 ·intro h1
  replace h1:=Bq h1
  have hbig:∀ {w:World},Ext [] w0 w→w0.heap.size≤w.heap.size:=fun h=>h.size
  refine Ay (Aa (Af (An rfl rfl (Am rfl ca_79 (Xe a c l.length _) rfl ?_))))
  rintro v w ⟨ba,bd,bb,rfl,H22⟩
  replace H:=Ctx.callEnt H H22.ext (fun x hx=>⟨H22.blk x hx,(H22.own x hx).elim (fun h=>(by cases h)) id⟩) H22.nd
  refine BV rfl rfl (A6 (v:=FP bb ba bd) rfl rfl rfl (A6 (v:=Zi bd) rfl rfl rfl (Bn rfl Abf H ?_)))
  rintro b4 w - H
  refine BF (.func _ _ _) rfl Aa9 rfl rfl rfl H at0 (by decide) ?_
  rintro w H
  refine BU rfl (.func _ _ _) rfl ?_
  refine Ab (Aa (Af (Cy rfl [ptr b4] rfl (Bn rfl Abg H ?_))))
  rintro b6 w - H
  refine BF (.func _ _ _) rfl Aba rfl rfl rfl H at0 (by decide) ?_
  rintro w H
  refine Ab (Aa ?_)
  replace H:Ctx w0 [] _ (tkL ba bd (0,false)++[(b6,Bl 139 [ML b4]),(b4,Bl 136 [FP bb ba bd]),(bb,Bl 69 [.slice a l.length c]),(b2,Bl 33 (AJ HS GA))]):=Ctx.perm H (perm6 _ _ _ _ _ _)
  have X0:GFix (⟨ba,bd,bb,b2,b4,b6,0,a,c,l⟩:Gt) w0:=⟨R,hoff,hc,hm⟩
  refine Af (A9 rfl GF rfl H at3 rfl (Co rfl rfl GH (I2 (T:=(⟨ba,bd,bb,b2,b4,b6,0,a,c,l⟩:Gt)) (s:=(0,false)) (k:=4) X0 H (by simp) (Nat.zero_le _) (.inr (.inr (.inl rfl)))) rfl ?_))
  rintro v w ⟨rfl,H27,-⟩
  replace H:Ctx w0 [] w (tkL ba bd (hs1 l)++[(b6,Bl 139 [ML b4]),(b4,Bl 136 [FP bb ba bd]),(bb,Bl 69 [.slice a l.length c]),(b2,Bl 33 (AJ HS GA))]):=H27
  refine Ab (Aa (Dx 68451041408 (α:=Nat) (fun b7=>[(7,ptr b7)]) (fun b7 w'=>Ctx w0 [] w' (gL (⟨ba,bd,bb,b2,b4,b6,b7,a,c,l⟩:Gt) (hd0 l) (gs0 (hs4 l)) (hs4 l))) rfl ?_ ?_))
  ·skip
   have hSw:∀ x∈[ba,bd],x<w.heap.size:=fun x hx=>by
    simp only [List.mem_cons,List.not_mem_nil,or_false] at hx
    rcases hx with rfl | rfl
    ·exact H.lt (k:=0) rfl
    ·exact H.lt (k:=1) rfl
   have hlt:=Ctx.ltI H
   refine Gc (n:=9) (N:=10) (anc:=Kf 9 [[],[0],[],[0,1,2],[],[0,1,2,3,4],[0,1,2,3,4,5],[0,1,2,3,4,5,6],[]]) [ba,bd] (fun i=>if i=8 then 7 else 28+i) [isV (FP bb ba bd),isV (.int .u64 ((nx l 8 (hs1 l)).1:Int)),isV (ML b4),isV (.int .i64 (s64 (nx l 8 (hs2 l)).1)),isV (FP bb ba bd),isV (.int .u64 ((nx l 1 (hs3 l)).1:Int)),isV (.bool (decide (((nx l 1 (hs3 l)).1:Int)=1))),isV (.agg (AJ (IW (hd0 l) (gs0 (hs4 l)).p) GA).toArray),nwV w (Bl 33 (AJ HS GA))] [1,3,5] (fun k w'=>Ctx w0 [] w' (tkL ba bd ([hs1 l,hs2 l,hs3 l,hs4 l].getD k (hs1 l))++[(b6,Bl 139 [ML b4]),(b4,Bl 136 [FP bb ba bd]),(bb,Bl 69 [.slice a l.length c]),(b2,Bl 33 (AJ HS GA))])) (show Tryz.prog.follows .mixedOrders=true by kernel_rfl) rfl (by decide) (by kernel_rfl) (DS _) (fun i j _ _ h=>by have h:(if i=8 then 7 else 28+i:Nat)=(if j=8 then 7 else 28+j:Nat):=h; split at h <;> split at h <;> omega) ⟨BN _ _,BN _ _,BN _ _,BN _ _,BN _ _,BN _ _,BN _ _,BN _ _,S7 hSw _,trivial⟩ (by kernel_rfl) (fun k w w2 h hx=>h.call hx) H.drew (by kernel_rfl) ?_ ?_ ?_
   ·rintro m o e' w' hm hic ho hold hg hx ⟨k,HJ⟩
    have hin:∀ t:Nat,t<7→∀ j,j<9→t≠(fun i=>if i=8 then 7 else 28+i) j:=fun t ht j hj=>by dsimp only; split <;> omega
    have g4:e'.g 4=ptr b4:=(hold 4 (hin 4 (by decide))).trans rfl
    have g6:e'.g 6=ptr b6:=(hold 6 (hin 6 (by decide))).trans rfl
    have hcs:m=0∨m=1∨m=2∨m=3∨m=4∨m=5∨m=6∨m=7∨m=8:=by omega
    rcases hcs with rfl | rfl | rfl | rfl | rfl | rfl | rfl | rfl | rfl
    ·cases Option.some.inj ho
     exact AX rfl GF g4 (by rw [Ap (HJ.get (k:=3) rfl)]; rfl) (Ab ⟨_,.refl _ _,rfl,rfl⟩)
    ·exact absurd (by decide) hic
    ·cases Option.some.inj ho
     exact AX rfl LP g6 (by rw [Ap (HJ.get (k:=2) rfl)]; rfl) (Ab ⟨_,.refl _ _,rfl,rfl⟩)
    ·exact absurd (by decide) hic
    ·cases Option.some.inj ho
     exact AX rfl GF g4 (by rw [Ap (HJ.get (k:=3) rfl)]; rfl) (Ab ⟨_,.refl _ _,rfl,rfl⟩)
    ·exact absurd (by decide) hic
    ·cases Option.some.inj ho
     exact BE rfl (hg 5 (by decide)) rfl (Ab ⟨_,.refl _ _,rfl,rfl⟩)
    ·cases Option.some.inj ho
     refine C7 (AJ (IW (hd0 l) (gs0 (hs4 l)).p) GA) rfl PK GR ?_ (Ab ⟨_,.refl _ _,rfl,rfl⟩)
     show Instr.fill _ _ [(0,e'.g 29),(1,e'.g 31),(2,e'.g 34)]=_
     rw [show e'.g 29 = .int .u64 ((nx l 8 (hs1 l)).1:Int) from (hg 1 (by decide)),show e'.g 31 = .int .i64 (s64 (nx l 8 (hs2 l)).1) from (hg 3 (by decide)),show e'.g 34 = .bool (decide (((nx l 1 (hs3 l)).1:Int)=1)) from (hg 6 (by decide))]
     kernel_rfl
    ·cases Option.some.inj ho
     refine Bn rfl GR (Ctx.start w' []) ?_
     intro b w2 _ H
     exact Ab ⟨_,H.ext,rfl,b,rfl,H.get at0,Nat.le_trans hx.size ((H.own _ (List.mem_cons_self ..)).elim (fun h=>by cases h) id)⟩
   ·intro k im o e' w' hk ho hold hg hx HJ
    have hin:∀ t:Nat,t<7→∀ j,j<9→t≠(fun i=>if i=8 then 7 else 28+i) j:=fun t ht j hj=>by dsimp only; split <;> omega
    have g4:e'.g 4=ptr b4:=(hold 4 (hin 4 (by decide))).trans rfl
    have g6:e'.g 6=ptr b6:=(hold 6 (hin 6 (by decide))).trans rfl
    rcases k with _ | _ | _ | k
    ·cases hk
     cases Option.some.inj ho
     refine Co rfl (hg 0 (by decide)) GH (I2 (T:=(⟨ba,bd,bb,b2,b4,b6,0,a,c,l⟩:Gt)) (k:=8) X0 HJ (by simp) (Xf l) (.inr (.inr (.inr rfl)))) rfl ?_
     rintro v w2 ⟨rfl,h2,h3⟩
     exact Ab ⟨_,h3,rfl,rfl,h2⟩
    ·cases hk
     cases Option.some.inj ho
     refine Co rfl (hg 2 (by decide)) PG (Ts (T:=(⟨ba,bd,bb,b2,b4,b6,0,a,c,l⟩:Gt)) X0 HJ (by simp) (by simp) (Xg l)) rfl ?_
     rintro v w2 ⟨rfl,h2,h3⟩
     exact Ab ⟨_,h3,rfl,rfl,h2⟩
    ·cases hk
     cases Option.some.inj ho
     refine Co rfl (hg 4 (by decide)) GH (I2 (T:=(⟨ba,bd,bb,b2,b4,b6,0,a,c,l⟩:Gt)) (k:=1) X0 HJ (by simp) (Xh l) (.inl rfl)) rfl ?_
     rintro v w2 ⟨rfl,h2,h3⟩
     exact Ab ⟨_,h3,rfl,rfl,h2⟩
    ·simp at hk
   ·intro e' w' hds hold hg hx HJ
    have hin:∀ t:Nat,t<7→∀ j,j<9→t≠(fun i=>if i=8 then 7 else 28+i) j:=fun t ht j hj=>by dsimp only; split <;> omega
    obtain ⟨b7,h8,hb7,hn7⟩:=hg 8 (by decide)
    have HB:Ctx w0 [] w' ((b7,Bl 33 (AJ HS GA))::(tkL ba bd (hs4 l)++[(b6,Bl 139 [ML b4]),(b4,Bl 136 [FP bb ba bd]),(bb,Bl 69 [.slice a l.length c]),(b2,Bl 33 (AJ HS GA))])):=Ctx.add HJ hb7 (.inr (Nat.le_trans H.size hn7)) fun x hx he=>by
     have:=hlt x.1 (List.mem_map_of_mem (f:=(·.1)) hx)
     omega
    refine BG (l:=AJ HS GA) rfl Cw h8 (hg 7 (by decide)) rfl (by simp [B0]) HB at0 rfl fun w3 H3=>Ab ?_
    exact ⟨b7,hds,⟨h8,trivial⟩,Ctx.perm H3 List.perm_middle.symm⟩
  ·rintro b7 j6 w H
   have X:GFix (⟨ba,bd,bb,b2,b4,b6,b7,a,c,l⟩:Gt) w0:=⟨R,hoff,hc,hm⟩
   have hhub:Ea l<256:=OX _ _
   have hcnt:WZ l<256:=OX _ _
   have hh1:(nx l 1 (hs4 l)).1<256:=hhub
   have hh2:(nx l 1 (hs5 l)).1<256:=hcnt
   refine Dx 4329327035136 (α:=Unit) (fun _=>[(8,.int .i64 (Ea l:Int)),(9,.int .i64 (WZ l:Int))]) (fun _ w'=>Ctx w0 [] w' (gL (⟨ba,bd,bb,b2,b4,b6,b7,a,c,l⟩:Gt) (hd0 l) (gs0 (hs4 l)) (hs6 l))) rfl ?_ ?_
   ·skip
    refine Gc (n:=7) (N:=8) (anc:=Kf 7 [[],[0],[0,1],[],[0,1,3],[0,1,3,4],[0,1,2,3,4]]) [ba,bd] (fun i=>if i=6 then 8 else 36+i) [isV (FP bb ba bd),isV (.int .u64 ((nx l 1 (hs4 l)).1:Int)),isV (.int .i64 ((nx l 1 (hs4 l)).1:Int)),isV (FP bb ba bd),isV (.int .u64 ((nx l 1 (hs5 l)).1:Int)),isV (.int .i64 ((nx l 1 (hs5 l)).1:Int)),isV (.int .i64 (Ea l:Int))] [1,4] (fun k w'=>Ctx w0 [] w' (gL (⟨ba,bd,bb,b2,b4,b6,b7,a,c,l⟩:Gt) (hd0 l) (gs0 (hs4 l)) ([hs4 l,hs5 l,hs6 l].getD k (hs4 l)))) (show Tryz.prog.follows .mixedOrders=true by kernel_rfl) rfl (by decide) (by kernel_rfl) (DS _) (fun i j _ _ h=>by have h:(if i=6 then 8 else 36+i:Nat)=(if j=6 then 8 else 36+j:Nat):=h; split at h <;> split at h <;> omega) ⟨BN _ _,BN _ _,BN _ _,BN _ _,BN _ _,BN _ _,BN _ _,trivial⟩ (by kernel_rfl) (fun k w w2 h hx=>h.call hx) H.drew (by kernel_rfl) ?_ ?_ ?_
    ·rintro m o e' w' hm hic ho hold hg hx ⟨k,HJ⟩
     have hin:∀ t:Nat,t<8→∀ j,j<7→t≠(fun i=>if i=6 then 8 else 36+i) j:=fun t ht j hj=>by dsimp only; split <;> omega
     have g4:e'.g 4=ptr b4:=(hold 4 (hin 4 (by decide))).trans rfl
     have hcs:m=0∨m=1∨m=2∨m=3∨m=4∨m=5∨m=6:=by omega
     rcases hcs with rfl | rfl | rfl | rfl | rfl | rfl | rfl
     ·cases Option.some.inj ho
      exact AX rfl GF g4 (by rw [Ap (HJ.get (k:=4) rfl)]; rfl) (Ab ⟨_,.refl _ _,rfl,rfl⟩)
     ·exact absurd (by decide) hic
     ·cases Option.some.inj ho
      exact Eb rfl (hg 1 (by decide)) F7 Gw (by omega) (by omega) (Ab ⟨_,.refl _ _,rfl,rfl⟩)
     ·cases Option.some.inj ho
      exact AX rfl GF g4 (by rw [Ap (HJ.get (k:=4) rfl)]; rfl) (Ab ⟨_,.refl _ _,rfl,rfl⟩)
     ·exact absurd (by decide) hic
     ·cases Option.some.inj ho
      exact Eb rfl (hg 4 (by decide)) F7 Gw (by omega) (by omega) (Ab ⟨_,.refl _ _,rfl,rfl⟩)
     ·cases Option.some.inj ho
      exact BU rfl _ (hg 2 (by decide)) (Ab ⟨_,.refl _ _,rfl,rfl⟩)
    ·intro k im o e' w' hk ho hold hg hx HJ
     have hin:∀ t:Nat,t<8→∀ j,j<7→t≠(fun i=>if i=6 then 8 else 36+i) j:=fun t ht j hj=>by dsimp only; split <;> omega
     have g4:e'.g 4=ptr b4:=(hold 4 (hin 4 (by decide))).trans rfl
     rcases k with _ | _ | k
     ·cases hk
      cases Option.some.inj ho
      refine Co rfl (hg 0 (by decide)) GH (I3 (T:=(⟨ba,bd,bb,b2,b4,b6,b7,a,c,l⟩:Gt)) (k:=1) X HJ (Xi l) (.inl rfl)) rfl ?_
      rintro v w2 ⟨rfl,h2,h3⟩
      exact Ab ⟨_,h3,rfl,rfl,h2⟩
     ·cases hk
      cases Option.some.inj ho
      refine Co rfl (hg 3 (by decide)) GH (I3 (T:=(⟨ba,bd,bb,b2,b4,b6,b7,a,c,l⟩:Gt)) (k:=1) X HJ (Xj l) (.inl rfl)) rfl ?_
      rintro v w2 ⟨rfl,h2,h3⟩
      exact Ab ⟨_,h3,rfl,rfl,h2⟩
     ·simp at hk
    ·intro e' w' hds hold hg hx HJ
     have hin:∀ t:Nat,t<8→∀ j,j<7→t≠(fun i=>if i=6 then 8 else 36+i) j:=fun t ht j hj=>by dsimp only; split <;> omega
     refine BU rfl _ (hg 5 (by decide)) (Ab ?_)
     exact ⟨(),hds,⟨hg 6 (by decide),Dj _ _ _,trivial⟩,HJ.call (.refl _ _)⟩
   ·rintro - j7 w H
    refine Af (Ad rfl rfl (Ao rfl rfl rfl (by omega) (by omega) ?_))
    refine Ah rfl CG rfl (Ah rfl CZ rfl (BF (.int _ _) rfl EG rfl rfl rfl H at2 (by (simp; done)) ?_))
    rintro w H
    refine Ab (Aa (Af (Cy rfl [ptr b7,ptr b6] rfl ?_)))
    replace H:Ctx w0 [] _ (gL (⟨ba,bd,bb,b2,b4,b6,b7,a,c,l⟩:Gt) (hdP l) (gs0 (hs6 l)) (hs6 l)):=H
    refine BU rfl (.func _ _ _) rfl ?_
    refine Ab (Aa (Au (Aw ?_)))
    obtain ⟨P1,hP1⟩:∃ P,P=My l (WZ l) (gs0 (hs6 l)).p:=⟨_,rfl⟩
    refine Bm 604462909666577099000320 (α:=Gs × Nat) (fun z=>[(9,.int .i64 (z.2:Int))]) (fun z w'=>GOk (⟨ba,bd,bb,b2,b4,b6,b7,a,c,l⟩:Gt) (hdP l) w0 w' z.1∧My l z.2 z.1.p=P1∧z.1.p.pot.length=0∧z.1.p.ids.length+z.2≤256∧z.1.p.es.length+z.2≤256∧z.1.p.fl.length+z.2≤256) (fun z=>z.2) (gs0 (hs6 l),WZ l) rfl ?_ ?_ ?_
    ·exact ⟨rfl,trivial⟩
    ·refine ⟨⟨H,OS.nil,OS.nil,OS.nil,OS.nil,Acd l⟩,hP1.symm,rfl,?_,?_,?_⟩ <;> (simp; omega)
    ·clear H
     rintro ⟨⟨⟨ids,es,fl,pot,p,bad⟩,aI,cI,fI,aE,cE,fE,aF,cF,fF,aP,cP,fP⟩,n⟩ j w ⟨⟨H,OI,OE,OF,OP,hs⟩,hP,hpt,n1,n2,n3⟩; dsimp only at H OI OE OF OP hs hP hpt n1 n2 n3; dsimp only
     refine Au (Af (BP (α:=Unit) 8866461766385664 (fun _=>[(52,.bool (decide (0<(n:Int)) && !bad))]) (fun _ w'=>Ctx w0 [] w' (gL (⟨ba,bd,bb,b2,b4,b6,b7,a,c,l⟩:Gt) (hdP l) ⟨⟨ids,es,fl,pot,p,bad⟩,aI,cI,fI,aE,cE,fE,aF,cF,fF,aP,cP,fP⟩ (p,bad))) rfl ?_ ?_))
     ·refine Ad rfl rfl (Cz rfl rfl rfl (Al rfl rfl (AD 49 rfl ?_ ?_)))
      ·intro h1
       replace h1:=AE h1
       refine BX rfl (.func _ _ _) rfl ?_
       refine Co rfl rfl Og (OW bd bad _ (H.get (k:=1) rfl)) rfl ?_
       rintro v w ⟨rfl,hx51⟩
       replace H:=H.call hx51
       refine Av rfl rfl (.bool _) rfl (Ab ?_)
       exact ⟨rfl,(),rfl,⟨congrArg Value.bool (by simp_all),trivial⟩,H⟩
      ·intro h2
       replace h2:=AF h2
       refine Ag rfl (Ag rfl (A7 rfl rfl (.bool _) rfl (Ab ?_)))
       exact ⟨rfl,(),rfl,⟨congrArg Value.bool (by simp_all),trivial⟩,H⟩
     rintro - j52 w H
     refine Ax _ rfl ?_ ?_
     ·intro h2
      rw [Bool.and_eq_true,decide_eq_true_eq,Bool.not_eq_true'] at h2
      obtain ⟨h3,rfl⟩:=h2
      obtain ⟨m,rfl⟩:∃ m,n=m+1:=⟨n - 1,by omega⟩
      refine Ay (Aa (Au (Aw (Dx 4575657221408423936 (α:=Option Addr × Nat × List Value) (fun _=>[]) (fun z w'=>Ctx w0 [] w' (gL (⟨ba,bd,bb,b2,b4,b6,b7,a,c,l⟩:Gt) (hdP l) ⟨⟨ids++[((nx l 8 (p,false)).1:Int)],es,fl,pot,(nx l 8 (p,false)).2⟩,z.1,z.2.1,z.2.2,aE,cE,fE,aF,cF,fF,aP,cP,fP⟩ (nx l 8 (p,false)).2)∧OS z.1 (ids++[((nx l 8 (p,false)).1:Int)]).length z.2.1 1 z.2.2 ((ids++[((nx l 8 (p,false)).1:Int)]).flatMap U1)) rfl ?_ ?_))))
      ·skip
       have hSw:=Ctx.ltS H
       refine Gc (n:=5) (N:=8) (anc:=Kf 5 [[],[0],[],[2],[2,3]]) [ba,bd] (fun i=>55+i) [isV (.pointer (some ⟨b7,3,none⟩)),isV (.slice aI ids.length cI),isV (FP bb ba bd),isV (.int .u64 ((nx l 8 (p,false)).1:Int)),nsV w 24 1 [.int .u64 ((nx l 8 (p,false)).1:Int)]] [3] (fun k w'=>Ctx w0 [] w' (gL (⟨ba,bd,bb,b2,b4,b6,b7,a,c,l⟩:Gt) (hdP l) ⟨⟨ids,es,fl,pot,p,false⟩,aI,cI,fI,aE,cE,fE,aF,cF,fF,aP,cP,fP⟩ ([(p,false),(nx l 8 (p,false)).2].getD k (p,false)))) (show Tryz.prog.follows .mixedOrders=true by kernel_rfl) rfl (by decide) (by kernel_rfl) (DS _) (fun i j _ _ h=>by have h:55+i=55+j:=h; omega) ⟨BN _ _,BN _ _,BN _ _,BN _ _,Oc hSw _ _ _,trivial⟩ (by kernel_rfl) (fun k w w2 h hx=>h.call hx) H.drew (by kernel_rfl) ?_ ?_ ?_
       ·rintro m o e' w' hm hic ho hold hg hx ⟨k,HJ⟩
        have hin:∀ t:Nat,t<55→∀ j,j<5→t≠(fun i=>55+i) j:=fun t ht j hj=>by dsimp only; omega
        have g4:e'.g 4=ptr b4:=(hold 4 (hin 4 (by decide))).trans rfl
        have g7:e'.g 7=ptr b7:=(hold 7 (hin 7 (by decide))).trans rfl
        have hcs:m=0∨m=1∨m=2∨m=3∨m=4:=by omega
        rcases hcs with rfl | rfl | rfl | rfl | rfl
        ·cases Option.some.inj ho
         exact Ah (off:=3) rfl (by kernel_rfl) g7 (Ab ⟨_,.refl _ _,rfl,rfl⟩)
        ·cases Option.some.inj ho
         exact AX rfl EH (hg 0 (by decide)) (by rw [Ap (HJ.get (k:=2) rfl)]; rfl) (Ab ⟨_,.refl _ _,rfl,rfl⟩)
        ·cases Option.some.inj ho
         exact AX rfl GF g4 (by rw [Ap (HJ.get (k:=4) rfl)]; rfl) (Ab ⟨_,.refl _ _,rfl,rfl⟩)
        ·exact absurd (by decide) hic
        ·cases Option.some.inj ho
         refine Dn [.int .u64 ((nx l 8 (p,false)).1:Int)] rfl Bb AZ Ja (by decide) (by decide) ?_ (Ctx.start w' []) ?_
         ·show Instr.fill _ _ [(0,e'.g 58)]=_
          rw [show e'.g 58 = .int .u64 ((nx l 8 (p,false)).1:Int) from (hg 3 (by decide))]
          kernel_rfl
         ·intro b w2 _ H
          exact Ab ⟨_,H.ext,rfl,b,rfl,H.get at0,Nat.le_trans hx.size ((H.own _ (List.mem_cons_self ..)).elim (fun h=>by cases h) id)⟩
       ·intro k im o e' w' hk ho hold hg hx HJ
        have hin:∀ t:Nat,t<55→∀ j,j<5→t≠(fun i=>55+i) j:=fun t ht j hj=>by dsimp only; omega
        have g4:e'.g 4=ptr b4:=(hold 4 (hin 4 (by decide))).trans rfl
        have g7:e'.g 7=ptr b7:=(hold 7 (hin 7 (by decide))).trans rfl
        rcases k with _ | k
        ·cases hk
         cases Option.some.inj ho
         refine Co rfl (hg 2 (by decide)) GH (I3 (T:=(⟨ba,bd,bb,b2,b4,b6,b7,a,c,l⟩:Gt)) (k:=8) X HJ hs (.inr (.inr (.inr rfl)))) rfl ?_
         rintro v w2 ⟨rfl,h2,h3⟩
         exact Ab ⟨_,h3,rfl,rfl,h2⟩
        ·simp at hk
       ·intro e' w' hds hold hg hx HJ
        have hin:∀ t:Nat,t<55→∀ j,j<5→t≠(fun i=>55+i) j:=fun t ht j hj=>by dsimp only; omega
        obtain ⟨b4',h4',hb4',hn4'⟩:=hg 4 (by decide)
        refine D4 rfl Bb Bb AZ PE Ja rfl (by decide) [.int .u64 ((nx l 8 (p,false)).1:Int)] (hg 1 (by decide)) h4' (Ctx.perm HJ (Xa _ _ _ _)) OI rfl (by simp [B0]) (fun j v hv=>⟨_,rfl,by rw [Cu,Nat.zero_add,Ap hb4']; exact hv⟩) (by omega) fun a' c' full' w3 H6 O6=>?_
        replace H6:=H6.perm (Xa _ _ _ _).symm
        rw [show ids.length+1=(ids++[((nx l 8 (p,false)).1:Int)]).length from by simp] at O6 ⊢
        refine Ah (off:=3) rfl (by kernel_rfl) ((hold 7 (hin 7 (by decide))).trans rfl) ?_
        refine BF (.slice a' (ids++[((nx l 8 (p,false)).1:Int)]).length c') rfl SD (Dj _ _ _) rfl rfl H6 at2 (by simp) fun w4 H8=>Ab ?_
        exact ⟨(a',c',full'),hds,trivial,H8,by rw [List.flatMap_append,List.flatMap_singleton]; exact O6⟩
      ·rintro ⟨aI,cI,fI⟩ j12 w ⟨H,OI⟩; dsimp only at H OI; (try dsimp only)
       obtain ⟨idn,hid⟩:∃ x,x=((nx l 8 (p,false)).1:Int):=⟨_,rfl⟩
       obtain ⟨s1,hs1'⟩:∃ x,x=(nx l 8 (p,false)).2:=⟨_,rfl⟩
       rw [← hid,← hs1'] at H
       rw [← hid] at OI
       have k1:s1.1≤l.length:=by rw [hs1']; exact G9 hs
       have k2:(nx l 1 s1).2.1≤l.length:=G9 k1
       have k3:(nx l 1 (nx l 1 s1).2).2.1≤l.length:=G9 k2
       have k4:(nx l 8 (nx l 1 (nx l 1 s1).2).2).2.1≤l.length:=G9 k3
       have v1:=OX l s1
       have v2:=OX l (nx l 1 s1).2
       have v5:=Acc l (nx l 8 (nx l 1 (nx l 1 s1).2).2).2
       refine Dx 2356571555416395220992 (α:=Nat) (fun b11=>[(11,ptr b11)]) (fun b11 w'=>Ctx w0 [] w' (tkL ba bd (nx l 8 (nx l 1 (nx l 1 s1).2).2).2++((b11,Bl 92 (Bv ⟨((nx l 1 s1).1:Int),((nx l 1 (nx l 1 s1).2).1:Int),s64 (nx l 8 (nx l 1 (nx l 1 s1).2).2).1,0⟩))::(gC (⟨ba,bd,bb,b2,b4,b6,b7,a,c,l⟩:Gt) (hdP l) (⟨⟨ids++[idn],es,fl,pot,s1⟩,aI,cI,fI,aE,cE,fE,aF,cF,fF,aP,cP,fP⟩:Gs)++gE (⟨⟨ids++[idn],es,fl,pot,s1⟩,aI,cI,fI,aE,cE,fE,aF,cF,fF,aP,cP,fP⟩:Gs))))) rfl ?_ ?_
       ·skip
        have hSw:=Ctx.ltS H
        have hlt:=Ctx.ltI H
        refine Gc (n:=10) (N:=11) (anc:=Kf 10 [[],[0],[0,1],[],[0,1,3],[0,1,3,4],[],[0,1,3,4,6],[0,1,2,3,4,5,6,7],[]]) [ba,bd] (fun i=>if i=9 then 11 else 62+i) [isV (FP bb ba bd),isV (.int .u64 ((nx l 1 s1).1:Int)),isV (.int .i64 ((nx l 1 s1).1:Int)),isV (FP bb ba bd),isV (.int .u64 ((nx l 1 (nx l 1 s1).2).1:Int)),isV (.int .i64 ((nx l 1 (nx l 1 s1).2).1:Int)),isV (ML b4),isV (.int .i64 (s64 (nx l 8 (nx l 1 (nx l 1 s1).2).2).1)),isV (.agg (Bv ⟨((nx l 1 s1).1:Int),((nx l 1 (nx l 1 s1).2).1:Int),s64 (nx l 8 (nx l 1 (nx l 1 s1).2).2).1,0⟩).toArray),nwV w (Bl 92 (Bv ⟨0,0,0,0⟩))] [1,4,7] (fun k w'=>Ctx w0 [] w' (gL (⟨ba,bd,bb,b2,b4,b6,b7,a,c,l⟩:Gt) (hdP l) ⟨⟨ids++[idn],es,fl,pot,s1⟩,aI,cI,fI,aE,cE,fE,aF,cF,fF,aP,cP,fP⟩ ([s1,(nx l 1 s1).2,(nx l 1 (nx l 1 s1).2).2,(nx l 8 (nx l 1 (nx l 1 s1).2).2).2].getD k s1))) (show Tryz.prog.follows .mixedOrders=true by kernel_rfl) rfl (by decide) (by kernel_rfl) (DS _) (fun i j _ _ h=>by have h:(if i=9 then 11 else 62+i:Nat)=(if j=9 then 11 else 62+j:Nat):=h; split at h <;> split at h <;> omega) ⟨BN _ _,BN _ _,BN _ _,BN _ _,BN _ _,BN _ _,BN _ _,BN _ _,BN _ _,S7 hSw _,trivial⟩ (by kernel_rfl) (fun k w w2 h hx=>h.call hx) H.drew (by kernel_rfl) ?_ ?_ ?_
        ·rintro m o e' w' hm hic ho hold hg hx ⟨k,HJ⟩
         have hin:∀ t:Nat,t<11→∀ j,j<10→t≠(fun i=>if i=9 then 11 else 62+i) j:=fun t ht j hj=>by dsimp only; split <;> omega
         have g4:e'.g 4=ptr b4:=(hold 4 (hin 4 (by decide))).trans rfl
         have g6:e'.g 6=ptr b6:=(hold 6 (hin 6 (by decide))).trans rfl
         have hcs:m=0∨m=1∨m=2∨m=3∨m=4∨m=5∨m=6∨m=7∨m=8∨m=9:=by omega
         rcases hcs with rfl | rfl | rfl | rfl | rfl | rfl | rfl | rfl | rfl | rfl
         ·cases Option.some.inj ho
          exact AX rfl GF g4 (by rw [Ap (HJ.get (k:=4) rfl)]; rfl) (Ab ⟨_,.refl _ _,rfl,rfl⟩)
         ·exact absurd (by decide) hic
         ·cases Option.some.inj ho
          exact Eb rfl (hg 1 (by decide)) F7 Gw (by omega) (by omega) (Ab ⟨_,.refl _ _,rfl,rfl⟩)
         ·cases Option.some.inj ho
          exact AX rfl GF g4 (by rw [Ap (HJ.get (k:=4) rfl)]; rfl) (Ab ⟨_,.refl _ _,rfl,rfl⟩)
         ·exact absurd (by decide) hic
         ·cases Option.some.inj ho
          exact Eb rfl (hg 4 (by decide)) F7 Gw (by omega) (by omega) (Ab ⟨_,.refl _ _,rfl,rfl⟩)
         ·cases Option.some.inj ho
          exact AX rfl LP g6 (by rw [Ap (HJ.get (k:=3) rfl)]; rfl) (Ab ⟨_,.refl _ _,rfl,rfl⟩)
         ·exact absurd (by decide) hic
         ·cases Option.some.inj ho
          refine C7 (Bv ⟨((nx l 1 s1).1:Int),((nx l 1 (nx l 1 s1).2).1:Int),s64 (nx l 8 (nx l 1 (nx l 1 s1).2).2).1,0⟩) rfl K9 Dq ?_ (Ab ⟨_,.refl _ _,rfl,rfl⟩)
          show Instr.fill _ _ [(0,e'.g 64),(1,e'.g 67),(2,e'.g 69)]=_
          rw [show e'.g 64 = .int .i64 ((nx l 1 s1).1:Int) from (hg 2 (by decide)),show e'.g 67 = .int .i64 ((nx l 1 (nx l 1 s1).2).1:Int) from (hg 5 (by decide)),show e'.g 69 = .int .i64 (s64 (nx l 8 (nx l 1 (nx l 1 s1).2).2).1) from (hg 7 (by decide))]
          kernel_rfl
         ·cases Option.some.inj ho
          refine Bn rfl Dq (Ctx.start w' []) ?_
          intro b w2 _ H
          exact Ab ⟨_,H.ext,rfl,b,rfl,H.get at0,Nat.le_trans hx.size ((H.own _ (List.mem_cons_self ..)).elim (fun h=>by cases h) id)⟩
        ·intro k im o e' w' hk ho hold hg hx HJ
         have hin:∀ t:Nat,t<11→∀ j,j<10→t≠(fun i=>if i=9 then 11 else 62+i) j:=fun t ht j hj=>by dsimp only; split <;> omega
         have g4:e'.g 4=ptr b4:=(hold 4 (hin 4 (by decide))).trans rfl
         have g6:e'.g 6=ptr b6:=(hold 6 (hin 6 (by decide))).trans rfl
         rcases k with _ | _ | _ | k
         ·cases hk
          cases Option.some.inj ho
          refine Co rfl (hg 0 (by decide)) GH (I3 (T:=(⟨ba,bd,bb,b2,b4,b6,b7,a,c,l⟩:Gt)) (k:=1) X HJ k1 (.inl rfl)) rfl ?_
          rintro v w2 ⟨rfl,h2,h3⟩
          exact Ab ⟨_,h3,rfl,rfl,h2⟩
         ·cases hk
          cases Option.some.inj ho
          refine Co rfl (hg 3 (by decide)) GH (I3 (T:=(⟨ba,bd,bb,b2,b4,b6,b7,a,c,l⟩:Gt)) (k:=1) X HJ k2 (.inl rfl)) rfl ?_
          rintro v w2 ⟨rfl,h2,h3⟩
          exact Ab ⟨_,h3,rfl,rfl,h2⟩
         ·cases hk
          cases Option.some.inj ho
          refine Co rfl (hg 6 (by decide)) PG (Lp (T:=(⟨ba,bd,bb,b2,b4,b6,b7,a,c,l⟩:Gt)) X HJ k3) rfl ?_
          rintro v w2 ⟨rfl,h2,h3⟩
          exact Ab ⟨_,h3,rfl,rfl,h2⟩
         ·simp at hk
        ·intro e' w' hds hold hg hx HJ
         have hin:∀ t:Nat,t<11→∀ j,j<10→t≠(fun i=>if i=9 then 11 else 62+i) j:=fun t ht j hj=>by dsimp only; split <;> omega
         obtain ⟨b11,h9,hb11,hn11⟩:=hg 9 (by decide)
         have HB:=Ctx.add HJ hb11 (.inr (Nat.le_trans H.size hn11)) fun x hx he=>by
          have:=hlt x.1 (List.mem_map_of_mem (f:=(·.1)) hx)
          omega
         refine BG (l:=Bv ⟨0,0,0,0⟩) rfl B7 h9 (hg 8 (by decide)) rfl (CN _) HB at0 rfl fun w3 H3=>Ab ?_
         exact ⟨b11,hds,⟨h9,trivial⟩,Ctx.perm H3 List.perm_middle.symm⟩
       ·rintro b11 j13 w H
        obtain ⟨s4,hs4'⟩:∃ x,x=(nx l 8 (nx l 1 (nx l 1 s1).2).2).2:=⟨_,rfl⟩
        rw [← hs4'] at H k4 v5
        refine Af (A9 rfl GF rfl H at5 rfl (Co rfl rfl GH (I2 (T:=(⟨ba,bd,bb,b2,b4,b6,b7,a,c,l⟩:Gt)) (k:=2) X H (by simp) k4 (.inr (.inl rfl))) rfl ?_))
        rintro v w ⟨hv72,H72,-⟩
        replace hv72:v = .int .u64 ((nx l 2 s4).1:Int):=hv72
        subst hv72
        replace H:=H72
        refine Eb rfl rfl F7 Rh (by omega) (by omega) ?_
        refine EN rfl rfl (by omega) (by omega) ?_
        refine Ah rfl Da rfl (BF (.int .i64 (-((nx l 2 s4).1:Int))) rfl Bw rfl rfl rfl H at2 (show 0+3<4 by decide) ?_)
        rintro w H
        replace H:Ctx w0 [] w (tkL ba bd (nx l 2 s4).2++((b11,Bl 92 (Bv ⟨((nx l 1 s1).1:Int),((nx l 1 (nx l 1 s1).2).1:Int),s64 (nx l 8 (nx l 1 (nx l 1 s1).2).2).1,-((nx l 2 s4).1:Int)⟩))::(gC (⟨ba,bd,bb,b2,b4,b6,b7,a,c,l⟩:Gt) (hdP l) (⟨⟨ids++[idn],es,fl,pot,s1⟩,aI,cI,fI,aE,cE,fE,aF,cF,fF,aP,cP,fP⟩:Gs)++gE (⟨⟨ids++[idn],es,fl,pot,s1⟩,aI,cI,fI,aE,cE,fE,aF,cF,fF,aP,cP,fP⟩:Gs)))):=H
        refine Ab (Aa (Aq (BX rfl (.func _ _ _) rfl ?_)))
        refine Bf rfl Ec B7 rfl H at2 rfl (Co rfl rfl V2 (Ku (T:=(⟨ba,bd,bb,b2,b4,b6,b7,a,c,l⟩:Gt)) (h:=hdP l) (g:=⟨⟨ids++[idn],es,fl,pot,(nx l 2 s4).2⟩,aI,cI,fI,aE,cE,fE,aF,cF,fF,aP,cP,fP⟩) X ⟨(Ctx.perm H List.perm_middle).tail,OI,OE,OF,OP,G9 k4⟩ ⟨((nx l 1 s1).1:Int),((nx l 1 (nx l 1 s1).2).1:Int),s64 (nx l 8 (nx l 1 (nx l 1 s1).2).2).1,-((nx l 2 s4).1:Int)⟩ (by dsimp only; omega) (by dsimp only; omega)) rfl ?_)
        rintro v w ⟨g',G',hg'⟩
        refine Ab (A1 (Aa (Aq (Ad rfl rfl (Bd rfl rfl rfl (by omega) (by omega) ?_)))))
        refine Ae rfl rfl (Ab (Aa ?_))
        have hP':My l m g'.p=P1:=by
         rw [hg',hs4',hid,hs1']
         exact hP
        refine ⟨(g',m),rfl,⟨congrArg (Value.int .i64) (by omega),trivial⟩,⟨G',hP',?_,?_,?_,?_⟩,by dsimp only; omega⟩ <;> dsimp only <;> rw [hg'] <;> simp only [KQ,List.length_append,List.length_cons,List.length_nil] <;> omega
     ·intro h2
      have hPd:(⟨ids,es,fl,pot,p,bad⟩:PRd)=P1:=by
       rw [← hP]
       cases n with
       | zero=>rfl
       | succ n =>
        cases bad with
        | true=>rfl
        | false=>simp at h2
      refine Bh (Aj (Aj (AG (Aa (Au (Af (Ae rfl rfl (Ab (Aa (Aw ?_))))))))))
      have hN : -9223372036854775808<(Ea l:Int)+1∧(Ea l:Int)+1≤9223372036854775807:=by omega
      obtain ⟨P2,hP2⟩:∃ P,P=if (hdP l).cmp=true then P1 else I0 l (Ea l) (Ea l) 0 P1:=⟨_,rfl⟩
      refine Bm 40564818602840431040579915223040 (α:=Gs × Nat) (fun z=>[(12,.int .i64 (z.2:Int))]) (fun z w'=>GOk (⟨ba,bd,bb,b2,b4,b6,b7,a,c,l⟩:Gt) (hdP l) w0 w' z.1∧(if (hdP l).cmp=true then z.1.p else I0 l (Ea l) (Ea l - z.2) z.2 z.1.p)=P2∧z.1.p.pot.length=0∧z.2≤Ea l∧z.1.p.ids.length≤256∧z.1.p.es.length≤256+2*z.2∧z.1.p.fl.length≤256+2*z.2) (fun z=>Ea l - z.2) (⟨⟨ids,es,fl,pot,p,bad⟩,aI,cI,fI,aE,cE,fE,aF,cF,fF,aP,cP,fP⟩,0) rfl ?_ ?_ ?_
      ·exact ⟨rfl,trivial⟩
      ·refine ⟨⟨H,OI,OE,OF,OP,hs⟩,?_,hpt,Nat.zero_le _,?_,?_,?_⟩
       ·dsimp only
        rw [hPd,hP2]
        rfl
       ·dsimp only; omega
       ·dsimp only; omega
       ·dsimp only; omega
      ·clear H OI OE OF OP hs hPd hP hpt n1 n2 n3 h2
       rintro ⟨⟨⟨ids,es,fl,pot,p,bad⟩,aI,cI,fI,aE,cE,fE,aF,cF,fF,aP,cP,fP⟩,i⟩ j2 w ⟨⟨H,OI,OE,OF,OP,hs⟩,hQ,hpt,n0,n1,n2,n3⟩; dsimp only at H OI OE OF OP hs hQ hpt n0 n1 n2 n3; dsimp only
       refine Au (Af (BP (α:=Unit) 2475275615660953235210895360 (fun _=>[(90,.bool ((decide ((i:Int)<(Ea l:Int)) && !(hdP l).cmp) && !bad))]) (fun _ w'=>Ctx w0 [] w' (gL (⟨ba,bd,bb,b2,b4,b6,b7,a,c,l⟩:Gt) (hdP l) ⟨⟨ids,es,fl,pot,p,bad⟩,aI,cI,fI,aE,cE,fE,aF,cF,fF,aP,cP,fP⟩ (p,bad))) rfl ?_ ?_))
       ·refine Ad rfl rfl (Ad rfl rfl (AO rfl rfl rfl (Al rfl rfl (AD 82 rfl ?_ ?_))))
        ·intro h3
         replace h3:=AE h3
         refine Ah rfl IE rfl (A9 rfl Hs rfl H at2 rfl (Bs rfl rfl (Av rfl rfl (.bool _) rfl (Al rfl rfl (AD 87 rfl ?_ ?_)))))
         ·intro h4
          replace h4:=Bp h4
          refine BX rfl (.func _ _ _) rfl ?_
          refine Co rfl rfl Og (OW bd bad _ (H.get (k:=1) rfl)) rfl ?_
          rintro v w ⟨rfl,hx89⟩
          replace H:=H.call hx89
          refine Av rfl rfl (.bool _) rfl (Ab ?_)
          exact ⟨rfl,(),rfl,⟨congrArg Value.bool (by (simp_all [M4]; done)),trivial⟩,H⟩
         ·intro h5
          replace h5:=Bq h5
          refine Ag rfl (Ag rfl (A7 rfl rfl (.bool _) rfl (Ab ?_)))
          exact ⟨rfl,(),rfl,⟨congrArg Value.bool (by (simp_all [M4]; done)),trivial⟩,H⟩
        ·intro h6
         replace h6:=AF h6
         refine Ag rfl (Ag rfl (Ag rfl (A7 rfl rfl (.bool _) rfl (Al rfl rfl (Ag rfl (Ag rfl (A7 rfl rfl (.bool _) rfl (Ab ?_))))))))
         exact ⟨rfl,(),rfl,⟨congrArg Value.bool (by (simp_all [M4]; intros; omega)),trivial⟩,H⟩
       rintro - j90 w H
       refine Ax _ rfl ?_ ?_
       ·intro h3
        rw [Bool.and_eq_true,Bool.and_eq_true,decide_eq_true_eq,Bool.not_eq_true',Bool.not_eq_true'] at h3
        obtain ⟨⟨h4,hcm⟩,rfl⟩:=h3
        refine Ay (Aa (Au (Aw (Dx 1257747079913946359297510211584 (α:=Gs) (fun _=>[]) (fun g w'=>GOk (⟨ba,bd,bb,b2,b4,b6,b7,a,c,l⟩:Gt) (hdP l) w0 w' g∧g.p=KQ l ⟨(Ea l:Int),(i:Int),s64 (nx l 8 (p,false)).1,0⟩ (atP ⟨ids,es,fl,pot,p,false⟩ (nx l 8 (p,false)).2)) rfl ?_ ?_))))
        ·skip
         have hSw:=Ctx.ltS H
         refine Gc (n:=6) (N:=7) (anc:=Kf 6 [[],[],[],[],[3],[1,2,3,4]]) [ba,bd] (fun i=>93+i) [isV (flwV b7 b6),isV (.agg (AJ (IW (hdP l) ⟨ids,es,fl,pot,p,false⟩) ⟨aI,cI,aE,cE,aF,cF,aP,cP⟩).toArray),isV (.int .i64 (i:Int)),isV (ML b4),isV (.int .i64 (s64 (nx l 8 (p,false)).1)),isV (.agg (Bv ⟨(Ea l:Int)+1 - 1,(i:Int),s64 (nx l 8 (p,false)).1,0⟩).toArray)] [4] (fun k w'=>Ctx w0 [] w' (gL (⟨ba,bd,bb,b2,b4,b6,b7,a,c,l⟩:Gt) (hdP l) ⟨⟨ids,es,fl,pot,p,false⟩,aI,cI,fI,aE,cE,fE,aF,cF,fF,aP,cP,fP⟩ ([(p,false),(nx l 8 (p,false)).2].getD k (p,false)))) (show Tryz.prog.follows .mixedOrders=true by kernel_rfl) rfl (by decide) (by kernel_rfl) (DS _) (fun i j _ _ h=>by have h:93+i=93+j:=h; omega) ⟨BN _ _,BN _ _,BN _ _,BN _ _,BN _ _,BN _ _,trivial⟩ (by kernel_rfl) (fun k w w2 h hx=>h.call hx) H.drew (by kernel_rfl) ?_ ?_ ?_
         ·rintro m o e' w' hm hic ho hold hg hx ⟨k,HJ⟩
          have hin:∀ t:Nat,t<93→∀ j,j<6→t≠(fun i=>93+i) j:=fun t ht j hj=>by dsimp only; omega
          have g6:e'.g 6=ptr b6:=(hold 6 (hin 6 (by decide))).trans rfl
          have g7:e'.g 7=ptr b7:=(hold 7 (hin 7 (by decide))).trans rfl
          have g10:e'.g 10=flwV b7 b6:=(hold 10 (hin 10 (by decide))).trans rfl
          have g12:e'.g 12 = .int .i64 (i:Int):=(hold 12 (hin 12 (by decide))).trans rfl
          have hcs:m=0∨m=1∨m=2∨m=3∨m=4∨m=5:=by omega
          rcases hcs with rfl | rfl | rfl | rfl | rfl | rfl
          ·cases Option.some.inj ho
           exact BX rfl _ g10 (Ab ⟨_,.refl _ _,rfl,rfl⟩)
          ·cases Option.some.inj ho
           exact Ce (AJ (IW (hdP l) ⟨ids,es,fl,pot,p,false⟩) ⟨aI,cI,aE,cE,aF,cF,aP,cP⟩) rfl CB Cw g7 rfl (C1 (b:=b7) (t:=33) (l:=AJ (IW (hdP l) ⟨ids,es,fl,pot,p,false⟩) ⟨aI,cI,aE,cE,aF,cF,aP,cP⟩) (HJ.get (k:=2) rfl) 0 (AJ (IW (hdP l) ⟨ids,es,fl,pot,p,false⟩) ⟨aI,cI,aE,cE,aF,cF,aP,cP⟩) rfl) (Ab ⟨_,.refl _ _,rfl,rfl⟩)
          ·cases Option.some.inj ho
           exact BX rfl _ g12 (Ab ⟨_,.refl _ _,rfl,rfl⟩)
          ·cases Option.some.inj ho
           exact AX rfl LP g6 (by rw [Ap (HJ.get (k:=3) rfl)]; rfl) (Ab ⟨_,.refl _ _,rfl,rfl⟩)
          ·exact absurd (by decide) hic
          ·cases Option.some.inj ho
           refine Am rfl YN (YZ (IW (hdP l) ⟨ids,es,fl,pot,p,false⟩) ⟨aI,cI,aE,cE,aF,cF,aP,cP⟩ (i:Int) (s64 (nx l 8 (p,false)).1) _ hN) ?_ ?_
           ·show [e'.g 94,e'.g 95,e'.g 97]=_
            rw [show e'.g 94 = .agg (AJ (IW (hdP l) ⟨ids,es,fl,pot,p,false⟩) ⟨aI,cI,aE,cE,aF,cF,aP,cP⟩).toArray from hg 1 (by decide),show e'.g 95 = .int .i64 (i:Int) from hg 2 (by decide),show e'.g 97 = .int .i64 (s64 (nx l 8 (p,false)).1) from hg 4 (by decide)]
           ·rintro v w2 ⟨rfl,h2⟩
            exact Ab ⟨_,h2,rfl,rfl⟩
         ·intro k im o e' w' hk ho hold hg hx HJ
          have hin:∀ t:Nat,t<93→∀ j,j<6→t≠(fun i=>93+i) j:=fun t ht j hj=>by dsimp only; omega
          have g6:e'.g 6=ptr b6:=(hold 6 (hin 6 (by decide))).trans rfl
          have g7:e'.g 7=ptr b7:=(hold 7 (hin 7 (by decide))).trans rfl
          have g10:e'.g 10=flwV b7 b6:=(hold 10 (hin 10 (by decide))).trans rfl
          have g12:e'.g 12 = .int .i64 (i:Int):=(hold 12 (hin 12 (by decide))).trans rfl
          rcases k with _ | k
          ·cases hk
           cases Option.some.inj ho
           refine Co rfl (hg 3 (by decide)) PG (Lp (T:=(⟨ba,bd,bb,b2,b4,b6,b7,a,c,l⟩:Gt)) X HJ hs) rfl ?_
           rintro v w2 ⟨rfl,h2,h3⟩
           exact Ab ⟨_,h3,rfl,rfl,h2⟩
          ·simp at hk
         ·intro e' w' hds hold hg hx HJ
          have hin:∀ t:Nat,t<93→∀ j,j<6→t≠(fun i=>93+i) j:=fun t ht j hj=>by dsimp only; omega
          refine Co rfl (hg 0 (by decide)) V2 (Ku (T:=(⟨ba,bd,bb,b2,b4,b6,b7,a,c,l⟩:Gt)) (h:=hdP l) (g:=⟨⟨ids,es,fl,pot,(nx l 8 (p,false)).2⟩,aI,cI,fI,aE,cE,fE,aF,cF,fF,aP,cP,fP⟩) X ⟨HJ,OI,OE,OF,OP,G9 hs⟩ ⟨(Ea l:Int)+1 - 1,(i:Int),s64 (nx l 8 (p,false)).1,0⟩ (by dsimp only; omega) (by dsimp only; omega)) ?_ ?_
          ·show _++([e'.g 98]++_)=_
           rw [show e'.g 98 = .agg (Bv ⟨(Ea l:Int)+1 - 1,(i:Int),s64 (nx l 8 (p,false)).1,0⟩).toArray from hg 5 (by decide)]
           rfl
          ·rintro v w2 ⟨g',G',hg'⟩
           refine Ab ?_
           exact ⟨g',hds,trivial,G',by rw [hg',Int.add_sub_cancel]; rfl⟩
        ·rintro ⟨⟨ids',es',fl',pot',s'⟩,aI,cI,fI,aE,cE,fE,aF,cF,fF,aP,cP,fP⟩ j19 w ⟨⟨H,OI,OE,OF,OP,hs'⟩,hg19⟩; dsimp only at H OI OE OF OP hs' hg19; (try dsimp only)
         have e1:ids'.length=ids.length∧es'.length=es.length+1∧fl'.length=fl.length+1∧pot'=pot:=by
          simp only [KQ,atP,PRd.mk.injEq] at hg19
          obtain ⟨rfl,rfl,rfl,rfl,-⟩:=hg19
          simp
         refine Aq (BX rfl (.func _ _ _) rfl ?_)
         refine Bf rfl CB Cw rfl H at2 rfl (Ad rfl rfl (Am rfl YO (W9 (IW (hdP l) ⟨ids',es',fl',pot',s'⟩) ⟨aI,cI,aE,cE,aF,cF,aP,cP⟩ (i:Int) _ hN) rfl ?_))
         rintro v w ⟨rfl,hx103⟩
         replace H:=H.call hx103
         refine Co rfl rfl V2 (Ku (T:=(⟨ba,bd,bb,b2,b4,b6,b7,a,c,l⟩:Gt)) (h:=hdP l) (g:=⟨⟨ids',es',fl',pot',s'⟩,aI,cI,fI,aE,cE,fE,aF,cF,fF,aP,cP,fP⟩) X ⟨H,OI,OE,OF,OP,hs'⟩ ⟨(i:Int),(Ea l:Int)+1 - 1,4503599627370496,0⟩ (by dsimp only; omega) (by dsimp only; omega)) rfl ?_
         rintro v w ⟨g',G',hg'⟩
         refine Ab (A1 (Aa (Aq (Ad rfl rfl (Ao rfl rfl rfl (by omega) (by omega) ?_)))))
         refine Ae rfl rfl (Ab (Aa ?_))
         have hQ':(if (hdP l).cmp=true then g'.p else I0 l (Ea l) (Ea l - (i+1)) (i+1) g'.p)=P2:=by
          rw [← hQ,if_neg (by rw [hcm]; decide),if_neg (by rw [hcm]; decide),show Ea l - i=(Ea l - (i+1))+1 from by omega]
          show _=I0 l (Ea l) (Ea l - (i+1)) (i+1) (Zh l (Ea l) i ⟨ids,es,fl,pot,p,false⟩)
          rw [hg',hg19,Int.add_sub_cancel]
          rfl
         refine ⟨(g',i+1),rfl,⟨rfl,trivial⟩,⟨G',hQ',?_,?_,?_,?_,?_⟩,by dsimp only; omega⟩ <;> dsimp only <;> (try rw [hg']) <;> (try simp only [KQ,List.length_append,List.length_cons,List.length_nil]) <;> (try rw [e1.2.2.2]) <;> omega
       ·intro h3
        have hQd:(⟨ids,es,fl,pot,p,bad⟩:PRd)=P2:=by
         rw [← hQ]
         by_cases hcm:(hdP l).cmp=true
         ·rw [if_pos hcm]
         ·rw [if_neg hcm]
          cases hn:Ea l - i with
          | zero=>rfl
          | succ n =>
           cases bad with
           | true=>rfl
           | false =>
            exfalso
            have h5:i<Ea l:=by omega
            simp [hcm] at h3
            omega
        refine Bh (Aj (Aj (AG (Aa (Au (Af (Ae rfl rfl (Ab (Aa (Aw ?_))))))))))
        obtain ⟨P3,hP3⟩:∃ P,P=Mz l (Ea l+1) P2:=⟨_,rfl⟩
        refine Bm 10633783401460119679889608587740192768 (α:=Gs × Nat) (fun z=>[(13,.int .i64 (z.2:Int))]) (fun z w'=>GOk (⟨ba,bd,bb,b2,b4,b6,b7,a,c,l⟩:Gt) (hdP l) w0 w' z.1∧Mz l (Ea l+1 - z.2) z.1.p=P3∧z.1.p.pot.length≤z.2∧z.2≤Ea l+1∧z.1.p.ids.length≤256∧z.1.p.es.length≤1000∧z.1.p.fl.length≤1000) (fun z=>Ea l+1 - z.2) (⟨⟨ids,es,fl,pot,p,bad⟩,aI,cI,fI,aE,cE,fE,aF,cF,fF,aP,cP,fP⟩,0) rfl ?_ ?_ ?_
        ·exact ⟨rfl,trivial⟩
        ·refine ⟨⟨H,OI,OE,OF,OP,hs⟩,?_,?_,Nat.zero_le _,n1,?_,?_⟩
         ·dsimp only
          rw [hQd,hP3]
          rfl
         ·dsimp only; omega
         ·dsimp only; omega
         ·dsimp only; omega
        ·clear H OI OE OF OP hs hQd hQ hpt n1 n2 n3 n0 h3
         rintro ⟨⟨⟨ids,es,fl,pot,p,bad⟩,aI,cI,fI,aE,cE,fE,aF,cF,fF,aP,cP,fP⟩,i⟩ j3 w ⟨⟨H,OI,OE,OF,OP,hs⟩,hQ,hpt,n0,n1,n2,n3⟩; dsimp only at H OI OE OF OP hs hQ hpt n0 n1 n2 n3; dsimp only
         refine Au (Af (BP (α:=Unit) 5151732039327524287682601826648064 (fun _=>[(111,.bool (decide ((i:Int)≤(Ea l:Int)) && !bad))]) (fun _ w'=>Ctx w0 [] w' (gL (⟨ba,bd,bb,b2,b4,b6,b7,a,c,l⟩:Gt) (hdP l) ⟨⟨ids,es,fl,pot,p,bad⟩,aI,cI,fI,aE,cE,fE,aF,cF,fF,aP,cP,fP⟩ (p,bad))) rfl ?_ ?_))
         ·refine Ad rfl rfl (Ad rfl rfl (Jh rfl rfl rfl (Al rfl rfl (AD 108 rfl ?_ ?_))))
          ·intro h7
           replace h7:=AE h7
           refine BX rfl (.func _ _ _) rfl ?_
           refine Co rfl rfl Og (OW bd bad _ (H.get (k:=1) rfl)) rfl ?_
           rintro v w ⟨rfl,hx110⟩
           replace H:=H.call hx110
           refine Av rfl rfl (.bool _) rfl (Ab ?_)
           exact ⟨rfl,(),rfl,⟨congrArg Value.bool (by (simp_all; done)),trivial⟩,H⟩
          ·intro h8
           replace h8:=AF h8
           refine Ag rfl (Ag rfl (A7 rfl rfl (.bool _) rfl (Ab ?_)))
           exact ⟨rfl,(),rfl,⟨congrArg Value.bool (by (simp_all; intros; omega)),trivial⟩,H⟩
         rintro - j111 w H
         refine Ax _ rfl ?_ ?_
         ·intro h3
          rw [Bool.and_eq_true,decide_eq_true_eq,Bool.not_eq_true'] at h3
          obtain ⟨h4,rfl⟩:=h3
          refine Ay (Aa (Au (Aw (Ld 10613054778845187672716334496925876224 (α:=Option Addr × Nat × List Value) (fun _=>[]) (fun z w'=>Ctx w0 [] w' (gL (⟨ba,bd,bb,b2,b4,b6,b7,a,c,l⟩:Gt) (hdP l) ⟨⟨ids,es,fl,pot++[s64 (nx l 8 (p,false)).1],(nx l 8 (p,false)).2⟩,aI,cI,fI,aE,cE,fE,aF,cF,fF,z.1,z.2.1,z.2.2⟩ (nx l 8 (p,false)).2)∧OS z.1 (pot++[s64 (nx l 8 (p,false)).1]).length z.2.1 1 z.2.2 ((pot++[s64 (nx l 8 (p,false)).1]).flatMap I1)) rfl ?_ ?_))))
          ·skip
           have hSw:=Ctx.ltS H
           refine Gc (n:=6) (N:=10) (anc:=Kf 6 [[],[0],[0,1],[],[3],[3,4]]) [ba,bd] (fun i=>114+i) [isV (.pointer (some ⟨b7,6,none⟩)),isV (.pointer (some ⟨b7,7,none⟩)),isV (.slice aP pot.length cP),isV (ML b4),isV (.int .i64 (s64 (nx l 8 (p,false)).1)),nsV w 2 1 [.int .i64 (s64 (nx l 8 (p,false)).1)]] [4] (fun k w'=>Ctx w0 [] w' (gL (⟨ba,bd,bb,b2,b4,b6,b7,a,c,l⟩:Gt) (hdP l) ⟨⟨ids,es,fl,pot,p,false⟩,aI,cI,fI,aE,cE,fE,aF,cF,fF,aP,cP,fP⟩ ([(p,false),(nx l 8 (p,false)).2].getD k (p,false)))) (show Tryz.prog.follows .mixedOrders=true by kernel_rfl) rfl (by decide) (by kernel_rfl) (DS _) (fun i j _ _ h=>by have h:114+i=114+j:=h; omega) ⟨BN _ _,BN _ _,BN _ _,BN _ _,BN _ _,Oc hSw _ _ _,trivial⟩ (by kernel_rfl) (fun k w w2 h hx=>h.call hx) H.drew (by kernel_rfl) ?_ ?_ ?_
           ·rintro m o e' w' hm hic ho hold hg hx ⟨k,HJ⟩
            have hin:∀ t:Nat,t<114→∀ j,j<6→t≠(fun i=>114+i) j:=fun t ht j hj=>by dsimp only; omega
            have g6:e'.g 6=ptr b6:=(hold 6 (hin 6 (by decide))).trans rfl
            have g7:e'.g 7=ptr b7:=(hold 7 (hin 7 (by decide))).trans rfl
            have hcs:m=0∨m=1∨m=2∨m=3∨m=4∨m=5:=by omega
            rcases hcs with rfl | rfl | rfl | rfl | rfl | rfl
            ·cases Option.some.inj ho
             exact Ah (off:=6) rfl (by kernel_rfl) g7 (Ab ⟨_,.refl _ _,rfl,rfl⟩)
            ·cases Option.some.inj ho
             exact Ah (off:=1) rfl (by kernel_rfl) (hg 0 (by decide)) (Ab ⟨_,.refl _ _,rfl,rfl⟩)
            ·cases Option.some.inj ho
             exact AX rfl BL (hg 1 (by decide)) (by rw [Ap (HJ.get (k:=2) rfl)]; rfl) (Ab ⟨_,.refl _ _,rfl,rfl⟩)
            ·cases Option.some.inj ho
             exact AX rfl LP g6 (by rw [Ap (HJ.get (k:=3) rfl)]; rfl) (Ab ⟨_,.refl _ _,rfl,rfl⟩)
            ·exact absurd (by decide) hic
            ·cases Option.some.inj ho
             refine Dn [.int .i64 (s64 (nx l 8 (p,false)).1)] rfl AU Bw F8 (by decide) (by decide) ?_ (Ctx.start w' []) ?_
             ·show Instr.fill _ _ [(0,e'.g 118)]=_
              rw [show e'.g 118 = .int .i64 (s64 (nx l 8 (p,false)).1) from (hg 4 (by decide))]
              kernel_rfl
             ·intro b w2 _ H
              exact Ab ⟨_,H.ext,rfl,b,rfl,H.get at0,Nat.le_trans hx.size ((H.own _ (List.mem_cons_self ..)).elim (fun h=>by cases h) id)⟩
           ·intro k im o e' w' hk ho hold hg hx HJ
            have hin:∀ t:Nat,t<114→∀ j,j<6→t≠(fun i=>114+i) j:=fun t ht j hj=>by dsimp only; omega
            have g6:e'.g 6=ptr b6:=(hold 6 (hin 6 (by decide))).trans rfl
            have g7:e'.g 7=ptr b7:=(hold 7 (hin 7 (by decide))).trans rfl
            rcases k with _ | k
            ·cases hk
             cases Option.some.inj ho
             refine Co rfl (hg 3 (by decide)) PG (Lp (T:=(⟨ba,bd,bb,b2,b4,b6,b7,a,c,l⟩:Gt)) X HJ hs) rfl ?_
             rintro v w2 ⟨rfl,h2,h3⟩
             exact Ab ⟨_,h3,rfl,rfl,h2⟩
            ·simp at hk
           ·intro e' w' hds hold hg hx HJ
            have hin:∀ t:Nat,t<114→∀ j,j<6→t≠(fun i=>114+i) j:=fun t ht j hj=>by dsimp only; omega
            obtain ⟨b5',h5',hb5',hn5'⟩:=hg 5 (by decide)
            refine D4 rfl AU AU Bw Kg F8 rfl (by decide) [.int .i64 (s64 (nx l 8 (p,false)).1)] (hg 2 (by decide)) h5' (Ctx.perm HJ (Xd _ _ _ _ _ _)) OP rfl (by simp [B0]) (fun j v hv=>⟨_,rfl,by rw [Cu,Nat.zero_add,Ap hb5']; exact hv⟩) (by omega) fun a' c' full' w3 H6 O6=>?_
            replace H6:=H6.perm (Xd _ _ _ _ _ _).symm
            rw [show pot.length+1=(pot++[s64 (nx l 8 (p,false)).1]).length from by simp] at O6 ⊢
            refine Ah (off:=6) rfl (by kernel_rfl) ((hold 7 (hin 7 (by decide))).trans rfl) ?_
            refine Ah (off:=1) rfl (by kernel_rfl) (Dj _ _ _) ?_
            refine BF (.slice a' (pot++[s64 (nx l 8 (p,false)).1]).length c') rfl Nq (Dj _ _ _) rfl rfl H6 at2 (by simp) fun w4 H8=>Ab ?_
            exact ⟨rfl,(a',c',full'),hds,trivial,H8,by rw [List.flatMap_append,List.flatMap_singleton]; exact O6⟩
          ·rintro ⟨aP,cP,fP⟩ j24 w ⟨H,OP⟩; dsimp only at H OP; (try dsimp only)
           refine A1 (Aa (Aq (Ad rfl rfl (Ao rfl rfl rfl (by omega) (by omega) ?_))))
           refine Ae rfl rfl (Ab (Aa ?_))
           have hQ':Mz l (Ea l+1 - (i+1)) ⟨ids,es,fl,pot++[s64 (nx l 8 (p,false)).1],(nx l 8 (p,false)).2⟩=P3:=by
            rw [← hQ,show Ea l+1 - i=(Ea l+1 - (i+1))+1 from by omega]
            rfl
           refine ⟨(⟨⟨ids,es,fl,pot++[s64 (nx l 8 (p,false)).1],(nx l 8 (p,false)).2⟩,aI,cI,fI,aE,cE,fE,aF,cF,fF,aP,cP,fP⟩,i+1),rfl,⟨rfl,trivial⟩,⟨⟨H,OI,OE,OF,OP,G9 hs⟩,hQ',?_,?_,n1,n2,n3⟩,by dsimp only; omega⟩
           ·dsimp only; rw [List.length_append,List.length_singleton]; omega
           ·dsimp only; omega
         ·intro h3
          have hL:(⟨ids,es,fl,pot,p,bad⟩:PRd)=M1 l:=by
           have h5:M1 l=P3:=by
            rw [hP3,hP2,hP1]
            rfl
           rw [h5,← hQ]
           cases hn:Ea l+1 - i with
           | zero=>rfl
           | succ n =>
            cases bad with
            | true=>rfl
            | false =>
             exfalso
             simp at h3
             omega
          have hr0:IW (hdP l) ⟨ids,es,fl,pot,p,bad⟩=Sj l:=by unfold Sj; rw [hL]
          have hbad:(M1 l).s.2=bad:=by rw [← hL]
          have hids:∀ x∈ids,0≤x∧x<18446744073709551616:=by
           have h5:=Xk l
           rw [← hL] at h5
           exact h5
          have hRA:∀ {w:World},(∀ x∈gE ⟨⟨ids,es,fl,pot,p,bad⟩,aI,cI,fI,aE,cE,fE,aF,cF,fF,aP,cP,fP⟩,w.heap[x.1]? = some x.2)→RAt w (IW (hdP l) ⟨ids,es,fl,pot,p,bad⟩) ⟨aI,cI,aE,cE,aF,cF,aP,cP⟩:=fun {w} m=>by
           exact ⟨OS.rd OI (fun x hx=>m x (List.mem_append_left _ hx)) (by simp) (by decide),OS.rd OE (fun x hx=>m x (List.mem_append_right _ (List.mem_append_left _ hx))) (fun _ _=>rfl) (by decide),OS.rd OF (fun x hx=>m x (List.mem_append_right _ (List.mem_append_right _ (List.mem_append_left _ hx)))) (by simp) (by decide),OS.rd OP (fun x hx=>m x (List.mem_append_right _ (List.mem_append_right _ (List.mem_append_right _ hx)))) (by simp) (by decide),OF.le⟩
          have hpl:pot.length≤1000:=by omega
          have hno:=Zg l (k:=8) (by decide) (hs1 l)
          refine Bh (Aj (Aj (AG (Aa (Au (Af (Bf rfl CB Cw rfl H at2 rfl (Am rfl V0 (OU (IW (hdP l) ⟨ids,es,fl,pot,p,bad⟩) ⟨aI,cI,aE,cE,aF,cF,aP,cP⟩ _ (hRA fun x hx=>H.blk x (List.mem_append_right _ (List.mem_append_right _ hx))) OE.le ⟨⟨by show _≤(Ea l:Int)+1; omega,by show (Ea l:Int)+1≤_; omega⟩,by show es.length≤_; omega,by show ids.length≤_; omega,by show fl.length≤_; omega,by show pot.length≤_; omega⟩ ⟨⟨by show (0:Int)≤((nx l 8 (hs1 l)).1:Int); omega,by show ((nx l 8 (hs1 l)).1:Int)<_; omega⟩,hids,Ace _⟩) rfl ?_))))))))
          rintro v w2 ⟨hT,hF⟩
          obtain ⟨a9,c9,bs,e9,rfl,R9,hx9,hT9,hF9⟩:=U6 hT hF
          replace H:=H.call hx9
          refine BV rfl rfl (A6 rfl rfl rfl (A6 rfl rfl rfl (AB rfl rfl (Ae rfl rfl (Ab (Aa (Af (BP (α:=Unit) 2787252867449406954228501409473613420036096 (fun _=>[(140,.bool (!(!bad && (decide (e9=0) && decide (bs=l)))))]) (fun _ w'=>Ctx w0 [] w' (gL (⟨ba,bd,bb,b2,b4,b6,b7,a,c,l⟩:Gt) (hdP l) ⟨⟨ids,es,fl,pot,p,bad⟩,aI,cI,fI,aE,cE,fE,aF,cF,fF,aP,cP,fP⟩ (p,bad))) rfl ?_ ?_))))))))
          ·refine BX rfl (.func _ _ _) rfl ?_
           refine Co rfl rfl Og (OW bd bad _ (H.get (k:=1) rfl)) rfl ?_
           rintro v w ⟨rfl,hx129⟩
           replace H:=H.call hx129
           replace R9:=R9.ext0 hx129
           refine Bs rfl rfl (Al rfl rfl (AD 131 rfl ?_ ?_))
           ·intro h9
            replace h9:=Bp h9
            refine Ag rfl (Ag rfl (Av rfl rfl (.bool _) rfl (Al rfl rfl (Ag rfl (Ag rfl (Ag rfl (Ag rfl (Av rfl rfl (.bool _) rfl (Ab ?_)))))))))
            exact ⟨rfl,(),rfl,⟨congrArg Value.bool (by (simp_all; done)),trivial⟩,H⟩
           ·intro h10
            replace h10:=Bq h10
            refine Ad rfl rfl (D6 rfl rfl rfl (A7 rfl rfl (.bool _) rfl (Al rfl rfl (AD 135 rfl ?_ ?_))))
            ·intro h11
             replace h11:=Eg h11
             refine Ag rfl (Ag rfl (Ag rfl (Ag rfl (Av rfl rfl (.bool _) rfl (Ab ?_)))))
             exact ⟨rfl,(),rfl,⟨congrArg Value.bool (by (simp_all; done)),trivial⟩,H⟩
            ·intro h12
             replace h12:=Eh h12
             refine An rfl rfl (An rfl rfl (Am rfl ca_84 (U5 a9 a c9 c _ _ bs l R9 (R.ext0 H.ext) rfl rfl) rfl ?_))
             rintro v w ⟨rfl,rfl⟩
             refine Bs rfl rfl (A7 rfl rfl (.bool _) rfl (Ab ?_))
             exact ⟨rfl,(),rfl,⟨congrArg Value.bool (by (simp_all; done)),trivial⟩,H⟩
          rintro - j140 w H
          have hgetB:U4 l=(!bad && (decide (e9=0) && decide (bs=l))):=by
           unfold U4
           rw [hbad,← hr0]
           cases hw:Bx (IW (hdP l) ⟨ids,es,fl,pot,p,bad⟩) with
           | true =>
            obtain ⟨rfl,rfl⟩:=hT9 hw
            simp
           | false =>
            obtain rfl:=hF9 hw
            simp
          refine Ax _ rfl ?_ ?_
          ·intro h4
           replace h4:=Bp h4
           have hgf:U4 l=false:=by rw [hgetB]; simpa using h4
           refine Af (C7 (AJ HS GA) rfl PK GR (by kernel_rfl) ?_)
           refine BG rfl Cw rfl rfl rfl (by exact (by decide)) H at6 rfl ?_
           rintro w H
           refine Ae rfl rfl (Ab (Aa (A5 (Ak (J6 rfl rfl rfl CB Cw H at6 rfl (show _=(.int _ _) from rfl) ?_)))))
           exact ⟨fun _=>⟨fun h=>(by rw [hgf] at h; cases h),fun _=>rfl,H.ext⟩,fun h=>(by rw [h] at h1; cases h1)⟩
          ·intro h4
           replace h4:=Bq h4
           have hgt:U4 l=true:=by rw [hgetB]; simpa using h4
           refine Ay (Aa (Af (Bf rfl CB Cw rfl H at2 rfl (BG rfl Cw rfl rfl rfl (by exact (by simp [B0])) H at6 rfl ?_))))
           rintro w H
           refine Ae rfl rfl (Ab (Aa (A5 (J6 rfl rfl rfl CB Cw H at6 rfl (show _=(.int _ _) from rfl) ?_))))
           have HE:Ctx w0 [] _ (gE ⟨⟨ids,es,fl,pot,p,bad⟩,aI,cI,fI,aE,cE,fE,aF,cF,fF,aP,cP,fP⟩):=H.drop 7
           refine ⟨fun _=>⟨fun _=>⟨⟨aI,cI,aE,cE,aF,cF,aP,cP⟩,by rw [← hr0],by rw [← hr0]; exact hRA fun x hx=>HE.blk x hx,by rw [← hr0]; exact OE.le,?_⟩,fun h=>(by rw [hgt] at h; cases h),H.ext⟩,fun h=>(by rw [h] at h1; cases h1)⟩
           intro x hx q hq
           simp only [List.mem_cons,List.not_mem_nil,or_false] at hx
           rcases hx with rfl | rfl | rfl | rfl <;> subst hq
           ·exact (HE.own (q.block,Bl 24 fI) (List.mem_append_left _ (List.mem_singleton.2 rfl))).elim (fun h=>by cases h) id
           ·exact (HE.own (q.block,Bl 92 fE) (List.mem_append_right _ (List.mem_append_left _ (List.mem_singleton.2 rfl)))).elim (fun h=>by cases h) id
           ·exact (HE.own (q.block,Bl 2 fF) (List.mem_append_right _ (List.mem_append_right _ (List.mem_append_left _ (List.mem_singleton.2 rfl))))).elim (fun h=>by cases h) id
           ·exact (HE.own (q.block,Bl 2 fP) (List.mem_append_right _ (List.mem_append_right _ (List.mem_append_right _ (List.mem_singleton.2 rfl))))).elim (fun h=>by cases h) id
end Go.Proofs.YtapphbmlkdhnmaaGreat

/- What the law plans: a round of rooms and dues. -/
namespace Go.Proofs.YtapphbmlkdhnmaaGreat
open Go.GV
attribute [local irreducible] A4 W Wq Wt

structure PlnR (rs:List Int) (ds:List Du) (net:Bool) (r:Rnd):Prop where
 no:r.no=3
 day:r.day=2
 cmp:r.cmp=net
 ids:r.ids=(opn ds).map Du.id
 N:r.N=((rs.length+1:Nat):Int)
 es:r.es=Df rs (opn ds) net
 chk:DV r.N r.es r.fl r.pot=true
def Acf (w:World) (rs:List Int) (ds:List Du) (net:Bool) (v:Value) (w':World):Prop :=
 Ext [] w w'∧((CU rs ds=false∧v = .tuple #[.agg rnd0.toArray,.bool false]) ∨
  (CU rs ds=true∧∃ r q,v = .tuple #[.agg (AJ r q).toArray,.bool true]∧PlnR rs ds net r∧RAt w' r q∧ROff q r (fun x=>x<w.heap.size)∧r.es.length≤q.cE))
set_option maxRecDepth 20000 in
set_option maxHeartbeats 4000000 in
theorem HN (a b:Option Addr) (n c m e:Nat) (rs:List Int) (ds:List Du) (net:Bool) (w:World) (R:Rd w a 1 I1 rs) (hn:rs.length=n) (hn2:n≤1000) (Rd':Rd w b 7 DL ds) (hm:ds.length=m) (hm2:m≤1000) :
  Ret Tryz.prog 30 #[.slice a n c,.slice b m e,.bool net] w (Acf w rs ds net):=by
 subst hn hm
 obtain ⟨w0,rfl⟩:∃ w0,w0=w:=⟨_,rfl⟩
 have H:=Ctx.start w0 []
 refine A2 (fn:=Tryz.f30) Tryz.func30 rfl [.slice a rs.length c,.slice b ds.length e,.bool net] rfl (by kernel_rfl) ?_
 refine Af (Bn rfl GR H ?_)
 rintro b6 w - H
 refine Ai rfl rfl (Ab (Aa ?_))
 cases hbb:CU rs ds
 ·skip
  refine Af (An rfl rfl (An rfl rfl (Al rfl rfl (Am rfl YM (NA a b _ c _ e rs ds net _ (R.ext0 H.ext) rfl (by omega) (Rd'.ext0 H.ext) rfl (by omega)) rfl ?_))))
  rintro v w ⟨hx18,⟨-,rfl⟩ | ⟨hb1,-⟩⟩
  rotate_left
  (rw [hbb] at hb1; cases hb1)
  replace H:=H.call hx18
  refine BV rfl rfl (A6 rfl rfl rfl (A6 rfl rfl rfl (A6 rfl rfl rfl (Bn rfl Nr H ?_))))
  rintro b8 w - H
  refine BG rfl Cc rfl rfl rfl (by exact (by decide)) H at0 rfl ?_
  rintro w H
  refine AB rfl rfl (Ae rfl rfl (Ab (Aa (Au (Af (Ad rfl rfl (D6 rfl rfl rfl (Ab (Aa (Ax _ rfl ?_ ?_))))))))))
  ·intro h1
   replace h1:=Eg h1
   refine Af (C7 rnd0 rfl PK GR (by kernel_rfl) ?_)
   refine BG rfl Cw rfl rfl rfl (by exact (by decide)) H at1 rfl ?_
   rintro w H
   refine Ai rfl rfl (Ab (Aa (A5 (Ak (J6 rfl rfl rfl CB Cw H at1 rfl (show _=(.bool _) from rfl) ?_)))))
   exact ⟨H.ext,.inl ⟨hbb,rfl⟩⟩
  ·intro h1
   replace h1:=Eh h1
   exact absurd h1 (by decide)
 ·skip
  have hB:=(Mr (by omega)).1 hbb
  obtain ⟨es,hes⟩:∃ es,es=Df rs (opn ds) net:=⟨_,rfl⟩
  refine Af (An rfl rfl (An rfl rfl (Al rfl rfl ?_)))
  have hlb:=H.lt at0
  refine Am rfl YM (NA a b _ c _ e rs ds net _ (R.ext0 H.ext) rfl (by omega) (Rd'.ext0 H.ext) rfl (by omega)) rfl ?_
  rintro v w ⟨hx18,⟨hb1,-⟩ | ⟨-,aE,nE,cE,vI,rfl,SE,SI⟩⟩
  (rw [hbb] at hb1; cases hb1)
  replace H:=H.call hx18
  rw [← hes] at SE
  obtain ⟨aE,cE,hE1,hEl,RE,hEn⟩:=SE.ex
  obtain ⟨aI,cI,rfl,-,RI,hIn⟩:=SI.ex
  cases hE1
  have hx018:=H.ext
  have hb60:w0.heap.size≤b6:=(H.own _ (List.mem_cons_self ..)).elim (fun h=>by cases h) id
  obtain ⟨w18,rfl⟩:∃ z,z=w:=⟨_,rfl⟩
  replace H:=Ctx.lend (L1:=[_]) (L2:=[]) H
  dsimp only [List.map] at H
  have hs24:=hx18.size
  refine BV rfl rfl (A6 rfl rfl rfl (A6 rfl rfl rfl (A6 rfl rfl rfl (Bn rfl Nr H ?_))))
  rintro b8 w - H
  refine BG rfl Cc rfl rfl rfl (by exact (by simp [B0])) H at0 rfl ?_
  rintro w H
  refine AB rfl rfl (Ae rfl rfl (Ab (Aa (Au (Af (Ad rfl rfl (D6 rfl rfl rfl (Ab (Aa (Ax _ rfl ?_ ?_))))))))))
  ·intro h1
   replace h1:=Eg h1
   exact absurd h1 (by decide)
  ·intro h1
   replace h1:=Eh h1
   have hri:BS ((rs.length+1:Nat):Int) es=true:=by rw [hes]; exact hB.right net
   have hE6:es≠[]→(adr aE).block∉[b6]:=fun h=>by have:=hEn h; rw [List.mem_singleton]; omega
   have hI6:(opn ds).map Du.id≠[]→(adr aI).block∉[b6]:=fun h=>by have:=hIn h; rw [List.mem_singleton]; omega
   have hE26:=RE.lt' (fun _ _=>rfl) (by decide)
   have hI26:=RI.lt' (fun _ _=>rfl) (by decide)
   refine Ay (Aa (Af (Bf rfl Cp Cc rfl H at0 rfl ?_)))
   have hl8:=H.lt at0
   have hl6:=H.lt at1
   refine Am rfl ca_59 (Yw (rs.length+1) aE cE es _ (RE.ext' H.ext hE6) hri) rfl ?_
   rintro v w ⟨bf,bp,x,p,k,rfl,hF,hov,hpb,HB⟩
   replace H:=H.call HB.ext
   have RF:Rd w (some ⟨bf,0,none⟩) 1 I1 (tab x es.length):=Cj (HB.get at0)
   have RP:Rd w (some ⟨bp,0,none⟩) 1 I1 (tab p (rs.length+1)):=Cj (HB.get at1)
   have hbf:=(HB.own _ (List.mem_of_getElem? at0)).elim (fun h=>by cases h) id
   have hbp:=(HB.own _ (List.mem_of_getElem? at1)).elim (fun h=>by cases h) id
   dsimp only at hbf hbp
   replace RE:=RE.ext' H.ext hE6
   replace RI:=RI.ext' H.ext hI6
   have hb80:=(H.own _ (List.mem_of_getElem? at0)).elim (fun h => .inl (List.mem_singleton.1 h)) Or.inr
   have hx027:=hx018.then H.ext (fun x hx => .inr (by rw [List.mem_singleton.1 hx]; exact hb60))
   have hs36:=HB.ext.size
   have hs26:=H.size
   obtain ⟨w36,rfl⟩:∃ z,z=w:=⟨_,rfl⟩
   replace H:=Ctx.lend (L1:=[_,_]) (L2:=[]) H
   dsimp only [List.map] at H
   refine BV rfl rfl (A6 rfl rfl rfl (A6 rfl rfl rfl (A6 rfl rfl rfl (Bn rfl V8 H ?_))))
   rintro b11 w - H
   refine BG rfl KA rfl rfl rfl (by exact (by simp [B0])) H at0 rfl ?_
   rintro w H
   refine Ae rfl rfl (Ae rfl rfl (Ab (Aa ?_)))
   obtain ⟨r,hr⟩:∃ r:Rnd,r=⟨3,2,net,(opn ds).map Du.id,((rs.length+1:Nat):Int),es,tab x es.length,tab p (rs.length+1)⟩:=⟨_,rfl⟩
   obtain ⟨q,hq⟩:∃ q:RSl,q=⟨aI,cI,aE,cE,some ⟨bf,0,none⟩,es.length,some ⟨bp,0,none⟩,rs.length+1⟩:=⟨_,rfl⟩
   have hcells:AJ r q=[.int .u64 3,.int .i64 2,.bool net,.slice aI ((opn ds).map Du.id).length cI,.int .i64 ((rs.length+1:Nat):Int),.slice aE es.length cE,.slice (some ⟨bf,0,none⟩) es.length es.length,.slice (some ⟨bp,0,none⟩) (rs.length+1) (rs.length+1)]:=by
    rw [hr,hq]
    unfold AJ
    dsimp only
    rw [CO,CO]
   refine Af (Al rfl rfl (An rfl rfl (Bf rfl Cp Cc rfl H at1 rfl (Bf rfl Nn KA rfl H at0 rfl (C7 [.int .u64 3,.int .i64 2,.bool net,.slice aI ((opn ds).map Du.id).length cI,.int .i64 ((rs.length+1:Nat):Int),.slice aE es.length cE,.slice (some ⟨bf,0,none⟩) es.length es.length,.slice (some ⟨bp,0,none⟩) (rs.length+1) (rs.length+1)] rfl PK GR (by kernel_rfl) ?_)))))
   refine Ad rfl rfl (BE rfl rfl rfl (BG rfl Cw rfl rfl rfl (by exact (by simp [B0])) H at2 rfl ?_))
   rintro w H
   refine Ai rfl rfl (Ab (Aa (A5 (J6 rfl rfl rfl CB Cw H at2 rfl (show _=(.bool _) from rfl) ?_))))
   have h8:w0.heap.size≤b8:=by rcases hb80 with h | h <;> omega
   have hxx:=hx027.then H.ext fun x hx => .inr (by simp only [List.mem_cons,List.not_mem_nil,or_false] at hx; omega)
   refine ⟨hxx,.inr ⟨hbb,r,q,by rw [hcells]; rfl,⟨by rw [hr],by rw [hr],by rw [hr],by rw [hr],by rw [hr],by rw [hr]; exact hes,?_⟩,⟨?_,?_,?_,?_,?_⟩,⟨?_,?_,?_,?_⟩,by rw [hr,hq]; exact hEl⟩⟩
   ·rw [hr]; exact RZ hri hF hov hpb
   ·rw [hr,hq]; exact RI.ext' H.ext fun h=>by have h1:=hI26 h; have h2:=hI6 h; rw [List.mem_singleton] at h2; simp only [List.mem_cons,List.not_mem_nil,or_false]; rcases hb80 with h3 | h3 <;> omega
   ·rw [hr,hq]; exact RE.ext' H.ext fun h=>by have h1:=hE26 h; have h2:=hE6 h; rw [List.mem_singleton] at h2; simp only [List.mem_cons,List.not_mem_nil,or_false]; rcases hb80 with h3 | h3 <;> omega
   ·rw [hr,hq]; exact RF.ext' H.ext fun _=>by show bf∉[b8,b6]; simp only [List.mem_cons,List.not_mem_nil,or_false]; omega
   ·rw [hr,hq]; exact RP.ext' H.ext fun _=>by show bp∉[b8,b6]; simp only [List.mem_cons,List.not_mem_nil,or_false]; omega
   ·rw [hr,hq]; dsimp only; rw [CO]; exact Nat.le_refl _
   ·rw [hr,hq]; intro h; have:=hIn h; dsimp only; omega
   ·rw [hr,hq]; intro h; have:=hEn h; dsimp only; omega
   ·rw [hr,hq]; intro _; show ¬ bf<w0.heap.size; omega
   ·rw [hr,hq]; intro _; show ¬ bp<w0.heap.size; omega
end Go.Proofs.YtapphbmlkdhnmaaGreat

/- The law's example. -/
namespace Go.Proofs.YtapphbmlkdhnmaaGreat
open Go.GV
attribute [local irreducible] A4 W Wq Wt

abbrev xR3:List Int:=[5,0]
abbrev xD3:List Du:=[⟨7,0,1,9,2,0,false⟩]
abbrev xE3:List Ed:=[⟨0,1,9,-2⟩,⟨2,0,5,0⟩,⟨0,2,4503599627370496,0⟩,⟨2,1,0,0⟩,⟨1,2,4503599627370496,0⟩]
theorem xe3:Df xR3 (opn xD3) false=xE3:=by decide
theorem xb3:CU xR3 xD3=true:=by decide
theorem Tt {rs:List Int} {ds:List Du} {net:Bool} {r:Rnd} (P:PlnR rs ds net r) (hd:ds.length≤1000000):RBnd r:=by
 obtain ⟨h1,h2,-⟩:=Fq.1 P.chk
 obtain ⟨g1,g2,g3,-⟩:=BM (BA (E5 h1).1).2.1
 have g4:=(BA (E5 h1).1).1
 have g5:=(Jr h2).1
 refine ⟨⟨by omega,by omega⟩,by omega,?_,by omega,by omega⟩
 rw [P.ids,List.length_map]
 exact Nat.le_trans (List.length_filter_le _ _) hd
theorem Xl {rs:List Int} {ds:List Du} {net:Bool} {r:Rnd} (P:PlnR rs ds net r):BS r.N r.es=true∧B3 r.N r.es r.fl=true∧(∀ v,v<r.N.toNat→Bz (grE r.N r.es) (flE r.fl) v=0)∧Fine (grE r.N r.es) (Ch r.es) (flE r.fl) (Et r.pot):=by
 obtain ⟨h1,-,h3⟩:=Fq.1 P.chk
 obtain ⟨h4,h5⟩:=E5 h1
 exact ⟨(BA h4).2.1,h4,h5,h3⟩
theorem xw3 {r:Rnd} (P:PlnR xR3 xD3 false r):Bx r=true∧KM r 7=(5,9,0)∧KN r 1=(5,0,0)∧HK r=(10,0)∧(HM r).length=127∧KM r 8=(0,0,4)∧KN r 2=(0,0,10):=by
 obtain ⟨p1,p2,p3,p4⟩:=Xl P
 obtain ⟨no,day,cmp,ids,N,es,fl,pot⟩:=r
 obtain ⟨h1,h2,h3,h4,h5,h6,h7⟩:=P
 dsimp only at h1 h2 h3 h4 h5 h6 h7 p1 p2 p3 p4
 have h4':ids=[7]:=h4.trans (by decide)
 have h5':N=3:=h5
 have h6':es=xE3:=h6.trans xe3
 subst h1 h2 h3 h4' h5' h6'
 have hR:Bx ⟨3,2,false,[7],3,xE3,fl,pot⟩=true:=by
  unfold Bx Ix GL
  dsimp only
  rw [h7]
  rfl
 have hW:=G5 hR
 have hlen:fl.length=5:=hW.len
 have hpl:(pot.length:Int)=3:=hW.pot
 have hg:=Jt p1
 obtain ⟨x,hx⟩:∃ x,x=flE fl:=⟨_,rfl⟩
 rw [← hx] at p3 p4
 have o0:=p3 0 (by decide)
 have i0:=p4.in' 0 (by decide)
 have i1:=p4.in' 1 (by decide)
 have i2:=p4.in' 2 (by decide)
 have hbest:=Fine.best hg p4 p3 (y:=fun i=>[5,5,0,0,5].getD i 0) (fun i hi=>by
  have hi':i<5:=hi
  match i,hi' with
  | 0,_=>decide
  | 1,_=>decide
  | 2,_=>decide
  | 3,_=>decide
  | 4,_=>decide) (fun v hv=>by
  have hv':v<3:=hv
  match v,hv' with
  | 0,_=>decide
  | 1,_=>decide
  | 2,_=>decide)
 have hc1:G1 (grE 3 xE3) (fun i=>[5,5,0,0,5].getD i 0) = -10:=by decide
 have hc2:G1 (grE 3 xE3) x = -(2*x 0):=by
  show 0+x 0 * -2+x 1*0+x 2*0+x 3*0+x 4*0=_
  omega
 have e0:Bz (grE 3 xE3) x 0 = -(x 0)+x 1 - x 2:=by
  show 0+(0 - 1)*x 0+(1 - 0)*x 1+(0 - 1)*x 2+(0 - 0)*x 3+(0 - 0)*x 4=_
  omega
 have c1:Ch xE3 1=5:=rfl
 have hx0:x 0=5:=by
  rw [hc1,hc2] at hbest
  rw [e0] at o0
  rw [c1] at i1
  omega
 have hf0:fl.getD 0 0=5:=by rw [← hx0,hx]; rfl
 refine ⟨hR,?_,?_,?_,?_,?_,?_⟩
 ·unfold KM
  rw [if_pos hR]
  show (fl.getD 0 0,(9:Int),(0:Int))=_
  rw [hf0]
 ·unfold KN
  rw [if_pos hR]
  show (0+fl.getD 0 0,0+(0:Int),(0:Int))=_
  rw [hf0]
  rfl
 ·unfold HK
  rw [if_pos hR]
  show (0 + -(-2:Int)*fl.getD 0 0,(0:Int))=_
  rw [hf0]
  rfl
 ·unfold HM G8
  rw [List.length_append,List.length_append,List.length_append,Kr,FG,Y5]
  have:(esB ⟨3,2,false,[7],3,xE3,fl,pot⟩ 5).length=76:=by simp [esB,eB,List.range_succ,E8]
  show 23+(esB ⟨3,2,false,[7],3,xE3,fl,pot⟩ 5).length+8*pot.length+4=127
  omega
 ·unfold KM
  rw [if_pos hR]
  rfl
 ·unfold KN
  rw [if_pos hR]
  rfl
theorem Y8:Ju []=false:=by decide
theorem Xm {rs:List Int} {ds:List Du} {net:Bool} {r:Rnd} (P:PlnR rs ds net r) (hd:∀ d∈ds,0≤d.id∧d.id<18446744073709551616):WU r:=by
 refine ⟨by rw [P.no]; decide,fun x hx=>?_,by rw [P.day]; decide⟩
 rw [P.ids] at hx
 obtain ⟨d,h1,rfl⟩:=List.mem_map.1 hx
 exact hd d (List.mem_filter.1 h1).1
set_option maxRecDepth 20000 in
set_option maxHeartbeats 4000000 in
theorem HO (w:World):Ret Tryz.prog 27 #[] w fun v w'=>v = .bool true∧Ext [] w w':=by
 obtain ⟨w0,rfl⟩:∃ w0,w0=w:=⟨_,rfl⟩
 have H:=Ctx.start w0 []
 refine A2 (fn:=Tryz.f27) Tryz.func27 rfl [] rfl (by kernel_rfl) ?_
 refine Af (Ai rfl rfl (Ab (Aa (Af (Dn [.int .i64 5,.int .i64 0] rfl AU Bw F8 (by decide) (by decide) (by kernel_rfl) H ?_)))))
 rintro b22 w - H
 refine C7 (DL ⟨7,0,1,9,2,0,false⟩) rfl YS Gg (by kernel_rfl) ?_
 refine Dd _ (.agg _) rfl D8 Dp Gg rfl (by decide) (by decide) rfl rfl rfl H ?_
 rintro b24 w - H
 refine Am rfl V1 (HN (some ⟨b22,0,none⟩) (some ⟨b24,0,none⟩) 2 2 1 1 xR3 xD3 false _ (WS (H.get at1)) rfl (by decide) (Rd.of_bl (xs:=xD3) (enc:=DL) (r:=[]) (H.get at0) rfl (by decide)) rfl (by decide)) rfl ?_
 rintro v w ⟨hx25,⟨hb,-⟩ | ⟨-,r,q,rfl,P,RA,-,hEc⟩⟩
 (exact absurd hb (by rw [xb3]; decide))
 replace H:=H.call hx25
 obtain ⟨y1,y2,y3,y4,y5,y6,y7⟩:=xw3 P
 have hB:=Tt P (by decide)
 have hU:=Xm P (by decide)
 have hx0:=H.ext
 obtain ⟨w1,rfl⟩:∃ z,z=w:=⟨_,rfl⟩
 replace H:=Ctx.start w1 []
 refine BV rfl rfl (A6 rfl rfl rfl (A6 rfl rfl rfl (Bn rfl GR H ?_)))
 rintro b1 w - H
 refine BG rfl Cw rfl rfl rfl (by exact (by simp [B0])) H at0 rfl ?_
 rintro w H
 refine Ai rfl rfl (Ab (Aa (Au (Af (Al rfl rfl (Bs rfl rfl (Ab (Aa (FR rfl (Ay (Aa (Af ?_))))))))))))
 refine Bf rfl CB Cw rfl H at0 rfl (Am rfl YJ (Qv r q 7 _ (RA.ext0 H.ext) hEc hB) rfl ?_)
 rintro v w ⟨rfl,hx⟩
 rw [y2]
 replace H:=H.call hx
 refine BV rfl rfl (A6 rfl rfl rfl (A6 rfl rfl rfl (A6 rfl rfl rfl (Ae rfl rfl (Ae rfl rfl (Ae rfl rfl (Ab (Aa (Af (Bf rfl CB Cw rfl H at0 rfl ?_))))))))))
 refine Am rfl YK (Qw r q 1 _ (RA.ext0 H.ext) hEc hB) rfl ?_
 rintro v w ⟨rfl,hx⟩
 rw [y3]
 replace H:=H.call hx
 refine BV rfl rfl (A6 rfl rfl rfl (A6 rfl rfl rfl (A6 rfl rfl rfl (Ae rfl rfl (Ae rfl rfl (Ae rfl rfl (Ab (Aa (Af (Bf rfl CB Cw rfl H at0 rfl ?_))))))))))
 refine Am rfl YL (NG r q _ (RA.ext0 H.ext) hEc hB) rfl ?_
 rintro v w ⟨rfl,hx⟩
 rw [y4]
 replace H:=H.call hx
 refine BV rfl rfl (A6 rfl rfl rfl (A6 rfl rfl rfl (Ae rfl rfl (Ae rfl rfl (Ab (Aa (Af (Bf rfl CB Cw rfl H at0 rfl (Am rfl V0 (OU r q _ (RA.ext0 H.ext) hEc hB hU) rfl ?_)))))))))
 rintro v w ⟨hT,-⟩
 obtain ⟨s,rfl,F⟩:=hT y1
 obtain ⟨a9,c9,rfl,-⟩:=Fresh.rdB F
 rw [y5]
 replace H:=H.call F.ext
 refine BV rfl rfl (A6 rfl rfl rfl (A6 rfl rfl rfl (AB rfl rfl (Ae rfl rfl (Ab (Aa (Af (Bf rfl CB Cw rfl H at0 rfl (Am rfl YJ (Qv r q 8 _ (RA.ext0 H.ext) hEc hB) rfl ?_)))))))))
 rintro v w ⟨rfl,hx⟩
 rw [y6]
 replace H:=H.call hx
 refine BV rfl rfl (A6 rfl rfl rfl (A6 rfl rfl rfl (A6 rfl rfl rfl (Ae rfl rfl (Ae rfl rfl (Ae rfl rfl (Ab (Aa (Af (Bf rfl CB Cw rfl H at0 rfl ?_))))))))))
 refine Am rfl YK (Qw r q 2 _ (RA.ext0 H.ext) hEc hB) rfl ?_
 rintro v w ⟨rfl,hx⟩
 rw [y7]
 replace H:=H.call hx
 refine BV rfl rfl (A6 rfl rfl rfl (A6 rfl rfl rfl (A6 rfl rfl rfl (Ae rfl rfl (Ae rfl rfl (Ae rfl rfl (Ab (Aa (Af (Am rfl ca_28 (Y7 none 0 [] _ Rd.nil (Nat.le_refl _) (Nat.zero_le _) (fun h=>absurd rfl h)) rfl ?_))))))))))
 rintro v w ⟨-,hN⟩
 obtain ⟨rfl,hx⟩:=hN Y8
 replace H:=H.call hx
 refine BV rfl rfl (A6 rfl rfl rfl (A6 rfl rfl rfl (Bn rfl GR H ?_)))
 rintro b19 w - H
 refine BG rfl Cw rfl rfl rfl (by exact (by simp [B0])) H at0 rfl ?_
 rintro w H
 refine Ae rfl rfl (Ab (Aa (Af (Bf rfl CB Cw rfl H at1 rfl (Am rfl LQ (Ft r q _ (RA.ext0 H.ext) hEc hB) rfl ?_)))))
 rintro v w ⟨rfl,hx⟩
 rw [y1]
 replace H:=H.call hx
 refine Al rfl rfl (Ad rfl rfl (BE rfl rfl rfl (Av rfl rfl (.bool _) rfl (Al rfl rfl (Ad rfl rfl (BE rfl rfl rfl (Av rfl rfl (.bool _) rfl (Al rfl rfl (Ad rfl rfl ?_)))))))))
 refine BE rfl rfl rfl (Av rfl rfl (.bool _) rfl (Al rfl rfl (Ad rfl rfl (BE rfl rfl rfl (Av rfl rfl (.bool _) rfl (Al rfl rfl (Ad rfl rfl (BE rfl rfl rfl (Av rfl rfl (.bool _) rfl ?_)))))))))
 refine Al rfl rfl (Ad rfl rfl (BE rfl rfl rfl (Av rfl rfl (.bool _) rfl (Al rfl rfl (Ad rfl rfl (BE rfl rfl rfl (Av rfl rfl (.bool _) rfl (Al rfl rfl (Ad rfl rfl ?_)))))))))
 refine BE rfl rfl rfl (Av rfl rfl (.bool _) rfl (Al rfl rfl (An rfl rfl (Bc rfl Dt rfl (BE rfl rfl rfl (Av rfl rfl (.bool _) rfl (Al rfl rfl (Ad rfl rfl (BE rfl rfl rfl ?_)))))))))
 refine Av rfl rfl (.bool _) rfl (Al rfl rfl (Ad rfl rfl (BE rfl rfl rfl (Av rfl rfl (.bool _) rfl (Al rfl rfl (Ad rfl rfl (BE rfl rfl rfl (Av rfl rfl (.bool _) rfl (Al rfl rfl ?_)))))))))
 refine Ad rfl rfl (BE rfl rfl rfl (Av rfl rfl (.bool _) rfl (Ai rfl rfl (Ab (Aa (A5 (A8 (v:=(.bool _)) rfl rfl rfl ?_)))))))
 exact ⟨rfl,hx0.trans H.ext⟩
end Go.Proofs.YtapphbmlkdhnmaaGreat

/- A round with anything of it turned is not right. -/
namespace Go.Proofs.YtapphbmlkdhnmaaGreat
open Go.GV

/-- One flow more or less. -/
theorem NL {r:Rnd} (W:WR r) {k:Nat} (hk:k<r.ids.length) {d:Int} (hd:d≠0):Bx { r with fl:=r.fl.set k (r.fl.getD k 0+d) }=false:=by
 cases h:Bx { r with fl:=r.fl.set k (r.fl.getD k 0+d) } with
 | false=>rfl
 | true =>
  exfalso
  have V:=G5 h
  have hde:=W.de
  have hlen:=W.len
  obtain ⟨e,he⟩:=AH (l:=r.es) (i:=k) (by omega)
  have hw:=Ln (W.due k e hk he)
  have hE:=CM ((BM (BA W.wi).2.1).2.2.2.1 e (List.mem_of_getElem? he))
  have o1:=(E5 (Fq.1 W.chk).1).2 e.f.toNat (by omega)
  have o2:=(E5 (Fq.1 V.chk).1).2 e.f.toNat (by show e.f.toNat<r.N.toNat; omega)
  have hx:∀ i,flE (r.fl.set k (r.fl.getD k 0+d)) i=flE r.fl i+one (k=i)*d:=fun i=>by
   unfold flE
   rw [List.getD_eq_getElem?_getD,List.getD_eq_getElem?_getD,List.getD_eq_getElem?_getD]
   by_cases hik:k=i
   ·subst hik
    rw [List.getElem?_set_self (by omega),Gm rfl,Int.one_mul]
    rfl
   ·rw [List.getElem?_set_ne hik,FN hik,Int.zero_mul,Int.add_zero]
  have hE':(grE r.N r.es).E=r.es.length:=rfl
  have hsum:Bz (grE r.N r.es) (flE (r.fl.set k (r.fl.getD k 0+d))) e.f.toNat=Bz (grE r.N r.es) (flE r.fl) e.f.toNat+(one ((grE r.N r.es).t k=e.f.toNat) - one ((grE r.N r.es).f k=e.f.toNat))*d:=by
   unfold Bz Ey
   rw [Ct (g:=fun i=>(one ((grE r.N r.es).t i=e.f.toNat) - one ((grE r.N r.es).f i=e.f.toNat))*flE r.fl i+one (k=i)*((one ((grE r.N r.es).t i=e.f.toNat) - one ((grE r.N r.es).f i=e.f.toNat))*d)) (fun i _=>by rw [hx,Int.mul_add,Int.mul_left_comm]),JF,Fw (fun i=>(one ((grE r.N r.es).t i=e.f.toNat) - one ((grE r.N r.es).f i=e.f.toNat))*d) (u:=k) (by rw [hE']; omega)]
  have ht:(grE r.N r.es).t k=e.t.toNat:=by show (r.es.getD k e0).t.toNat=_; rw [Bi he]
  have hf:(grE r.N r.es).f k=e.f.toNat:=by show (r.es.getD k e0).f.toNat=_; rw [Bi he]
  rw [ht,hf,Gm rfl,FN (show ¬ e.t.toNat=e.f.toNat by omega),o1] at hsum
  have o3:Bz (grE r.N r.es) (flE (r.fl.set k (r.fl.getD k 0+d))) e.f.toNat=0:=o2
  rw [o3] at hsum
  omega
/-- A due that costs nothing, or that is of nothing. -/
theorem NM {r:Rnd} {k:Nat} (hk:k<r.ids.length) {e:Ed} (he:r.es[k]? = some e) (g:Ed) (hg:Dw (r.N - 1) g=false):Bx { r with es:=r.es.set k g }=false:=by
 cases h:Bx { r with es:=r.es.set k g } with
 | false=>rfl
 | true =>
  exfalso
  have V:=G5 h
  have:=V.due k g hk (by show (r.es.set k g)[k]? = some g; rw [List.getElem?_set_self (CA he)])
  rw [show (({ r with es:=r.es.set k g }:Rnd).N - 1)=r.N - 1 from rfl,hg] at this
  cases this
theorem Xn {r:Rnd} {k:Nat} {id:Int} (hid:r.ids[k]? = some id):Bx { r with ids:=r.ids++[id] }=false:=by
 cases h:Bx { r with ids:=r.ids++[id] } with
 | false=>rfl
 | true =>
  exfalso
  have V:=(G5 h).nd
  have h1:=List.nodup_append.1 V
  exact h1.2.2 id (List.mem_of_getElem? hid) id (List.mem_singleton.2 rfl) rfl
theorem Acg {r:Rnd} (W:WR r):Bx { r with N:=r.N - 1 }=false:=by
 cases h:Bx { r with N:=r.N - 1 } with
 | false=>rfl
 | true =>
  exfalso
  have V:(r.pot.length:Int)=r.N - 1:=(G5 h).pot
  have:=W.pot
  omega
theorem JQ {r:Rnd} (W:WR r):(r.cmp=true→r.es.length=r.ids.length)∧(r.cmp=false→(r.es.length:Int)=r.ids.length+2*(r.N - 1)):=by
 have hr:=W.rest
 have hde:=W.de
 unfold GL at hr
 refine ⟨fun hc=>?_,fun hc=>?_⟩
 ·rw [if_pos hc,decide_eq_true_eq,List.length_drop] at hr
  omega
 ·rw [if_neg (by rw [hc]; decide),Bool.and_eq_true,decide_eq_true_eq,List.length_drop] at hr
  have:=hr.1
  omega
theorem U7 {r:Rnd} (W:WR r) (g:Ed) (x:Int):Bx { r with es:=r.es++[g],fl:=r.fl++[x] }=false:=by
 cases h:Bx { r with es:=r.es++[g],fl:=r.fl++[x] } with
 | false=>rfl
 | true =>
  exfalso
  have h1:=JQ W
  have h2:=JQ (G5 h)
  dsimp only at h2
  rw [List.length_append,List.length_singleton] at h2
  cases hc:r.cmp with
  | true=>have:=h1.1 hc; have:=h2.1 hc; omega
  | false=>have:=h1.2 hc; have:=h2.2 hc; omega
theorem Xo {r:Rnd} (W:WR r) (hi:0<r.ids.length):Bx { r with cmp := !r.cmp }=false:=by
 cases h:Bx { r with cmp := !r.cmp } with
 | false=>rfl
 | true =>
  exfalso
  have h1:=JQ W
  have h2:=JQ (G5 h)
  dsimp only at h2
  have hde:=W.de
  obtain ⟨e,he⟩:=AH (l:=r.es) (i:=0) (by omega)
  have hw:=Ln (W.due 0 e hi he)
  have hE:=CM ((BM (BA W.wi).2.1).2.2.2.1 e (List.mem_of_getElem? he))
  cases hc:r.cmp with
  | true=>have:=h1.1 hc; have:=h2.2 (by rw [hc]; rfl); omega
  | false=>have:=h1.2 hc; have:=h2.1 (by rw [hc]; rfl); omega
theorem Xp (r:Rnd):Bx { r with day := -1 }=false:=by
 cases h:Bx { r with day := -1 } with
 | false=>rfl
 | true =>
  exfalso
  have:(0:Int) ≤ -1:=(G5 h).day
  omega
end Go.Proofs.YtapphbmlkdhnmaaGreat

/- A copy of a net; the law of turned rounds. -/
namespace Go.Proofs.YtapphbmlkdhnmaaGreat
open Go.GV
attribute [local irreducible] A4 W Wq Wt

theorem U8 (es:List Ed):∀ v∈es.flatMap Bv,B0 v=true:=fun v hv=>by
 obtain ⟨e,-,h⟩:=List.mem_flatMap.1 hv
 exact CN e v h
set_option maxHeartbeats 1000000 in
theorem U9 (N:Int) (a:Option Addr) (n c:Nat) (es:List Ed) (w:World) (R:Rd w a 4 Bv es) (hn:es.length=n) (hn2:n≤1000000) :
  Ret Tryz.prog 46 #[CE N a n c] w fun v w'=>∃ a' c',v=CE N a' n c'∧Fresh w w' 92 4 (.slice a' n c') (es.flatMap Bv):=by
 subst hn
 obtain ⟨w0,rfl⟩:∃ w0,w0=w:=⟨_,rfl⟩
 have H:=Ctx.start w0 []
 refine A2 (fn:=Tryz.f46) Tryz.func46 rfl [CE N a es.length c] rfl (by kernel_rfl) ?_
 refine Af (Bu rfl [.int .i64 N,.slice a es.length c] (.agg _) rfl rfl H ?_)
 rintro b1 w - H
 refine Bn rfl Nr H ?_
 rintro b2 w - H
 refine Ab (Aa (CK [([0,1,3,4],2),([],5),([6],7)] (fun z=>z.heap[b1]? = some (Bl 28 [.int .i64 N,.slice a es.length c])) [] B5 (by kernel_rfl) (H.drew.get at1) ?_))
 refine AR rfl rfl ?_
 refine AM rfl CZ rfl (Cb rfl BC rfl (fun _ hx=>(by rw [Ap hx]; rfl)) ?_)
 refine AM rfl BO rfl (Cb rfl CF rfl (fun _ hx=>(by rw [Ap hx]; rfl)) ?_)
 refine B6 ?_
 replace H:=H.drew
 refine Fp rfl BT B7 H ?_
 rintro b5 w H O
 refine Ab (C4 (H.get (k:=1) rfl) (AR rfl rfl ?_))
 refine B6 (D4 rfl BT BT B7 PF Dq rfl (by decide) (es.flatMap Bv) rfl rfl H O (DW fun _ _=>rfl) (U8 es) (Rd.app (R.ext0 H.ext) (fun _ _=>rfl) (by decide)) (by omega) ?_)
 rintro a8 c8 f8 w H O
 rw [Nat.zero_add es.length] at O ⊢
 refine Ab (C4 (H.get (k:=1) rfl) (AR rfl rfl ?_))
 refine LI [.int .i64 N,.slice a8 es.length c8] rfl YR Nr (by kernel_rfl) ?_
 refine B6 (BG rfl Cc rfl rfl rfl (by exact (by simp [B0])) H at0 rfl ?_)
 rintro w H
 refine Ab (C4 (H.get (k:=1) rfl) (BW (A5 (NX rfl rfl rfl Cp Cc H at0 rfl ?_))))
 exact ⟨a8,c8,rfl,Ctx.fresh (L:=[_,_]) H O⟩
end Go.Proofs.YtapphbmlkdhnmaaGreat

/- The law of turned rounds: the walk. -/
namespace Go.Proofs.YtapphbmlkdhnmaaGreat
open Go.GV
attribute [local irreducible] A4 W Wq Wt

theorem Y9 {rs:List Int} {ds:List Du} {net:Bool} {r:Rnd} (P:PlnR rs ds net r):r.ids.length≤ds.length:=by
 rw [P.ids,List.length_map]
 exact List.length_filter_le _ _
theorem Xq (l:List Int):∀ v∈l.map Eu,B0 v=true:=fun v hv=>by
 obtain ⟨x,-,rfl⟩:=List.mem_map.1 hv
 rfl
set_option maxRecDepth 20000 in
set_option maxHeartbeats 8000000 in
theorem OY (a b:Option Addr) (n c m e:Nat) (rs:List Int) (ds:List Du) (net:Bool) (what which:Int) (w:World) (R:Rd w a 1 I1 rs) (hn:rs.length=n) (Rd':Rd w b 7 DL ds) (hm:ds.length=m) (hds:∀ d∈ds,0≤d.id∧d.id<18446744073709551616) (hwh:0≤what∧what<256) (hwi:0≤which∧which<256) :
  Ret Tryz.prog 8 #[.slice a n c,.slice b m e,.bool net,.int .u8 what,.int .u8 which] w fun v w'=>v = .bool true∧Ext [] w w':=by
 subst hn hm
 obtain ⟨w0,rfl⟩:∃ w0,w0=w:=⟨_,rfl⟩
 have H:=Ctx.start w0 []
 refine A2 (fn:=Tryz.f8) Tryz.func8 rfl [.slice a rs.length c,.slice b ds.length e,.bool net,.int .u8 what,.int .u8 which] rfl (by kernel_rfl) ?_
 refine Af (Ai rfl rfl (Ab (Aa (Au (Af (BP (α:=Unit) 1069547520 (fun _=>[(29,.bool (decide (40<rs.length) || decide (100<ds.length)))]) (fun _ w'=>Ctx w0 [] w' []) rfl ?_ ?_))))))
 ·refine An rfl rfl (Bc rfl AU rfl (Cz rfl rfl rfl (Al rfl rfl (AD 25 rfl ?_ ?_))))
  ·intro h1
   replace h1:=AE h1
   refine Ag rfl (Ag rfl (Ag rfl (Av rfl rfl (.bool _) rfl (Ab ?_))))
   exact ⟨rfl,(),rfl,⟨congrArg Value.bool (by (rw [Bool.eq_iff_iff]; simp; omega)),trivial⟩,H⟩
  ·intro h2
   replace h2:=AF h2
   refine An rfl rfl (Bc rfl D8 rfl (Cz rfl rfl rfl (A7 rfl rfl (.bool _) rfl (Ab ?_))))
   exact ⟨rfl,(),rfl,⟨congrArg Value.bool (by (rw [Bool.eq_iff_iff]; simp; omega)),trivial⟩,H⟩
 rintro - j29 w H
 refine Ax _ rfl ?_ ?_
 ·intro h1
  refine Af (Am rfl S9 (HO _) rfl ?_)
  rintro v w ⟨rfl,hx30⟩
  replace H:=H.call hx30
  refine Ai rfl rfl (Ab (Aa (A5 (Ak (A8 (v:=(.bool _)) rfl rfl rfl ?_)))))
  exact ⟨rfl,H.ext⟩
 ·intro h1
  have hsz:rs.length≤40∧ds.length≤100:=by
   rw [Bool.or_eq_false_iff,decide_eq_false_iff_not,decide_eq_false_iff_not] at h1
   omega
  refine Ay (Aa ?_)
  cases hbb:CU rs ds
  ·skip
   refine Af (An rfl rfl (An rfl rfl (Al rfl rfl (Am rfl V1 (HN a b _ c _ e rs ds net _ (R.ext0 H.ext) rfl (by omega) (Rd'.ext0 H.ext) rfl (by omega)) rfl ?_))))
   rintro v w ⟨hx35,⟨-,rfl⟩ | ⟨hb,-⟩⟩
   rotate_left
   (rw [hbb] at hb; cases hb)
   replace H:=H.call hx35
   refine BV rfl rfl (A6 rfl rfl rfl (A6 rfl rfl rfl (Bn rfl GR H ?_)))
   rintro b11 w - H
   refine BG rfl Cw rfl rfl rfl (by exact (by decide)) H at0 rfl ?_
   rintro w H
   refine Ai rfl rfl (Ab (Aa (Au (Af (Al rfl rfl (Bs rfl rfl (Al rfl rfl (Ag rfl (Ag rfl (Ag rfl ?_))))))))))
   refine Av rfl rfl (.bool _) rfl (Al rfl rfl (Ag rfl (Ag rfl (Ag rfl (Ag rfl (Av rfl rfl (.bool _) rfl (Ab (Aa (CL rfl (Af ?_))))))))))
   refine Am rfl S9 (HO _) rfl ?_
   rintro v w ⟨rfl,hx51⟩
   replace H:=H.call hx51
   refine Ai rfl rfl (Ab (Aa (A5 (Ak (A8 (v:=(.bool _)) rfl rfl rfl ?_)))))
   exact ⟨rfl,H.ext⟩
  ·skip
   refine Af (An rfl rfl (An rfl rfl (Al rfl rfl (Am rfl V1 (HN a b _ c _ e rs ds net _ (R.ext0 H.ext) rfl (by omega) (Rd'.ext0 H.ext) rfl (by omega)) rfl ?_))))
   rintro v w ⟨hx35,⟨hb,-⟩ | ⟨-,r,q,rfl,P,RA,-,hEc⟩⟩
   (rw [hbb] at hb; cases hb)
   replace H:=H.call hx35
   have hB:=Tt P (by omega)
   have hU:=Xm P hds
   have hil:=Y9 P
   have hx0:=H.ext
   obtain ⟨w1,rfl⟩:∃ z,z=w:=⟨_,rfl⟩
   replace H:=Ctx.start w1 []
   refine BV rfl rfl (A6 (v := .agg (AJ r q).toArray) rfl rfl rfl (A6 (v := .bool true) rfl rfl rfl (Bn rfl GR H ?_)))
   rintro b11 w - H
   refine BG rfl Cw rfl rfl rfl (by exact (by simp [B0])) H at0 rfl ?_
   rintro w H
   refine Ai rfl rfl (Ab (Aa (Au (Af (BP (α:=Unit) 2251524935778304 (fun _=>[(50,.bool (!(Bx r && decide (0<r.ids.length))))]) (fun _ w'=>Ctx w1 [] w' [(b11,Bl 33 (AJ r q))]) rfl ?_ ?_)))))
   ·refine Al rfl rfl (Bs rfl rfl (Al rfl rfl (Bf rfl CB Cw rfl H at0 rfl (Am rfl YI (NE r q _ (RA.ext0 H.ext) hEc hB) rfl ?_))))
    rintro v w ⟨rfl,hx42⟩
    replace H:=H.call hx42
    refine Bs rfl rfl (A7 rfl rfl (.bool _) rfl (Al rfl rfl (AD 45 rfl ?_ ?_)))
    ·intro h3
     replace h3:=Bp h3
     refine Ag rfl (Ag rfl (Ag rfl (Ag rfl (Av rfl rfl (.bool _) rfl (Ab ?_)))))
     exact ⟨rfl,(),rfl,⟨congrArg Value.bool (by (simp_all; done)),trivial⟩,H⟩
    ·intro h4
     replace h4:=Bq h4
     refine Ah rfl Ew rfl (A9 rfl EH rfl H at0 rfl (Bc rfl Bb rfl (BE rfl rfl rfl (A7 rfl rfl (.bool _) rfl (Ab ?_)))))
     exact ⟨rfl,(),rfl,⟨congrArg Value.bool (by (simp_all; cases r.ids <;> simp)),trivial⟩,H⟩
   rintro - j50 w H
   refine Ax _ rfl ?_ ?_
   ·intro h2
    replace h2:=Bp h2
    refine Af (Am rfl S9 (HO _) rfl ?_)
    rintro v w ⟨rfl,hx51⟩
    replace H:=H.call hx51
    refine Ai rfl rfl (Ab (Aa (A5 (Ak (A8 (v:=(.bool _)) rfl rfl rfl ?_)))))
    exact ⟨rfl,hx0.trans H.ext⟩
   ·intro h2
    replace h2:=Bq h2
    rw [Bool.and_eq_true,decide_eq_true_eq] at h2
    obtain ⟨hR,hi⟩:=h2
    have WW:=G5 hR
    have hN1:=WW.N1
    have hN17:=WW.N17
    have hde:=WW.de
    have hlen:=WW.len
    have hpot:=WW.pot
    have he2:=WW.e200
    obtain ⟨k,hk⟩:∃ k:Nat,(k:Int)=which % (r.ids.length:Int):=⟨(which % (r.ids.length:Int)).toNat,by have:=Int.emod_nonneg which (show (r.ids.length:Int)≠0 by omega); omega⟩
    have hkl:k<r.ids.length:=by have:=Int.emod_lt_of_pos which (show (0:Int)<r.ids.length by omega); omega
    refine Ay (Aa (Af (Ad rfl rfl (Eb rfl rfl Jn Gw (by omega) (by omega) ?_))))
    refine Ah rfl Ew rfl (A9 rfl EH rfl H at0 rfl (Bc rfl Bb rfl (NU rfl rfl rfl (by omega) (by omega) ?_)))
    rw [← hk]
    refine Ae rfl rfl (Ab (Aa ?_))
    have hb11:=H.get at0
    have HG:=H
    obtain ⟨w2,rfl⟩:∃ z,z=w:=⟨_,rfl⟩
    clear H
    have H:=Ctx.start w2 []
    have RI:=RA.I.ext0 HG.ext
    have RE:=RA.E.ext0 HG.ext
    have RF:=RA.F.ext0 HG.ext
    have RP:=RA.P.ext0 HG.ext
    refine Af (Ce _ rfl CB Cw rfl rfl ((C1 (b:=b11) (t:=33) (l:=AJ r q) (H.ext.to hb11 (by simp)) 0 (AJ r q) rfl)) ?_)
    refine Bn rfl GR H ?_
    rintro b14 w - H
    refine BG rfl Cw rfl rfl rfl (by exact (by simp [B0])) H at0 rfl ?_
    rintro w H
    refine Ab (Aa (Af (Fp rfl Bb AZ H ?_)))
    rintro b59 w H O59
    refine Ah rfl Ew rfl (AX rfl EH rfl ((by rw [Ap (H.ext.to hb11 (by simp))]; rfl)) ?_)
    refine D4 rfl Bb Bb AZ PE Ja rfl (by decide) (r.ids.map Eu) rfl rfl H O59 (by simp) (Xq _) (Rd.app1 (f:=Eu) (RI.ext0 H.ext)) (by omega) ?_
    rintro aI cI fI w H OI
    rw [Nat.zero_add r.ids.length] at OI ⊢
    refine Ah rfl Ew rfl (BF (.slice _ _ _) rfl SD rfl rfl rfl H at0 (by (simp; done)) ?_)
    rintro w H
    refine Ab (Aa (Af (Ah rfl CG rfl (Ce _ rfl Cp Cc rfl rfl ((C1 (b:=b11) (t:=33) (l:=AJ r q) (H.ext.to hb11 (by simp)) 4 [.int .i64 r.N,.slice q.aE r.es.length q.cE] rfl)) ?_))))
    refine Am rfl ca_46 (U9 r.N q.aE _ q.cE r.es _ (RE.ext0 H.ext) rfl (by omega)) rfl ?_
    rintro v w3 ⟨aE,cE,rfl,FE⟩
    obtain ⟨aE',nE',cE',fE,hvE,OE,hbE⟩:=FE.ex
    cases hvE
    replace H:=Ctx.callEnt H FE.ext hbE JX
    refine Ah rfl CG rfl (G0 (o:=4) rfl Cc rfl rfl rfl (by simp [B0]) H at0 (show 4+2≤8 by decide) ?_)
    rintro w H
    replace H:Ctx w2 [] w ([(b14,Bl 33 [.int .u64 r.no,.int .i64 r.day,.bool r.cmp,.slice aI r.ids.length cI,.int .i64 r.N,.slice aE r.es.length cE,.slice q.aF r.fl.length q.cF,.slice q.aP r.pot.length q.cP])]++ent aI 24 fI++ent aE 92 fE):=H
    refine Ab (Aa (Af (Fp rfl AU Bw H ?_)))
    rintro b68 w H O68
    refine Ah rfl Ex rfl (Ah rfl EL rfl (AX rfl BL rfl ((by rw [Ap (H.ext.to hb11 (by simp))]; rfl)) ?_))
    refine D4 rfl AU AU Bw Kg F8 rfl (by decide) (r.fl.map Rq) rfl rfl H O68 (by simp) (Qi _) (Rd.app1 (f:=Rq) (RF.ext0 H.ext)) (by omega) ?_
    rintro aF cF fF w H OF
    rw [Nat.zero_add r.fl.length] at OF ⊢
    refine Ah rfl Ex rfl (Ah rfl EL rfl (BF (.slice _ _ _) rfl Nq rfl rfl rfl H at0 (by (simp; done)) ?_))
    rintro w H
    refine Ab (Aa (Af (Fp rfl AU Bw H ?_)))
    rintro b75 w H O75
    refine Ah rfl Ex rfl (Ah rfl Ht rfl (AX rfl BL rfl ((by rw [Ap (H.ext.to hb11 (by simp))]; rfl)) ?_))
    refine D4 rfl AU AU Bw Kg F8 rfl (by decide) (r.pot.map Rq) rfl rfl H O75 (by simp) (Qi _) (Rd.app1 (f:=Rq) (RP.ext0 H.ext)) (by omega) ?_
    rintro aP cP fP w H OP
    rw [Nat.zero_add r.pot.length] at OP ⊢
    refine Ah rfl Ex rfl (Ah rfl Ht rfl (BF (.slice _ _ _) rfl Nq rfl rfl rfl H at0 (by (simp; done)) ?_))
    rintro w H
    refine Ab (Aa (Au (Af (Ad rfl rfl (NU rfl rfl rfl (by omega) (by omega) ?_)))))
    refine Ab (Aa ?_)
    obtain ⟨bI,rfl⟩:=OI.form (by omega)
    obtain ⟨bE,rfl⟩:=OE.form (by omega)
    obtain ⟨bF,rfl⟩:=OF.form (by omega)
    obtain ⟨bP,rfl⟩:=OP.form (by omega)
    replace H:Ctx w2 [] _ [(b14,Bl 33 (AJ r ⟨some ⟨bI,0,none⟩,cI,some ⟨bE,0,none⟩,cE,some ⟨bF,0,none⟩,cF,some ⟨bP,0,none⟩,cP⟩)),(bI,Bl 24 fI),(bE,Bl 92 fE),(bF,Bl 2 fF),(bP,Bl 2 fP)]:=H
    refine Ek 374144419156711147060143297832555339197851935703040 (α:=Rnd × RSl) (fun _=>[]) (fun z w'=>Ctx w2 [] w' [(b14,Bl 33 (AJ z.1 z.2))]∧RAt w' z.1 z.2∧z.1.es.length≤z.2.cE∧RBnd z.1∧WU z.1∧Bx z.1=false) rfl ?_ ?_
    ·skip
     have OI':OS (some ⟨bI,0,none⟩) r.ids.length cI 1 fI (r.ids.flatMap U1):=by rw [Pm]; exact OI
     have OF':OS (some ⟨bF,0,none⟩) r.fl.length cF 1 fF (r.fl.flatMap I1):=by rw [Pm]; exact OF
     have OP':OS (some ⟨bP,0,none⟩) r.pot.length cP 1 fP (r.pot.flatMap I1):=by rw [Pm]; exact OP
     have hRI:∀ {w:World},w.heap[bI]? = some (Bl 24 fI)→Rd w (some ⟨bI,0,none⟩) 1 U1 r.ids:=fun h=>OS.rd (t:=24) OI' (fun y hy=>by rw [List.mem_singleton.1 hy]; exact h) (fun _ _=>rfl) (by decide)
     have hRE:∀ {w:World},w.heap[bE]? = some (Bl 92 fE)→Rd w (some ⟨bE,0,none⟩) 4 Bv r.es:=fun h=>OS.rd (t:=92) OE (fun y hy=>by rw [List.mem_singleton.1 hy]; exact h) (fun _ _=>rfl) (by decide)
     have hRF:∀ {w:World},w.heap[bF]? = some (Bl 2 fF)→Rd w (some ⟨bF,0,none⟩) 1 I1 r.fl:=fun h=>OS.rd (t:=2) OF' (fun y hy=>by rw [List.mem_singleton.1 hy]; exact h) (fun _ _=>rfl) (by decide)
     have hRP:∀ {w:World},w.heap[bP]? = some (Bl 2 fP)→Rd w (some ⟨bP,0,none⟩) 1 I1 r.pot:=fun h=>OS.rd (t:=2) OP' (fun y hy=>by rw [List.mem_singleton.1 hy]; exact h) (fun _ _=>rfl) (by decide)
     obtain ⟨x,hxk⟩:=AH (l:=r.fl) (i:=k) (by omega)
     obtain ⟨ek,hek⟩:=AH (l:=r.es) (i:=k) (by omega)
     have hfx:=Zb WW hxk
     have hFl:r.fl.length≤fF.length:=by have h1:=OF.len; have h2:=OF.le; omega
     have hEl:r.es.length*4≤fE.length:=by have h1:=OE.len; have h2:=OE.le; omega
     refine Aw (Af (BE rfl rfl rfl (Ai rfl rfl (Ab (Aa (Ax _ rfl ?_ ?_))))))
     ·intro c0
      replace c0:=AE c0
      refine Aq (Ah rfl Ex rfl (Ah rfl EL rfl (A9 rfl BL rfl H at0 rfl (Ad rfl rfl (AV rfl AU Bw rfl rfl (by omega) (by omega) ?_)))))
      refine AX rfl B1 rfl (((hRF (H.get at3)).fld hxk rfl (j:=0) rfl)) ?_
      refine Ao rfl rfl rfl (by omega) (by omega) ?_
      refine AV rfl AU Bw rfl rfl (by omega) (by omega) ?_
      refine BF (.int .i64 (x+1)) rfl Bw rfl rfl rfl H at3 (by show 0+k*1<_; omega) ?_
      rintro w H
      refine Ab (A1 (Aa ?_))
      have O':=OS.setf (enc:=I1) (y:=x+1) (v := .int .i64 (x+1)) OF' (fun _=>rfl) hxk (show 0<1 by decide) rfl
      have H3:_=_:=H.get at3
      have hgd:r.fl.getD k 0=x:=Bi hxk
      exact ⟨({ r with fl:=r.fl.set k (x+1) },⟨some ⟨bI,0,none⟩,cI,some ⟨bE,0,none⟩,cE,some ⟨bF,0,none⟩,cF,some ⟨bP,0,none⟩,cP⟩),rfl,trivial,(by show Ctx w2 [] _ [(b14,Bl 33 (AJ { r with fl:=r.fl.set k (x+1) } ⟨some ⟨bI,0,none⟩,cI,some ⟨bE,0,none⟩,cE,some ⟨bF,0,none⟩,cF,some ⟨bP,0,none⟩,cP⟩))]; rw [show AJ { r with fl:=r.fl.set k (x+1) } ⟨some ⟨bI,0,none⟩,cI,some ⟨bE,0,none⟩,cE,some ⟨bF,0,none⟩,cF,some ⟨bP,0,none⟩,cP⟩=AJ r ⟨some ⟨bI,0,none⟩,cI,some ⟨bE,0,none⟩,cE,some ⟨bF,0,none⟩,cF,some ⟨bP,0,none⟩,cP⟩ from by simp only [AJ,List.length_set]]; exact Ctx.left (L:=[_]) (L':=[_,_,_,_]) H),⟨hRI (H.get at1),hRE (H.get at2),OS.rd (t:=2) O' (fun y hy=>by rw [List.mem_singleton.1 hy]; simpa using H3) (fun _ _=>rfl) (by decide),hRP (H.get at4),by show (r.fl.set k _).length≤_; rw [List.length_set]; exact OF.le⟩,OE.le,⟨hB.N,hB.es,hB.ids,by show (r.fl.set k _).length≤_; rw [List.length_set]; exact hB.fl,hB.pot⟩,⟨hU.no,hU.ids,hU.day⟩,by have:=NL WW hkl (d:=1) (by decide); rw [hgd] at this; exact this⟩
     ·intro c0
      replace c0:=AF c0
      refine Af (BE rfl rfl rfl (Ai rfl rfl (Ab (Aa (Ax _ rfl ?_ ?_)))))
      ·intro c1
       replace c1:=AE c1
       refine Aq (Ah rfl Ex rfl (Ah rfl EL rfl (A9 rfl BL rfl H at0 rfl (Ad rfl rfl (AV rfl AU Bw rfl rfl (by omega) (by omega) ?_)))))
       refine AX rfl B1 rfl (((hRF (H.get at3)).fld hxk rfl (j:=0) rfl)) ?_
       refine Bd rfl rfl rfl (by omega) (by omega) ?_
       refine AV rfl AU Bw rfl rfl (by omega) (by omega) ?_
       refine BF (.int .i64 (x - 1)) rfl Bw rfl rfl rfl H at3 (by show 0+k*1<_; omega) ?_
       rintro w H
       refine Ab (A1 (Aa ?_))
       have O':=OS.setf (enc:=I1) (y:=x - 1) (v := .int .i64 (x - 1)) OF' (fun _=>rfl) hxk (show 0<1 by decide) rfl
       have H3:_=_:=H.get at3
       have hgd:r.fl.getD k 0=x:=Bi hxk
       exact ⟨({ r with fl:=r.fl.set k (x - 1) },⟨some ⟨bI,0,none⟩,cI,some ⟨bE,0,none⟩,cE,some ⟨bF,0,none⟩,cF,some ⟨bP,0,none⟩,cP⟩),rfl,trivial,(by show Ctx w2 [] _ [(b14,Bl 33 (AJ { r with fl:=r.fl.set k (x - 1) } ⟨some ⟨bI,0,none⟩,cI,some ⟨bE,0,none⟩,cE,some ⟨bF,0,none⟩,cF,some ⟨bP,0,none⟩,cP⟩))]; rw [show AJ { r with fl:=r.fl.set k (x - 1) } ⟨some ⟨bI,0,none⟩,cI,some ⟨bE,0,none⟩,cE,some ⟨bF,0,none⟩,cF,some ⟨bP,0,none⟩,cP⟩=AJ r ⟨some ⟨bI,0,none⟩,cI,some ⟨bE,0,none⟩,cE,some ⟨bF,0,none⟩,cF,some ⟨bP,0,none⟩,cP⟩ from by simp only [AJ,List.length_set]]; exact Ctx.left (L:=[_]) (L':=[_,_,_,_]) H),⟨hRI (H.get at1),hRE (H.get at2),OS.rd (t:=2) O' (fun y hy=>by rw [List.mem_singleton.1 hy]; simpa using H3) (fun _ _=>rfl) (by decide),hRP (H.get at4),by show (r.fl.set k _).length≤_; rw [List.length_set]; exact OF.le⟩,OE.le,⟨hB.N,hB.es,hB.ids,by show (r.fl.set k _).length≤_; rw [List.length_set]; exact hB.fl,hB.pot⟩,⟨hU.no,hU.ids,hU.day⟩,by have:=NL WW hkl (d := -1) (by decide); rw [hgd] at this; exact this⟩
      ·intro c1
       replace c1:=AF c1
       refine Af (BE rfl rfl rfl (Ai rfl rfl (Ab (Aa (Ax _ rfl ?_ ?_)))))
       ·intro c2
        replace c2:=AE c2
        refine Aq (Ah rfl CG rfl (Ah rfl BO rfl (A9 rfl CF rfl H at0 rfl (Ad rfl rfl (AV rfl BT B7 rfl rfl (by omega) (by omega) ?_)))))
        refine Ah rfl Da rfl (BF (.int .i64 0) rfl Bw rfl rfl rfl H at2 (by show 0+k*4+3<_; omega) ?_)
        rintro w H
        refine Ab (A1 (Aa ?_))
        have O':=OS.setf (enc:=Bv) (y:={ ek with cost:=0 }) (v := .int .i64 0) OE (fun _=>rfl) hek (show 3<4 by decide) rfl
        have H3:_=_:=H.get at2
        exact ⟨({ r with es:=r.es.set k { ek with cost:=0 } },⟨some ⟨bI,0,none⟩,cI,some ⟨bE,0,none⟩,cE,some ⟨bF,0,none⟩,cF,some ⟨bP,0,none⟩,cP⟩),rfl,trivial,(by show Ctx w2 [] _ [(b14,Bl 33 (AJ { r with es:=r.es.set k { ek with cost:=0 } } ⟨some ⟨bI,0,none⟩,cI,some ⟨bE,0,none⟩,cE,some ⟨bF,0,none⟩,cF,some ⟨bP,0,none⟩,cP⟩))]; rw [show AJ { r with es:=r.es.set k { ek with cost:=0 } } ⟨some ⟨bI,0,none⟩,cI,some ⟨bE,0,none⟩,cE,some ⟨bF,0,none⟩,cF,some ⟨bP,0,none⟩,cP⟩=AJ r ⟨some ⟨bI,0,none⟩,cI,some ⟨bE,0,none⟩,cE,some ⟨bF,0,none⟩,cF,some ⟨bP,0,none⟩,cP⟩ from by simp only [AJ,List.length_set]]; exact Ctx.left (L:=[_]) (L':=[_,_,_,_]) H),⟨hRI (H.get at1),OS.rd (t:=92) O' (fun y hy=>by rw [List.mem_singleton.1 hy]; simpa using H3) (fun _ _=>rfl) (by decide),hRF (H.get at3),hRP (H.get at4),OF.le⟩,by show (r.es.set k _).length≤_; rw [List.length_set]; exact OE.le,⟨hB.N,by show (r.es.set k _).length≤_; rw [List.length_set]; exact hB.es,hB.ids,hB.fl,hB.pot⟩,⟨hU.no,hU.ids,hU.day⟩,NM hkl hek _ (by unfold Dw; simp)⟩
       ·intro c2
        replace c2:=AF c2
        refine Af (BE rfl rfl rfl (Ai rfl rfl (Ab (Aa (Ax _ rfl ?_ ?_)))))
        ·intro c3
         replace c3:=AE c3
         refine Aq (Ah rfl CG rfl (Ah rfl BO rfl (A9 rfl CF rfl H at0 rfl (Ad rfl rfl (AV rfl BT B7 rfl rfl (by omega) (by omega) ?_)))))
         refine Ah rfl CH rfl (BF (.int .i64 0) rfl Bw rfl rfl rfl H at2 (by show 0+k*4+2<_; omega) ?_)
         rintro w H
         refine Ab (A1 (Aa ?_))
         have O':=OS.setf (enc:=Bv) (y:={ ek with cap:=0 }) (v := .int .i64 0) OE (fun _=>rfl) hek (show 2<4 by decide) rfl
         have H3:_=_:=H.get at2
         exact ⟨({ r with es:=r.es.set k { ek with cap:=0 } },⟨some ⟨bI,0,none⟩,cI,some ⟨bE,0,none⟩,cE,some ⟨bF,0,none⟩,cF,some ⟨bP,0,none⟩,cP⟩),rfl,trivial,(by show Ctx w2 [] _ [(b14,Bl 33 (AJ { r with es:=r.es.set k { ek with cap:=0 } } ⟨some ⟨bI,0,none⟩,cI,some ⟨bE,0,none⟩,cE,some ⟨bF,0,none⟩,cF,some ⟨bP,0,none⟩,cP⟩))]; rw [show AJ { r with es:=r.es.set k { ek with cap:=0 } } ⟨some ⟨bI,0,none⟩,cI,some ⟨bE,0,none⟩,cE,some ⟨bF,0,none⟩,cF,some ⟨bP,0,none⟩,cP⟩=AJ r ⟨some ⟨bI,0,none⟩,cI,some ⟨bE,0,none⟩,cE,some ⟨bF,0,none⟩,cF,some ⟨bP,0,none⟩,cP⟩ from by simp only [AJ,List.length_set]]; exact Ctx.left (L:=[_]) (L':=[_,_,_,_]) H),⟨hRI (H.get at1),OS.rd (t:=92) O' (fun y hy=>by rw [List.mem_singleton.1 hy]; simpa using H3) (fun _ _=>rfl) (by decide),hRF (H.get at3),hRP (H.get at4),OF.le⟩,by show (r.es.set k _).length≤_; rw [List.length_set]; exact OE.le,⟨hB.N,by show (r.es.set k _).length≤_; rw [List.length_set]; exact hB.es,hB.ids,hB.fl,hB.pot⟩,⟨hU.no,hU.ids,hU.day⟩,NM hkl hek _ (by unfold Dw; simp)⟩
        ·intro c3
         replace c3:=AF c3
         refine Af (BE rfl rfl rfl (Ai rfl rfl (Ab (Aa (Ax _ rfl ?_ ?_)))))
         ·intro c4
          replace c4:=AE c4
          obtain ⟨id,hid⟩:=AH (l:=r.ids) (i:=k) hkl
          refine Ld 10878401917503751503844756981334340009984 (α:=Option Addr × Nat × List Value) (fun _=>[]) (fun z w'=>Ctx w2 [] w' ([(b14,Bl 33 (AJ { r with ids:=r.ids++[id] } ⟨z.1,z.2.1,some ⟨bE,0,none⟩,cE,some ⟨bF,0,none⟩,cF,some ⟨bP,0,none⟩,cP⟩)),(bE,Bl 92 fE),(bF,Bl 2 fF),(bP,Bl 2 fP)]++ent z.1 24 z.2.2)∧OS z.1 (r.ids++[id]).length z.2.1 1 z.2.2 ((r.ids++[id]).flatMap U1)) rfl ?_ ?_
          ·skip
           refine JA (n:=8) (N:=11) (anc:=Kf 8 [[],[0],[],[2],[],[2,3,4],[2,3,4,5],[2,3,4,5,6]]) (fun i=>123+i) [isV (.pointer (some ⟨b14,3,none⟩)),isV (.slice (some ⟨bI,0,none⟩) r.ids.length cI),isV (.pointer (some ⟨b14,3,none⟩)),isV (.slice (some ⟨bI,0,none⟩) r.ids.length cI),isV (.int .i64 (k:Int)),isV (.pointer (some ⟨bI,0+k*1,none⟩)),isV (Eu id),nbV 24 1 [Eu id]] (show Tryz.prog.follows .mixedOrders=true by kernel_rfl) rfl (by decide) (by kernel_rfl) (DS _) (fun i j _ _ h=>by have h:123+i=123+j:=h; omega) ⟨C6 _,C6 _,C6 _,C6 _,C6 _,C6 _,C6 _,Ke _ _ _,trivial⟩ ?_ ?_
           ·intro m o e' w' hm ho hold hg hx
            have hin:∀ t:Nat,t<123→∀ j,j<8→t≠123+j:=fun t ht j hj=>by omega
            have hx0:Ext [] w w':=(Ext.drew [] w).trans hx
            have g14:e'.g 14=ptr b14:=(hold 14 (hin 14 (by decide))).trans rfl
            have g13:e'.g 13 = .int .i64 (k:Int):=(hold 13 (hin 13 (by decide))).trans rfl
            have HJ:=H.call hx0
            have hcs:m=0∨m=1∨m=2∨m=3∨m=4∨m=5∨m=6∨m=7:=by omega
            rcases hcs with rfl | rfl | rfl | rfl | rfl | rfl | rfl | rfl
            ·cases Option.some.inj ho
             exact Ah (off:=3) rfl (by kernel_rfl) g14 (Ab ⟨_,.refl _ _,rfl,rfl⟩)
            ·cases Option.some.inj ho
             exact AX rfl EH (hg 0 (by decide)) (by rw [Ap (HJ.get (k:=0) rfl)]; rfl) (Ab ⟨_,.refl _ _,rfl,rfl⟩)
            ·cases Option.some.inj ho
             exact Ah (off:=3) rfl (by kernel_rfl) g14 (Ab ⟨_,.refl _ _,rfl,rfl⟩)
            ·cases Option.some.inj ho
             exact AX rfl EH (hg 2 (by decide)) (by rw [Ap (HJ.get (k:=0) rfl)]; rfl) (Ab ⟨_,.refl _ _,rfl,rfl⟩)
            ·cases Option.some.inj ho
             exact BX rfl _ g13 (Ab ⟨_,.refl _ _,rfl,rfl⟩)
            ·cases Option.some.inj ho
             exact AV rfl Bb AZ (hg 3 (by decide)) (hg 4 (by decide)) (by omega) (by omega) (Ab ⟨_,.refl _ _,rfl,rfl⟩)
            ·cases Option.some.inj ho
             exact AX rfl BJ (hg 5 (by decide)) ((hRI (HJ.get (k:=1) rfl)).fld hid rfl (j:=0) rfl) (Ab ⟨_,.refl _ _,rfl,rfl⟩)
            ·cases Option.some.inj ho
             refine Dn [Eu id] rfl Bb AZ Ja (by decide) (by decide) ?_ (Ctx.start w' []) ?_
             ·show Instr.fill _ _ [(0,e'.g 129)]=_
              rw [show e'.g 129=Eu id from (hg 6 (by decide))]
              kernel_rfl
             ·intro b w2 _ H
              exact Ab ⟨_,H.ext,rfl,b,rfl,H.get at0⟩
           ·intro e' w' hds hold hg hx
            have hin:∀ t:Nat,t<123→∀ j,j<8→t≠(fun i=>123+i) j:=fun t ht j hj=>by dsimp only; omega
            have HJ:=H.call ((Ext.drew [] w).trans hx)
            obtain ⟨b7,h7,hb7⟩:=hg 7 (by decide)
            refine D4 rfl Bb Bb AZ PE Ja rfl (by decide) [Eu id] (hg 1 (by decide)) h7 (Ctx.perm HJ (pmI [_] (ent (some ⟨bI,0,none⟩) 24 fI) [_,_,_])) OI' rfl (by simp [B0,Eu]) (fun j v hv=>⟨_,rfl,by rw [Cu,Nat.zero_add,Ap hb7]; exact hv⟩) (by omega) fun a' c' full' w3 H6 O6=>?_
            rw [show r.ids.length+1=(r.ids++[id]).length from by simp] at O6 ⊢
            refine Ah (off:=3) rfl (by kernel_rfl) ((hold 14 (hin 14 (by decide))).trans rfl) ?_
            refine BF (.slice a' (r.ids++[id]).length c') rfl SD (Dj _ _ _) rfl rfl H6 at0 (by simp) fun w4 H8=>Ab ?_
            exact ⟨rfl,(a',c',full'),hds,trivial,H8,by rw [List.flatMap_append,List.flatMap_singleton]; exact O6⟩
          ·rintro ⟨aI,cI,fI⟩ j23 w ⟨H,OI⟩; dsimp only at H OI; (try dsimp only)
           refine A1 (Aa ?_)
           exact ⟨({ r with ids:=r.ids++[id] },⟨aI,cI,some ⟨bE,0,none⟩,cE,some ⟨bF,0,none⟩,cF,some ⟨bP,0,none⟩,cP⟩),rfl,trivial,Ctx.left (L:=[_]) (L':=[_,_,_]++ent aI 24 fI) H,⟨OS.rd OI (fun x hx=>H.blk x (List.mem_append_right _ hx)) (fun _ _=>rfl) (by decide),hRE (H.get at1),hRF (H.get at2),hRP (H.get at3),OF.le⟩,OE.le,⟨hB.N,hB.es,by show (r.ids++[id]).length≤_; rw [List.length_append,List.length_singleton]; omega,hB.fl,hB.pot⟩,⟨hU.no,fun y hy=>(List.mem_append.1 hy).elim (hU.ids y) fun h=>hU.ids y (by rw [List.mem_singleton.1 h]; exact List.mem_of_getElem? hid),hU.day⟩,Xn hid⟩
         ·intro c4
          replace c4:=AF c4
          refine Af (BE rfl rfl rfl (Ai rfl rfl (Ab (Aa (Ax _ rfl ?_ ?_)))))
          ·intro c5
           replace c5:=AE c5
           refine Aq (Ah rfl CG rfl (Ah rfl CZ rfl (A9 rfl BC rfl H at0 rfl (Bd rfl rfl rfl (by omega) (by omega) ?_))))
           refine Ah rfl CG rfl (Ah rfl CZ rfl (BF (.int _ _) rfl EG rfl rfl rfl H at0 (by (simp; done)) ?_))
           rintro w H
           refine Ab (A1 (Aa ?_))
           exact ⟨({ r with N:=r.N - 1 },⟨some ⟨bI,0,none⟩,cI,some ⟨bE,0,none⟩,cE,some ⟨bF,0,none⟩,cF,some ⟨bP,0,none⟩,cP⟩),rfl,trivial,Ctx.left (L:=[_]) (L':=[_,_,_,_]) H,⟨hRI (H.get at1),hRE (H.get at2),hRF (H.get at3),hRP (H.get at4),OF.le⟩,OE.le,⟨⟨by show _≤r.N - 1; omega,by show r.N - 1≤_; omega⟩,hB.es,hB.ids,hB.fl,hB.pot⟩,⟨hU.no,hU.ids,hU.day⟩,Acg WW⟩
          ·intro c5
           replace c5:=AF c5
           refine Af (BE rfl rfl rfl (Ai rfl rfl (Ab (Aa (Ax _ rfl ?_ ?_)))))
           ·intro c6
            replace c6:=AE c6
            refine Af (Ah rfl CG rfl (Ah rfl BO rfl (A9 rfl CF rfl H at0 rfl (Ah rfl CG rfl (Ah rfl CZ rfl (A9 rfl BC rfl H at0 rfl (Bd rfl rfl rfl (by omega) (by omega) ?_)))))))
            refine C7 (Bv ⟨0,r.N - 1,0,0⟩) rfl K9 Dq (by kernel_rfl) ?_
            refine Dd _ (.agg _) rfl BT B7 Dq rfl (by decide) (by decide) rfl rfl rfl H ?_
            rintro b151 w - H
            refine De (a:=some ⟨bE,0,none⟩) (n:=r.es.length) (c:=cE) rfl BT BT B7 PF Dq rfl (by decide) rfl rfl (Ctx.perm H ((pmI [_,_] (ent (some ⟨bE,0,none⟩) 92 fE) [_,_]).cons _)) OE rfl (CN _) (by omega) ?_
            rintro aE cE fE w H OE
            rw [show r.es.length+1=(r.es++[(⟨0,r.N - 1,0,0⟩:Ed)]).length from by simp] at OE ⊢
            replace OE:OS aE (r.es++[(⟨0,r.N - 1,0,0⟩:Ed)]).length cE 4 fE ((r.es++[(⟨0,r.N - 1,0,0⟩:Ed)]).flatMap Bv):=by { rw [List.flatMap_append,List.flatMap_singleton]; exact OE }
            refine Ah rfl CG rfl (Ah rfl BO rfl (BF (.slice _ _ _) rfl V6 rfl rfl rfl H at0 (by (simp; done)) ?_))
            rintro w H
            refine Ab (Aa (Aq (Ah rfl Ex rfl (Ah rfl EL rfl (A9 rfl BL rfl H at0 rfl (Dd _ (.int _ _) rfl AU Bw F8 rfl (by decide) (by decide) rfl rfl rfl H ?_))))))
            rintro b158 w - H
            refine De (a:=some ⟨bF,0,none⟩) (n:=r.fl.length) (c:=cF) rfl AU AU Bw Kg F8 rfl (by decide) rfl rfl (Ctx.perm H ((pmI [_,_] (ent (some ⟨bF,0,none⟩) 2 fF) ([_]++ent aE 92 fE)).cons _)) OF' rfl (by simp [B0]) (by omega) ?_
            rintro aF cF fF w H OF
            rw [show r.fl.length+1=(r.fl++[0]).length from by simp] at OF ⊢
            replace OF:OS aF (r.fl++[0]).length cF 1 fF ((r.fl++[0]).flatMap I1):=by { rw [List.flatMap_append,List.flatMap_singleton]; exact OF }
            refine Ah rfl Ex rfl (Ah rfl EL rfl (BF (.slice _ _ _) rfl Nq rfl rfl rfl H at0 (by (simp; done)) ?_))
            rintro w H
            refine Ab (A1 (Aa ?_))
            replace H:Ctx w2 [] _ (([(b14,Bl 33 (AJ { r with es:=r.es++[⟨0,r.N - 1,0,0⟩],fl:=r.fl++[0] } ⟨some ⟨bI,0,none⟩,cI,aE,cE,aF,cF,some ⟨bP,0,none⟩,cP⟩)),(bI,Bl 24 fI)]++([(bP,Bl 2 fP)]++ent aE 92 fE))++ent aF 2 fF):=H
            exact ⟨({ r with es:=r.es++[⟨0,r.N - 1,0,0⟩],fl:=r.fl++[0] },⟨some ⟨bI,0,none⟩,cI,aE,cE,aF,cF,some ⟨bP,0,none⟩,cP⟩),rfl,trivial,Ctx.left (L:=[_]) (L':=_) H,⟨hRI (H.get at1),OS.rd OE (fun x hx=>H.blk x (List.mem_append_left _ (List.mem_append_right _ (List.mem_append_right _ hx)))) (fun _ _=>rfl) (by decide),OS.rd OF (fun x hx=>H.blk x (List.mem_append_right _ hx)) (fun _ _=>rfl) (by decide),hRP (H.get at2),OF.le⟩,OE.le,⟨hB.N,by show (r.es++[_]).length≤_; rw [List.length_append,List.length_singleton]; omega,hB.ids,by show (r.fl++[0]).length≤_; rw [List.length_append,List.length_singleton]; omega,hB.pot⟩,⟨hU.no,hU.ids,hU.day⟩,U7 WW _ _⟩
           ·intro c6
            replace c6:=AF c6
            refine Af (BE rfl rfl rfl (Ai rfl rfl (Ab (Aa (Ax _ rfl ?_ ?_)))))
            ·intro c7
             replace c7:=AE c7
             refine Aq (Ah rfl IE rfl (A9 rfl Hs rfl H at0 rfl (Bs rfl rfl (Ah rfl IE rfl (BF (.bool _) rfl MF rfl rfl rfl H at0 (by (simp; done)) ?_)))))
             rintro w H
             refine Ab (A1 (Aa ?_))
             exact ⟨({ r with cmp := !r.cmp },⟨some ⟨bI,0,none⟩,cI,some ⟨bE,0,none⟩,cE,some ⟨bF,0,none⟩,cF,some ⟨bP,0,none⟩,cP⟩),rfl,trivial,Ctx.left (L:=[_]) (L':=[_,_,_,_]) H,⟨hRI (H.get at1),hRE (H.get at2),hRF (H.get at3),hRP (H.get at4),OF.le⟩,OE.le,⟨hB.N,hB.es,hB.ids,hB.fl,hB.pot⟩,⟨hU.no,hU.ids,hU.day⟩,Xo WW hi⟩
            ·intro c7
             replace c7:=AF c7
             refine Aq (Ah rfl Oj rfl (BF (.int _ _) rfl Bw rfl rfl rfl H at0 (by (simp; done)) ?_))
             rintro w H
             refine Ab (A1 (Aa ?_))
             exact ⟨({ r with day := -1 },⟨some ⟨bI,0,none⟩,cI,some ⟨bE,0,none⟩,cE,some ⟨bF,0,none⟩,cF,some ⟨bP,0,none⟩,cP⟩),rfl,trivial,Ctx.left (L:=[_]) (L':=[_,_,_,_]) H,⟨hRI (H.get at1),hRE (H.get at2),hRF (H.get at3),hRP (H.get at4),OF.le⟩,OE.le,⟨hB.N,hB.es,hB.ids,hB.fl,hB.pot⟩,⟨hU.no,hU.ids,by show (-1:Int)<_; decide⟩,Xp r⟩
    ·rintro ⟨rb,qb⟩ j0 w ⟨H,RB,hEb,hBb,hUb,hRb⟩; dsimp only at H RB hEb hBb hUb hRb; (try dsimp only)
     have hb14:=H.get at0
     have H2:=H
     obtain ⟨w4,rfl⟩:∃ z,z=w:=⟨_,rfl⟩
     clear H
     have H:=Ctx.start w4 []
     have hd1:(JP rb).2.2=1:=by unfold JP; rw [if_neg (by rw [hRb]; decide)]
     have hw1:HK rb=(0,1):=by unfold HK; rw [if_neg (by rw [hRb]; decide)]
     refine Af (Ce _ rfl CB Cw rfl rfl ((C1 (b:=b14) (t:=33) (l:=AJ rb qb) (H.ext.to hb14 (by simp)) 0 (AJ rb qb) rfl)) ?_)
     refine Am rfl V0 (OU rb qb _ (RB.ext0 H.ext) hEb hBb hUb) rfl ?_
     rintro v w ⟨-,hF⟩
     obtain ⟨rfl,hx170⟩:=hF hRb
     replace H:=H.call hx170
     refine BV rfl rfl (A6 rfl rfl rfl (A6 rfl rfl rfl (AB rfl rfl (Ae rfl rfl (Ab (Aa (Af (Ce _ rfl CB Cw rfl rfl ((C1 (b:=b14) (t:=33) (l:=AJ rb qb) (H.ext.to hb14 (by simp)) 0 (AJ rb qb) rfl)) ?_))))))))
     refine Am rfl ca_37 (WV rb qb _ (RB.ext0 H.ext) hEb hBb) rfl ?_
     rintro v w ⟨vR,vD,rfl,⟨_,_,rfl,-⟩,⟨_,_,rfl,-⟩,hx175⟩
     rw [hd1]
     replace H:=H.call hx175
     refine BV rfl rfl (A6 rfl rfl rfl (A6 rfl rfl rfl (A6 rfl rfl rfl (AB rfl rfl (AB rfl rfl (Ae rfl rfl (Ab (Aa (Af (Ce _ rfl CB Cw rfl rfl ((C1 (b:=b14) (t:=33) (l:=AJ rb qb) (H.ext.to hb14 (by simp)) 0 (AJ rb qb) rfl)) ?_))))))))))
     refine Am rfl YL (NG rb qb _ (RB.ext0 H.ext) hEb hBb) rfl ?_
     rintro v w ⟨rfl,hx181⟩
     rw [hw1]
     replace H:=H.call hx181
     refine BV rfl rfl (A6 rfl rfl rfl (A6 rfl rfl rfl (Ae rfl rfl (Ae rfl rfl (Ab (Aa (Af (Ce _ rfl CB Cw rfl rfl ((C1 (b:=b14) (t:=33) (l:=AJ rb qb) (H.ext.to hb14 (by simp)) 0 (AJ rb qb) rfl)) ?_))))))))
     refine Am rfl LQ (Ft rb qb _ (RB.ext0 H.ext) hEb hBb) rfl ?_
     rintro v w ⟨rfl,hx185⟩
     rw [hRb]
     replace H:=H.call hx185
     refine Bs rfl rfl (Al rfl rfl (Ce _ rfl CB Cw rfl rfl ((C1 (b:=b14) (t:=33) (l:=AJ rb qb) (H.ext.to hb14 (by simp)) 0 (AJ rb qb) rfl)) ?_))
     refine Am rfl YI (NE rb qb _ (RB.ext0 H.ext) hEb hBb) rfl ?_
     rintro v w ⟨rfl,hx189⟩
     rw [hRb]
     replace H:=H.call hx189
     refine Bs rfl rfl (Av rfl rfl (.bool _) rfl (Al rfl rfl (Ad rfl rfl (BE rfl rfl rfl (Av rfl rfl (.bool _) rfl (Al rfl rfl (Ad rfl rfl (BE rfl rfl rfl (Av rfl rfl (.bool _) rfl ?_)))))))))
     refine Al rfl rfl (Ad rfl rfl (BE rfl rfl rfl (Av rfl rfl (.bool _) rfl (Al rfl rfl (Ah rfl CG rfl (Ce _ rfl Cp Cc rfl rfl ((C1 (b:=b11) (t:=33) (l:=AJ r q) ((H2.ext.trans H.ext).to hb11 (by simp)) 4 [.int .i64 r.N,.slice q.aE r.es.length q.cE] rfl)) ?_))))))
     refine Ah rfl Ex rfl (Ce _ rfl Nn KA rfl rfl ((C1 (b:=b11) (t:=33) (l:=AJ r q) ((H2.ext.trans H.ext).to hb11 (by simp)) 6 [.slice q.aF r.fl.length q.cF,.slice q.aP r.pot.length q.cP] rfl)) ?_)
     refine Am rfl YH (KL r.N q.aE q.aF q.aP _ q.cE _ q.cF _ q.cP r.es r.fl r.pot _ (RE.ext0 (H2.ext.trans H.ext)) rfl (by omega) (RF.ext0 (H2.ext.trans H.ext)) rfl (by omega) (RP.ext0 (H2.ext.trans H.ext)) rfl (by omega)) rfl ?_
     rintro v w ⟨rfl,hx209⟩
     rw [WW.chk]
     replace H:=H.call hx209
     refine Av rfl rfl (.bool _) rfl (Al rfl rfl (Am rfl S9 (HO _) rfl ?_))
     rintro v w ⟨rfl,hx212⟩
     replace H:=H.call hx212
     refine Av rfl rfl (.bool _) rfl (Ai rfl rfl (Ab (Aa (A5 (A8 (v:=(.bool _)) rfl rfl rfl ?_)))))
     exact ⟨rfl,hx0.trans (HG.ext.trans (H2.ext.trans H.ext))⟩
end Go.Proofs.YtapphbmlkdhnmaaGreat

/- What the form reads of this seat's arguments. -/
namespace Go.Proofs.YtapphbmlkdhnmaaGreat
open Go.GV Go.ChangeShapes Go.WideShapes

theorem own:ownKnob Tryz.prog.godebug=none:=by kernel_rfl
theorem YA:laidOutB Tryz.prog=true:=by kernel_rfl
section
variable {H:Type} {enc:TypeId × Value→H} {w:World} {base:Nat} {spare:Nat→Bool} {held:Bool}
theorem Xr:∃ fs,Tryz.prog.underlying 62=some (.struct fs)∧(List.range 7).map (fun i=>fs[i]?.map fun f=>(f.type,f.offset))=[some (24,0),some (3,1),some (3,2),some (2,3),some (2,4),some (2,5),some (4,6)]:=⟨_,Tryz.underlying62,by kernel_rfl⟩
theorem Tu:Tryz.prog.cellsOf 62=7:=by kernel_rfl
theorem Xs:Tryz.prog.cellsOf 2=1:=by kernel_rfl
/-- What a due's numbers may be, as its type has it. -/
def DuT (d:Du):Prop:=(0≤d.id∧d.id<18446744073709551616)∧I64 d.fr∧I64 d.to∧I64 d.am∧I64 d.we∧I64 d.un
theorem Ach:∀ n cs y,DataW.trod enc Tryz.prog w base spare held n 62 cs=some y→∃ d:Du,cs=DL d∧DuT d:=by
 intro n cs y h
 obtain ⟨fs,ht,hf⟩:=Xr
 have hl:=TE ht h
 rw [Tu] at hl
 simp only [List.range,List.range.loop,List.map_cons,List.map_nil,List.cons.injEq,and_true] at hf
 obtain ⟨f0,f1,f2,f3,f4,f5,f6⟩:=hf
 obtain ⟨a,ha,a1,a2⟩:=ID ht h 0 0 f0 Tryz.underlying24
 obtain ⟨b,hb,hb'⟩:=ID ht h 1 1 f1 Tryz.underlying3
 obtain ⟨c,hc,hc'⟩:=ID ht h 2 2 f2 Tryz.underlying3
 obtain ⟨d,hd,hd'⟩:=ID ht h 3 3 f3 Tryz.underlying2
 obtain ⟨e,he,he'⟩:=ID ht h 4 4 f4 Tryz.underlying2
 obtain ⟨f,hf,hf'⟩:=ID ht h 5 5 f5 Tryz.underlying2
 obtain ⟨g,hg⟩:=Vb ht h 6 6 f6 Tryz.underlying4
 refine ⟨⟨a,b,c,d,e,f,g⟩,?_,⟨a1,by have a3:a≤18446744073709551615:=a2; dsimp only; omega⟩,hb',hc',hd',he',hf'⟩
 match cs,hl with
 | [_,_,_,_,_,_,_],_ =>
  simp at ha hb hc hd he hf hg
  simp [ha,hb,hc,hd,he,hf,hg]
def EdT (e:Ed):Prop:=I64 e.f∧I64 e.t∧I64 e.cap∧I64 e.cost
/-- What a round's numbers may be, as its type has it. -/
structure RT (r:Rnd):Prop where
 no:0≤r.no∧r.no<18446744073709551616
 day:I64 r.day
 ids:∀ x∈r.ids,0≤x∧x<18446744073709551616
 N:I64 r.N
 es:∀ e∈r.es,EdT e
 fl:∀ x∈r.fl,I64 x
 pot:∀ x∈r.pot,I64 x
set_option maxRecDepth 100000 in
theorem du_of {b:Nat} {v:Value} {d:DataW H} {ps:List MemPlace} (hv:Value.okWide Tryz.prog w .any b 23 v) (h:DataW.Trod enc Tryz.prog w base spare held 23 v d ps):∃ a c l,v = .slice a l.length c∧Rd w a 7 DL l∧∀ x∈l,DuT x:=by
 obtain ⟨a,c,l,h1,h2,-,-,h3⟩:=S8 Tryz.underlying23 Tu (by decide) Ach (okWide_slice Tryz.underlying23 hv) h
 exact ⟨a,c,l,h1,h2,h3⟩
set_option maxRecDepth 100000 in
theorem YB {b:Nat} {v:Value} {d:DataW H} {ps:List MemPlace} (hv:Value.okWide Tryz.prog w .any b 29 v) (h:DataW.Trod enc Tryz.prog w base spare held 29 v d ps):∃ a c l,v = .slice a l.length c∧Rd w a 1 I1 l∧l.length≤c∧∀ x∈l,I64 x:=by
 obtain ⟨a,c,l,h1,h2,hc,-,h3⟩:=S8 Tryz.underlying29 Xs (by decide) (XD Tryz.underlying2) (okWide_slice Tryz.underlying29 hv) h
 exact ⟨a,c,l,h1,h2,hc,h3⟩
end
end Go.Proofs.YtapphbmlkdhnmaaGreat

/- WitnessTurned: for every input the law answers true, and turns nothing. -/
namespace Go.Proofs.YtapphbmlkdhnmaaGreat
open Go.GV Go.ChangeShapes Go.WideShapes Go.RowKit

set_option maxRecDepth 100000 in
theorem I4 (os:Os) (started:os.Started) (H:Type) (enc:TypeId × Value→H) :
  ReturnsInHanded {} Tryz.checked os 8 .any (Rows.witnessTurnedSpec.pre6 enc Tryz.prog Tryz.f8 Rows.witnessTurnedRow.domain false) (Rows.witnessTurnedSpec.post enc Tryz.prog Tryz.f8 false true false false):=by
 refine returnsInHanded_of_change (C:=Tryz.checked) own started (by kernel_rfl) Tryz.func8
  (ChangeSpec.witness6 (enc:=enc) (C:=Tryz.checked) false ⟨#[],#[.slice none 0 0,.slice none 0 0,.bool false,.int .u8 0,.int .u8 0],[]⟩ 8 (by kernel_rfl) (by kernel_rfl) (by kernel_rfl) (by kernel_rfl)) ?_
 intro W base args ds gs before hval0 hW hcnd _
 have hval:∀ (j:Nat) t v,Tryz.f8.params[j]? = some t→args[j]? = some v→Value.okWide Tryz.prog W .any base t v:=hval0
 have hW':=hW
 obtain ⟨p,q,hA0,hV,rfl,hfz,hnd⟩:=hW
 have hA:DataW.TrodAll enc Tryz.prog W 0 (fun _=>true) true Tryz.f8.params.toList args.toList ds p:=hA0
 rw [Tryz.params8] at hA hval
 obtain ⟨v0,vs0,d0,ds0,p0,q0,hargs,rfl,rfl,h0,r0⟩:=trodAll_cons hA
 obtain ⟨v1,vs1,d1,ds1,p1,q1,rfl,rfl,rfl,h1,r1⟩:=trodAll_cons r0
 obtain ⟨v2,vs2,d2,ds2,p2,q2,rfl,rfl,rfl,h2,r2⟩:=trodAll_cons r1
 obtain ⟨v3,vs3,d3,ds3,p3,q3,rfl,rfl,rfl,h3,r3⟩:=trodAll_cons r2
 obtain ⟨v4,vs4,d4,ds4,p4,q4,rfl,rfl,rfl,h4,r4⟩:=trodAll_cons r3
 obtain ⟨rfl,rfl,rfl⟩:=trodAll_nil r4
 obtain rfl:args=#[v0,v1,v2,v3,v4]:=by cases args; simp_all
 obtain ⟨a0,c0,l0,rfl,R0,H0⟩:=YB (hval 0 _ v0 rfl rfl) h0
 obtain ⟨a1,c1,l1,rfl,R1,H1⟩:=du_of (hval 1 _ v1 rfl rfl) h1
 obtain ⟨k2,rfl,rfl,rfl⟩:=open_bool Tryz.underlying4 (hval 2 _ v2 rfl rfl) h2
 obtain ⟨k3,rfl,rfl,rfl,hg3⟩:=open_int Tryz.underlying5 (hval 3 _ v3 rfl rfl) h3
 have hb3:0≤k3∧k3≤255:=IC hg3
 obtain ⟨k4,rfl,rfl,rfl,hg4⟩:=open_int Tryz.underlying5 (hval 4 _ v4 rfl rfl) h4
 have hb4:0≤k4∧k4≤255:=IC hg4
 refine (OY a0 a1 _ c0 _ c1 l0 l1 k2 k3 k4 W R0 rfl R1 rfl (fun d hd=>(H1 d hd).1) ⟨hb3.1,by omega⟩ ⟨hb4.1,by omega⟩).calls.mono ?_
 rintro e W' ⟨v,rfl,rfl,hx⟩
 exact ⟨_,rfl,Va YA rfl (by kernel_rfl) rfl Tryz.underlying4 (fun ds h=>match ds,h with | [_,_,_,_,_],_=>rfl) hW' hx⟩

theorem witnessTurned_holds:Rows.WitnessTurnedSaid :=
 OpenClaim.holds_of_wide 8 Tryz.f8 rfl rfl rfl rfl rfl rfl rfl ⟨rfl,rfl,rfl,rfl,rfl⟩ rfl rfl rfl rfl rfl (by kernel_rfl) Tryz.func8 (by kernel_rfl)
  (of_decide_eq_true (by kernel_rfl)) (by unfold Func.isWrapper; rw [if_neg (of_decide_eq_false (by kernel_rfl))]; exact ⟨rfl,rfl⟩)
  (fun os started H enc _=>I4 os started H enc)
#print axioms witnessTurned_holds
end Go.Proofs.YtapphbmlkdhnmaaGreat
