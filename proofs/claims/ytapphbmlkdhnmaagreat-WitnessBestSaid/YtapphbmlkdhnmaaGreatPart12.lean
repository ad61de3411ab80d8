/- Part 12 of the proof. -/
import Derived.Test.YtapphbmlkdhnmaaGreatPart2
import Derived.Test.YtapphbmlkdhnmaaGreatPart11
import Derived.Test.YtapphbmlkdhnmaaGreatPart4
import Derived.Test.YtapphbmlkdhnmaaGreatPart10
/- What the bytes of a round say (the parse, in plain words), where it lies while it is gathered, and the function that adds an edge and its flow. -/
namespace Go.Proofs.YtapphbmlkdhnmaaGreat
open Go.GV
attribute [local irreducible] A1 W Wq Wt

theorem qk_of {K:Env→World→Prop} {e:Env} {w:World} (h:K e w):Qk K .normal e w:=h

/-! ### The parse -/
structure PRd where
 ids:List Int
 es:List Ed
 fl:List Int
 pot:List Int
 s:Nat × Bool
/-- A number and its place. -/
def Jt (l:List UInt8) (e:Ed) (p:PRd):PRd:=⟨p.ids,p.es++[e],p.fl++[s64 (nx l 8 p.s).1],p.pot,(nx l 8 p.s).2⟩
def idP (l:List UInt8) (p:PRd):PRd:=⟨p.ids++[((nx l 8 p.s).1:Int)],p.es,p.fl,p.pot,(nx l 8 p.s).2⟩
def atP (p:PRd) (s:Nat × Bool):PRd:=⟨p.ids,p.es,p.fl,p.pot,s⟩
/-- A due: its id, its banks, its amount, its weight, its flow. -/
def dueP (l:List UInt8) (p:PRd):PRd :=
 let s1:=(nx l 8 p.s).2
 let s2:=(nx l 1 s1).2
 let s3:=(nx l 1 s2).2
 let s4:=(nx l 8 s3).2
 let s5:=(nx l 2 s4).2
 Jt l ⟨((nx l 1 s1).1:Int),((nx l 1 s2).1:Int),s64 (nx l 8 s3).1,-((nx l 2 s4).1:Int)⟩ (atP (idP l p) s5)
def Kv (l:List UInt8):Nat→PRd→PRd
 | 0,p=>p
 | d+1,p=>if p.s.2=true then p else Kv l d (dueP l p)
/-- A bank: its room and the two flows. -/
def Uf (l:List UInt8) (h i:Nat) (p:PRd):PRd :=
 let s1:=(nx l 8 p.s).2
 Jt l ⟨(i:Int),(h:Int),4503599627370496,0⟩ (Jt l ⟨(h:Int),(i:Int),s64 (nx l 8 p.s).1,0⟩ (atP p s1))
def G9 (l:List UInt8) (h:Nat):Nat→Nat→PRd→PRd
 | 0,_,p=>p
 | n+1,i,p=>if p.s.2=true then p else G9 l h n (i+1) (Uf l h i p)
def potP (l:List UInt8) (p:PRd):PRd:=⟨p.ids,p.es,p.fl,p.pot++[s64 (nx l 8 p.s).1],(nx l 8 p.s).2⟩
def Kw (l:List UInt8):Nat→PRd→PRd
 | 0,p=>p
 | n+1,p=>if p.s.2=true then p else Kw l n (potP l p)
/-- What stands ahead. -/
structure Hd where
 no:Int
 day:Int
 cmp:Bool
 N:Int
def hs1 (l:List UInt8):Nat × Bool:=(nx l 4 (0,false)).2
def hs2 (l:List UInt8):Nat × Bool:=(nx l 8 (hs1 l)).2
def hs3 (l:List UInt8):Nat × Bool:=(nx l 8 (hs2 l)).2
def hs4 (l:List UInt8):Nat × Bool:=(nx l 1 (hs3 l)).2
def hs5 (l:List UInt8):Nat × Bool:=(nx l 1 (hs4 l)).2
def hs6 (l:List UInt8):Nat × Bool:=(nx l 1 (hs5 l)).2
def DH (l:List UInt8):Nat:=(nx l 1 (hs4 l)).1
def SW (l:List UInt8):Nat:=(nx l 1 (hs5 l)).1
def hdP (l:List UInt8):Hd:=⟨((nx l 8 (hs1 l)).1:Int),s64 (nx l 8 (hs2 l)).1,decide (((nx l 1 (hs3 l)).1:Int)=1),(DH l:Int)+1⟩
def Ii (h:Hd) (p:PRd):Rnd:=⟨h.no,h.day,h.cmp,p.ids,h.N,p.es,p.fl,p.pot⟩
def Ju (l:List UInt8):PRd :=
 let p1:=Kv l (SW l) ⟨[],[],[],[],hs6 l⟩
 let p2:=if (hdP l).cmp=true then p1 else G9 l (DH l) (DH l) 0 p1
 Kw l (DH l+1) p2
def Lz (l:List UInt8):Rnd:=Ii (hdP l) (Ju l)
/-- The round of bytes, if they are put as they stand. -/
def IG (l:List UInt8):Bool := !(Ju l).s.2 && (B7 (Lz l) && decide (CF (Lz l)=l))

/-! ### Where it lies -/
structure Gt where
 ba:Nat
 bd:Nat
 bb:Nat
 b2:Nat
 b4:Nat
 b6:Nat
 b7:Nat
 a:Option Addr
 c:Nat
 l:List UInt8
structure Gs where
 p:PRd
 aI:Option Addr
 cI:Nat
 fI:List Value
 aE:Option Addr
 cE:Nat
 fE:List Value
 aF:Option Addr
 cF:Nat
 fF:List Value
 aP:Option Addr
 cP:Nat
 fP:List Value
abbrev Gs.q (g:Gs):RSl:=⟨g.aI,g.cI,g.aE,g.cE,g.aF,g.cF,g.aP,g.cP⟩
abbrev Nu (b4:Nat):Value := .func (.func 80) #[] [ptr b4].toArray
abbrev GA:Rnd:=⟨0,0,false,[],0,[],[],[]⟩
abbrev FT:RSl:=⟨none,0,none,0,none,0,none,0⟩
abbrev gE (g:Gs):List (Nat × Obj):=ent g.aI 24 g.fI++(ent g.aE 92 g.fE++(ent g.aF 2 g.fF++ent g.aP 2 g.fP))
abbrev gC (T:Gt) (h:Hd) (g:Gs):List (Nat × Obj):=[(T.b7,Bl 33 (AJ (Ii h g.p) g.q)),(T.b6,Bl 139 [Nu T.b4]),(T.b4,Bl 136 [Gc T.bb T.ba T.bd]),(T.bb,Bl 69 [.slice T.a T.l.length T.c]),(T.b2,Bl 33 (AJ GA FT))]
abbrev gL (T:Gt) (h:Hd) (g:Gs) (s:Nat × Bool):List (Nat × Obj):=tkL T.ba T.bd s++(gC T h g++gE g)
structure GOk (T:Gt) (h:Hd) (w0 w:World) (g:Gs):Prop where
 H:Ctx w0 [] w (gL T h g g.p.s)
 I:OS g.aI g.p.ids.length g.cI 1 g.fI (g.p.ids.flatMap U1)
 E:OS g.aE g.p.es.length g.cE 4 g.fE (g.p.es.flatMap B6)
 F:OS g.aF g.p.fl.length g.cF 1 g.fF (g.p.fl.flatMap I1)
 P:OS g.aP g.p.pot.length g.cP 1 g.fP (g.p.pot.flatMap I1)
 hs:g.p.s.1≤T.l.length
/-- What is fixed. -/
structure GFix (T:Gt) (w0:World):Prop where
 R:Rd w0 T.a 1 B8 T.l
 off:T.l≠[]→(adr T.a).block<w0.heap.size
 hc:T.l.length≤T.c
 hm:T.l.length≤100000
theorem Ctx.tkb {T:Gt} {w0 w:World} {s:Nat × Bool} {L:List (Nat × Obj)} (H:Ctx w0 [] w (tkL T.ba T.bd s++L)) (X:GFix T w0):TkB w [T.ba,T.bd] T.a T.c T.l:=by
 refine ⟨X.R.ext0 H.ext,fun hl h=>?_,X.hc,X.hm⟩
 have h1:=X.off hl
 have h2:w0.heap.size≤T.ba:=(H.own _ (List.mem_cons_self ..)).elim (fun h=>by cases h) id
 have h3:w0.heap.size≤T.bd:=(H.own _ (List.mem_cons_of_mem _ (List.mem_cons_self ..))).elim (fun h=>by cases h) id
 simp only [List.mem_cons,List.not_mem_nil,or_false] at h
 omega
theorem Ctx.nbL {T:Gt} {w0 w:World} {s:Nat × Bool} {L:List (Nat × Obj)} {o:Obj} (H:Ctx w0 [] w (tkL T.ba T.bd s++L)) {b:Nat} (hL:(b,o)∈L):b∉[T.ba,T.bd]:=fun hm=>by
 have h1:=(List.pairwise_append.1 H.nd).2.2
 simp only [List.mem_cons,List.not_mem_nil,or_false] at hm
 rcases hm with rfl | rfl
 ·exact h1 _ (List.mem_cons_self ..) _ hL rfl
 ·exact h1 _ (List.mem_cons_of_mem _ (List.mem_cons_self ..)) _ hL rfl
/-- The next number, whatever else stands there. -/
theorem IH {T:Gt} {w0 w:World} {s:Nat × Bool} {L:List (Nat × Obj)} (X:GFix T w0) (H:Ctx w0 [] w (tkL T.ba T.bd s++L)) (hL:(T.bb,Bl 69 [.slice T.a T.l.length T.c])∈L) (hs:s.1≤T.l.length) {k:Nat} (hk:Oo k) :
  Ret Tryz.prog 144 #[.int .i64 (k:Int),ptr T.bb,ptr T.ba,ptr T.bd] w fun v w'=>v = .int .u64 ((nx T.l k s).1:Int)∧Ctx w0 [] w' (tkL T.ba T.bd (nx T.l k s).2++L)∧Ext [T.ba,T.bd] w w' :=
 Ret.mono (XS T.bb T.ba T.bd T.a T.c T.l s k w (Ctx.tkb H X) (H.blk _ (List.mem_append_right _ hL)) (Ctx.nbL H hL) (Ctx.lend H) hs hk) fun _ _ ⟨h1,h2⟩=>⟨h1,Ctx.back H h2,h2.ext⟩
theorem Ug {T:Gt} {w0 w:World} {s:Nat × Bool} {L:List (Nat × Obj)} (X:GFix T w0) (H:Ctx w0 [] w (tkL T.ba T.bd s++L)) (hL:(T.bb,Bl 69 [.slice T.a T.l.length T.c])∈L) (h4:(T.b4,Bl 136 [Gc T.bb T.ba T.bd])∈L) (hs:s.1≤T.l.length) :
  Ret Tryz.prog 80 #[ptr T.b4] w fun v w'=>v = .int .i64 (s64 (nx T.l 8 s).1)∧Ctx w0 [] w' (tkL T.ba T.bd (nx T.l 8 s).2++L)∧Ext [T.ba,T.bd] w w' :=
 Ret.mono (Adv T.b4 T.bb T.ba T.bd T.a T.c T.l s w (Ctx.tkb H X) (H.blk _ (List.mem_append_right _ hL)) (Ctx.nbL H hL) (Ctx.lend H) hs (H.blk _ (List.mem_append_right _ h4))) fun _ _ ⟨h1,h2⟩=>⟨h1,Ctx.back H h2,h2.ext⟩
/-- The same, in the midst of it all. -/
theorem II {T:Gt} {h:Hd} {g:Gs} {w0 w:World} {s:Nat × Bool} (X:GFix T w0) (H:Ctx w0 [] w (gL T h g s)) (hs:s.1≤T.l.length) {k:Nat} (hk:Oo k) :
  Ret Tryz.prog 144 #[.int .i64 (k:Int),ptr T.bb,ptr T.ba,ptr T.bd] w fun v w'=>v = .int .u64 ((nx T.l k s).1:Int)∧Ctx w0 [] w' (gL T h g (nx T.l k s).2)∧Ext [T.ba,T.bd] w w' :=
 IH X H (by simp) hs hk
theorem LJ {T:Gt} {h:Hd} {g:Gs} {w0 w:World} {s:Nat × Bool} (X:GFix T w0) (H:Ctx w0 [] w (gL T h g s)) (hs:s.1≤T.l.length) :
  Ret Tryz.prog 80 #[ptr T.b4] w fun v w'=>v = .int .i64 (s64 (nx T.l 8 s).1)∧Ctx w0 [] w' (gL T h g (nx T.l 8 s).2)∧Ext [T.ba,T.bd] w w' :=
 Ug X H (by simp) (by simp) hs
theorem Ctx.ltS {T:Gt} {h:Hd} {g:Gs} {w0 w:World} {s:Nat × Bool} (H:Ctx w0 [] w (gL T h g s)):∀ x∈[T.ba,T.bd],x<w.heap.size:=fun x hx=>by
 simp only [List.mem_cons,List.not_mem_nil,or_false] at hx
 rcases hx with rfl | rfl
 ·exact H.lt (k:=0) rfl
 ·exact H.lt (k:=1) rfl
/-! ### One of the four slices at the end -/
theorem pmI {α:Type} (X I R:List α):(X++(I++R)).Perm ((X++R)++I):=by
 rw [List.append_assoc]
 exact List.Perm.append_left X List.perm_append_comm
theorem pmE {α:Type} (X I E R:List α):(X++(I++(E++R))).Perm ((X++(I++R))++E):=by
 have:=pmI (X++I) E R
 simpa only [List.append_assoc] using this
theorem pmF {α:Type} (X I E F R:List α):(X++(I++(E++(F++R)))).Perm ((X++(I++(E++R)))++F):=by
 have:=pmI (X++I++E) F R
 simpa only [List.append_assoc] using this
theorem pmP {α:Type} (X I E F P:List α):(X++(I++(E++(F++P)))).Perm ((X++(I++(E++F)))++P):=by
 simp only [List.append_assoc]
 exact List.Perm.refl _
theorem XT {α:Type} (A B I R:List α):(A++(B++(I++R))).Perm ((A++(B++R))++I):=by
 have:=pmI (A++B) I R
 simpa only [List.append_assoc] using this
theorem XU {α:Type} (A B I E R:List α):(A++(B++(I++(E++R)))).Perm ((A++(B++(I++R)))++E):=by
 have:=pmE (A++B) I E R
 simpa only [List.append_assoc] using this
theorem XV {α:Type} (A B I E F R:List α):(A++(B++(I++(E++(F++R))))).Perm ((A++(B++(I++(E++R))))++F):=by
 have:=pmF (A++B) I E F R
 simpa only [List.append_assoc] using this
theorem XW {α:Type} (A B I E F P:List α):(A++(B++(I++(E++(F++P))))).Perm ((A++(B++(I++(E++F))))++P):=by
 have:=pmP (A++B) I E F P
 simpa only [List.append_assoc] using this
set_option maxRecDepth 20000 in
set_option maxHeartbeats 4000000 in
theorem KU {T:Gt} {h:Hd} {g:Gs} {w0 w:World} (X:GFix T w0) (G:GOk T h w0 w g) (e:Ed) (hE:g.p.es.length≤100000) (hF:g.p.fl.length≤100000) :
  Ret Tryz.prog 81 #[.agg (B6 e).toArray,ptr T.b7,ptr T.b6] w fun _ w'=>∃ g',GOk T h w0 w' g'∧g'.p=Jt T.l e g.p:=by
 obtain ⟨⟨ids,es,fl,pot,s⟩,aI,cI,fI,aE,cE,fE,aF,cF,fF,aP,cP,fP⟩:=g
 obtain ⟨H,OI,OE,OF,OP,hs⟩:=G
 dsimp only at H OI OE OF OP hs hE hF
 refine A0 (fn:=Tryz.f81) Tryz.func81 rfl [.agg (B6 e).toArray,ptr T.b7,ptr T.b6] rfl (by kernel_rfl) ?_
 refine Af (B2 rfl (B6 e) (.agg _) rfl rfl H ?_)
 rintro b3 w - H
 refine Ab (Aa (Af (Ah rfl Fo rfl (Ah rfl CR rfl (AM rfl Ec rfl H at3 rfl (Bq rfl EW Ci rfl H at0 rfl (Db _ (.agg _) rfl C9 Ci Es rfl (by decide) (by decide) rfl rfl rfl H ?_)))))))
 rintro b8 w - H
 refine Dc (a:=aE) (n:=es.length) (c:=cE) rfl C9 C9 Ci Wc Es rfl (by decide) rfl rfl (Ctx.perm (H.erase 1) ((XU _ _ _ _ _).cons _)) OE rfl (DQ _) (by omega) ?_
 rintro aE' cE' fE' w H OE'
 replace H:=H.perm (XU _ _ _ _ _).symm
 rw [show es.length+1=(es++[e]).length from by simp] at OE' ⊢
 replace OE':OS aE' (es++[e]).length cE' 4 fE' ((es++[e]).flatMap B6):=by { rw [List.flatMap_append]; simpa using OE' }
 refine Ah rfl Fo rfl (Ah rfl CR rfl (BV (.slice _ _ _) rfl ZV rfl rfl rfl H at2 (by (simp; done)) ?_))
 rintro w H
 refine Ab (Aa ?_)
 replace H:Ctx w0 [] _ (gL T h ⟨⟨ids,es++[e],fl,pot,s⟩,aI,cI,fI,aE',cE',fE',aF,cF,fF,aP,cP,fP⟩ s):=H
 have hSw:=Ctx.ltS H
 refine Gv (n:=6) (N:=10) (anc:=Lx 6 [[],[0],[0,1],[],[3],[3,4]]) [T.ba,T.bd] (fun i=>12+i) [isV (.pointer (some ⟨T.b7,6,none⟩)),isV (.pointer (some ⟨T.b7,6,none⟩)),isV (.slice aF fl.length cF),isV (Nu T.b4),isV (.int .i64 (s64 (nx T.l 8 s).1)),nsV w 2 1 [.int .i64 (s64 (nx T.l 8 s).1)]] [4] (fun k w'=>Ctx w0 [] w' (gL T h ⟨⟨ids,es++[e],fl,pot,s⟩,aI,cI,fI,aE',cE',fE',aF,cF,fF,aP,cP,fP⟩ ([s,(nx T.l 8 s).2].getD k s))) (show Tryz.prog.follows .mixedOrders=true by kernel_rfl) rfl (by decide) (by kernel_rfl) (El _) (fun i j _ _ h=>by have h:12+i=12+j:=h; omega) ⟨BH _ _,BH _ _,BH _ _,BH _ _,BH _ _,OT hSw _ _ _,trivial⟩ (by kernel_rfl) (fun k w w2 h hx=>h.call hx) H.drew (by kernel_rfl) ?_ ?_ ?_
 ·rintro m o e' w' hm hic ho hold hg hx ⟨k,HJ⟩
  have hin:∀ t:Nat,t<12→∀ j,j<6→t≠(fun i=>12+i) j:=fun t ht j hj=>by dsimp only; omega
  have g1:e'.g 1=ptr T.b7:=(hold 1 (hin 1 (by decide))).trans rfl
  have g2:e'.g 2=ptr T.b6:=(hold 2 (hin 2 (by decide))).trans rfl
  have hcs:m=0∨m=1∨m=2∨m=3∨m=4∨m=5:=by omega
  rcases hcs with rfl | rfl | rfl | rfl | rfl | rfl
  ·cases Option.some.inj ho
   exact Ah (off:=6) rfl (by kernel_rfl) g1 (Ab ⟨_,.refl _ _,rfl,rfl⟩)
  ·cases Option.some.inj ho
   exact Ah (off:=0) rfl (by kernel_rfl) (hg 0 (by decide)) (Ab ⟨_,.refl _ _,rfl,rfl⟩)
  ·cases Option.some.inj ho
   exact AY rfl BT (hg 1 (by decide)) (by rw [An (HJ.get (k:=2) rfl)]; rfl) (Ab ⟨_,.refl _ _,rfl,rfl⟩)
  ·cases Option.some.inj ho
   exact AY rfl Ms g2 (by rw [An (HJ.get (k:=3) rfl)]; rfl) (Ab ⟨_,.refl _ _,rfl,rfl⟩)
  ·exact absurd (by decide) hic
  ·cases Option.some.inj ho
   refine Dx [.int .i64 (s64 (nx T.l 8 s).1)] rfl AX Bw FX (by decide) (by decide) ?_ (Ctx.start w' []) ?_
   ·show Instr.fill _ _ [(0,e'.g 16)]=_
    rw [show e'.g 16 = .int .i64 (s64 (nx T.l 8 s).1) from (hg 4 (by decide))]
    kernel_rfl
   ·intro b w2 _ H
    exact Ab ⟨_,H.ext,rfl,b,rfl,H.get at0,Nat.le_trans hx.size ((H.own _ (List.mem_cons_self ..)).elim (fun h=>by cases h) id)⟩
 ·intro k i o e' w' hk ho hold hg hx HJ
  have hin:∀ t:Nat,t<12→∀ j,j<6→t≠(fun i=>12+i) j:=fun t ht j hj=>by dsimp only; omega
  have g1:e'.g 1=ptr T.b7:=(hold 1 (hin 1 (by decide))).trans rfl
  have g2:e'.g 2=ptr T.b6:=(hold 2 (hin 2 (by decide))).trans rfl
  rcases k with _ | k
  ·cases hk
   cases Option.some.inj ho
   refine Cb rfl (hg 3 (by decide)) Qu (LJ X HJ hs) rfl ?_
   rintro v w2 ⟨rfl,h2,h3⟩
   exact Ab ⟨_,h3,rfl,rfl,h2⟩
  ·simp at hk
 ·intro e' w' hds hold hg hx HJ
  have hin:∀ t:Nat,t<12→∀ j,j<6→t≠(fun i=>12+i) j:=fun t ht j hj=>by dsimp only; omega
  obtain ⟨b5,h5,hb5,hn5⟩:=hg 5 (by decide)
  replace HJ:Ctx w0 [] w' (gL T h ⟨⟨ids,es++[e],fl,pot,s⟩,aI,cI,fI,aE',cE',fE',aF,cF,fF,aP,cP,fP⟩ (nx T.l 8 s).2):=HJ
  refine E4 rfl AX AX Bw Mu FX rfl (by decide) [.int .i64 (s64 (nx T.l 8 s).1)] (hg 2 (by decide)) h5 (Ctx.perm HJ (XV _ _ _ _ _ _)) OF rfl (by simp [Bu]) (fun j v hv=>⟨_,rfl,by rw [Cu,Nat.zero_add,An hb5]; exact hv⟩) (by omega) fun a' c' full' w3 H6 O6=>?_
  replace H6:=H6.perm (XV _ _ _ _ _ _).symm
  rw [show fl.length+1=(fl++[s64 (nx T.l 8 s).1]).length from by simp] at O6 ⊢
  refine Ah (off:=6) rfl (by kernel_rfl) ((hold 1 (hin 1 (by decide))).trans rfl) ?_
  refine Ah (off:=0) rfl (by kernel_rfl) (Dp _ _ _) ?_
  refine BV (.slice a' (fl++[s64 (nx T.l 8 s).1]).length c') rfl W7 (Dp _ _ _) rfl rfl H6 at2 (by simp) fun w4 H8=>Ab ?_
  refine qk_of (CG rfl (hds.trans rfl) ⟨⟨⟨ids,es++[e],fl++[s64 (nx T.l 8 s).1],pot,(nx T.l 8 s).2⟩,aI,cI,fI,aE',cE',fE',a',c',full',aP,cP,fP⟩,⟨H8,OI,OE',?_,OP,GP hs⟩,rfl⟩)
  dsimp only
  rw [List.flatMap_append]
  simpa using O6
end Go.Proofs.YtapphbmlkdhnmaaGreat

/- The function that gets a round of bytes. -/
namespace Go.Proofs.YtapphbmlkdhnmaaGreat
open Go.GV
attribute [local irreducible] A1 W Wq Wt

theorem Vu {w:World} (a b:Option Addr) (c d n m:Nat) (x y:List UInt8) (Rx:Rd w a 1 B8 x) (Ry:Rd w b 1 B8 y) (hn:x.length=n) (hm:y.length=m) :
  Ret Tryz.prog 84 #[.slice a n c,.slice b m d] w fun v w'=>v = .bool (decide (x=y))∧w=w':=by
 subst hn hm
 refine A0 (fn:=Tryz.f84) Tryz.func84 rfl [.slice a x.length c,.slice b y.length d] rfl (by kernel_rfl) ?_
 refine Af (Ai rfl rfl (Ab (Aa (Af (Ak rfl rfl (Ts (l:=x) rfl Dq JY un_9 rfl Rx ?_))))))
 refine Ak rfl rfl (Ts (l:=y) rfl Dq JY un_9 rfl Ry ?_)
 refine VK (l:=x) (m:=y) rfl rfl rfl ?_
 refine Ai rfl rfl (Ab (Aa (A9 (AC (v:=(.bool _)) rfl rfl rfl ?_))))
 exact ⟨rfl,rfl⟩
abbrev Aaj (bd:Nat):Value := .func (.func 146) #[] [ptr bd].toArray
abbrev flwV (b7 b6:Nat):Value := .func (.func 81) #[] [ptr b7,ptr b6].toArray
theorem XX (a:Option Addr) (c n:Nat) (w:World):Ret Tryz.prog 79 #[.slice a n c] w fun v w'=>∃ ba bd bb,v = .tuple #[Gc bb ba bd,Aaj bd]∧Ctx w [] w' (tkL ba bd (0,false)++[(bb,Bl 69 [.slice a n c])]):=by
 obtain ⟨w0,rfl⟩:∃ w0,w0=w:=⟨_,rfl⟩
 have H:=Ctx.start w0 []
 refine A0 (fn:=Tryz.f79) Tryz.func79 rfl [.slice a n c] rfl (by kernel_rfl) ?_
 refine Af (B2 rfl _ (.slice _ _ _) rfl rfl H ?_)
 rintro b1 w - H
 refine BN rfl .nilFunc rfl ?_
 refine BN rfl .nilFunc rfl ?_
 refine Ab (Aa (Af (Bo rfl Qy H ?_)))
 rintro b4 w - H
 refine Bo rfl zc_4 H ?_
 rintro b5 w - H
 refine BV (.int _ _) rfl ED rfl rfl rfl H at1 (by decide) ?_
 rintro w H
 refine BV (.bool _) rfl Pb rfl rfl rfl H at0 (by decide) ?_
 rintro w H
 refine Ab (Aa (Af (Ch rfl [_,_,_] rfl (BN rfl (.func _ _ _) rfl ?_))))
 refine Ab (Aa (Af (BO rfl (.func _ _ _) rfl ?_)))
 refine Ch rfl [_] rfl (BN rfl (.func _ _ _) rfl ?_)
 refine BN rfl (.func _ _ _) rfl ?_
 refine Ab (Aa (A9 (DE (v1:=(.func _ _ _)) (v2:=(.func _ _ _)) rfl rfl rfl rfl ?_)))
 refine ⟨b4,b5,b1,rfl,Ctx.perm H ?_⟩
 exact List.Perm.swap _ _ _
theorem PC (l:List UInt8) (s:Nat × Bool):(nx l 1 s).1<256:=by
 unfold nx
 split
 ·show (0:Nat)<_
  decide
 ·split
  ·have h1:=Kq ((l.drop s.1).take 1)
   have h2:((l.drop s.1).take 1).length≤1:=by rw [List.length_take]; omega
   have h3:256 ^ ((l.drop s.1).take 1).length≤256 ^ 1:=Nat.pow_le_pow_right (by decide) h2
   show numN _<_
   omega
  ·show (0:Nat)<_
   decide
theorem Adw (l:List UInt8) (s:Nat × Bool):(nx l 2 s).1<65536:=by
 unfold nx
 split
 ·show (0:Nat)<_
  decide
 ·split
  ·have h1:=Kq ((l.drop s.1).take 2)
   have h2:((l.drop s.1).take 2).length≤2:=by rw [List.length_take]; omega
   have h3:256 ^ ((l.drop s.1).take 2).length≤256 ^ 2:=Nat.pow_le_pow_right (by decide) h2
   show numN _<_
   omega
  ·show (0:Nat)<_
   decide
theorem perm6 {α:Type} (a b c d e f:α):[a,b,c,d,e,f].Perm [d,e,a,b,f,c] :=
 (pmI [a,b] [c] [d,e,f]).trans (List.Perm.append_right [f,c] (List.perm_append_comm (l₁:=[a,b]) (l₂:=[d,e])))
theorem MW (h:Hd) (p:PRd):(Ii h p).cmp=h.cmp:=rfl
theorem XY (l:List UInt8):(hs1 l).1≤l.length:=GP (Nat.zero_le _)
theorem XZ (l:List UInt8):(hs2 l).1≤l.length:=GP (XY l)
theorem Ya (l:List UInt8):(hs3 l).1≤l.length:=GP (XZ l)
theorem Yb (l:List UInt8):(hs4 l).1≤l.length:=GP (Ya l)
theorem Yc (l:List UInt8):(hs5 l).1≤l.length:=GP (Yb l)
theorem Adx (l:List UInt8):(hs6 l).1≤l.length:=GP (Yc l)
/-- Nothing gathered yet. -/
abbrev gs0 (s:Nat × Bool):Gs:=⟨⟨[],[],[],[],s⟩,none,0,[],none,0,[],none,0,[],none,0,[]⟩
/-- The head, before the number of nodes is known. -/
abbrev hd0 (l:List UInt8):Hd:=⟨((nx l 8 (hs1 l)).1:Int),s64 (nx l 8 (hs2 l)).1,decide (((nx l 1 (hs3 l)).1:Int)=1),0⟩
theorem Ady (n:Nat):s64 n<9223372036854775808:=by
 unfold s64 IntKind.wrap
 have e1:((2:Int) ^ IntKind.i64.bits)=18446744073709551616:=by kernel_rfl
 have e2:((2:Int) ^ (IntKind.i64.bits - 1))=9223372036854775808:=by kernel_rfl
 simp only [e1,e2]
 split
 ·omega
 ·rename_i h
  simp [IntKind.signed] at h
  omega
theorem MX (l:List UInt8):∀ (d:Nat) (p:PRd),(∀ x∈p.ids,0≤x∧x<18446744073709551616)→∀ x∈(Kv l d p).ids,0≤x∧x<18446744073709551616
 | 0,_,h=>h
 | d+1,p,h=>by
  unfold Kv
  split
  ·exact h
  ·refine MX l d _ fun x hx=>?_
   have hx:x∈p.ids++[((nx l 8 p.s).1:Int)]:=hx
   rcases List.mem_append.1 hx with h1 | h1
   ·exact h x h1
   ·have h2:=Aai l (k:=8) (by decide) p.s
    rw [List.mem_singleton] at h1
    omega
theorem Oq (l:List UInt8) (h:Nat):∀ (n i:Nat) (p:PRd),(G9 l h n i p).ids=p.ids
 | 0,_,_=>rfl
 | n+1,i,p=>by
  unfold G9
  split
  ·rfl
  ·rw [Oq l h n]; rfl
theorem Rc (l:List UInt8):∀ (n:Nat) (p:PRd),(Kw l n p).ids=p.ids
 | 0,_=>rfl
 | n+1,p=>by
  unfold Kw
  split
  ·rfl
  ·rw [Rc l n]; rfl
theorem Yd (l:List UInt8):∀ x∈(Ju l).ids,0≤x∧x<18446744073709551616:=by
 unfold Ju
 dsimp only
 rw [Rc]
 split
 ·exact MX l _ _ (by simp)
 ·rw [Oq]; exact MX l _ _ (by simp)
theorem Vv {r:Rnd} {w w':World} {v:Value} (hT:B7 r=true→∃ s,v = .tuple #[s,.int .i64 0]∧Fresh w w' 5 1 s ((CF r).map bv)) (hF:B7 r=false→v = .tuple #[.slice none 0 0,.int .i64 1]∧Ext [] w w') :
  ∃ (a:Option Addr) (c:Nat) (bs:List UInt8) (e:Int),v = .tuple #[.slice a bs.length c,.int .i64 e]∧Rd w' a 1 B8 bs∧Ext [] w w'∧(B7 r=true→e=0∧bs=CF r)∧(B7 r=false→e=1):=by
 cases h:B7 r with
 | true =>
  obtain ⟨s,rfl,F⟩:=hT h
  obtain ⟨a,c,rfl,R,-⟩:=Fresh.rdB F
  exact ⟨a,c,CF r,0,rfl,R,F.ext,fun _=>⟨rfl,rfl⟩,fun h=>(by cases h)⟩
 | false =>
  obtain ⟨rfl,hx⟩:=hF h
  exact ⟨none,0,[],1,rfl,Rd.nil,hx,fun h=>(by cases h),fun _=>rfl⟩
/-- What is told of bytes. -/
structure GetRes (l:List UInt8) (w w':World) (v:Value):Prop where
 ok:IG l=true→∃ q,v = .tuple #[.agg (AJ (Lz l) q).toArray,.int .i64 0]∧RAt w' (Lz l) q∧(Lz l).es.length≤q.cE∧(∀ x∈[q.aI,q.aE,q.aF,q.aP],∀ p,x=some p→w.heap.size≤p.block)
 no:IG l=false→v = .tuple #[.agg (AJ GA FT).toArray,.int .i64 5]
 ext:Ext [] w w'
set_option maxRecDepth 20000 in
set_option maxHeartbeats 16000000 in
theorem Uh (a:Option Addr) (c:Nat) (l:List UInt8) (w:World) (R:Rd w a 1 B8 l) (hc:l.length≤c) (hm:l.length≤100000) (hoff:l≠[]→(adr a).block<w.heap.size) :
  Ret Tryz.prog 28 #[.slice a l.length c] w fun v w'=>(EA l=true→GetRes l w w' v)∧(EA l=false→v = .tuple #[.agg (AJ GA FT).toArray,.int .i64 5]∧Ext [] w w'):=by
 obtain ⟨w0,rfl⟩:∃ w0,w0=w:=⟨_,rfl⟩
 have H:=Ctx.start w0 []
 obtain ⟨rw',hrw⟩:∃ x,x=EA l:=⟨_,rfl⟩
 refine A0 (fn:=Tryz.f28) Tryz.func28 rfl [.slice a l.length c] rfl (by kernel_rfl) ?_
 refine Af (Bo rfl Hi H ?_)
 rintro b2 w - H
 refine Ae rfl rfl (Ab (Aa (Aq (Af (Ak rfl rfl (Al rfl ca_78 (QV a c l _ (R.ext0 H.ext) (by omega) hc) rfl ?_))))))
 rintro v w ⟨rfl,rfl⟩
 rw [← hrw]
 refine Bv rfl rfl (Ab (Aa (Ax _ rfl ?_ ?_)))
 ·intro h1
  replace h1:=B0 h1
  refine Af (C7 (AJ GA FT) rfl Qx Hi (by kernel_rfl) ?_)
  refine BP rfl Cp rfl rfl rfl (by exact (by decide)) H at0 rfl ?_
  rintro w H
  refine Ae rfl rfl (Ab (Aa (A9 (Am (JQ rfl rfl rfl C6 Cp H at0 rfl (show _=(.int _ _) from rfl) ?_)))))
  exact ⟨fun h=>(by rw [h1] at h; cases h),fun _=>⟨rfl,H.ext⟩⟩
 ·intro h1
  replace h1:=B1 h1
  have hbig:∀ {w:World},Ext [] w0 w→w0.heap.size≤w.heap.size:=fun h=>h.size
  refine Aw (Aa (Af (Ak rfl rfl (Al rfl ca_79 (XX a c l.length _) rfl ?_))))
  rintro v w ⟨ba,bd,bb,rfl,H22⟩
  replace H:=Ctx.callEnt H H22.ext (fun x hx=>⟨H22.blk x hx,(H22.own x hx).elim (fun h=>(by cases h)) id⟩) H22.nd
  refine BK rfl rfl (A5 (v:=Gc bb ba bd) rfl rfl rfl (A5 (v:=Aaj bd) rfl rfl rfl (Bo rfl Ac2 H ?_)))
  rintro b4 w - H
  refine BV (.func _ _ _) rfl Acw rfl rfl rfl H at0 (by decide) ?_
  rintro w H
  refine BN rfl (.func _ _ _) rfl ?_
  refine Ab (Aa (Af (Ch rfl [ptr b4] rfl (Bo rfl Ac3 H ?_))))
  rintro b6 w - H
  refine BV (.func _ _ _) rfl Acx rfl rfl rfl H at0 (by decide) ?_
  rintro w H
  refine Ab (Aa ?_)
  replace H:Ctx w0 [] _ (tkL ba bd (0,false)++[(b6,Bl 139 [Nu b4]),(b4,Bl 136 [Gc bb ba bd]),(bb,Bl 69 [.slice a l.length c]),(b2,Bl 33 (AJ GA FT))]):=Ctx.perm H (perm6 _ _ _ _ _ _)
  have X0:GFix (⟨ba,bd,bb,b2,b4,b6,0,a,c,l⟩:Gt) w0:=⟨R,hoff,hc,hm⟩
  refine Af (AM rfl GR rfl H at3 rfl (Cb rfl rfl GU (IH (T:=(⟨ba,bd,bb,b2,b4,b6,0,a,c,l⟩:Gt)) (s:=(0,false)) (k:=4) X0 H (by simp) (Nat.zero_le _) (.inr (.inr (.inl rfl)))) rfl ?_))
  rintro v w ⟨rfl,H27,-⟩
  replace H:Ctx w0 [] w (tkL ba bd (hs1 l)++[(b6,Bl 139 [Nu b4]),(b4,Bl 136 [Gc bb ba bd]),(bb,Bl 69 [.slice a l.length c]),(b2,Bl 33 (AJ GA FT))]):=H27
  refine Ab (Aa (Dl 68451041408 (α:=Nat) (fun b7=>[(7,ptr b7)]) (fun b7 w'=>Ctx w0 [] w' (gL (⟨ba,bd,bb,b2,b4,b6,b7,a,c,l⟩:Gt) (hd0 l) (gs0 (hs4 l)) (hs4 l))) rfl ?_ ?_))
  ·skip
   have hSw:∀ x∈[ba,bd],x<w.heap.size:=fun x hx=>by
    simp only [List.mem_cons,List.not_mem_nil,or_false] at hx
    rcases hx with rfl | rfl
    ·exact H.lt (k:=0) rfl
    ·exact H.lt (k:=1) rfl
   have hlt:=Ctx.ltI H
   refine Gv (n:=9) (N:=10) (anc:=Lx 9 [[],[0],[],[0,1,2],[],[0,1,2,3,4],[0,1,2,3,4,5],[0,1,2,3,4,5,6],[]]) [ba,bd] (fun i=>if i=8 then 7 else 28+i) [isV (Gc bb ba bd),isV (.int .u64 ((nx l 8 (hs1 l)).1:Int)),isV (Nu b4),isV (.int .i64 (s64 (nx l 8 (hs2 l)).1)),isV (Gc bb ba bd),isV (.int .u64 ((nx l 1 (hs3 l)).1:Int)),isV (.bool (decide (((nx l 1 (hs3 l)).1:Int)=1))),isV (.agg (AJ (Ii (hd0 l) (gs0 (hs4 l)).p) FT).toArray),nwV w (Bl 33 (AJ GA FT))] [1,3,5] (fun k w'=>Ctx w0 [] w' (tkL ba bd ([hs1 l,hs2 l,hs3 l,hs4 l].getD k (hs1 l))++[(b6,Bl 139 [Nu b4]),(b4,Bl 136 [Gc bb ba bd]),(bb,Bl 69 [.slice a l.length c]),(b2,Bl 33 (AJ GA FT))])) (show Tryz.prog.follows .mixedOrders=true by kernel_rfl) rfl (by decide) (by kernel_rfl) (El _) (fun i j _ _ h=>by have h:(if i=8 then 7 else 28+i:Nat)=(if j=8 then 7 else 28+j:Nat):=h; split at h <;> split at h <;> omega) ⟨BH _ _,BH _ _,BH _ _,BH _ _,BH _ _,BH _ _,BH _ _,BH _ _,Tz hSw _,trivial⟩ (by kernel_rfl) (fun k w w2 h hx=>h.call hx) H.drew (by kernel_rfl) ?_ ?_ ?_
   ·rintro m o e' w' hm hic ho hold hg hx ⟨k,HJ⟩
    have hin:∀ t:Nat,t<7→∀ j,j<9→t≠(fun i=>if i=8 then 7 else 28+i) j:=fun t ht j hj=>by dsimp only; split <;> omega
    have g4:e'.g 4=ptr b4:=(hold 4 (hin 4 (by decide))).trans rfl
    have g6:e'.g 6=ptr b6:=(hold 6 (hin 6 (by decide))).trans rfl
    have hcs:m=0∨m=1∨m=2∨m=3∨m=4∨m=5∨m=6∨m=7∨m=8:=by omega
    rcases hcs with rfl | rfl | rfl | rfl | rfl | rfl | rfl | rfl | rfl
    ·cases Option.some.inj ho
     exact AY rfl GR g4 (by rw [An (HJ.get (k:=3) rfl)]; rfl) (Ab ⟨_,.refl _ _,rfl,rfl⟩)
    ·exact absurd (by decide) hic
    ·cases Option.some.inj ho
     exact AY rfl Ms g6 (by rw [An (HJ.get (k:=2) rfl)]; rfl) (Ab ⟨_,.refl _ _,rfl,rfl⟩)
    ·exact absurd (by decide) hic
    ·cases Option.some.inj ho
     exact AY rfl GR g4 (by rw [An (HJ.get (k:=3) rfl)]; rfl) (Ab ⟨_,.refl _ _,rfl,rfl⟩)
    ·exact absurd (by decide) hic
    ·cases Option.some.inj ho
     exact Cg rfl (hg 5 (by decide)) rfl (Ab ⟨_,.refl _ _,rfl,rfl⟩)
    ·cases Option.some.inj ho
     refine C7 (AJ (Ii (hd0 l) (gs0 (hs4 l)).p) FT) rfl Qx Hi ?_ (Ab ⟨_,.refl _ _,rfl,rfl⟩)
     show Instr.fill _ _ [(0,e'.g 29),(1,e'.g 31),(2,e'.g 34)]=_
     rw [show e'.g 29 = .int .u64 ((nx l 8 (hs1 l)).1:Int) from (hg 1 (by decide)),show e'.g 31 = .int .i64 (s64 (nx l 8 (hs2 l)).1) from (hg 3 (by decide)),show e'.g 34 = .bool (decide (((nx l 1 (hs3 l)).1:Int)=1)) from (hg 6 (by decide))]
     kernel_rfl
    ·cases Option.some.inj ho
     refine Bo rfl Hi (Ctx.start w' []) ?_
     intro b w2 _ H
     exact Ab ⟨_,H.ext,rfl,b,rfl,H.get at0,Nat.le_trans hx.size ((H.own _ (List.mem_cons_self ..)).elim (fun h=>by cases h) id)⟩
   ·intro k im o e' w' hk ho hold hg hx HJ
    have hin:∀ t:Nat,t<7→∀ j,j<9→t≠(fun i=>if i=8 then 7 else 28+i) j:=fun t ht j hj=>by dsimp only; split <;> omega
    have g4:e'.g 4=ptr b4:=(hold 4 (hin 4 (by decide))).trans rfl
    have g6:e'.g 6=ptr b6:=(hold 6 (hin 6 (by decide))).trans rfl
    rcases k with _ | _ | _ | k
    ·cases hk
     cases Option.some.inj ho
     refine Cb rfl (hg 0 (by decide)) GU (IH (T:=(⟨ba,bd,bb,b2,b4,b6,0,a,c,l⟩:Gt)) (k:=8) X0 HJ (by simp) (XY l) (.inr (.inr (.inr rfl)))) rfl ?_
     rintro v w2 ⟨rfl,h2,h3⟩
     exact Ab ⟨_,h3,rfl,rfl,h2⟩
    ·cases hk
     cases Option.some.inj ho
     refine Cb rfl (hg 2 (by decide)) Qu (Ug (T:=(⟨ba,bd,bb,b2,b4,b6,0,a,c,l⟩:Gt)) X0 HJ (by simp) (by simp) (XZ l)) rfl ?_
     rintro v w2 ⟨rfl,h2,h3⟩
     exact Ab ⟨_,h3,rfl,rfl,h2⟩
    ·cases hk
     cases Option.some.inj ho
     refine Cb rfl (hg 4 (by decide)) GU (IH (T:=(⟨ba,bd,bb,b2,b4,b6,0,a,c,l⟩:Gt)) (k:=1) X0 HJ (by simp) (Ya l) (.inl rfl)) rfl ?_
     rintro v w2 ⟨rfl,h2,h3⟩
     exact Ab ⟨_,h3,rfl,rfl,h2⟩
    ·simp at hk
   ·intro e' w' hds hold hg hx HJ
    have hin:∀ t:Nat,t<7→∀ j,j<9→t≠(fun i=>if i=8 then 7 else 28+i) j:=fun t ht j hj=>by dsimp only; split <;> omega
    obtain ⟨b7,h8,hb7,hn7⟩:=hg 8 (by decide)
    have HB:Ctx w0 [] w' ((b7,Bl 33 (AJ GA FT))::(tkL ba bd (hs4 l)++[(b6,Bl 139 [Nu b4]),(b4,Bl 136 [Gc bb ba bd]),(bb,Bl 69 [.slice a l.length c]),(b2,Bl 33 (AJ GA FT))])):=Ctx.add HJ hb7 (.inr (Nat.le_trans H.size hn7)) fun x hx he=>by
     have:=hlt x.1 (List.mem_map_of_mem (f:=(·.1)) hx)
     omega
    refine BP (l:=AJ GA FT) rfl Cp h8 (hg 7 (by decide)) rfl (by simp [Bu]) HB at0 rfl fun w3 H3=>Ab ?_
    exact ⟨b7,hds,⟨h8,trivial⟩,Ctx.perm H3 List.perm_middle.symm⟩
  ·rintro b7 j6 w H
   have X:GFix (⟨ba,bd,bb,b2,b4,b6,b7,a,c,l⟩:Gt) w0:=⟨R,hoff,hc,hm⟩
   have hhub:DH l<256:=PC _ _
   have hcnt:SW l<256:=PC _ _
   have hh1:(nx l 1 (hs4 l)).1<256:=hhub
   have hh2:(nx l 1 (hs5 l)).1<256:=hcnt
   refine Dl 4329327035136 (α:=Unit) (fun _=>[(8,.int .i64 (DH l:Int)),(9,.int .i64 (SW l:Int))]) (fun _ w'=>Ctx w0 [] w' (gL (⟨ba,bd,bb,b2,b4,b6,b7,a,c,l⟩:Gt) (hd0 l) (gs0 (hs4 l)) (hs6 l))) rfl ?_ ?_
   ·skip
    refine Gv (n:=7) (N:=8) (anc:=Lx 7 [[],[0],[0,1],[],[0,1,3],[0,1,3,4],[0,1,2,3,4]]) [ba,bd] (fun i=>if i=6 then 8 else 36+i) [isV (Gc bb ba bd),isV (.int .u64 ((nx l 1 (hs4 l)).1:Int)),isV (.int .i64 ((nx l 1 (hs4 l)).1:Int)),isV (Gc bb ba bd),isV (.int .u64 ((nx l 1 (hs5 l)).1:Int)),isV (.int .i64 ((nx l 1 (hs5 l)).1:Int)),isV (.int .i64 (DH l:Int))] [1,4] (fun k w'=>Ctx w0 [] w' (gL (⟨ba,bd,bb,b2,b4,b6,b7,a,c,l⟩:Gt) (hd0 l) (gs0 (hs4 l)) ([hs4 l,hs5 l,hs6 l].getD k (hs4 l)))) (show Tryz.prog.follows .mixedOrders=true by kernel_rfl) rfl (by decide) (by kernel_rfl) (El _) (fun i j _ _ h=>by have h:(if i=6 then 8 else 36+i:Nat)=(if j=6 then 8 else 36+j:Nat):=h; split at h <;> split at h <;> omega) ⟨BH _ _,BH _ _,BH _ _,BH _ _,BH _ _,BH _ _,BH _ _,trivial⟩ (by kernel_rfl) (fun k w w2 h hx=>h.call hx) H.drew (by kernel_rfl) ?_ ?_ ?_
    ·rintro m o e' w' hm hic ho hold hg hx ⟨k,HJ⟩
     have hin:∀ t:Nat,t<8→∀ j,j<7→t≠(fun i=>if i=6 then 8 else 36+i) j:=fun t ht j hj=>by dsimp only; split <;> omega
     have g4:e'.g 4=ptr b4:=(hold 4 (hin 4 (by decide))).trans rfl
     have hcs:m=0∨m=1∨m=2∨m=3∨m=4∨m=5∨m=6:=by omega
     rcases hcs with rfl | rfl | rfl | rfl | rfl | rfl | rfl
     ·cases Option.some.inj ho
      exact AY rfl GR g4 (by rw [An (HJ.get (k:=4) rfl)]; rfl) (Ab ⟨_,.refl _ _,rfl,rfl⟩)
     ·exact absurd (by decide) hic
     ·cases Option.some.inj ho
      exact Ev rfl (hg 1 (by decide)) FM GW (by omega) (by omega) (Ab ⟨_,.refl _ _,rfl,rfl⟩)
     ·cases Option.some.inj ho
      exact AY rfl GR g4 (by rw [An (HJ.get (k:=4) rfl)]; rfl) (Ab ⟨_,.refl _ _,rfl,rfl⟩)
     ·exact absurd (by decide) hic
     ·cases Option.some.inj ho
      exact Ev rfl (hg 4 (by decide)) FM GW (by omega) (by omega) (Ab ⟨_,.refl _ _,rfl,rfl⟩)
     ·cases Option.some.inj ho
      exact BN rfl _ (hg 2 (by decide)) (Ab ⟨_,.refl _ _,rfl,rfl⟩)
    ·intro k im o e' w' hk ho hold hg hx HJ
     have hin:∀ t:Nat,t<8→∀ j,j<7→t≠(fun i=>if i=6 then 8 else 36+i) j:=fun t ht j hj=>by dsimp only; split <;> omega
     have g4:e'.g 4=ptr b4:=(hold 4 (hin 4 (by decide))).trans rfl
     rcases k with _ | _ | k
     ·cases hk
      cases Option.some.inj ho
      refine Cb rfl (hg 0 (by decide)) GU (II (T:=(⟨ba,bd,bb,b2,b4,b6,b7,a,c,l⟩:Gt)) (k:=1) X HJ (Yb l) (.inl rfl)) rfl ?_
      rintro v w2 ⟨rfl,h2,h3⟩
      exact Ab ⟨_,h3,rfl,rfl,h2⟩
     ·cases hk
      cases Option.some.inj ho
      refine Cb rfl (hg 3 (by decide)) GU (II (T:=(⟨ba,bd,bb,b2,b4,b6,b7,a,c,l⟩:Gt)) (k:=1) X HJ (Yc l) (.inl rfl)) rfl ?_
      rintro v w2 ⟨rfl,h2,h3⟩
      exact Ab ⟨_,h3,rfl,rfl,h2⟩
     ·simp at hk
    ·intro e' w' hds hold hg hx HJ
     have hin:∀ t:Nat,t<8→∀ j,j<7→t≠(fun i=>if i=6 then 8 else 36+i) j:=fun t ht j hj=>by dsimp only; split <;> omega
     refine BN rfl _ (hg 5 (by decide)) (Ab ?_)
     exact ⟨(),hds,⟨hg 6 (by decide),Dp _ _ _,trivial⟩,HJ.call (.refl _ _)⟩
   ·rintro - j7 w H
    refine Af (Ad rfl rfl (Ao rfl rfl rfl (by omega) (by omega) ?_))
    refine Ah rfl Fo rfl (Ah rfl Fm rfl (BV (.int _ _) rfl ED rfl rfl rfl H at2 (by (simp; done)) ?_))
    rintro w H
    refine Ab (Aa (Af (Ch rfl [ptr b7,ptr b6] rfl ?_)))
    replace H:Ctx w0 [] _ (gL (⟨ba,bd,bb,b2,b4,b6,b7,a,c,l⟩:Gt) (hdP l) (gs0 (hs6 l)) (hs6 l)):=H
    refine BN rfl (.func _ _ _) rfl ?_
    refine Ab (Aa (Aq (Av ?_)))
    obtain ⟨P1,hP1⟩:∃ P,P=Kv l (SW l) (gs0 (hs6 l)).p:=⟨_,rfl⟩
    refine Bm 604462909666577099000320 (α:=Gs × Nat) (fun z=>[(9,.int .i64 (z.2:Int))]) (fun z w'=>GOk (⟨ba,bd,bb,b2,b4,b6,b7,a,c,l⟩:Gt) (hdP l) w0 w' z.1∧Kv l z.2 z.1.p=P1∧z.1.p.pot.length=0∧z.1.p.ids.length+z.2≤256∧z.1.p.es.length+z.2≤256∧z.1.p.fl.length+z.2≤256) (fun z=>z.2) (gs0 (hs6 l),SW l) rfl ?_ ?_ ?_
    ·exact ⟨rfl,trivial⟩
    ·refine ⟨⟨H,OS.nil,OS.nil,OS.nil,OS.nil,Adx l⟩,hP1.symm,rfl,?_,?_,?_⟩ <;> (simp; omega)
    ·clear H
     rintro ⟨⟨⟨ids,es,fl,pot,p,bad⟩,aI,cI,fI,aE,cE,fE,aF,cF,fF,aP,cP,fP⟩,n⟩ j w ⟨⟨H,OI,OE,OF,OP,hs⟩,hP,hpt,n1,n2,n3⟩; dsimp only at H OI OE OF OP hs hP hpt n1 n2 n3; dsimp only
     refine Aq (Af (Ct (α:=Unit) 8866461766385664 (fun _=>[(52,.bool (decide (0<(n:Int)) && !bad))]) (fun _ w'=>Ctx w0 [] w' (gL (⟨ba,bd,bb,b2,b4,b6,b7,a,c,l⟩:Gt) (hdP l) ⟨⟨ids,es,fl,pot,p,bad⟩,aI,cI,fI,aE,cE,fE,aF,cF,fF,aP,cP,fP⟩ (p,bad))) rfl ?_ ?_))
     ·refine Ad rfl rfl (C4 rfl rfl rfl (Ay rfl rfl (AH 49 rfl ?_ ?_)))
      ·intro h1
       replace h1:=AE h1
       refine BO rfl (.func _ _ _) rfl ?_
       refine Cb rfl rfl OW (PB bd bad _ (H.get (k:=1) rfl)) rfl ?_
       rintro v w ⟨rfl,hx51⟩
       replace H:=H.call hx51
       refine A3 rfl rfl (.bool _) rfl (Ab ?_)
       exact ⟨rfl,(),rfl,⟨congrArg Value.bool (by simp_all),trivial⟩,H⟩
      ·intro h2
       replace h2:=AF h2
       refine Ag rfl (Ag rfl (AA rfl rfl (.bool _) rfl (Ab ?_)))
       exact ⟨rfl,(),rfl,⟨congrArg Value.bool (by simp_all),trivial⟩,H⟩
     rintro - j52 w H
     refine Ax _ rfl ?_ ?_
     ·intro h2
      rw [Bool.and_eq_true,decide_eq_true_eq,Bool.not_eq_true'] at h2
      obtain ⟨h3,rfl⟩:=h2
      obtain ⟨m,rfl⟩:∃ m,n=m+1:=⟨n - 1,by omega⟩
      refine Aw (Aa (Aq (Av (Dl 4575657221408423936 (α:=Option Addr × Nat × List Value) (fun _=>[]) (fun z w'=>Ctx w0 [] w' (gL (⟨ba,bd,bb,b2,b4,b6,b7,a,c,l⟩:Gt) (hdP l) ⟨⟨ids++[((nx l 8 (p,false)).1:Int)],es,fl,pot,(nx l 8 (p,false)).2⟩,z.1,z.2.1,z.2.2,aE,cE,fE,aF,cF,fF,aP,cP,fP⟩ (nx l 8 (p,false)).2)∧OS z.1 (ids++[((nx l 8 (p,false)).1:Int)]).length z.2.1 1 z.2.2 ((ids++[((nx l 8 (p,false)).1:Int)]).flatMap U1)) rfl ?_ ?_))))
      ·skip
       have hSw:=Ctx.ltS H
       refine Gv (n:=5) (N:=8) (anc:=Lx 5 [[],[0],[],[2],[2,3]]) [ba,bd] (fun i=>55+i) [isV (.pointer (some ⟨b7,3,none⟩)),isV (.slice aI ids.length cI),isV (Gc bb ba bd),isV (.int .u64 ((nx l 8 (p,false)).1:Int)),nsV w 24 1 [.int .u64 ((nx l 8 (p,false)).1:Int)]] [3] (fun k w'=>Ctx w0 [] w' (gL (⟨ba,bd,bb,b2,b4,b6,b7,a,c,l⟩:Gt) (hdP l) ⟨⟨ids,es,fl,pot,p,false⟩,aI,cI,fI,aE,cE,fE,aF,cF,fF,aP,cP,fP⟩ ([(p,false),(nx l 8 (p,false)).2].getD k (p,false)))) (show Tryz.prog.follows .mixedOrders=true by kernel_rfl) rfl (by decide) (by kernel_rfl) (El _) (fun i j _ _ h=>by have h:55+i=55+j:=h; omega) ⟨BH _ _,BH _ _,BH _ _,BH _ _,OT hSw _ _ _,trivial⟩ (by kernel_rfl) (fun k w w2 h hx=>h.call hx) H.drew (by kernel_rfl) ?_ ?_ ?_
       ·rintro m o e' w' hm hic ho hold hg hx ⟨k,HJ⟩
        have hin:∀ t:Nat,t<55→∀ j,j<5→t≠(fun i=>55+i) j:=fun t ht j hj=>by dsimp only; omega
        have g4:e'.g 4=ptr b4:=(hold 4 (hin 4 (by decide))).trans rfl
        have g7:e'.g 7=ptr b7:=(hold 7 (hin 7 (by decide))).trans rfl
        have hcs:m=0∨m=1∨m=2∨m=3∨m=4:=by omega
        rcases hcs with rfl | rfl | rfl | rfl | rfl
        ·cases Option.some.inj ho
         exact Ah (off:=3) rfl (by kernel_rfl) g7 (Ab ⟨_,.refl _ _,rfl,rfl⟩)
        ·cases Option.some.inj ho
         exact AY rfl Fy (hg 0 (by decide)) (by rw [An (HJ.get (k:=2) rfl)]; rfl) (Ab ⟨_,.refl _ _,rfl,rfl⟩)
        ·cases Option.some.inj ho
         exact AY rfl GR g4 (by rw [An (HJ.get (k:=4) rfl)]; rfl) (Ab ⟨_,.refl _ _,rfl,rfl⟩)
        ·exact absurd (by decide) hic
        ·cases Option.some.inj ho
         refine Dx [.int .u64 ((nx l 8 (p,false)).1:Int)] rfl Bd AZ M1 (by decide) (by decide) ?_ (Ctx.start w' []) ?_
         ·show Instr.fill _ _ [(0,e'.g 58)]=_
          rw [show e'.g 58 = .int .u64 ((nx l 8 (p,false)).1:Int) from (hg 3 (by decide))]
          kernel_rfl
         ·intro b w2 _ H
          exact Ab ⟨_,H.ext,rfl,b,rfl,H.get at0,Nat.le_trans hx.size ((H.own _ (List.mem_cons_self ..)).elim (fun h=>by cases h) id)⟩
       ·intro k im o e' w' hk ho hold hg hx HJ
        have hin:∀ t:Nat,t<55→∀ j,j<5→t≠(fun i=>55+i) j:=fun t ht j hj=>by dsimp only; omega
        have g4:e'.g 4=ptr b4:=(hold 4 (hin 4 (by decide))).trans rfl
        have g7:e'.g 7=ptr b7:=(hold 7 (hin 7 (by decide))).trans rfl
        rcases k with _ | k
        ·cases hk
         cases Option.some.inj ho
         refine Cb rfl (hg 2 (by decide)) GU (II (T:=(⟨ba,bd,bb,b2,b4,b6,b7,a,c,l⟩:Gt)) (k:=8) X HJ hs (.inr (.inr (.inr rfl)))) rfl ?_
         rintro v w2 ⟨rfl,h2,h3⟩
         exact Ab ⟨_,h3,rfl,rfl,h2⟩
        ·simp at hk
       ·intro e' w' hds hold hg hx HJ
        have hin:∀ t:Nat,t<55→∀ j,j<5→t≠(fun i=>55+i) j:=fun t ht j hj=>by dsimp only; omega
        obtain ⟨b4',h4',hb4',hn4'⟩:=hg 4 (by decide)
        refine E4 rfl Bd Bd AZ Wa M1 rfl (by decide) [.int .u64 ((nx l 8 (p,false)).1:Int)] (hg 1 (by decide)) h4' (Ctx.perm HJ (XT _ _ _ _)) OI rfl (by simp [Bu]) (fun j v hv=>⟨_,rfl,by rw [Cu,Nat.zero_add,An hb4']; exact hv⟩) (by omega) fun a' c' full' w3 H6 O6=>?_
        replace H6:=H6.perm (XT _ _ _ _).symm
        rw [show ids.length+1=(ids++[((nx l 8 (p,false)).1:Int)]).length from by simp] at O6 ⊢
        refine Ah (off:=3) rfl (by kernel_rfl) ((hold 7 (hin 7 (by decide))).trans rfl) ?_
        refine BV (.slice a' (ids++[((nx l 8 (p,false)).1:Int)]).length c') rfl ZU (Dp _ _ _) rfl rfl H6 at2 (by simp) fun w4 H8=>Ab ?_
        exact ⟨(a',c',full'),hds,trivial,H8,by rw [List.flatMap_append,List.flatMap_singleton]; exact O6⟩
      ·rintro ⟨aI,cI,fI⟩ j12 w ⟨H,OI⟩; dsimp only at H OI; (try dsimp only)
       obtain ⟨idn,hid⟩:∃ x,x=((nx l 8 (p,false)).1:Int):=⟨_,rfl⟩
       obtain ⟨s1,hs1'⟩:∃ x,x=(nx l 8 (p,false)).2:=⟨_,rfl⟩
       rw [← hid,← hs1'] at H
       rw [← hid] at OI
       have k1:s1.1≤l.length:=by rw [hs1']; exact GP hs
       have k2:(nx l 1 s1).2.1≤l.length:=GP k1
       have k3:(nx l 1 (nx l 1 s1).2).2.1≤l.length:=GP k2
       have k4:(nx l 8 (nx l 1 (nx l 1 s1).2).2).2.1≤l.length:=GP k3
       have v1:=PC l s1
       have v2:=PC l (nx l 1 s1).2
       have v5:=Adw l (nx l 8 (nx l 1 (nx l 1 s1).2).2).2
       refine Dl 2356571555416395220992 (α:=Nat) (fun b11=>[(11,ptr b11)]) (fun b11 w'=>Ctx w0 [] w' (tkL ba bd (nx l 8 (nx l 1 (nx l 1 s1).2).2).2++((b11,Bl 92 (B6 ⟨((nx l 1 s1).1:Int),((nx l 1 (nx l 1 s1).2).1:Int),s64 (nx l 8 (nx l 1 (nx l 1 s1).2).2).1,0⟩))::(gC (⟨ba,bd,bb,b2,b4,b6,b7,a,c,l⟩:Gt) (hdP l) (⟨⟨ids++[idn],es,fl,pot,s1⟩,aI,cI,fI,aE,cE,fE,aF,cF,fF,aP,cP,fP⟩:Gs)++gE (⟨⟨ids++[idn],es,fl,pot,s1⟩,aI,cI,fI,aE,cE,fE,aF,cF,fF,aP,cP,fP⟩:Gs))))) rfl ?_ ?_
       ·skip
        have hSw:=Ctx.ltS H
        have hlt:=Ctx.ltI H
        refine Gv (n:=10) (N:=11) (anc:=Lx 10 [[],[0],[0,1],[],[0,1,3],[0,1,3,4],[],[0,1,3,4,6],[0,1,2,3,4,5,6,7],[]]) [ba,bd] (fun i=>if i=9 then 11 else 62+i) [isV (Gc bb ba bd),isV (.int .u64 ((nx l 1 s1).1:Int)),isV (.int .i64 ((nx l 1 s1).1:Int)),isV (Gc bb ba bd),isV (.int .u64 ((nx l 1 (nx l 1 s1).2).1:Int)),isV (.int .i64 ((nx l 1 (nx l 1 s1).2).1:Int)),isV (Nu b4),isV (.int .i64 (s64 (nx l 8 (nx l 1 (nx l 1 s1).2).2).1)),isV (.agg (B6 ⟨((nx l 1 s1).1:Int),((nx l 1 (nx l 1 s1).2).1:Int),s64 (nx l 8 (nx l 1 (nx l 1 s1).2).2).1,0⟩).toArray),nwV w (Bl 92 (B6 ⟨0,0,0,0⟩))] [1,4,7] (fun k w'=>Ctx w0 [] w' (gL (⟨ba,bd,bb,b2,b4,b6,b7,a,c,l⟩:Gt) (hdP l) ⟨⟨ids++[idn],es,fl,pot,s1⟩,aI,cI,fI,aE,cE,fE,aF,cF,fF,aP,cP,fP⟩ ([s1,(nx l 1 s1).2,(nx l 1 (nx l 1 s1).2).2,(nx l 8 (nx l 1 (nx l 1 s1).2).2).2].getD k s1))) (show Tryz.prog.follows .mixedOrders=true by kernel_rfl) rfl (by decide) (by kernel_rfl) (El _) (fun i j _ _ h=>by have h:(if i=9 then 11 else 62+i:Nat)=(if j=9 then 11 else 62+j:Nat):=h; split at h <;> split at h <;> omega) ⟨BH _ _,BH _ _,BH _ _,BH _ _,BH _ _,BH _ _,BH _ _,BH _ _,BH _ _,Tz hSw _,trivial⟩ (by kernel_rfl) (fun k w w2 h hx=>h.call hx) H.drew (by kernel_rfl) ?_ ?_ ?_
        ·rintro m o e' w' hm hic ho hold hg hx ⟨k,HJ⟩
         have hin:∀ t:Nat,t<11→∀ j,j<10→t≠(fun i=>if i=9 then 11 else 62+i) j:=fun t ht j hj=>by dsimp only; split <;> omega
         have g4:e'.g 4=ptr b4:=(hold 4 (hin 4 (by decide))).trans rfl
         have g6:e'.g 6=ptr b6:=(hold 6 (hin 6 (by decide))).trans rfl
         have hcs:m=0∨m=1∨m=2∨m=3∨m=4∨m=5∨m=6∨m=7∨m=8∨m=9:=by omega
         rcases hcs with rfl | rfl | rfl | rfl | rfl | rfl | rfl | rfl | rfl | rfl
         ·cases Option.some.inj ho
          exact AY rfl GR g4 (by rw [An (HJ.get (k:=4) rfl)]; rfl) (Ab ⟨_,.refl _ _,rfl,rfl⟩)
         ·exact absurd (by decide) hic
         ·cases Option.some.inj ho
          exact Ev rfl (hg 1 (by decide)) FM GW (by omega) (by omega) (Ab ⟨_,.refl _ _,rfl,rfl⟩)
         ·cases Option.some.inj ho
          exact AY rfl GR g4 (by rw [An (HJ.get (k:=4) rfl)]; rfl) (Ab ⟨_,.refl _ _,rfl,rfl⟩)
         ·exact absurd (by decide) hic
         ·cases Option.some.inj ho
          exact Ev rfl (hg 4 (by decide)) FM GW (by omega) (by omega) (Ab ⟨_,.refl _ _,rfl,rfl⟩)
         ·cases Option.some.inj ho
          exact AY rfl Ms g6 (by rw [An (HJ.get (k:=3) rfl)]; rfl) (Ab ⟨_,.refl _ _,rfl,rfl⟩)
         ·exact absurd (by decide) hic
         ·cases Option.some.inj ho
          refine C7 (B6 ⟨((nx l 1 s1).1:Int),((nx l 1 (nx l 1 s1).2).1:Int),s64 (nx l 8 (nx l 1 (nx l 1 s1).2).2).1,0⟩) rfl NJ Es ?_ (Ab ⟨_,.refl _ _,rfl,rfl⟩)
          show Instr.fill _ _ [(0,e'.g 64),(1,e'.g 67),(2,e'.g 69)]=_
          rw [show e'.g 64 = .int .i64 ((nx l 1 s1).1:Int) from (hg 2 (by decide)),show e'.g 67 = .int .i64 ((nx l 1 (nx l 1 s1).2).1:Int) from (hg 5 (by decide)),show e'.g 69 = .int .i64 (s64 (nx l 8 (nx l 1 (nx l 1 s1).2).2).1) from (hg 7 (by decide))]
          kernel_rfl
         ·cases Option.some.inj ho
          refine Bo rfl Es (Ctx.start w' []) ?_
          intro b w2 _ H
          exact Ab ⟨_,H.ext,rfl,b,rfl,H.get at0,Nat.le_trans hx.size ((H.own _ (List.mem_cons_self ..)).elim (fun h=>by cases h) id)⟩
        ·intro k im o e' w' hk ho hold hg hx HJ
         have hin:∀ t:Nat,t<11→∀ j,j<10→t≠(fun i=>if i=9 then 11 else 62+i) j:=fun t ht j hj=>by dsimp only; split <;> omega
         have g4:e'.g 4=ptr b4:=(hold 4 (hin 4 (by decide))).trans rfl
         have g6:e'.g 6=ptr b6:=(hold 6 (hin 6 (by decide))).trans rfl
         rcases k with _ | _ | _ | k
         ·cases hk
          cases Option.some.inj ho
          refine Cb rfl (hg 0 (by decide)) GU (II (T:=(⟨ba,bd,bb,b2,b4,b6,b7,a,c,l⟩:Gt)) (k:=1) X HJ k1 (.inl rfl)) rfl ?_
          rintro v w2 ⟨rfl,h2,h3⟩
          exact Ab ⟨_,h3,rfl,rfl,h2⟩
         ·cases hk
          cases Option.some.inj ho
          refine Cb rfl (hg 3 (by decide)) GU (II (T:=(⟨ba,bd,bb,b2,b4,b6,b7,a,c,l⟩:Gt)) (k:=1) X HJ k2 (.inl rfl)) rfl ?_
          rintro v w2 ⟨rfl,h2,h3⟩
          exact Ab ⟨_,h3,rfl,rfl,h2⟩
         ·cases hk
          cases Option.some.inj ho
          refine Cb rfl (hg 6 (by decide)) Qu (LJ (T:=(⟨ba,bd,bb,b2,b4,b6,b7,a,c,l⟩:Gt)) X HJ k3) rfl ?_
          rintro v w2 ⟨rfl,h2,h3⟩
          exact Ab ⟨_,h3,rfl,rfl,h2⟩
         ·simp at hk
        ·intro e' w' hds hold hg hx HJ
         have hin:∀ t:Nat,t<11→∀ j,j<10→t≠(fun i=>if i=9 then 11 else 62+i) j:=fun t ht j hj=>by dsimp only; split <;> omega
         obtain ⟨b11,h9,hb11,hn11⟩:=hg 9 (by decide)
         have HB:=Ctx.add HJ hb11 (.inr (Nat.le_trans H.size hn11)) fun x hx he=>by
          have:=hlt x.1 (List.mem_map_of_mem (f:=(·.1)) hx)
          omega
         refine BP (l:=B6 ⟨0,0,0,0⟩) rfl Ci h9 (hg 8 (by decide)) rfl (DQ _) HB at0 rfl fun w3 H3=>Ab ?_
         exact ⟨b11,hds,⟨h9,trivial⟩,Ctx.perm H3 List.perm_middle.symm⟩
       ·rintro b11 j13 w H
        obtain ⟨s4,hs4'⟩:∃ x,x=(nx l 8 (nx l 1 (nx l 1 s1).2).2).2:=⟨_,rfl⟩
        rw [← hs4'] at H k4 v5
        refine Af (AM rfl GR rfl H at5 rfl (Cb rfl rfl GU (IH (T:=(⟨ba,bd,bb,b2,b4,b6,b7,a,c,l⟩:Gt)) (k:=2) X H (by simp) k4 (.inr (.inl rfl))) rfl ?_))
        rintro v w ⟨hv72,H72,-⟩
        replace hv72:v = .int .u64 ((nx l 2 s4).1:Int):=hv72
        subst hv72
        replace H:=H72
        refine Ev rfl rfl FM Sn (by omega) (by omega) ?_
        refine F5 rfl rfl (by omega) (by omega) ?_
        refine Ah rfl EL rfl (BV (.int .i64 (-((nx l 2 s4).1:Int))) rfl Bw rfl rfl rfl H at2 (show 0+3<4 by decide) ?_)
        rintro w H
        replace H:Ctx w0 [] w (tkL ba bd (nx l 2 s4).2++((b11,Bl 92 (B6 ⟨((nx l 1 s1).1:Int),((nx l 1 (nx l 1 s1).2).1:Int),s64 (nx l 8 (nx l 1 (nx l 1 s1).2).2).1,-((nx l 2 s4).1:Int)⟩))::(gC (⟨ba,bd,bb,b2,b4,b6,b7,a,c,l⟩:Gt) (hdP l) (⟨⟨ids++[idn],es,fl,pot,s1⟩,aI,cI,fI,aE,cE,fE,aF,cF,fF,aP,cP,fP⟩:Gs)++gE (⟨⟨ids++[idn],es,fl,pot,s1⟩,aI,cI,fI,aE,cE,fE,aF,cF,fF,aP,cP,fP⟩:Gs)))):=H
        refine Ab (Aa (Ap (BO rfl (.func _ _ _) rfl ?_)))
        refine Bq rfl EW Ci rfl H at2 rfl (Cb rfl rfl W3 (KU (T:=(⟨ba,bd,bb,b2,b4,b6,b7,a,c,l⟩:Gt)) (h:=hdP l) (g:=⟨⟨ids++[idn],es,fl,pot,(nx l 2 s4).2⟩,aI,cI,fI,aE,cE,fE,aF,cF,fF,aP,cP,fP⟩) X ⟨(Ctx.perm H List.perm_middle).tail,OI,OE,OF,OP,GP k4⟩ ⟨((nx l 1 s1).1:Int),((nx l 1 (nx l 1 s1).2).1:Int),s64 (nx l 8 (nx l 1 (nx l 1 s1).2).2).1,-((nx l 2 s4).1:Int)⟩ (by dsimp only; omega) (by dsimp only; omega)) rfl ?_)
        rintro v w ⟨g',G',hg'⟩
        refine Ab (A2 (Aa (Ap (Ad rfl rfl (Bc rfl rfl rfl (by omega) (by omega) ?_)))))
        refine Ae rfl rfl (Ab (Aa ?_))
        have hP':Kv l m g'.p=P1:=by
         rw [hg',hs4',hid,hs1']
         exact hP
        refine ⟨(g',m),rfl,⟨congrArg (Value.int .i64) (by omega),trivial⟩,⟨G',hP',?_,?_,?_,?_⟩,by dsimp only; omega⟩ <;> dsimp only <;> rw [hg'] <;> simp only [Jt,List.length_append,List.length_cons,List.length_nil] <;> omega
     ·intro h2
      have hPd:(⟨ids,es,fl,pot,p,bad⟩:PRd)=P1:=by
       rw [← hP]
       cases n with
       | zero=>rfl
       | succ n =>
        cases bad with
        | true=>rfl
        | false=>simp at h2
      refine Bh (Aj (Aj (AB (Aa (Aq (Af (Ae rfl rfl (Ab (Aa (Av ?_))))))))))
      have hN : -9223372036854775808<(DH l:Int)+1∧(DH l:Int)+1≤9223372036854775807:=by omega
      obtain ⟨P2,hP2⟩:∃ P,P=if (hdP l).cmp=true then P1 else G9 l (DH l) (DH l) 0 P1:=⟨_,rfl⟩
      refine Bm 40564818602840431040579915223040 (α:=Gs × Nat) (fun z=>[(12,.int .i64 (z.2:Int))]) (fun z w'=>GOk (⟨ba,bd,bb,b2,b4,b6,b7,a,c,l⟩:Gt) (hdP l) w0 w' z.1∧(if (hdP l).cmp=true then z.1.p else G9 l (DH l) (DH l - z.2) z.2 z.1.p)=P2∧z.1.p.pot.length=0∧z.2≤DH l∧z.1.p.ids.length≤256∧z.1.p.es.length≤256+2*z.2∧z.1.p.fl.length≤256+2*z.2) (fun z=>DH l - z.2) (⟨⟨ids,es,fl,pot,p,bad⟩,aI,cI,fI,aE,cE,fE,aF,cF,fF,aP,cP,fP⟩,0) rfl ?_ ?_ ?_
      ·exact ⟨rfl,trivial⟩
      ·refine ⟨⟨H,OI,OE,OF,OP,hs⟩,?_,hpt,Nat.zero_le _,?_,?_,?_⟩
       ·dsimp only
        rw [hPd,hP2]
        rfl
       ·dsimp only; omega
       ·dsimp only; omega
       ·dsimp only; omega
      ·clear H OI OE OF OP hs hPd hP hpt n1 n2 n3 h2
       rintro ⟨⟨⟨ids,es,fl,pot,p,bad⟩,aI,cI,fI,aE,cE,fE,aF,cF,fF,aP,cP,fP⟩,i⟩ j2 w ⟨⟨H,OI,OE,OF,OP,hs⟩,hQ,hpt,n0,n1,n2,n3⟩; dsimp only at H OI OE OF OP hs hQ hpt n0 n1 n2 n3; dsimp only
       refine Aq (Af (Ct (α:=Unit) 2475275615660953235210895360 (fun _=>[(90,.bool ((decide ((i:Int)<(DH l:Int)) && !(hdP l).cmp) && !bad))]) (fun _ w'=>Ctx w0 [] w' (gL (⟨ba,bd,bb,b2,b4,b6,b7,a,c,l⟩:Gt) (hdP l) ⟨⟨ids,es,fl,pot,p,bad⟩,aI,cI,fI,aE,cE,fE,aF,cF,fF,aP,cP,fP⟩ (p,bad))) rfl ?_ ?_))
       ·refine Ad rfl rfl (Ad rfl rfl (AV rfl rfl rfl (Ay rfl rfl (AH 82 rfl ?_ ?_))))
        ·intro h3
         replace h3:=AE h3
         refine Ah rfl OZ rfl (AM rfl Hh rfl H at2 rfl (Bv rfl rfl (A3 rfl rfl (.bool _) rfl (Ay rfl rfl (AH 87 rfl ?_ ?_)))))
         ·intro h4
          replace h4:=B0 h4
          refine BO rfl (.func _ _ _) rfl ?_
          refine Cb rfl rfl OW (PB bd bad _ (H.get (k:=1) rfl)) rfl ?_
          rintro v w ⟨rfl,hx89⟩
          replace H:=H.call hx89
          refine A3 rfl rfl (.bool _) rfl (Ab ?_)
          exact ⟨rfl,(),rfl,⟨congrArg Value.bool (by (simp_all [MW]; done)),trivial⟩,H⟩
         ·intro h5
          replace h5:=B1 h5
          refine Ag rfl (Ag rfl (AA rfl rfl (.bool _) rfl (Ab ?_)))
          exact ⟨rfl,(),rfl,⟨congrArg Value.bool (by (simp_all [MW]; done)),trivial⟩,H⟩
        ·intro h6
         replace h6:=AF h6
         refine Ag rfl (Ag rfl (Ag rfl (AA rfl rfl (.bool _) rfl (Ay rfl rfl (Ag rfl (Ag rfl (AA rfl rfl (.bool _) rfl (Ab ?_))))))))
         exact ⟨rfl,(),rfl,⟨congrArg Value.bool (by (simp_all [MW]; intros; omega)),trivial⟩,H⟩
       rintro - j90 w H
       refine Ax _ rfl ?_ ?_
       ·intro h3
        rw [Bool.and_eq_true,Bool.and_eq_true,decide_eq_true_eq,Bool.not_eq_true',Bool.not_eq_true'] at h3
        obtain ⟨⟨h4,hcm⟩,rfl⟩:=h3
        refine Aw (Aa (Aq (Av (Dl 1257747079913946359297510211584 (α:=Gs) (fun _=>[]) (fun g w'=>GOk (⟨ba,bd,bb,b2,b4,b6,b7,a,c,l⟩:Gt) (hdP l) w0 w' g∧g.p=Jt l ⟨(DH l:Int),(i:Int),s64 (nx l 8 (p,false)).1,0⟩ (atP ⟨ids,es,fl,pot,p,false⟩ (nx l 8 (p,false)).2)) rfl ?_ ?_))))
        ·skip
         have hSw:=Ctx.ltS H
         refine Gv (n:=6) (N:=7) (anc:=Lx 6 [[],[],[],[],[3],[1,2,3,4]]) [ba,bd] (fun i=>93+i) [isV (flwV b7 b6),isV (.agg (AJ (Ii (hdP l) ⟨ids,es,fl,pot,p,false⟩) ⟨aI,cI,aE,cE,aF,cF,aP,cP⟩).toArray),isV (.int .i64 (i:Int)),isV (Nu b4),isV (.int .i64 (s64 (nx l 8 (p,false)).1)),isV (.agg (B6 ⟨(DH l:Int)+1 - 1,(i:Int),s64 (nx l 8 (p,false)).1,0⟩).toArray)] [4] (fun k w'=>Ctx w0 [] w' (gL (⟨ba,bd,bb,b2,b4,b6,b7,a,c,l⟩:Gt) (hdP l) ⟨⟨ids,es,fl,pot,p,false⟩,aI,cI,fI,aE,cE,fE,aF,cF,fF,aP,cP,fP⟩ ([(p,false),(nx l 8 (p,false)).2].getD k (p,false)))) (show Tryz.prog.follows .mixedOrders=true by kernel_rfl) rfl (by decide) (by kernel_rfl) (El _) (fun i j _ _ h=>by have h:93+i=93+j:=h; omega) ⟨BH _ _,BH _ _,BH _ _,BH _ _,BH _ _,BH _ _,trivial⟩ (by kernel_rfl) (fun k w w2 h hx=>h.call hx) H.drew (by kernel_rfl) ?_ ?_ ?_
         ·rintro m o e' w' hm hic ho hold hg hx ⟨k,HJ⟩
          have hin:∀ t:Nat,t<93→∀ j,j<6→t≠(fun i=>93+i) j:=fun t ht j hj=>by dsimp only; omega
          have g6:e'.g 6=ptr b6:=(hold 6 (hin 6 (by decide))).trans rfl
          have g7:e'.g 7=ptr b7:=(hold 7 (hin 7 (by decide))).trans rfl
          have g10:e'.g 10=flwV b7 b6:=(hold 10 (hin 10 (by decide))).trans rfl
          have g12:e'.g 12 = .int .i64 (i:Int):=(hold 12 (hin 12 (by decide))).trans rfl
          have hcs:m=0∨m=1∨m=2∨m=3∨m=4∨m=5:=by omega
          rcases hcs with rfl | rfl | rfl | rfl | rfl | rfl
          ·cases Option.some.inj ho
           exact BO rfl _ g10 (Ab ⟨_,.refl _ _,rfl,rfl⟩)
          ·cases Option.some.inj ho
           exact Cx (AJ (Ii (hdP l) ⟨ids,es,fl,pot,p,false⟩) ⟨aI,cI,aE,cE,aF,cF,aP,cP⟩) rfl C6 Cp g7 rfl (C8 (b:=b7) (t:=33) (l:=AJ (Ii (hdP l) ⟨ids,es,fl,pot,p,false⟩) ⟨aI,cI,aE,cE,aF,cF,aP,cP⟩) (HJ.get (k:=2) rfl) 0 (AJ (Ii (hdP l) ⟨ids,es,fl,pot,p,false⟩) ⟨aI,cI,aE,cE,aF,cF,aP,cP⟩) rfl) (Ab ⟨_,.refl _ _,rfl,rfl⟩)
          ·cases Option.some.inj ho
           exact BO rfl _ g12 (Ab ⟨_,.refl _ _,rfl,rfl⟩)
          ·cases Option.some.inj ho
           exact AY rfl Ms g6 (by rw [An (HJ.get (k:=3) rfl)]; rfl) (Ab ⟨_,.refl _ _,rfl,rfl⟩)
          ·exact absurd (by decide) hic
          ·cases Option.some.inj ho
           refine Al rfl ZP (Aac (Ii (hdP l) ⟨ids,es,fl,pot,p,false⟩) ⟨aI,cI,aE,cE,aF,cF,aP,cP⟩ (i:Int) (s64 (nx l 8 (p,false)).1) _ hN) ?_ ?_
           ·show [e'.g 94,e'.g 95,e'.g 97]=_
            rw [show e'.g 94 = .agg (AJ (Ii (hdP l) ⟨ids,es,fl,pot,p,false⟩) ⟨aI,cI,aE,cE,aF,cF,aP,cP⟩).toArray from hg 1 (by decide),show e'.g 95 = .int .i64 (i:Int) from hg 2 (by decide),show e'.g 97 = .int .i64 (s64 (nx l 8 (p,false)).1) from hg 4 (by decide)]
           ·rintro v w2 ⟨rfl,h2⟩
            exact Ab ⟨_,h2,rfl,rfl⟩
         ·intro k im o e' w' hk ho hold hg hx HJ
          have hin:∀ t:Nat,t<93→∀ j,j<6→t≠(fun i=>93+i) j:=fun t ht j hj=>by dsimp only; omega
          have g6:e'.g 6=ptr b6:=(hold 6 (hin 6 (by decide))).trans rfl
          have g7:e'.g 7=ptr b7:=(hold 7 (hin 7 (by decide))).trans rfl
          have g10:e'.g 10=flwV b7 b6:=(hold 10 (hin 10 (by decide))).trans rfl
          have g12:e'.g 12 = .int .i64 (i:Int):=(hold 12 (hin 12 (by decide))).trans rfl
          rcases k with _ | k
          ·cases hk
           cases Option.some.inj ho
           refine Cb rfl (hg 3 (by decide)) Qu (LJ (T:=(⟨ba,bd,bb,b2,b4,b6,b7,a,c,l⟩:Gt)) X HJ hs) rfl ?_
           rintro v w2 ⟨rfl,h2,h3⟩
           exact Ab ⟨_,h3,rfl,rfl,h2⟩
          ·simp at hk
         ·intro e' w' hds hold hg hx HJ
          have hin:∀ t:Nat,t<93→∀ j,j<6→t≠(fun i=>93+i) j:=fun t ht j hj=>by dsimp only; omega
          refine Cb rfl (hg 0 (by decide)) W3 (KU (T:=(⟨ba,bd,bb,b2,b4,b6,b7,a,c,l⟩:Gt)) (h:=hdP l) (g:=⟨⟨ids,es,fl,pot,(nx l 8 (p,false)).2⟩,aI,cI,fI,aE,cE,fE,aF,cF,fF,aP,cP,fP⟩) X ⟨HJ,OI,OE,OF,OP,GP hs⟩ ⟨(DH l:Int)+1 - 1,(i:Int),s64 (nx l 8 (p,false)).1,0⟩ (by dsimp only; omega) (by dsimp only; omega)) ?_ ?_
          ·show _++([e'.g 98]++_)=_
           rw [show e'.g 98 = .agg (B6 ⟨(DH l:Int)+1 - 1,(i:Int),s64 (nx l 8 (p,false)).1,0⟩).toArray from hg 5 (by decide)]
           rfl
          ·rintro v w2 ⟨g',G',hg'⟩
           refine Ab ?_
           exact ⟨g',hds,trivial,G',by rw [hg',Int.add_sub_cancel]; rfl⟩
        ·rintro ⟨⟨ids',es',fl',pot',s'⟩,aI,cI,fI,aE,cE,fE,aF,cF,fF,aP,cP,fP⟩ j19 w ⟨⟨H,OI,OE,OF,OP,hs'⟩,hg19⟩; dsimp only at H OI OE OF OP hs' hg19; (try dsimp only)
         have e1:ids'.length=ids.length∧es'.length=es.length+1∧fl'.length=fl.length+1∧pot'=pot:=by
          simp only [Jt,atP,PRd.mk.injEq] at hg19
          obtain ⟨rfl,rfl,rfl,rfl,-⟩:=hg19
          simp
         refine Ap (BO rfl (.func _ _ _) rfl ?_)
         refine Bq rfl C6 Cp rfl H at2 rfl (Ad rfl rfl (Al rfl ZQ (X6 (Ii (hdP l) ⟨ids',es',fl',pot',s'⟩) ⟨aI,cI,aE,cE,aF,cF,aP,cP⟩ (i:Int) _ hN) rfl ?_))
         rintro v w ⟨rfl,hx103⟩
         replace H:=H.call hx103
         refine Cb rfl rfl W3 (KU (T:=(⟨ba,bd,bb,b2,b4,b6,b7,a,c,l⟩:Gt)) (h:=hdP l) (g:=⟨⟨ids',es',fl',pot',s'⟩,aI,cI,fI,aE,cE,fE,aF,cF,fF,aP,cP,fP⟩) X ⟨H,OI,OE,OF,OP,hs'⟩ ⟨(i:Int),(DH l:Int)+1 - 1,4503599627370496,0⟩ (by dsimp only; omega) (by dsimp only; omega)) rfl ?_
         rintro v w ⟨g',G',hg'⟩
         refine Ab (A2 (Aa (Ap (Ad rfl rfl (Ao rfl rfl rfl (by omega) (by omega) ?_)))))
         refine Ae rfl rfl (Ab (Aa ?_))
         have hQ':(if (hdP l).cmp=true then g'.p else G9 l (DH l) (DH l - (i+1)) (i+1) g'.p)=P2:=by
          rw [← hQ,if_neg (by rw [hcm]; decide),if_neg (by rw [hcm]; decide),show DH l - i=(DH l - (i+1))+1 from by omega]
          show _=G9 l (DH l) (DH l - (i+1)) (i+1) (Uf l (DH l) i ⟨ids,es,fl,pot,p,false⟩)
          rw [hg',hg19,Int.add_sub_cancel]
          rfl
         refine ⟨(g',i+1),rfl,⟨rfl,trivial⟩,⟨G',hQ',?_,?_,?_,?_,?_⟩,by dsimp only; omega⟩ <;> dsimp only <;> (try rw [hg']) <;> (try simp only [Jt,List.length_append,List.length_cons,List.length_nil]) <;> (try rw [e1.2.2.2]) <;> omega
       ·intro h3
        have hQd:(⟨ids,es,fl,pot,p,bad⟩:PRd)=P2:=by
         rw [← hQ]
         by_cases hcm:(hdP l).cmp=true
         ·rw [if_pos hcm]
         ·rw [if_neg hcm]
          cases hn:DH l - i with
          | zero=>rfl
          | succ n =>
           cases bad with
           | true=>rfl
           | false =>
            exfalso
            have h5:i<DH l:=by omega
            simp [hcm] at h3
            omega
        refine Bh (Aj (Aj (AB (Aa (Aq (Af (Ae rfl rfl (Ab (Aa (Av ?_))))))))))
        obtain ⟨P3,hP3⟩:∃ P,P=Kw l (DH l+1) P2:=⟨_,rfl⟩
        refine Bm 10633783401460119679889608587740192768 (α:=Gs × Nat) (fun z=>[(13,.int .i64 (z.2:Int))]) (fun z w'=>GOk (⟨ba,bd,bb,b2,b4,b6,b7,a,c,l⟩:Gt) (hdP l) w0 w' z.1∧Kw l (DH l+1 - z.2) z.1.p=P3∧z.1.p.pot.length≤z.2∧z.2≤DH l+1∧z.1.p.ids.length≤256∧z.1.p.es.length≤1000∧z.1.p.fl.length≤1000) (fun z=>DH l+1 - z.2) (⟨⟨ids,es,fl,pot,p,bad⟩,aI,cI,fI,aE,cE,fE,aF,cF,fF,aP,cP,fP⟩,0) rfl ?_ ?_ ?_
        ·exact ⟨rfl,trivial⟩
        ·refine ⟨⟨H,OI,OE,OF,OP,hs⟩,?_,?_,Nat.zero_le _,n1,?_,?_⟩
         ·dsimp only
          rw [hQd,hP3]
          rfl
         ·dsimp only; omega
         ·dsimp only; omega
         ·dsimp only; omega
        ·clear H OI OE OF OP hs hQd hQ hpt n1 n2 n3 n0 h3
         rintro ⟨⟨⟨ids,es,fl,pot,p,bad⟩,aI,cI,fI,aE,cE,fE,aF,cF,fF,aP,cP,fP⟩,i⟩ j3 w ⟨⟨H,OI,OE,OF,OP,hs⟩,hQ,hpt,n0,n1,n2,n3⟩; dsimp only at H OI OE OF OP hs hQ hpt n0 n1 n2 n3; dsimp only
         refine Aq (Af (Ct (α:=Unit) 5151732039327524287682601826648064 (fun _=>[(111,.bool (decide ((i:Int)≤(DH l:Int)) && !bad))]) (fun _ w'=>Ctx w0 [] w' (gL (⟨ba,bd,bb,b2,b4,b6,b7,a,c,l⟩:Gt) (hdP l) ⟨⟨ids,es,fl,pot,p,bad⟩,aI,cI,fI,aE,cE,fE,aF,cF,fF,aP,cP,fP⟩ (p,bad))) rfl ?_ ?_))
         ·refine Ad rfl rfl (Ad rfl rfl (Jz rfl rfl rfl (Ay rfl rfl (AH 108 rfl ?_ ?_))))
          ·intro h7
           replace h7:=AE h7
           refine BO rfl (.func _ _ _) rfl ?_
           refine Cb rfl rfl OW (PB bd bad _ (H.get (k:=1) rfl)) rfl ?_
           rintro v w ⟨rfl,hx110⟩
           replace H:=H.call hx110
           refine A3 rfl rfl (.bool _) rfl (Ab ?_)
           exact ⟨rfl,(),rfl,⟨congrArg Value.bool (by (simp_all; done)),trivial⟩,H⟩
          ·intro h8
           replace h8:=AF h8
           refine Ag rfl (Ag rfl (AA rfl rfl (.bool _) rfl (Ab ?_)))
           exact ⟨rfl,(),rfl,⟨congrArg Value.bool (by (simp_all; intros; omega)),trivial⟩,H⟩
         rintro - j111 w H
         refine Ax _ rfl ?_ ?_
         ·intro h3
          rw [Bool.and_eq_true,decide_eq_true_eq,Bool.not_eq_true'] at h3
          obtain ⟨h4,rfl⟩:=h3
          refine Aw (Aa (Aq (Av (OR 10613054778845187672716334496925876224 (α:=Option Addr × Nat × List Value) (fun _=>[]) (fun z w'=>Ctx w0 [] w' (gL (⟨ba,bd,bb,b2,b4,b6,b7,a,c,l⟩:Gt) (hdP l) ⟨⟨ids,es,fl,pot++[s64 (nx l 8 (p,false)).1],(nx l 8 (p,false)).2⟩,aI,cI,fI,aE,cE,fE,aF,cF,fF,z.1,z.2.1,z.2.2⟩ (nx l 8 (p,false)).2)∧OS z.1 (pot++[s64 (nx l 8 (p,false)).1]).length z.2.1 1 z.2.2 ((pot++[s64 (nx l 8 (p,false)).1]).flatMap I1)) rfl ?_ ?_))))
          ·skip
           have hSw:=Ctx.ltS H
           refine Gv (n:=6) (N:=10) (anc:=Lx 6 [[],[0],[0,1],[],[3],[3,4]]) [ba,bd] (fun i=>114+i) [isV (.pointer (some ⟨b7,6,none⟩)),isV (.pointer (some ⟨b7,7,none⟩)),isV (.slice aP pot.length cP),isV (Nu b4),isV (.int .i64 (s64 (nx l 8 (p,false)).1)),nsV w 2 1 [.int .i64 (s64 (nx l 8 (p,false)).1)]] [4] (fun k w'=>Ctx w0 [] w' (gL (⟨ba,bd,bb,b2,b4,b6,b7,a,c,l⟩:Gt) (hdP l) ⟨⟨ids,es,fl,pot,p,false⟩,aI,cI,fI,aE,cE,fE,aF,cF,fF,aP,cP,fP⟩ ([(p,false),(nx l 8 (p,false)).2].getD k (p,false)))) (show Tryz.prog.follows .mixedOrders=true by kernel_rfl) rfl (by decide) (by kernel_rfl) (El _) (fun i j _ _ h=>by have h:114+i=114+j:=h; omega) ⟨BH _ _,BH _ _,BH _ _,BH _ _,BH _ _,OT hSw _ _ _,trivial⟩ (by kernel_rfl) (fun k w w2 h hx=>h.call hx) H.drew (by kernel_rfl) ?_ ?_ ?_
           ·rintro m o e' w' hm hic ho hold hg hx ⟨k,HJ⟩
            have hin:∀ t:Nat,t<114→∀ j,j<6→t≠(fun i=>114+i) j:=fun t ht j hj=>by dsimp only; omega
            have g6:e'.g 6=ptr b6:=(hold 6 (hin 6 (by decide))).trans rfl
            have g7:e'.g 7=ptr b7:=(hold 7 (hin 7 (by decide))).trans rfl
            have hcs:m=0∨m=1∨m=2∨m=3∨m=4∨m=5:=by omega
            rcases hcs with rfl | rfl | rfl | rfl | rfl | rfl
            ·cases Option.some.inj ho
             exact Ah (off:=6) rfl (by kernel_rfl) g7 (Ab ⟨_,.refl _ _,rfl,rfl⟩)
            ·cases Option.some.inj ho
             exact Ah (off:=1) rfl (by kernel_rfl) (hg 0 (by decide)) (Ab ⟨_,.refl _ _,rfl,rfl⟩)
            ·cases Option.some.inj ho
             exact AY rfl BT (hg 1 (by decide)) (by rw [An (HJ.get (k:=2) rfl)]; rfl) (Ab ⟨_,.refl _ _,rfl,rfl⟩)
            ·cases Option.some.inj ho
             exact AY rfl Ms g6 (by rw [An (HJ.get (k:=3) rfl)]; rfl) (Ab ⟨_,.refl _ _,rfl,rfl⟩)
            ·exact absurd (by decide) hic
            ·cases Option.some.inj ho
             refine Dx [.int .i64 (s64 (nx l 8 (p,false)).1)] rfl AX Bw FX (by decide) (by decide) ?_ (Ctx.start w' []) ?_
             ·show Instr.fill _ _ [(0,e'.g 118)]=_
              rw [show e'.g 118 = .int .i64 (s64 (nx l 8 (p,false)).1) from (hg 4 (by decide))]
              kernel_rfl
             ·intro b w2 _ H
              exact Ab ⟨_,H.ext,rfl,b,rfl,H.get at0,Nat.le_trans hx.size ((H.own _ (List.mem_cons_self ..)).elim (fun h=>by cases h) id)⟩
           ·intro k im o e' w' hk ho hold hg hx HJ
            have hin:∀ t:Nat,t<114→∀ j,j<6→t≠(fun i=>114+i) j:=fun t ht j hj=>by dsimp only; omega
            have g6:e'.g 6=ptr b6:=(hold 6 (hin 6 (by decide))).trans rfl
            have g7:e'.g 7=ptr b7:=(hold 7 (hin 7 (by decide))).trans rfl
            rcases k with _ | k
            ·cases hk
             cases Option.some.inj ho
             refine Cb rfl (hg 3 (by decide)) Qu (LJ (T:=(⟨ba,bd,bb,b2,b4,b6,b7,a,c,l⟩:Gt)) X HJ hs) rfl ?_
             rintro v w2 ⟨rfl,h2,h3⟩
             exact Ab ⟨_,h3,rfl,rfl,h2⟩
            ·simp at hk
           ·intro e' w' hds hold hg hx HJ
            have hin:∀ t:Nat,t<114→∀ j,j<6→t≠(fun i=>114+i) j:=fun t ht j hj=>by dsimp only; omega
            obtain ⟨b5',h5',hb5',hn5'⟩:=hg 5 (by decide)
            refine E4 rfl AX AX Bw Mu FX rfl (by decide) [.int .i64 (s64 (nx l 8 (p,false)).1)] (hg 2 (by decide)) h5' (Ctx.perm HJ (XW _ _ _ _ _ _)) OP rfl (by simp [Bu]) (fun j v hv=>⟨_,rfl,by rw [Cu,Nat.zero_add,An hb5']; exact hv⟩) (by omega) fun a' c' full' w3 H6 O6=>?_
            replace H6:=H6.perm (XW _ _ _ _ _ _).symm
            rw [show pot.length+1=(pot++[s64 (nx l 8 (p,false)).1]).length from by simp] at O6 ⊢
            refine Ah (off:=6) rfl (by kernel_rfl) ((hold 7 (hin 7 (by decide))).trans rfl) ?_
            refine Ah (off:=1) rfl (by kernel_rfl) (Dp _ _ _) ?_
            refine BV (.slice a' (pot++[s64 (nx l 8 (p,false)).1]).length c') rfl W7 (Dp _ _ _) rfl rfl H6 at2 (by simp) fun w4 H8=>Ab ?_
            exact ⟨rfl,(a',c',full'),hds,trivial,H8,by rw [List.flatMap_append,List.flatMap_singleton]; exact O6⟩
          ·rintro ⟨aP,cP,fP⟩ j24 w ⟨H,OP⟩; dsimp only at H OP; (try dsimp only)
           refine A2 (Aa (Ap (Ad rfl rfl (Ao rfl rfl rfl (by omega) (by omega) ?_))))
           refine Ae rfl rfl (Ab (Aa ?_))
           have hQ':Kw l (DH l+1 - (i+1)) ⟨ids,es,fl,pot++[s64 (nx l 8 (p,false)).1],(nx l 8 (p,false)).2⟩=P3:=by
            rw [← hQ,show DH l+1 - i=(DH l+1 - (i+1))+1 from by omega]
            rfl
           refine ⟨(⟨⟨ids,es,fl,pot++[s64 (nx l 8 (p,false)).1],(nx l 8 (p,false)).2⟩,aI,cI,fI,aE,cE,fE,aF,cF,fF,aP,cP,fP⟩,i+1),rfl,⟨rfl,trivial⟩,⟨⟨H,OI,OE,OF,OP,GP hs⟩,hQ',?_,?_,n1,n2,n3⟩,by dsimp only; omega⟩
           ·dsimp only; rw [List.length_append,List.length_singleton]; omega
           ·dsimp only; omega
         ·intro h3
          have hL:(⟨ids,es,fl,pot,p,bad⟩:PRd)=Ju l:=by
           have h5:Ju l=P3:=by
            rw [hP3,hP2,hP1]
            rfl
           rw [h5,← hQ]
           cases hn:DH l+1 - i with
           | zero=>rfl
           | succ n =>
            cases bad with
            | true=>rfl
            | false =>
             exfalso
             simp at h3
             omega
          have hr0:Ii (hdP l) ⟨ids,es,fl,pot,p,bad⟩=Lz l:=by unfold Lz; rw [hL]
          have hbad:(Ju l).s.2=bad:=by rw [← hL]
          have hids:∀ x∈ids,0≤x∧x<18446744073709551616:=by
           have h5:=Yd l
           rw [← hL] at h5
           exact h5
          have hRA:∀ {w:World},(∀ x∈gE ⟨⟨ids,es,fl,pot,p,bad⟩,aI,cI,fI,aE,cE,fE,aF,cF,fF,aP,cP,fP⟩,w.heap[x.1]? = some x.2)→RAt w (Ii (hdP l) ⟨ids,es,fl,pot,p,bad⟩) ⟨aI,cI,aE,cE,aF,cF,aP,cP⟩:=fun {w} m=>by
           exact ⟨OS.rd OI (fun x hx=>m x (List.mem_append_left _ hx)) (by simp) (by decide),OS.rd OE (fun x hx=>m x (List.mem_append_right _ (List.mem_append_left _ hx))) (fun _ _=>rfl) (by decide),OS.rd OF (fun x hx=>m x (List.mem_append_right _ (List.mem_append_right _ (List.mem_append_left _ hx)))) (by simp) (by decide),OS.rd OP (fun x hx=>m x (List.mem_append_right _ (List.mem_append_right _ (List.mem_append_right _ hx)))) (by simp) (by decide),OF.le⟩
          have hpl:pot.length≤1000:=by omega
          have hno:=Aai l (k:=8) (by decide) (hs1 l)
          refine Bh (Aj (Aj (AB (Aa (Aq (Af (Bq rfl C6 Cp rfl H at2 rfl (Al rfl Wx (P9 (Ii (hdP l) ⟨ids,es,fl,pot,p,bad⟩) ⟨aI,cI,aE,cE,aF,cF,aP,cP⟩ _ (hRA fun x hx=>H.blk x (List.mem_append_right _ (List.mem_append_right _ hx))) OE.le ⟨⟨by show _≤(DH l:Int)+1; omega,by show (DH l:Int)+1≤_; omega⟩,by show es.length≤_; omega,by show ids.length≤_; omega,by show fl.length≤_; omega,by show pot.length≤_; omega⟩ ⟨⟨by show (0:Int)≤((nx l 8 (hs1 l)).1:Int); omega,by show ((nx l 8 (hs1 l)).1:Int)<_; omega⟩,hids,Ady _⟩) rfl ?_))))))))
          rintro v w2 ⟨hT,hF⟩
          obtain ⟨a9,c9,bs,e9,rfl,R9,hx9,hT9,hF9⟩:=Vv hT hF
          replace H:=H.call hx9
          refine BK rfl rfl (A5 rfl rfl rfl (A5 rfl rfl rfl (A6 rfl rfl (Ae rfl rfl (Ab (Aa (Af (Ct (α:=Unit) 2787252867449406954228501409473613420036096 (fun _=>[(140,.bool (!(!bad && (decide (e9=0) && decide (bs=l)))))]) (fun _ w'=>Ctx w0 [] w' (gL (⟨ba,bd,bb,b2,b4,b6,b7,a,c,l⟩:Gt) (hdP l) ⟨⟨ids,es,fl,pot,p,bad⟩,aI,cI,fI,aE,cE,fE,aF,cF,fF,aP,cP,fP⟩ (p,bad))) rfl ?_ ?_))))))))
          ·refine BO rfl (.func _ _ _) rfl ?_
           refine Cb rfl rfl OW (PB bd bad _ (H.get (k:=1) rfl)) rfl ?_
           rintro v w ⟨rfl,hx129⟩
           replace H:=H.call hx129
           replace R9:=R9.ext0 hx129
           refine Bv rfl rfl (Ay rfl rfl (AH 131 rfl ?_ ?_))
           ·intro h9
            replace h9:=B0 h9
            refine Ag rfl (Ag rfl (A3 rfl rfl (.bool _) rfl (Ay rfl rfl (Ag rfl (Ag rfl (Ag rfl (Ag rfl (A3 rfl rfl (.bool _) rfl (Ab ?_)))))))))
            exact ⟨rfl,(),rfl,⟨congrArg Value.bool (by (simp_all; done)),trivial⟩,H⟩
           ·intro h10
            replace h10:=B1 h10
            refine Ad rfl rfl (CY rfl rfl rfl (AA rfl rfl (.bool _) rfl (Ay rfl rfl (AH 135 rfl ?_ ?_))))
            ·intro h11
             replace h11:=Dz h11
             refine Ag rfl (Ag rfl (Ag rfl (Ag rfl (A3 rfl rfl (.bool _) rfl (Ab ?_)))))
             exact ⟨rfl,(),rfl,⟨congrArg Value.bool (by (simp_all; done)),trivial⟩,H⟩
            ·intro h12
             replace h12:=D0 h12
             refine Ak rfl rfl (Ak rfl rfl (Al rfl ca_84 (Vu a9 a c9 c _ _ bs l R9 (R.ext0 H.ext) rfl rfl) rfl ?_))
             rintro v w ⟨rfl,rfl⟩
             refine Bv rfl rfl (AA rfl rfl (.bool _) rfl (Ab ?_))
             exact ⟨rfl,(),rfl,⟨congrArg Value.bool (by (simp_all; done)),trivial⟩,H⟩
          rintro - j140 w H
          have hgetB:IG l=(!bad && (decide (e9=0) && decide (bs=l))):=by
           unfold IG
           rw [hbad,← hr0]
           cases hw:B7 (Ii (hdP l) ⟨ids,es,fl,pot,p,bad⟩) with
           | true =>
            obtain ⟨rfl,rfl⟩:=hT9 hw
            simp
           | false =>
            obtain rfl:=hF9 hw
            simp
          refine Ax _ rfl ?_ ?_
          ·intro h4
           replace h4:=B0 h4
           have hgf:IG l=false:=by rw [hgetB]; simpa using h4
           refine Af (C7 (AJ GA FT) rfl Qx Hi (by kernel_rfl) ?_)
           refine BP rfl Cp rfl rfl rfl (by exact (by decide)) H at6 rfl ?_
           rintro w H
           refine Ae rfl rfl (Ab (Aa (A9 (Am (JQ rfl rfl rfl C6 Cp H at6 rfl (show _=(.int _ _) from rfl) ?_)))))
           exact ⟨fun _=>⟨fun h=>(by rw [hgf] at h; cases h),fun _=>rfl,H.ext⟩,fun h=>(by rw [h] at h1; cases h1)⟩
          ·intro h4
           replace h4:=B1 h4
           have hgt:IG l=true:=by rw [hgetB]; simpa using h4
           refine Aw (Aa (Af (Bq rfl C6 Cp rfl H at2 rfl (BP rfl Cp rfl rfl rfl (by exact (by simp [Bu])) H at6 rfl ?_))))
           rintro w H
           refine Ae rfl rfl (Ab (Aa (A9 (JQ rfl rfl rfl C6 Cp H at6 rfl (show _=(.int _ _) from rfl) ?_))))
           have HE:Ctx w0 [] _ (gE ⟨⟨ids,es,fl,pot,p,bad⟩,aI,cI,fI,aE,cE,fE,aF,cF,fF,aP,cP,fP⟩):=H.drop 7
           refine ⟨fun _=>⟨fun _=>⟨⟨aI,cI,aE,cE,aF,cF,aP,cP⟩,by rw [← hr0],by rw [← hr0]; exact hRA fun x hx=>HE.blk x hx,by rw [← hr0]; exact OE.le,?_⟩,fun h=>(by rw [hgt] at h; cases h),H.ext⟩,fun h=>(by rw [h] at h1; cases h1)⟩
           intro x hx q hq
           simp only [List.mem_cons,List.not_mem_nil,or_false] at hx
           rcases hx with rfl | rfl | rfl | rfl <;> subst hq
           ·exact (HE.own (q.block,Bl 24 fI) (List.mem_append_left _ (List.mem_singleton.2 rfl))).elim (fun h=>by cases h) id
           ·exact (HE.own (q.block,Bl 92 fE) (List.mem_append_right _ (List.mem_append_left _ (List.mem_singleton.2 rfl)))).elim (fun h=>by cases h) id
           ·exact (HE.own (q.block,Bl 2 fF) (List.mem_append_right _ (List.mem_append_right _ (List.mem_append_left _ (List.mem_singleton.2 rfl))))).elim (fun h=>by cases h) id
           ·exact (HE.own (q.block,Bl 2 fP) (List.mem_append_right _ (List.mem_append_right _ (List.mem_append_right _ (List.mem_singleton.2 rfl))))).elim (fun h=>by cases h) id
end Go.Proofs.YtapphbmlkdhnmaaGreat

/- The bytes of a right round: its sum, how many there are, and that they are read as they were put. -/
namespace Go.Proofs.YtapphbmlkdhnmaaGreat
open Go.GV

/-! ### The sum -/
theorem Vw (l:List UInt8) (a b c d:UInt8):EA (l++[a,b,c,d])=decide ((SR l).toNat=F2 [a,b,c,d]):=by
 unfold EA
 have h1:(l++[a,b,c,d]).length - 4=l.length:=by simp
 rw [h1,List.take_left,List.drop_left]
 simp
theorem Ye {s:Nat} (h:s<4294967296):F2 (leB s 4)=s:=by
 rw [Ud]
 simp only [F2,UInt8.toNat_ofNat',Nat.reducePow]
 omega
theorem Vx (l:List UInt8):EA (l++leB (SR l).toNat 4)=true:=by
 have h:=Ye (SR l).isLt
 rw [Ud] at h ⊢
 rw [Vw,decide_eq_true_eq]
 exact h.symm
theorem Rg (r:Rnd):EA (CF r)=true:=Vx _
theorem Z4 {l:List UInt8} (h:IG l=true):(Ju l).s.2=false∧B7 (Lz l)=true∧CF (Lz l)=l:=by
 unfold IG at h
 simpa [Bool.and_eq_true] using h
theorem SX {l:List UInt8} (h:IG l=true):EA l=true:=by
 rw [← (Z4 h).2.2]
 exact Rg _
theorem SY {l:List UInt8} (h:EA l=false):IG l=false:=by
 cases h2:IG l with
 | false=>rfl
 | true=>rw [SX h2] at h; cases h

/-! ### Bits turned -/
def wholeW:BitVec 32:=CM 32 (~~~ 0#32)
/-- Four bytes one behind the other, turned one after the other. -/
def turnL (l:List UInt8) (k t:Nat):Nat→List UInt8
 | 0=>l
 | i+1=>(turnL l k t i).modify (k+i) fun x=>x ^^^ UInt8.ofNat (t / 2 ^ (8*i))
/-! ### How many there are -/
theorem Ot {r:Rnd} {i:Nat} {e:Ed} {x:Int} (hi:i<r.ids.length):eB r i e x=BG (u64 (r.ids.getD i 0)) 8++[by8 e.f,by8 e.t]++BG (u64 e.cap) 8++BG (u64 (-e.cost)) 2++BG (u64 x) 8:=by
 unfold eB
 rw [if_pos hi]
theorem Ui {r:Rnd} (W:WR r):∀ k,k≤r.ids.length→(esB r k).length=28*k
 | 0,_=>rfl
 | k+1,h=>by
  have hd:=W.de
  have hl:=W.len
  obtain ⟨e,he⟩:=A4 (l:=r.es) (i:=k) (by omega)
  obtain ⟨x,hx⟩:=A4 (l:=r.fl) (i:=k) (by omega)
  rw [IF he hx,List.length_append,Ui W k (by omega),Ot (by omega)]
  simp only [List.length_append,Dh,List.length_cons,List.length_nil]
  omega
theorem Rh {r:Rnd} (W:WR r):∀ k,r.ids.length+2*k≤r.es.length→(esB r (r.ids.length+2*k)).length=28*r.ids.length+24*k
 | 0,_=>by rw [show r.ids.length+2*0=r.ids.length from by omega,Ui W _ (Nat.le_refl _)]; omega
 | k+1,h=>by
  obtain ⟨e1,e2,x1,x2,-,-,-,-,h5⟩:=Ue W (k:=k) (by omega)
  rw [h5]
  simp only [List.length_append,Dh]
  rw [Rh W k (by omega)]
  omega
def GC (r:Rnd):Nat:=(r.N - 1).toNat
theorem Rj {r:Rnd} (W:WR r):r.es.length=r.ids.length+2*(bif r.cmp then 0 else GC r):=by
 have h:=W.rest
 have hd:=W.de
 have hN:=W.N1
 unfold HW at h
 unfold GC
 cases hc:r.cmp with
 | true =>
  rw [if_pos hc,decide_eq_true_eq,List.length_drop] at h
  rw [cond_true]
  omega
 | false =>
  rw [if_neg (by rw [hc]; decide),Bool.and_eq_true,decide_eq_true_eq,List.length_drop] at h
  have h2:=h.1
  rw [cond_false]
  omega
theorem Vy {r:Rnd} (W:WR r):(CF r).length=35+28*r.ids.length+24*(bif r.cmp then 0 else GC r)+8*GC r:=by
 have h1:=Rj W
 have h2:=Rh W (bif r.cmp then 0 else GC r) (by omega)
 have h3:=W.pot
 have hN:=W.N1
 rw [← h1] at h2
 unfold CF G8
 simp only [List.length_append,Uc,Gl,Ft,h2]
 unfold GC
 unfold GC at h2
 omega
/-- How many there are, by the head. -/
def szB (l:List UInt8):Nat:=35+28*(l.getD 22 0).toNat+24*(if l.getD 20 0=1 then 0 else (l.getD 21 0).toNat)+8*(l.getD 21 0).toNat
/-! ### What is put is got -/
theorem SZ (n k:Nat):BG n (k+1)=BG (n / 256) k++[UInt8.ofNat n]:=by
 unfold BG
 rw [List.range_succ,List.map_append]
 congr 1
 ·refine List.map_congr_left fun i hi=>?_
  have hi':=List.mem_range.1 hi
  rw [Nat.div_div_eq_div_mul,show (256:Nat)=2 ^ 8 from rfl,← Nat.pow_add]
  congr 3
  omega
 ·simp
theorem Yf (k:Nat):∀ n,numN (BG n k)=n % 256 ^ k:=by
 induction k with
 | zero=>intro n; simp [BG,numN,Nat.mod_one]
 | succ k ih =>
  intro n
  rw [SZ,Ol,ih]
  have h1:(UInt8.ofNat n).toNat=n % 256:=by simp [UInt8.toNat_ofNat']
  rw [h1,Nat.pow_succ,Nat.mul_comm (256 ^ k) 256,Nat.mod_mul]
  omega
theorem EB {l A:List UInt8} {n k:Nat} (h:A++BG n k <+: l) (hn:n<256 ^ k):nx l k (A.length,false)=(n,((A++BG n k).length,false)):=by
 obtain ⟨Z,rfl⟩:=h
 rw [XQ (by simp only [List.length_append,Dh]; omega),List.append_assoc,List.drop_left,List.take_left' (Dh n k),Yf,Nat.mod_eq_of_lt hn]
 simp only [List.length_append,Dh]
theorem Fu {A B l:List UInt8} (h:A++B <+: l):A <+: l:=(List.prefix_append A B).trans h
theorem HY {x:Int} (h0 : -9223372036854775808≤x) (h1:x<9223372036854775808):s64 (u64 x)=x:=by
 unfold s64 IntKind.wrap u64
 have e1:((2:Int) ^ IntKind.i64.bits)=18446744073709551616:=by kernel_rfl
 have e2:((2:Int) ^ (IntKind.i64.bits - 1))=9223372036854775808:=by kernel_rfl
 have e3:IntKind.i64.signed=true:=rfl
 simp only [e1,e2,e3,Bool.true_and,decide_eq_true_eq]
 split <;> omega
/-- What stands behind k dues. -/
def stD (r:Rnd) (k:Nat):PRd:=⟨r.ids.take k,r.es.take k,r.fl.take k,[],((BC r++esB r k).length,false)⟩
theorem Yg {r:Rnd} (W:WR r) (hu:WU r) {l:List UInt8} {k:Nat} (hk:k<r.ids.length) (h:BC r++esB r (k+1) <+: l):dueP l (stD r k)=stD r (k+1):=by
 have hd:=W.de
 have hl:=W.len
 have hN:=W.N17
 obtain ⟨e,he⟩:=A4 (l:=r.es) (i:=k) (by omega)
 obtain ⟨x,hx⟩:=A4 (l:=r.fl) (i:=k) (by omega)
 obtain ⟨y,hy⟩:=A4 (l:=r.ids) (i:=k) hk
 have hE:=Dj ((BX (BA W.wi).2.1).2.2.2.1 e (List.mem_of_getElem? he))
 have hw:=Pz (W.due k e hk he)
 have hF:=Ua W hx
 have hI:=hu.ids y (List.mem_of_getElem? hy)
 have hyD:r.ids.getD k 0=y:=by rw [List.getD_eq_getElem?_getD,hy]; rfl
 have g1:u64 y<256 ^ 8:=F8 y
 have g2:u64 e.f<256 ^ 1:=by unfold u64; omega
 have g3:u64 e.t<256 ^ 1:=by unfold u64; omega
 have g4:u64 e.cap<256 ^ 8:=F8 _
 have g5:u64 (-e.cost)<256 ^ 2:=by unfold u64; omega
 have g6:u64 x<256 ^ 8:=F8 _
 have hS:BC r++esB r (k+1)=BC r++esB r k++BG (u64 y) 8++BG (u64 e.f) 1++BG (u64 e.t) 1++BG (u64 e.cap) 8++BG (u64 (-e.cost)) 2++BG (u64 x) 8:=by
  rw [IF he hx,Ot hk,hyD,Ku hE.1 (by omega),Ku hE.2.2.1 (by omega)]
  simp only [List.append_assoc,List.cons_append,List.nil_append]
 have hT:=hS ▸ h
 have p5:=Fu hT
 have p4:=Fu p5
 have p3:=Fu p4
 have p2:=Fu p3
 have p1:=Fu p2
 have e1:=EB p1 g1
 have e2:=EB p2 g2
 have e3:=EB p3 g3
 have e4:=EB p4 g4
 have e5:=EB p5 g5
 have e6:=EB hT g6
 have q1:((u64 y:Nat):Int)=y:=JC hI.1 hI.2
 have q2:((u64 e.f:Nat):Int)=e.f:=JC hE.1 (by omega)
 have q3:((u64 e.t:Nat):Int)=e.t:=JC hE.2.2.1 (by omega)
 have q4:s64 (u64 e.cap)=e.cap:=HY (by omega) (by omega)
 have q5 : -((u64 (-e.cost):Nat):Int)=e.cost:=by rw [JC (by omega) (by omega)]; omega
 have q6:s64 (u64 x)=x:=HY (by omega) (by omega)
 unfold dueP Jt atP idP stD
 simp only [e1,e2,e3,e4,e5,e6,q1,q2,q3,q4,q5,q6]
 rw [hS,Cv hy,Cv he,Cv hx]
theorem Z5 (r:Rnd) {j k:Nat} (h:j≤k):esB r j <+: esB r k:=by
 unfold esB
 obtain ⟨m,rfl⟩:∃ m,k=j+m:=⟨k - j,by omega⟩
 rw [List.range_add,List.flatMap_append]
 exact List.prefix_append ..
theorem MY (r:Rnd) {j k:Nat} (h:j≤k):BC r++esB r j <+: BC r++esB r k:=by
 obtain ⟨Z,hZ⟩:=Z5 r h
 exact ⟨Z,by rw [List.append_assoc,hZ]⟩
theorem Uj {r:Rnd} (W:WR r) (hu:WU r) {l:List UInt8} (h:BC r++esB r r.ids.length <+: l):∀ n k,k+n=r.ids.length→Kv l n (stD r k)=stD r r.ids.length
 | 0,k,hk=>by rw [show k=r.ids.length from by omega]; rfl
 | n+1,k,hk=>by
  have h1:(stD r k).s.2=false:=rfl
  unfold Kv
  rw [if_neg (by rw [h1]; decide),Yg W hu (by omega) ((MY r (by omega)).trans h)]
  exact Uj W hu h n (k+1) (by omega)
def stP (r:Rnd) (k:Nat):PRd:=⟨r.ids,r.es.take (r.ids.length+2*k),r.fl.take (r.ids.length+2*k),[],((BC r++esB r (r.ids.length+2*k)).length,false)⟩
theorem Vz {r:Rnd} (W:WR r) {l:List UInt8} {k:Nat} (hk:r.ids.length+2*k+1<r.es.length) (h:BC r++esB r (r.ids.length+2*(k+1)) <+: l):Uf l (GC r) k (stP r k)=stP r (k+1):=by
 obtain ⟨e1,e2,x1,x2,h1,h2,h3,h4,h5⟩:=Ue W hk
 have hN:=W.N1
 have hE1:=Dj ((BX (BA W.wi).2.1).2.2.2.1 e1 (List.mem_of_getElem? h1))
 have hF1:=Ua W h3
 have hF2:=Ua W h4
 have hE1':e1=⟨(GC r:Int),(k:Int),e1.cap,0⟩:=by
  rcases (Kr W (by omega) h1).2.2 with ⟨b,hb,_,hf,ht,hc⟩ | ⟨b,hb,-⟩
  ·obtain ⟨f,t,c,co⟩:=e1
   dsimp only at hf ht hc ⊢
   rw [hf,ht,hc,show b=k from by omega]
   unfold GC
   congr 1
   omega
  ·omega
 have hE2':e2=⟨(k:Int),(GC r:Int),4503599627370496,0⟩:=by
  rcases (Kr W (by omega) h2).2.2 with ⟨b,hb,-⟩ | ⟨b,hb,_,hf,ht,hc,ho⟩
  ·omega
  ·obtain ⟨f,t,c,co⟩:=e2
   dsimp only at hf ht hc ho ⊢
   rw [hf,ht,hc,ho,show b=k from by omega]
   unfold GC
   congr 1
   omega
 have hS:BC r++esB r (r.ids.length+2*(k+1))=BC r++esB r (r.ids.length+2*k)++BG (u64 e1.cap) 8++BG (u64 x1) 8++BG (u64 x2) 8:=by
  rw [h5]
  simp only [List.append_assoc]
 have hT:=hS ▸ h
 have p2:=Fu hT
 have p1:=Fu p2
 have a1:=EB p1 (show u64 e1.cap<256 ^ 8 from F8 _)
 have a2:=EB p2 (show u64 x1<256 ^ 8 from F8 _)
 have a3:=EB hT (show u64 x2<256 ^ 8 from F8 _)
 have q1:s64 (u64 e1.cap)=e1.cap:=HY (by omega) (by omega)
 have q2:s64 (u64 x1)=x1:=HY (by omega) (by omega)
 have q3:s64 (u64 x2)=x2:=HY (by omega) (by omega)
 unfold Uf Jt atP stP
 simp only [a1,a2,a3,q1,q2,q3]
 rw [hS,show r.ids.length+2*(k+1)=r.ids.length+2*k+1+1 from by omega,Cv h2,Cv h1,Cv h4,Cv h3,← hE1',← hE2']
theorem Rl {r:Rnd} (W:WR r) {l:List UInt8} {h0:Nat} (hh:r.ids.length+2*h0=r.es.length) (h:BC r++esB r r.es.length <+: l):∀ n k,k+n=h0→G9 l (GC r) n k (stP r k)=stP r h0
 | 0,k,hk=>by rw [show k=h0 from by omega]; rfl
 | n+1,k,hk=>by
  have h1:(stP r k).s.2=false:=rfl
  unfold G9
  rw [if_neg (by rw [h1]; decide),Vz W (by omega) ((MY r (by omega)).trans h)]
  exact Rl W hh h n (k+1) (by omega)
def stT (r:Rnd) (k:Nat):PRd:=⟨r.ids,r.es,r.fl,r.pot.take k,((BC r++esB r r.es.length++D7 (r.pot.take k)).length,false)⟩
theorem Z7 {r:Rnd} (W:WR r) {k:Nat} {x:Int} (h:r.pot[k]? = some x) : -9223372036854775808≤x∧x<9223372036854775808:=by
 have h1:=(F7.1 W.chk).2.1
 unfold Fs at h1
 rw [Bool.and_eq_true,List.all_eq_true] at h1
 have h2:=h1.1 x (List.mem_of_getElem? h)
 unfold KG at h2
 simp only [Bool.and_eq_true,decide_eq_true_eq] at h2
 omega
theorem Yh {r:Rnd} (W:WR r) {l:List UInt8} {k:Nat} (hk:k<r.pot.length) (h:BC r++esB r r.es.length++D7 (r.pot.take (k+1)) <+: l):potP l (stT r k)=stT r (k+1):=by
 obtain ⟨x,hx⟩:=A4 (l:=r.pot) (i:=k) hk
 have hb:=Z7 W hx
 have hS:BC r++esB r r.es.length++D7 (r.pot.take (k+1))=BC r++esB r r.es.length++D7 (r.pot.take k)++BG (u64 x) 8:=by
  rw [Om hx]
  simp only [List.append_assoc]
 have hT:=hS ▸ h
 have a1:=EB hT (show u64 x<256 ^ 8 from F8 _)
 have q1:s64 (u64 x)=x:=HY hb.1 hb.2
 unfold potP stT
 simp only [a1,q1]
 rw [hS,Cv hx]
theorem Yi (p:List Int) {j k:Nat} (h:j≤k):D7 (p.take j) <+: D7 (p.take k):=by
 obtain ⟨Z,hZ⟩:p.take j <+: p.take k:=by
  refine ⟨(p.take k).drop j,?_⟩
  have h1:p.take j=(p.take k).take j:=by rw [List.take_take,Nat.min_eq_left h]
  rw [h1,List.take_append_drop]
 exact ⟨D7 Z,by rw [← QZ,hZ]⟩
theorem Uk {r:Rnd} (W:WR r) {l:List UInt8} (h:BC r++esB r r.es.length++D7 r.pot <+: l):∀ n k,k+n=r.pot.length→Kw l n (stT r k)=stT r r.pot.length
 | 0,k,hk=>by rw [show k=r.pot.length from by omega]; rfl
 | n+1,k,hk=>by
  have h1:(stT r k).s.2=false:=rfl
  have h2:BC r++esB r r.es.length++D7 (r.pot.take (k+1)) <+: l:=by
   refine List.IsPrefix.trans ?_ h
   obtain ⟨Z,hZ⟩:=Yi r.pot (j:=k+1) (k:=r.pot.length) (by omega)
   rw [List.take_of_length_le (Nat.le_refl _)] at hZ
   exact ⟨Z,by rw [List.append_assoc,hZ]⟩
  unfold Kw
  rw [if_neg (by rw [h1]; decide),Yh W (by omega) h2]
  exact Uk W h n (k+1) (by omega)
theorem Z8 {r:Rnd} (W:WR r) {l:List UInt8} (h:BC r <+: l):hs1 l=(4,false)∧(nx l 8 (hs1 l)).1=u64 r.no∧(nx l 8 (hs2 l)).1=u64 r.day∧(nx l 1 (hs3 l)).1=(bif r.cmp then 1 else 0)∧DH l=GC r∧SW l=r.ids.length∧hs6 l=(23,false):=by
 have hN:=W.N1
 have hN2:=W.N17
 have hd:=W.d64
 have hS:BC r=([]:List UInt8)++BG 1196902740 4++BG (u64 r.no) 8++BG (u64 r.day) 8++BG (bif r.cmp then 1 else 0) 1++BG (u64 (r.N - 1)) 1++BG (u64 (r.ids.length:Int)) 1:=by
  rw [Ku (x:=r.N - 1) (by omega) (by omega),Ku (x:=(r.ids.length:Int)) (by omega) (by omega),XP]
  have h4:BG 1196902740 4=gwit:=by decide
  rw [h4]
  unfold BC
  simp only [List.append_assoc,List.cons_append,List.nil_append]
 have hT:=hS ▸ h
 have p5:=Fu hT
 have p4:=Fu p5
 have p3:=Fu p4
 have p2:=Fu p3
 have p1:=Fu p2
 have a1:=EB p1 (by decide)
 have a2:=EB p2 (show u64 r.no<256 ^ 8 from F8 _)
 have a3:=EB p3 (show u64 r.day<256 ^ 8 from F8 _)
 have a4:=EB p4 (by cases r.cmp <;> decide)
 have a5:=EB p5 (show u64 (r.N - 1)<256 ^ 1 by unfold u64; omega)
 have a6:=EB hT (show u64 (r.ids.length:Int)<256 ^ 1 by unfold u64; omega)
 have b1:hs1 l=((([]:List UInt8)++BG 1196902740 4).length,false):=by unfold hs1; rw [show ((0,false):Nat × Bool)=(([]:List UInt8).length,false) from rfl,a1]
 have b2:hs2 l=((([]:List UInt8)++BG 1196902740 4++BG (u64 r.no) 8).length,false):=by unfold hs2; rw [b1,a2]
 have b3:hs3 l=((([]:List UInt8)++BG 1196902740 4++BG (u64 r.no) 8++BG (u64 r.day) 8).length,false):=by unfold hs3; rw [b2,a3]
 have b4:hs4 l=((([]:List UInt8)++BG 1196902740 4++BG (u64 r.no) 8++BG (u64 r.day) 8++BG (bif r.cmp then 1 else 0) 1).length,false):=by unfold hs4; rw [b3,a4]
 have b5:hs5 l=((([]:List UInt8)++BG 1196902740 4++BG (u64 r.no) 8++BG (u64 r.day) 8++BG (bif r.cmp then 1 else 0) 1++BG (u64 (r.N - 1)) 1).length,false):=by unfold hs5; rw [b4,a5]
 refine ⟨?_,by rw [b1,a2],by rw [b2,a3],by rw [b3,a4],?_,?_,?_⟩
 ·rw [b1]; simp [Dh]
 ·unfold DH
  rw [b4,a5]
  unfold GC u64
  dsimp only
  omega
 ·unfold SW
  rw [b5,a6]
  unfold u64
  dsimp only
  omega
 ·unfold hs6
  rw [b5,a6,← hS,Gl]
theorem MZ {r:Rnd} (W:WR r) (hu:WU r):Ju (CF r)=stT r r.pot.length∧hdP (CF r)=⟨r.no,r.day,r.cmp,r.N⟩:=by
 have hN:=W.N1
 have hp:=W.pot
 have hl:=W.len
 have hB:BC r++esB r r.es.length++D7 r.pot <+: CF r:=List.prefix_append ..
 have hA:BC r++esB r r.es.length <+: CF r:=Fu hB
 have hH:BC r <+: CF r:=Fu hA
 obtain ⟨-,h1,h2,h3,h4,h5,h6⟩:=Z8 W hH
 have hcmp:decide (((nx (CF r) 1 (hs3 (CF r))).1:Int)=1)=r.cmp:=by rw [h3]; cases r.cmp <;> rfl
 have hhd:hdP (CF r)=⟨r.no,r.day,r.cmp,r.N⟩:=by
  unfold hdP
  rw [hcmp,h1,h2,h4,JC hu.no.1 hu.no.2,HY (by have:=W.day; omega) hu.day]
  unfold GC
  rw [show (((r.N - 1).toNat:Nat):Int)+1=r.N by omega]
 have hd:=Uj W hu ((MY r W.de).trans hA) r.ids.length 0 (by omega)
 have hst:stD r 0=⟨[],[],[],[],(23,false)⟩:=by
  unfold stD
  rw [show esB r 0=[] from rfl,List.append_nil,Gl]
  rfl
 rw [hst] at hd
 have hst2:stD r r.ids.length=stP r 0:=by
  unfold stD stP
  rw [List.take_of_length_le (Nat.le_refl _),show r.ids.length+2*0=r.ids.length from by omega]
 have hc:=Rj W
 have hend:stP r (bif r.cmp then 0 else GC r)=stT r 0:=by
  unfold stP stT
  rw [← hc,List.take_of_length_le (Nat.le_refl _),List.take_of_length_le (by omega),List.take_zero,QY,List.append_nil]
 refine ⟨?_,hhd⟩
 unfold Ju
 simp only [hhd,h4,h5,h6,hd,hst2]
 have h7:(if r.cmp=true then stP r 0 else G9 (CF r) (GC r) (GC r) 0 (stP r 0))=stT r 0:=by
  cases hcm:r.cmp with
  | true =>
   rw [hcm,cond_true] at hend
   rw [if_pos rfl,hend]
  | false =>
   rw [hcm,cond_false] at hend hc
   rw [if_neg (by decide),Rl W hc.symm hA (GC r) 0 (by omega),hend]
 rw [h7,show GC r+1=r.pot.length from by unfold GC; omega]
 exact Uk W hB r.pot.length 0 (by omega)
theorem Na {r:Rnd} (W:WR r) (hu:WU r):Lz (CF r)=r:=by
 obtain ⟨h1,h2⟩:=MZ W hu
 unfold Lz
 rw [h1,h2]
 unfold Ii stT
 rw [List.take_of_length_le (Nat.le_refl _)]
theorem JD {r:Rnd} (h:B7 r=true) (hu:WU r):IG (CF r)=true:=by
 have W:=Ko h
 unfold IG
 rw [Na W hu,h,(MZ W hu).1]
 simp [stT]
/-- What any function of the bytes tells that has a sum, or has none. -/
theorem Yj {l:List UInt8} {w w':World} {v:Value} (h1:EA l=true→GetRes l w w' v) (h2:EA l=false→v = .tuple #[.agg (AJ GA FT).toArray,.int .i64 5]∧Ext [] w w'):GetRes l w w' v:=by
 cases h:EA l with
 | true=>exact h1 h
 | false =>
  obtain ⟨h3,h4⟩:=h2 h
  exact ⟨fun g=>(by rw [SY h] at g; cases g),fun _=>h3,h4⟩
end Go.Proofs.YtapphbmlkdhnmaaGreat

/- The reference's function that gets a round of bytes. -/
namespace Go.Proofs.YtapphbmlkdhnmaaGreat
open Go.GV
attribute [local irreducible] A1 W Wq Wt

structure Kt where
 br:Nat
 b5:Nat
 b2:Nat
 a:Option Addr
 c:Nat
 l:List UInt8
abbrev kC (T:Kt) (h:Hd) (g:Gs):List (Nat × Obj):=[(T.b5,Bl 33 (AJ (Ii h g.p) g.q)),(T.b2,Bl 33 (AJ GA FT))]
abbrev kL (T:Kt) (h:Hd) (g:Gs) (s:Nat × Bool):List (Nat × Obj):=rkL T.br T.a T.c T.l s++(kC T h g++gE g)
structure KOk (T:Kt) (h:Hd) (w0 w:World) (g:Gs):Prop where
 H:Ctx w0 [] w (kL T h g g.p.s)
 I:OS g.aI g.p.ids.length g.cI 1 g.fI (g.p.ids.flatMap U1)
 E:OS g.aE g.p.es.length g.cE 4 g.fE (g.p.es.flatMap B6)
 F:OS g.aF g.p.fl.length g.cF 1 g.fF (g.p.fl.flatMap I1)
 P:OS g.aP g.p.pot.length g.cP 1 g.fP (g.p.pot.flatMap I1)
 hs:g.p.s.1≤T.l.length
structure KFix (T:Kt) (w0:World):Prop where
 R:Rd w0 T.a 1 B8 T.l
 off:T.l≠[]→(adr T.a).block<w0.heap.size
 hc:T.l.length≤T.c
 hm:T.l.length≤100000
end Go.Proofs.YtapphbmlkdhnmaaGreat

/- What the law plans: a round of rooms and dues. -/
namespace Go.Proofs.YtapphbmlkdhnmaaGreat
open Go.GV
attribute [local irreducible] A1 W Wq Wt

structure PlnR (rs:List Int) (ds:List Du) (net:Bool) (r:Rnd):Prop where
 no:r.no=3
 day:r.day=2
 cmp:r.cmp=net
 ids:r.ids=(opn ds).map Du.id
 N:r.N=((rs.length+1:Nat):Int)
 es:r.es=Bt rs (opn ds) net
 chk:Ex r.N r.es r.fl r.pot=true
def Adz (w:World) (rs:List Int) (ds:List Du) (net:Bool) (v:Value) (w':World):Prop :=
 Ext [] w w'∧((CS rs ds=false∧v = .tuple #[.agg rnd0.toArray,.bool false]) ∨
  (CS rs ds=true∧∃ r q,v = .tuple #[.agg (AJ r q).toArray,.bool true]∧PlnR rs ds net r∧RAt w' r q∧ROff q r (fun x=>x<w.heap.size)∧r.es.length≤q.cE))
set_option maxRecDepth 20000 in
set_option maxHeartbeats 4000000 in
theorem HZ (a b:Option Addr) (n c m e:Nat) (rs:List Int) (ds:List Du) (net:Bool) (w:World) (R:Rd w a 1 I1 rs) (hn:rs.length=n) (hn2:n≤1000) (Rd':Rd w b 7 CP ds) (hm:ds.length=m) (hm2:m≤1000) :
  Ret Tryz.prog 30 #[.slice a n c,.slice b m e,.bool net] w (Adz w rs ds net):=by
 subst hn hm
 obtain ⟨w0,rfl⟩:∃ w0,w0=w:=⟨_,rfl⟩
 have H:=Ctx.start w0 []
 refine A0 (fn:=Tryz.f30) Tryz.func30 rfl [.slice a rs.length c,.slice b ds.length e,.bool net] rfl (by kernel_rfl) ?_
 refine Af (Bo rfl Hi H ?_)
 rintro b6 w - H
 refine Ai rfl rfl (Ab (Aa ?_))
 cases hbb:CS rs ds
 ·skip
  refine Af (Ak rfl rfl (Ak rfl rfl (Ay rfl rfl (Al rfl ZO (Oc a b _ c _ e rs ds net _ (R.ext0 H.ext) rfl (by omega) (Rd'.ext0 H.ext) rfl (by omega)) rfl ?_))))
  rintro v w ⟨hx18,⟨-,rfl⟩ | ⟨hb1,-⟩⟩
  rotate_left
  (rw [hbb] at hb1; cases hb1)
  replace H:=H.call hx18
  refine BK rfl rfl (A5 rfl rfl rfl (A5 rfl rfl rfl (A5 rfl rfl rfl (Bo rfl T7 H ?_))))
  rintro b8 w - H
  refine BP rfl CJ rfl rfl rfl (by exact (by decide)) H at0 rfl ?_
  rintro w H
  refine A6 rfl rfl (Ae rfl rfl (Ab (Aa (Aq (Af (Ad rfl rfl (CY rfl rfl rfl (Ab (Aa (Ax _ rfl ?_ ?_))))))))))
  ·intro h1
   replace h1:=Dz h1
   refine Af (C7 rnd0 rfl Qx Hi (by kernel_rfl) ?_)
   refine BP rfl Cp rfl rfl rfl (by exact (by decide)) H at1 rfl ?_
   rintro w H
   refine Ai rfl rfl (Ab (Aa (A9 (Am (JQ rfl rfl rfl C6 Cp H at1 rfl (show _=(.bool _) from rfl) ?_)))))
   exact ⟨H.ext,.inl ⟨hbb,rfl⟩⟩
  ·intro h1
   replace h1:=D0 h1
   exact absurd h1 (by decide)
 ·skip
  have hB:=(G6 (by omega)).1 hbb
  obtain ⟨es,hes⟩:∃ es,es=Bt rs (opn ds) net:=⟨_,rfl⟩
  refine Af (Ak rfl rfl (Ak rfl rfl (Ay rfl rfl ?_)))
  have hlb:=H.lt at0
  refine Al rfl ZO (Oc a b _ c _ e rs ds net _ (R.ext0 H.ext) rfl (by omega) (Rd'.ext0 H.ext) rfl (by omega)) rfl ?_
  rintro v w ⟨hx18,⟨hb1,-⟩ | ⟨-,aE,nE,cE,vI,rfl,SE,SI⟩⟩
  (rw [hbb] at hb1; cases hb1)
  replace H:=H.call hx18
  rw [← hes] at SE
  obtain ⟨aE,cE,hE1,hEl,RE,hEn⟩:=SE.ex
  obtain ⟨aI,cI,rfl,-,RI,hIn⟩:=SI.ex
  cases hE1
  have hx018:=H.ext
  have hb60:w0.heap.size≤b6:=(H.own _ (List.mem_cons_self ..)).elim (fun h=>by cases h) id
  obtain ⟨w18,rfl⟩:∃ z,z=w:=⟨_,rfl⟩
  replace H:=Ctx.lend (L1:=[_]) (L2:=[]) H
  dsimp only [List.map] at H
  have hs24:=hx18.size
  refine BK rfl rfl (A5 rfl rfl rfl (A5 rfl rfl rfl (A5 rfl rfl rfl (Bo rfl T7 H ?_))))
  rintro b8 w - H
  refine BP rfl CJ rfl rfl rfl (by exact (by simp [Bu])) H at0 rfl ?_
  rintro w H
  refine A6 rfl rfl (Ae rfl rfl (Ab (Aa (Aq (Af (Ad rfl rfl (CY rfl rfl rfl (Ab (Aa (Ax _ rfl ?_ ?_))))))))))
  ·intro h1
   replace h1:=Dz h1
   exact absurd h1 (by decide)
  ·intro h1
   replace h1:=D0 h1
   have hri:Cj ((rs.length+1:Nat):Int) es=true:=by rw [hes]; exact hB.right net
   have hE6:es≠[]→(adr aE).block∉[b6]:=fun h=>by have:=hEn h; rw [List.mem_singleton]; omega
   have hI6:(opn ds).map Du.id≠[]→(adr aI).block∉[b6]:=fun h=>by have:=hIn h; rw [List.mem_singleton]; omega
   have hE26:=RE.lt' (fun _ _=>rfl) (by decide)
   have hI26:=RI.lt' (fun _ _=>rfl) (by decide)
   refine Aw (Aa (Af (Bq rfl CX CJ rfl H at0 rfl ?_)))
   have hl8:=H.lt at0
   have hl6:=H.lt at1
   refine Al rfl ca_59 (Zt (rs.length+1) aE cE es _ (RE.ext' H.ext hE6) hri) rfl ?_
   rintro v w ⟨bf,bp,x,p,k,rfl,hF,hov,hpb,HB⟩
   replace H:=H.call HB.ext
   have RF:Rd w (some ⟨bf,0,none⟩) 1 I1 (tab x es.length):=Ck (HB.get at0)
   have RP:Rd w (some ⟨bp,0,none⟩) 1 I1 (tab p (rs.length+1)):=Ck (HB.get at1)
   have hbf:=(HB.own _ (List.mem_of_getElem? at0)).elim (fun h=>by cases h) id
   have hbp:=(HB.own _ (List.mem_of_getElem? at1)).elim (fun h=>by cases h) id
   dsimp only at hbf hbp
   replace RE:=RE.ext' H.ext hE6
   replace RI:=RI.ext' H.ext hI6
   have hb80:=(H.own _ (List.mem_of_getElem? at0)).elim (fun h => .inl (List.mem_singleton.1 h)) Or.inr
   have hx027:=hx018.then H.ext (fun x hx => .inr (by rw [List.mem_singleton.1 hx]; exact hb60))
   have hs36:=HB.ext.size
   have hs26:=H.size
   obtain ⟨w36,rfl⟩:∃ z,z=w:=⟨_,rfl⟩
   replace H:=Ctx.lend (L1:=[_,_]) (L2:=[]) H
   dsimp only [List.map] at H
   refine BK rfl rfl (A5 rfl rfl rfl (A5 rfl rfl rfl (A5 rfl rfl rfl (Bo rfl W9 H ?_))))
   rintro b11 w - H
   refine BP rfl NK rfl rfl rfl (by exact (by simp [Bu])) H at0 rfl ?_
   rintro w H
   refine Ae rfl rfl (Ae rfl rfl (Ab (Aa ?_)))
   obtain ⟨r,hr⟩:∃ r:Rnd,r=⟨3,2,net,(opn ds).map Du.id,((rs.length+1:Nat):Int),es,tab x es.length,tab p (rs.length+1)⟩:=⟨_,rfl⟩
   obtain ⟨q,hq⟩:∃ q:RSl,q=⟨aI,cI,aE,cE,some ⟨bf,0,none⟩,es.length,some ⟨bp,0,none⟩,rs.length+1⟩:=⟨_,rfl⟩
   have hcells:AJ r q=[.int .u64 3,.int .i64 2,.bool net,.slice aI ((opn ds).map Du.id).length cI,.int .i64 ((rs.length+1:Nat):Int),.slice aE es.length cE,.slice (some ⟨bf,0,none⟩) es.length es.length,.slice (some ⟨bp,0,none⟩) (rs.length+1) (rs.length+1)]:=by
    rw [hr,hq]
    unfold AJ
    dsimp only
    rw [Cy,Cy]
   refine Af (Ay rfl rfl (Ak rfl rfl (Bq rfl CX CJ rfl H at1 rfl (Bq rfl T1 NK rfl H at0 rfl (C7 [.int .u64 3,.int .i64 2,.bool net,.slice aI ((opn ds).map Du.id).length cI,.int .i64 ((rs.length+1:Nat):Int),.slice aE es.length cE,.slice (some ⟨bf,0,none⟩) es.length es.length,.slice (some ⟨bp,0,none⟩) (rs.length+1) (rs.length+1)] rfl Qx Hi (by kernel_rfl) ?_)))))
   refine Ad rfl rfl (Cg rfl rfl rfl (BP rfl Cp rfl rfl rfl (by exact (by simp [Bu])) H at2 rfl ?_))
   rintro w H
   refine Ai rfl rfl (Ab (Aa (A9 (JQ rfl rfl rfl C6 Cp H at2 rfl (show _=(.bool _) from rfl) ?_))))
   have h8:w0.heap.size≤b8:=by rcases hb80 with h | h <;> omega
   have hxx:=hx027.then H.ext fun x hx => .inr (by simp only [List.mem_cons,List.not_mem_nil,or_false] at hx; omega)
   refine ⟨hxx,.inr ⟨hbb,r,q,by rw [hcells]; rfl,⟨by rw [hr],by rw [hr],by rw [hr],by rw [hr],by rw [hr],by rw [hr]; exact hes,?_⟩,⟨?_,?_,?_,?_,?_⟩,⟨?_,?_,?_,?_⟩,by rw [hr,hq]; exact hEl⟩⟩
   ·rw [hr]; exact SK hri hF hov hpb
   ·rw [hr,hq]; exact RI.ext' H.ext fun h=>by have h1:=hI26 h; have h2:=hI6 h; rw [List.mem_singleton] at h2; simp only [List.mem_cons,List.not_mem_nil,or_false]; rcases hb80 with h3 | h3 <;> omega
   ·rw [hr,hq]; exact RE.ext' H.ext fun h=>by have h1:=hE26 h; have h2:=hE6 h; rw [List.mem_singleton] at h2; simp only [List.mem_cons,List.not_mem_nil,or_false]; rcases hb80 with h3 | h3 <;> omega
   ·rw [hr,hq]; exact RF.ext' H.ext fun _=>by show bf∉[b8,b6]; simp only [List.mem_cons,List.not_mem_nil,or_false]; omega
   ·rw [hr,hq]; exact RP.ext' H.ext fun _=>by show bp∉[b8,b6]; simp only [List.mem_cons,List.not_mem_nil,or_false]; omega
   ·rw [hr,hq]; dsimp only; rw [Cy]; exact Nat.le_refl _
   ·rw [hr,hq]; intro h; have:=hIn h; dsimp only; omega
   ·rw [hr,hq]; intro h; have:=hEn h; dsimp only; omega
   ·rw [hr,hq]; intro _; show ¬ bf<w0.heap.size; omega
   ·rw [hr,hq]; intro _; show ¬ bp<w0.heap.size; omega
end Go.Proofs.YtapphbmlkdhnmaaGreat

/- The law's example. -/
namespace Go.Proofs.YtapphbmlkdhnmaaGreat
open Go.GV
attribute [local irreducible] A1 W Wq Wt

abbrev xR3:List Int:=[5,0]
abbrev xD3:List Du:=[⟨7,0,1,9,2,0,false⟩]
abbrev xE3:List Ed:=[⟨0,1,9,-2⟩,⟨2,0,5,0⟩,⟨0,2,4503599627370496,0⟩,⟨2,1,0,0⟩,⟨1,2,4503599627370496,0⟩]
theorem xe3:Bt xR3 (opn xD3) false=xE3:=by decide
theorem xb3:CS xR3 xD3=true:=by decide
theorem Ul {rs:List Int} {ds:List Du} {net:Bool} {r:Rnd} (P:PlnR rs ds net r) (hd:ds.length≤1000000):RBnd r:=by
 obtain ⟨h1,h2,-⟩:=F7.1 P.chk
 obtain ⟨g1,g2,g3,-⟩:=BX (BA (Fq h1).1).2.1
 have g4:=(BA (Fq h1).1).1
 have g5:=(KH h2).1
 refine ⟨⟨by omega,by omega⟩,by omega,?_,by omega,by omega⟩
 rw [P.ids,List.length_map]
 exact Nat.le_trans (List.length_filter_le _ _) hd
theorem Rm {rs:List Int} {ds:List Du} {net:Bool} {r:Rnd} (P:PlnR rs ds net r):Cj r.N r.es=true∧BJ r.N r.es r.fl=true∧(∀ v,v<r.N.toNat→Bs (grE r.N r.es) (flE r.fl) v=0)∧Fine (grE r.N r.es) (BZ r.es) (flE r.fl) (Em r.pot):=by
 obtain ⟨h1,-,h3⟩:=F7.1 P.chk
 obtain ⟨h4,h5⟩:=Fq h1
 exact ⟨(BA h4).2.1,h4,h5,h3⟩
theorem xw3 {r:Rnd} (P:PlnR xR3 xD3 false r):B7 r=true∧Jq r 7=(5,9,0)∧Jr r 1=(5,0,0)∧HX r=(10,0)∧(CF r).length=127∧Jq r 8=(0,0,4)∧Jr r 2=(0,0,10):=by
 obtain ⟨p1,p2,p3,p4⟩:=Rm P
 obtain ⟨no,day,cmp,ids,N,es,fl,pot⟩:=r
 obtain ⟨h1,h2,h3,h4,h5,h6,h7⟩:=P
 dsimp only at h1 h2 h3 h4 h5 h6 h7 p1 p2 p3 p4
 have h4':ids=[7]:=h4.trans (by decide)
 have h5':N=3:=h5
 have h6':es=xE3:=h6.trans xe3
 subst h1 h2 h3 h4' h5' h6'
 have hR:B7 ⟨3,2,false,[7],3,xE3,fl,pot⟩=true:=by
  unfold B7 Ha HW
  dsimp only
  rw [h7]
  rfl
 have hW:=Ko hR
 have hlen:fl.length=5:=hW.len
 have hpl:(pot.length:Int)=3:=hW.pot
 have hg:=HQ p1
 obtain ⟨x,hx⟩:∃ x,x=flE fl:=⟨_,rfl⟩
 rw [← hx] at p3 p4
 have o0:=p3 0 (by decide)
 have i0:=p4.in' 0 (by decide)
 have i1:=p4.in' 1 (by decide)
 have i2:=p4.in' 2 (by decide)
 have hbest:=Fine.best hg p4 p3 (y:=fun i=>[5,5,0,0,5].getD i 0) (fun i hi=>by
  have hi':i<5:=hi
  match i,hi' with
  | 0,_=>decide
  | 1,_=>decide
  | 2,_=>decide
  | 3,_=>decide
  | 4,_=>decide) (fun v hv=>by
  have hv':v<3:=hv
  match v,hv' with
  | 0,_=>decide
  | 1,_=>decide
  | 2,_=>decide)
 have hc1:FO (grE 3 xE3) (fun i=>[5,5,0,0,5].getD i 0) = -10:=by decide
 have hc2:FO (grE 3 xE3) x = -(2*x 0):=by
  show 0+x 0 * -2+x 1*0+x 2*0+x 3*0+x 4*0=_
  omega
 have e0:Bs (grE 3 xE3) x 0 = -(x 0)+x 1 - x 2:=by
  show 0+(0 - 1)*x 0+(1 - 0)*x 1+(0 - 1)*x 2+(0 - 0)*x 3+(0 - 0)*x 4=_
  omega
 have c1:BZ xE3 1=5:=rfl
 have hx0:x 0=5:=by
  rw [hc1,hc2] at hbest
  rw [e0] at o0
  rw [c1] at i1
  omega
 have hf0:fl.getD 0 0=5:=by rw [← hx0,hx]; rfl
 refine ⟨hR,?_,?_,?_,?_,?_,?_⟩
 ·unfold Jq
  rw [if_pos hR]
  show (fl.getD 0 0,(9:Int),(0:Int))=_
  rw [hf0]
 ·unfold Jr
  rw [if_pos hR]
  show (0+fl.getD 0 0,0+(0:Int),(0:Int))=_
  rw [hf0]
  rfl
 ·unfold HX
  rw [if_pos hR]
  show (0 + -(-2:Int)*fl.getD 0 0,(0:Int))=_
  rw [hf0]
  rfl
 ·unfold CF G8
  rw [List.length_append,List.length_append,List.length_append,Gl,Ft,Uc]
  have:(esB ⟨3,2,false,[7],3,xE3,fl,pot⟩ 5).length=76:=by simp [esB,eB,List.range_succ,Dh]
  show 23+(esB ⟨3,2,false,[7],3,xE3,fl,pot⟩ 5).length+8*pot.length+4=127
  omega
 ·unfold Jq
  rw [if_pos hR]
  rfl
 ·unfold Jr
  rw [if_pos hR]
  rfl
theorem Z9:EA []=false:=by decide
theorem Yk {rs:List Int} {ds:List Du} {net:Bool} {r:Rnd} (P:PlnR rs ds net r) (hd:∀ d∈ds,0≤d.id∧d.id<18446744073709551616):WU r:=by
 refine ⟨by rw [P.no]; decide,fun x hx=>?_,by rw [P.day]; decide⟩
 rw [P.ids] at hx
 obtain ⟨d,h1,rfl⟩:=List.mem_map.1 hx
 exact hd d (List.mem_filter.1 h1).1
set_option maxRecDepth 20000 in
set_option maxHeartbeats 4000000 in
theorem Ia (w:World):Ret Tryz.prog 27 #[] w fun v w'=>v = .bool true∧Ext [] w w':=by
 obtain ⟨w0,rfl⟩:∃ w0,w0=w:=⟨_,rfl⟩
 have H:=Ctx.start w0 []
 refine A0 (fn:=Tryz.f27) Tryz.func27 rfl [] rfl (by kernel_rfl) ?_
 refine Af (Ai rfl rfl (Ab (Aa (Af (Dx [.int .i64 5,.int .i64 0] rfl AX Bw FX (by decide) (by decide) (by kernel_rfl) H ?_)))))
 rintro b22 w - H
 refine C7 (CP ⟨7,0,1,9,2,0,false⟩) rfl ZT Fp (by kernel_rfl) ?_
 refine Db _ (.agg _) rfl CC CA Fp rfl (by decide) (by decide) rfl rfl rfl H ?_
 rintro b24 w - H
 refine Al rfl Wy (HZ (some ⟨b22,0,none⟩) (some ⟨b24,0,none⟩) 2 2 1 1 xR3 xD3 false _ (XM (H.get at1)) rfl (by decide) (Rd.of_bl (xs:=xD3) (enc:=CP) (r:=[]) (H.get at0) rfl (by decide)) rfl (by decide)) rfl ?_
 rintro v w ⟨hx25,⟨hb,-⟩ | ⟨-,r,q,rfl,P,RA,-,hEc⟩⟩
 (exact absurd hb (by rw [xb3]; decide))
 replace H:=H.call hx25
 obtain ⟨y1,y2,y3,y4,y5,y6,y7⟩:=xw3 P
 have hB:=Ul P (by decide)
 have hU:=Yk P (by decide)
 have hx0:=H.ext
 obtain ⟨w1,rfl⟩:∃ z,z=w:=⟨_,rfl⟩
 replace H:=Ctx.start w1 []
 refine BK rfl rfl (A5 rfl rfl rfl (A5 rfl rfl rfl (Bo rfl Hi H ?_)))
 rintro b1 w - H
 refine BP rfl Cp rfl rfl rfl (by exact (by simp [Bu])) H at0 rfl ?_
 rintro w H
 refine Ai rfl rfl (Ab (Aa (Aq (Af (Ay rfl rfl (Bv rfl rfl (Ab (Aa (EJ rfl (Aw (Aa (Af ?_))))))))))))
 refine Bq rfl C6 Cp rfl H at0 rfl (Al rfl Wz (MQ r q 7 _ (RA.ext0 H.ext) hEc hB) rfl ?_)
 rintro v w ⟨rfl,hx⟩
 rw [y2]
 replace H:=H.call hx
 refine BK rfl rfl (A5 rfl rfl rfl (A5 rfl rfl rfl (A5 rfl rfl rfl (Ae rfl rfl (Ae rfl rfl (Ae rfl rfl (Ab (Aa (Af (Bq rfl C6 Cp rfl H at0 rfl ?_))))))))))
 refine Al rfl W0 (MS r q 1 _ (RA.ext0 H.ext) hEc hB) rfl ?_
 rintro v w ⟨rfl,hx⟩
 rw [y3]
 replace H:=H.call hx
 refine BK rfl rfl (A5 rfl rfl rfl (A5 rfl rfl rfl (A5 rfl rfl rfl (Ae rfl rfl (Ae rfl rfl (Ae rfl rfl (Ab (Aa (Af (Bq rfl C6 Cp rfl H at0 rfl ?_))))))))))
 refine Al rfl ZM (Oh r q _ (RA.ext0 H.ext) hEc hB) rfl ?_
 rintro v w ⟨rfl,hx⟩
 rw [y4]
 replace H:=H.call hx
 refine BK rfl rfl (A5 rfl rfl rfl (A5 rfl rfl rfl (Ae rfl rfl (Ae rfl rfl (Ab (Aa (Af (Bq rfl C6 Cp rfl H at0 rfl (Al rfl Wx (P9 r q _ (RA.ext0 H.ext) hEc hB hU) rfl ?_)))))))))
 rintro v w ⟨hT,-⟩
 obtain ⟨s,rfl,F⟩:=hT y1
 obtain ⟨a9,c9,rfl,-⟩:=Fresh.rdB F
 rw [y5]
 replace H:=H.call F.ext
 refine BK rfl rfl (A5 rfl rfl rfl (A5 rfl rfl rfl (A6 rfl rfl (Ae rfl rfl (Ab (Aa (Af (Bq rfl C6 Cp rfl H at0 rfl (Al rfl Wz (MQ r q 8 _ (RA.ext0 H.ext) hEc hB) rfl ?_)))))))))
 rintro v w ⟨rfl,hx⟩
 rw [y6]
 replace H:=H.call hx
 refine BK rfl rfl (A5 rfl rfl rfl (A5 rfl rfl rfl (A5 rfl rfl rfl (Ae rfl rfl (Ae rfl rfl (Ae rfl rfl (Ab (Aa (Af (Bq rfl C6 Cp rfl H at0 rfl ?_))))))))))
 refine Al rfl W0 (MS r q 2 _ (RA.ext0 H.ext) hEc hB) rfl ?_
 rintro v w ⟨rfl,hx⟩
 rw [y7]
 replace H:=H.call hx
 refine BK rfl rfl (A5 rfl rfl rfl (A5 rfl rfl rfl (A5 rfl rfl rfl (Ae rfl rfl (Ae rfl rfl (Ae rfl rfl (Ab (Aa (Af (Al rfl ZL (Uh none 0 [] _ Rd.nil (Nat.le_refl _) (Nat.zero_le _) (fun h=>absurd rfl h)) rfl ?_))))))))))
 rintro v w ⟨-,hN⟩
 obtain ⟨rfl,hx⟩:=hN Z9
 replace H:=H.call hx
 refine BK rfl rfl (A5 rfl rfl rfl (A5 rfl rfl rfl (Bo rfl Hi H ?_)))
 rintro b19 w - H
 refine BP rfl Cp rfl rfl rfl (by exact (by simp [Bu])) H at0 rfl ?_
 rintro w H
 refine Ae rfl rfl (Ab (Aa (Af (Bq rfl C6 Cp rfl H at1 rfl (Al rfl Lj (Fc r q _ (RA.ext0 H.ext) hEc hB) rfl ?_)))))
 rintro v w ⟨rfl,hx⟩
 rw [y1]
 replace H:=H.call hx
 refine Ay rfl rfl (Ad rfl rfl (Cg rfl rfl rfl (A3 rfl rfl (.bool _) rfl (Ay rfl rfl (Ad rfl rfl (Cg rfl rfl rfl (A3 rfl rfl (.bool _) rfl (Ay rfl rfl (Ad rfl rfl ?_)))))))))
 refine Cg rfl rfl rfl (A3 rfl rfl (.bool _) rfl (Ay rfl rfl (Ad rfl rfl (Cg rfl rfl rfl (A3 rfl rfl (.bool _) rfl (Ay rfl rfl (Ad rfl rfl (Cg rfl rfl rfl (A3 rfl rfl (.bool _) rfl ?_)))))))))
 refine Ay rfl rfl (Ad rfl rfl (Cg rfl rfl rfl (A3 rfl rfl (.bool _) rfl (Ay rfl rfl (Ad rfl rfl (Cg rfl rfl rfl (A3 rfl rfl (.bool _) rfl (Ay rfl rfl (Ad rfl rfl ?_)))))))))
 refine Cg rfl rfl rfl (A3 rfl rfl (.bool _) rfl (Ay rfl rfl (Ak rfl rfl (Be rfl Dq rfl (Cg rfl rfl rfl (A3 rfl rfl (.bool _) rfl (Ay rfl rfl (Ad rfl rfl (Cg rfl rfl rfl ?_)))))))))
 refine A3 rfl rfl (.bool _) rfl (Ay rfl rfl (Ad rfl rfl (Cg rfl rfl rfl (A3 rfl rfl (.bool _) rfl (Ay rfl rfl (Ad rfl rfl (Cg rfl rfl rfl (A3 rfl rfl (.bool _) rfl (Ay rfl rfl ?_)))))))))
 refine Ad rfl rfl (Cg rfl rfl rfl (A3 rfl rfl (.bool _) rfl (Ai rfl rfl (Ab (Aa (A9 (AC (v:=(.bool _)) rfl rfl rfl ?_)))))))
 exact ⟨rfl,hx0.trans H.ext⟩
end Go.Proofs.YtapphbmlkdhnmaaGreat

/- A round with anything of it turned is not right. -/
namespace Go.Proofs.YtapphbmlkdhnmaaGreat
open Go.GV

end Go.Proofs.YtapphbmlkdhnmaaGreat

/- A copy of a net; the law of turned rounds. -/
namespace Go.Proofs.YtapphbmlkdhnmaaGreat
open Go.GV
attribute [local irreducible] A1 W Wq Wt

end Go.Proofs.YtapphbmlkdhnmaaGreat
