/- Part 8 of the proof. -/
import Derived.Test.YtibemkominehdaaGreatPart2
import Derived.Test.YtibemkominehdaaGreatPart7
import Derived.Test.YtibemkominehdaaGreatPart3
import Derived.Test.YtibemkominehdaaGreatRows
namespace Go.Proofs.YtibemkominehdaaGreat
open Go.GV
attribute [local irreducible] Al W Wq Wt
abbrev Ce (k:Nat × Nat):List Value:=[.int .u32 (k.1:Int),.int .u64 (k.2:Int)]
abbrev BD (x:As):Nat × Nat:=(x.c,x.n)
def Gb (ls:List As):List ((Nat × Nat) × Value):=ls.map fun x=>(BD x,.agg (asC x).toArray)
def IK (ls:List As):List Value:=(ls.map BD).flatMap Ce
def C0 (ls:List As) (k:Nat × Nat):Option As:=ls.find? fun x=>decide (BD x=k)
def IF (ls:List As) (x:As):List As:=if ls.length<32 then ls++[x] else (ls++[x]).drop 1
theorem Nu (ls:List As) (k:Nat × Nat):D8 (Gb ls) k=(C0 ls k).map fun x => .agg (asC x).toArray:=by
 unfold D8 Gb C0
 induction ls with
 | nil=>rfl
 | cons x ls ih =>
  rw [List.map_cons,List.find?_cons,List.find?_cons]
  by_cases h:BD x=k
  ·rw [decide_eq_true h]; rfl
  ·rw [decide_eq_false h]; exact ih
theorem Ud (ls:List As) (x:As):Gb (ls++[x])=Gb ls++[(BD x,.agg (asC x).toArray)]:=by
 unfold Gb;rw [List.map_append];rfl
theorem Ue (x:As) (ls:List As):Kh (Gb (x::ls)) (BD x)=Gb ls:=by
 show (if BD x=BD x then Gb ls else _)=_;rw [if_pos rfl]
theorem Uf (ls:List As) (x:As):IK (ls++[x])=IK ls++Ce (BD x):=by
 unfold IK;rw [List.map_append,List.flatMap_append];rfl
theorem keyW:KeyOk Tryz.prog 99 [true,true] Ce where
 plain:=by kernel_rfl
 like:=fun _ _=>⟨rfl,rfl,trivial⟩
 inj:=fun x y h=>by
  obtain ⟨a,b⟩:=x;obtain ⟨c,d⟩:=y;simp only [Ce,List.cons.injEq,Value.int.injEq,true_and,and_true] at h;rw [Prod.mk.injEq];omega
def BIn (bs:List (Nat × Obj)) (a:Option Addr) (c:Nat) (l:List UInt8):Prop:=∃ full,OS a l.length c 1 full (l.map bv)∧∀ x∈ent a 5 full,x∈bs
theorem BIn.mono {bs bs':List (Nat × Obj)} {a:Option Addr} {c:Nat} {l:List UInt8} (h:BIn bs a c l) (hs:∀ x∈bs,x∈bs'):BIn bs' a c l:=by
 obtain ⟨f,O,hb⟩:=h;exact ⟨f,O,fun x hx=>hs x (hb x hx)⟩
theorem BIn.rd {w:World} {bs:List (Nat × Obj)} {a:Option Addr} {c:Nat} {l:List UInt8} (h:BIn bs a c l) (hb:∀ x∈bs,w.heap[x.1]? = some x.2):Rd w a 1 B8 l∧l.length≤c:=by
 obtain ⟨f,O,hs⟩:=h;exact ⟨OS.rdB O fun x hx=>hb x (hs x hx),O.le⟩
abbrev Fc (bl bm:Nat) (a:Option Addr) (n c:Nat):List Value:=[ptr bl,.map (some bm),.slice a n c]
abbrev F8 (bk bl bm:Nat) (o:Obj) (a:Option Addr) (n c:Nat) (full:List Value):List (Nat × Obj):=(bk,Bl 93 (Fc bl bm a n c))::(bm,o)::ent a 99 full
structure DkL (bk bl:Nat) (w0 w:World) (E:List (Nat × Obj)) (m:Lm) (s:Ld) (T:Nat→Prop) (ls:List As) (bm:Nat) (o:Obj) (a:Option Addr) (oo c:Nat) (full:List Value) (bs:List (Nat × Obj)):Prop where
 L:Led bl w0 w (F8 bk bl bm o a ls.length c full++(bs++E)) m s T
 M:IH Ce (Gb ls) o
 O:OSo a oo ls.length c 2 full (IK ls)
 lie:∀ x∈ls,(BIn bs x.aA x.cA x.ask∧BIn bs x.aR x.cR x.rep)∧(x.ask.length≤1000∧x.rep.length≤1000)
 tur:∀ x∈F8 bk bl bm o a ls.length c full,T x.1
 few:ls.length≤32
def Dk (bk bl:Nat) (w0 w:World) (E:List (Nat × Obj)) (m:Lm) (s:Ld) (T:Nat→Prop) (ls:List As):Prop:=∃ bm o a oo c full bs,DkL bk bl w0 w E m s T ls bm o a oo c full bs
theorem Led.turnB {bl:Nat} {w0 w w':World} {B B' R:List (Nat × Obj)} {m:Lm} {s:Ld} {T:Nat→Prop} (L:Led bl w0 w (B++R) m s T) (hT:∀ x∈B,T x.1) (H:Ctx w (B.map (·.1)) w' B'):Led bl w0 w' (B'++R) m s (fun x=>T x∨x∈B'.map (·.1)):=by
 have hold:∀ x∈B'.map (·.1),T x∨w.heap.size≤x:=fun x hx=>by
  obtain ⟨y,hy,rfl⟩:=List.mem_map.1 hx
  rcases H.own y hy with h | h
  ·obtain ⟨z,hz,hzy⟩:=List.mem_map.1 h;exact .inl (hzy ▸ hT z hz)
  ·exact .inr h
 refine ⟨?_,L.I.grow H.ext (fun x hx=>?_) ⟨fun x hx => .inl hx,fun x hx=>hx.elim .inl (hold x)⟩ fun x hx=>hx.elim (fun h=>Nat.lt_of_lt_of_le (L.I.low x h) H.size) fun h=>?_,L.e⟩
 ·have h1:=Ctx.back (L1:=B) (L2:=R++LL m s) (by have h:=L.H; rw [List.append_assoc] at h; exact h) H;rw [List.append_assoc];exact h1
 ·obtain ⟨y,hy,rfl⟩:=List.mem_map.1 hx;exact .inl (hT y hy)
 ·obtain ⟨y,hy,rfl⟩:=List.mem_map.1 h;exact Bq (H.blk y hy)
theorem Vc {k:Ak} (hin:AkIn k) (h:k.kd=1∨k.kd=2∨k.kd=12):∃ f,DoFn k f:=by
 rcases h with h | h | h
 ·exact ⟨_,by rw [h]; rfl,ca_53,fun w I H=>TV h hin w I H⟩
 ·exact ⟨_,by rw [h]; rfl,ca_54,fun w I H=>TP h hin w I H⟩
 ·exact ⟨_,by rw [h]; rfl,ca_63,fun w I H=>TT h hin w I H⟩
theorem Vd {bl:Nat} {w0 w:World} {B:List (Nat × Obj)} {m:Lm} {s:Ld} {T:Nat→Prop} {k:Ak} (L:Led bl w0 w B m s T) (hin:AkIn k) (h:k.kd=1∨k.kd=2∨k.kd=12) :
  Ret Tryz.prog 33 #[ptr bl,.agg (BW k).toArray] w fun v w'=>∃ a n c full p s' m' T',v = .agg #[.int .i64 p.e,.slice a n c]∧OS a n c 1 full (p.n.map Eb)∧CV s k s' p∧Led bl w0 w' (ent a 2 full++B) m' s' T'∧Grows T T' w∧Ext (DA m s) w w':=by
 obtain ⟨H,I,e⟩:=L;subst e;refine Ret.mono (Xe hin (fun _ _=>Vc hin h) w I (Ctx.lend (L1:=LL m s) H.comm)) fun v w' h=>?_;obtain ⟨a,n,c,full,p,s',m',T',rfl,O,hst,H7,I7,g,hb⟩:=h;exact ⟨a,n,c,full,p,s',m',T',rfl,O,hst,⟨Ctx.did H H7,I7,hb⟩,g,H7.ext⟩
end Go.Proofs.YtibemkominehdaaGreat
namespace Go.Proofs.YtibemkominehdaaGreat
open Go.GV
attribute [local irreducible] Al W Wq Wt
structure Cpy (x y:As) (B:List (Nat × Obj)):Prop where
 c:y.c=x.c
 n:y.n=x.n
 ask:y.ask=x.ask
 rep:y.rep=x.rep
 lie:∃ fA fR,B=ent y.aA 5 fA++ent y.aR 5 fR∧OS y.aA y.ask.length y.cA 1 fA (y.ask.map bv)∧OS y.aR y.rep.length y.cR 1 fR (y.rep.map bv)
theorem Cpy.bin {x y:As} {B:List (Nat × Obj)} (h:Cpy x y B):BIn B y.aA y.cA y.ask∧BIn B y.aR y.cR y.rep:=by
 obtain ⟨fA,fR,rfl,OA,OR⟩:=h.lie;exact ⟨⟨fA,OA,fun z hz=>List.mem_append_left _ hz⟩,⟨fR,OR,fun z hz=>List.mem_append_right _ hz⟩⟩
abbrev who1:List Value:=[.int .u32 0,.int .u64 0]
abbrev as0:Value := .agg #[.int .u32 0,.int .u64 0,.slice none 0 0,.slice none 0 0]
def KpJ (w1:World) (S:List Nat) (L0:List (Nat × Obj)) (bm:Nat) (o:Obj) (a:Option Addr) (full:List Value) (ls:List As) (x:As):Nat→Env→World→Prop
 | 0,_,w'=>Ctx w1 S w' (L0++[(bm,o)]++ent a 99 full)
 | 1,e,w'=>∃ y B,Cpy x y B∧e.g 17 = .agg (asC y).toArray∧Ctx w1 S w' (B++(L0++[(bm,o)])++ent a 99 full)
 | 2,e,w'=>∃ y B a' oo' c' full',Cpy x y B∧e.g 17 = .agg (asC y).toArray∧e.g 24 = .slice a' (ls.length+1) c'∧OSo a' oo' (ls.length+1) c' 2 full' (IK ls++Ce (BD x))∧Ctx w1 S w' (B++(L0++[(bm,o)])++ent a' 99 full')
 | 3,e,w'=>∃ y B a' oo' c' full' st oE,Cpy x y B∧e.g 17 = .agg (asC y).toArray∧e.g 24 = .slice a' (ls.length+1) c'∧OSo a' oo' (ls.length+1) c' 2 full' (IK ls++Ce (BD x))∧e.g 25 = .tuple #[as0,.int .i64 st]∧EntK Ce (BD x) st (Gb ls) oE∧Ctx w1 S w' (B++(L0++[(bm,oE)])++ent a' 99 full')
 | 4,e,w'=>∃ y B a' oo' c' full' st oE,Cpy x y B∧e.g 17 = .agg (asC y).toArray∧e.g 24 = .slice a' (ls.length+1) c'∧OSo a' oo' (ls.length+1) c' 2 full' (IK ls++Ce (BD x))∧e.g 26 = .int .i64 st∧EntK Ce (BD x) st (Gb ls) oE∧Ctx w1 S w' (B++(L0++[(bm,oE)])++ent a' 99 full')
 | _,e,w'=>∃ y B a' oo' c' full' o',Cpy x y B∧e.g 24 = .slice a' (ls.length+1) c'∧OSo a' oo' (ls.length+1) c' 2 full' (IK ls++Ce (BD x))∧IH Ce (Gb ls++[(BD x,.agg (asC y).toArray)]) o'∧Ctx w1 S w' (B++(L0++[(bm,o')])++ent a' 99 full')
theorem Ve {w1:World} {S:List Nat} {L0:List (Nat × Obj)} {bm:Nat} {o:Obj} {a:Option Addr} {full:List Value} {ls:List As} {x:As} (k i:Nat) (v:Value) (e:Env) (w w':World) (hi:i∉[7,14,15,16,17]) (h:KpJ w1 S L0 bm o a full ls x k e w) (hx:Ext [] w w'):KpJ w1 S L0 bm o a full ls x k (put e (some (10+i)) v) w':=by
 simp only [List.mem_cons,List.not_mem_nil,or_false,not_or] at hi;have h17:(put e (some (10+i)) v).g 17=e.g 17:=Cu fun h=>by (have h:(17:Nat)=10+i:=h; omega)
 have h24:(put e (some (10+i)) v).g 24=e.g 24:=Cu fun h=>by (have h:(24:Nat)=10+i:=h; omega)
 have h25:(put e (some (10+i)) v).g 25=e.g 25:=Cu fun h=>by (have h:(25:Nat)=10+i:=h; omega)
 have h26:(put e (some (10+i)) v).g 26=e.g 26:=Cu fun h=>by (have h:(26:Nat)=10+i:=h; omega)
 match k,h with
 | 0,h=>exact h.call hx
 | 1,⟨y,B,g1,g2,g3⟩=>exact ⟨y,B,g1,h17.trans g2,g3.call hx⟩
 | 2,⟨y,B,a',oo',c',full',g1,g2,g3,g4,g5⟩=>exact ⟨y,B,a',oo',c',full',g1,h17.trans g2,h24.trans g3,g4,g5.call hx⟩
 | 3,⟨y,B,a',oo',c',full',st,oE,g1,g2,g3,g4,g5,g6,g7⟩=>exact ⟨y,B,a',oo',c',full',st,oE,g1,h17.trans g2,h24.trans g3,g4,h25.trans g5,g6,g7.call hx⟩
 | 4,⟨y,B,a',oo',c',full',st,oE,g1,g2,g3,g4,g5,g6,g7⟩=>exact ⟨y,B,a',oo',c',full',st,oE,g1,h17.trans g2,h24.trans g3,g4,h26.trans g5,g6,g7.call hx⟩
 | k+5,⟨y,B,a',oo',c',full',o',g1,g3,g4,g6,g7⟩=>exact ⟨y,B,a',oo',c',full',o',g1,h24.trans g3,g4,g6,g7.call hx⟩
theorem Vf {w1:World} {S:List Nat} {L0:List (Nat × Obj)} {bm:Nat} {o:Obj} {a:Option Addr} {full:List Value} {ls:List As} {x:As} {k:Nat} {e:Env} {w:World} (h:KpJ w1 S L0 bm o a full ls x k e w):∀ z∈L0,w.heap[z.1]? = some z.2:=by
 match k,h with
 | 0,h=>exact fun z hz=>h.blk z (List.mem_append_left _ (List.mem_append_left _ hz))
 | 1,⟨y,B,g1,g2,g3⟩=>exact fun z hz=>g3.blk z (List.mem_append_left _ (List.mem_append_right _ (List.mem_append_left _ hz)))
 | 2,⟨y,B,a',oo',c',full',g1,g2,g3,g4,g5⟩=>exact fun z hz=>g5.blk z (List.mem_append_left _ (List.mem_append_right _ (List.mem_append_left _ hz)))
 | 3,⟨y,B,a',oo',c',full',st,oE,g1,g2,g3,g4,g5,g6,g7⟩=>exact fun z hz=>g7.blk z (List.mem_append_left _ (List.mem_append_right _ (List.mem_append_left _ hz)))
 | 4,⟨y,B,a',oo',c',full',st,oE,g1,g2,g3,g4,g5,g6,g7⟩=>exact fun z hz=>g7.blk z (List.mem_append_left _ (List.mem_append_right _ (List.mem_append_left _ hz)))
 | k+5,⟨y,B,a',oo',c',full',o',g1,g3,g4,g6,g7⟩=>exact fun z hz=>g7.blk z (List.mem_append_left _ (List.mem_append_right _ (List.mem_append_left _ hz)))
def Ra:Value→World→Prop:=fun _ _=>True
theorem Gc (S:List Nat):RU S Ra:=fun _ _ _ _ _=>trivial
theorem Ug {w0 w:World} {S:List Nat} {B L M R:List (Nat × Obj)} (H:Ctx w0 S w (B++(L++M)++R)):Ctx w0 S w ((B++L)++(M++R)):=by
 have h:(B++(L++M)++R)=((B++L)++(M++R)):=by simp only [List.append_assoc]
 rw [← h]; exact H
theorem PT {w0 w:World} {S:List Nat} {B L M R:List (Nat × Obj)} (H:Ctx w0 S w ((B++L)++(M++R))):Ctx w0 S w (B++(L++M)++R):=by
 have h:(B++(L++M)++R)=((B++L)++(M++R)):=by simp only [List.append_assoc]
 rw [h]; exact H
structure KpZ where
 a:Option Addr
 oo:Nat
 c:Nat
 full:List Value
 o:Obj
 y:As
 B:List (Nat × Obj)
theorem OSo.head {w:World} {b o n c s p:Nat} {full e l:List Value} {t:TypeId} (h:OSo (some ⟨b,o*s,none⟩) o n c s full (e++l)) (hb:w.heap[b]? = some (Bl t full)) (hp:p=o*s):∀ j v,e[j]? = some v→w.cell? ⟨b,p+j,none⟩=some v:=fun j v hv=>by
 rw [hp];exact h.cell hb (by rw [List.getElem?_append_left (List.getElem?_eq_some_iff.1 hv).1]; exact hv)
theorem Rb (x:As) (ls:List As):IK (x::ls)=Ce (BD x)++IK ls:=rfl
theorem Nv {bk bl:Nat} {w0 w1 w:World} {E:List (Nat × Obj)} {m:Lm} {s:Ld} {T:Nat→Prop} {ls:List As} {bm:Nat} {o:Obj} {a:Option Addr} {oo c:Nat} {full:List Value} {bs:List (Nat × Obj)} (D:DkL bk bl w0 w1 E m s T ls bm o a oo c full bs) {x y:As} {B:List (Nat × Obj)} {o9:Obj} {a9:Option Addr} {oo9 n9 c9:Nat} {full9:List Value} {ls9:List As}
  (H:Ctx w1 ((F8 bk bl bm o a ls.length c full).map (·.1)) w (F8 bk bl bm o9 a9 n9 c9 full9++B)) (hC:Cpy x y B) (hn:n9=ls9.length) (O:OSo a9 oo9 ls9.length c9 2 full9 (IK ls9)) (M:IH Ce (Gb ls9) o9)
  (hsub:∀ z∈ls9,z∈ls∨z=y) (hA:x.ask.length≤1000) (hR:x.rep.length≤1000) (hfew:ls9.length≤32:=by omega):∃ T',Dk bk bl w0 w E m s T' ls9∧Grows T T' w1:=by
 subst hn;have hL:=Led.turnB D.L D.tur H;refine ⟨fun z=>T z∨z∈(F8 bk bl bm o9 a9 ls9.length c9 full9++B).map (·.1),⟨bm,o9,a9,oo9,c9,full9,B++bs,⟨?_,M,O,fun z hz=>?_,fun z hz=>?_,hfew⟩⟩,⟨fun z hz => .inl hz,fun z hz=>hz.elim .inl fun hz=>?_⟩⟩
 ·have h:=hL;simp only [List.append_assoc] at h ⊢;exact h
 ·rcases hsub z hz with h | rfl
  ·obtain ⟨⟨h1,h2⟩,h3⟩:=D.lie z h;exact ⟨⟨h1.mono fun q hq=>List.mem_append_right _ hq,h2.mono fun q hq=>List.mem_append_right _ hq⟩,h3⟩
  ·obtain ⟨h1,h2⟩:=hC.bin;exact ⟨⟨h1.mono fun q hq=>List.mem_append_left _ hq,h2.mono fun q hq=>List.mem_append_left _ hq⟩,by rw [hC.ask]; exact hA,by rw [hC.rep]; exact hR⟩
 ·exact .inr (List.mem_map.2 ⟨z,List.mem_append_left _ hz,rfl⟩)
 ·obtain ⟨q,hq,rfl⟩:=List.mem_map.1 hz
  rcases H.own q hq with h | h
  ·obtain ⟨r,hr,hrq⟩:=List.mem_map.1 h;exact .inl (hrq ▸ D.tur r hr)
  ·exact .inr h
set_option maxRecDepth 20000 in
set_option maxHeartbeats 4000000 in
theorem Vg {bk bl:Nat} {w0 w:World} {E:List (Nat × Obj)} {m:Lm} {s:Ld} {T:Nat→Prop} {ls:List As} {bm:Nat} {o:Obj} {a:Option Addr} {oo c:Nat} {full:List Value} {bs:List (Nat × Obj)} (D:DkL bk bl w0 w E m s T ls bm o a oo c full bs) (x:As)
  (X:∀ w',Ext ((F8 bk bl bm o a ls.length c full).map (·.1)) w w'→AsR w' x) (hA:x.ask.length≤1000) (hR:x.rep.length≤1000) (hf:C0 ls (BD x)=none) :
  Ret Tryz.prog 34 #[ptr bk,.agg (asC x).toArray] w fun v w'=>v = .tuple #[]∧∃ T' y,y.c=x.c∧y.n=x.n∧y.ask=x.ask∧y.rep=x.rep∧Dk bk bl w0 w' E m s T' (IF ls y)∧Grows T T' w:=by
 obtain ⟨w1,rfl⟩:∃ z,z=w:=⟨_,rfl⟩;obtain ⟨S,hS⟩:∃ S,S=(F8 bk bl bm o a ls.length c full).map (·.1):=⟨_,rfl⟩
 have H:Ctx w1 S w1 (F8 bk bl bm o a ls.length c full):=by
  rw [hS];exact Ctx.lend (L1:=F8 bk bl bm o a ls.length c full) (L2:=(bs++E)++LL m s) (by have h:=D.L.H; rw [List.append_assoc] at h; exact h)
 rw [← hS] at X;have hSe:∀ z,z∈(ent a 99 full).map (·.1)→z∈S:=fun z hz=>by rw [hS]; exact List.mem_cons_of_mem _ (List.mem_cons_of_mem _ hz)
 have hSm:∀ z,z∈[bm]→z∈S:=fun z hz=>by rw [hS,List.mem_singleton.1 hz]; exact List.mem_cons_of_mem _ (List.mem_cons_self ..)
 have hw1:∀ z∈S,z<w1.heap.size:=fun z hz=>by
  rw [hS] at hz;obtain ⟨q,hq,rfl⟩:=List.mem_map.1 hz;exact Bq (H.blk q hq)
 have hnone:D8 (Gb ls) (BD x)=none:=by rw [Nu,hf]; rfl
 have hfew:=D.few;refine Au (fn:=Tryz.f34) Tryz.func34 U [ptr bk,.agg (asC x).toArray] U ?_;refine Ag (BK (asC x) (.agg _) U U H ?_);rintro b3 w - H;refine Ab (Aa (Ag (Ah UC U (AH Vo U H at0 U (Ah UD U (AH Bm U H at0 U (Bn (Ce (BD x)) S9 I9 ?_)))))));refine B5 I9 H ?_;rintro b4 w - H;refine BB DV U U U (by exact (by simp [AR])) H at0 U ?_;rintro w H;refine Ab (Aa ?_);replace H:Ctx w1 S w ([(b4,Bl 99 (Ce (BD x))),(b3,Bl 57 (asC x)),(bk,Bl 93 (Fc bl bm a ls.length c))]++[(bm,o)]++ent a 99 full):=H;have hsz:∀ q∈S,q<w.heap.size:=fun q hq=>Nat.lt_of_lt_of_le (hw1 q hq) H.size
 refine DN 536869888 (α:=KpZ) (fun _=>[]) (fun z w'=>Ctx w1 S w' (z.B++([(b4,Bl 99 (Ce (BD x))),(b3,Bl 57 (asC x))]++([(bk,Bl 93 (Fc bl bm z.a (ls.length+1) z.c)),(bm,z.o)]++ent z.a 99 z.full)))∧Cpy x z.y z.B∧OSo z.a z.oo (ls.length+1) z.c 2 z.full (IK ls++Ce (BD x))∧IH Ce (Gb ls++[(BD x,.agg (asC z.y).toArray)]) z.o) U ?_ ?_
 ·skip
  refine RV (n:=18) (N:=21) (anc:=ancT 18 [[],[0],[0,1],[0,1,2],[],[],[],[6],[],[8],[8,9],[8,9,10],[],[12],[6,7,8,9,10,11,12,13],[0,1,2,3,4,6,7,8,9,10,11,12,13,14],[0,1,2,3,4,6,7,8,9,10,11,12,13,14,15],[0,1,2,3,4,6,7,8,9,10,11,12,13,14,15,16]]) S (fun i=>if i=17 then 999 else 10+i) [isV (ptr bk),isV (ptr bk),isV (.pointer (some ⟨bk,0+1,none⟩)),isV (.map (some bm)),isV (.agg (Ce (BD x)).toArray),isV (ptr bk),isV (.agg (asC x).toArray),Ra,isV (ptr bk),isV (ptr bk),isV (.pointer (some ⟨bk,0+2,none⟩)),isV (.slice a ls.length c),isV (.agg (Ce (BD x)).toArray),nsV w 99 1 (Ce (BD x)),Ra,Ra,Ra,Ra] [7,14,15,16,17] (KpJ w1 S [(b4,Bl 99 (Ce (BD x))),(b3,Bl 57 (asC x)),(bk,Bl 93 (Fc bl bm a ls.length c))] bm o a full ls x) (show Tryz.prog.follows .mixedOrders=true by kernel_rfl) U (K9 _) (fun i j _ _ h=>by have h:(if i=17 then 999 else 10+i:Nat)=(if j=17 then 999 else 10+j:Nat):=h; split at h <;> split at h <;> omega) ⟨Dm _ _,Dm _ _,Dm _ _,Dm _ _,Dm _ _,Dm _ _,Dm _ _,Gc _,Dm _ _,Dm _ _,Dm _ _,Dm _ _,Dm _ _,U9 hsz _ _ _,Gc _,Gc _,Gc _,Gc _,trivial⟩ (fun k i v e w w' hi hic h hx=>by have h17:i≠17:=fun h=>hic (by rw [h]; decide); show KpJ _ _ _ _ _ _ _ _ _ _ (put e (some (if i=17 then 999 else 10+i)) v) w'; rw [if_neg h17]; exact Ve k i v e w w' hic h hx) H.drew ?_ ?_ ?_
  ·rintro q o' e' w' hq hic ho hold hg hx ⟨k,HJ⟩;have hin:∀ t:Nat,t<10→∀ j,j<18→t≠(fun i=>if i=17 then 999 else 10+i) j:=fun t ht j hj=>by dsimp only; split <;> omega
   have g0:e'.g 0=ptr bk:=(hold 0 (hin 0 (by decide))).trans rfl;have g3:e'.g 3=ptr b3:=(hold 3 (hin 3 (by decide))).trans rfl;have g4:e'.g 4=ptr b4:=(hold 4 (hin 4 (by decide))).trans rfl;have hJb:=Vf HJ;have hbk:=hJb (bk,_) (List.mem_cons_of_mem _ (List.mem_cons_of_mem _ (List.mem_cons_self ..)));have hb3:=hJb (b3,_) (List.mem_cons_of_mem _ (List.mem_cons_self ..));have hb4:=hJb (b4,_) (List.mem_cons_self ..);have hcs:q=0∨q=1∨q=2∨q=3∨q=4∨q=5∨q=6∨q=7∨q=8∨q=9∨q=10∨q=11∨q=12∨q=13∨q=14∨q=15∨q=16∨q=17:=by omega
   rcases hcs with rfl | rfl | rfl | rfl | rfl | rfl | rfl | rfl | rfl | rfl | rfl | rfl | rfl | rfl | rfl | rfl | rfl | rfl
   ·cases Option.some.inj ho;exact C3 U _ g0 (Ab ⟨_,.refl _ _,rfl,rfl⟩)
   ·cases Option.some.inj ho;exact Bb (hg 0 (by decide)) (Ab ⟨_,.refl _ _,rfl,rfl⟩)
   ·cases Option.some.inj ho;exact Ah (off:=1) (by kernel_rfl) (hg 1 (by decide)) (Ab ⟨_,.refl _ _,rfl,rfl⟩)
   ·cases Option.some.inj ho;exact BN Pk (hg 2 (by decide)) (show w'.cell? ⟨bk,0+1,none⟩=some (.map (some bm)) by rw [A6 hbk]; rfl) (Ab ⟨_,.refl _ _,rfl,rfl⟩)
   ·cases Option.some.inj ho;exact Em (Ce (BD x)) Iz DV g4 U (CB (b:=b4) (t:=99) (l:=Ce (BD x)) hb4 0 (Ce (BD x)) U) (Ab ⟨_,.refl _ _,rfl,rfl⟩)
   ·cases Option.some.inj ho;exact C3 U _ g0 (Ab ⟨_,.refl _ _,rfl,rfl⟩)
   ·cases Option.some.inj ho;exact Em (asC x) Se J4 g3 U (CB (b:=b3) (t:=57) (l:=asC x) hb3 0 (asC x) U) (Ab ⟨_,.refl _ _,rfl,rfl⟩)
   ·exact absurd (by decide) hic
   ·cases Option.some.inj ho;exact C3 U _ g0 (Ab ⟨_,.refl _ _,rfl,rfl⟩)
   ·cases Option.some.inj ho;exact Bb (hg 8 (by decide)) (Ab ⟨_,.refl _ _,rfl,rfl⟩)
   ·cases Option.some.inj ho;exact Ah (off:=2) (by kernel_rfl) (hg 9 (by decide)) (Ab ⟨_,.refl _ _,rfl,rfl⟩)
   ·cases Option.some.inj ho;exact BN MK (hg 10 (by decide)) (show w'.cell? ⟨bk,0+2,none⟩=some (.slice a ls.length c) by rw [A6 hbk]; rfl) (Ab ⟨_,.refl _ _,rfl,rfl⟩)
   ·cases Option.some.inj ho;exact Em (Ce (BD x)) Iz DV g4 U (CB (b:=b4) (t:=99) (l:=Ce (BD x)) hb4 0 (Ce (BD x)) U) (Ab ⟨_,.refl _ _,rfl,rfl⟩)
   ·cases Option.some.inj ho;refine Cn (Ce (BD x)) (.agg (Ce (BD x)).toArray) I4 DV I9 U (hg 12 (by decide)) U U (Ctx.start w' []) ?_;intro b13 w2 hb13 H13;exact Ab ⟨_,H13.ext,rfl,b13,rfl,H13.get at0,by rw [← hb13]; exact Nat.le_trans (Ext.drew [] w).size hx.size⟩
   ·exact absurd (by decide) hic
   ·exact absurd (by decide) hic
   ·exact absurd (by decide) hic
   ·exact absurd (by decide) hic
  ·intro k i o' e' w' hk ho hold hg hx HJ
   rcases k with _ | _ | _ | _ | _ | k
   ·cases hk;cases Option.some.inj ho;have HJ':Ctx w1 S w' ([(b4,Bl 99 (Ce (BD x))),(b3,Bl 57 (asC x)),(bk,Bl 93 (Fc bl bm a ls.length c))]++[(bm,o)]++ent a 99 full):=HJ;refine Ai Vx (TS x _ (X _ HJ'.ext)) ?_ ?_
    ·show [e'.g 16]=_;rw [show e'.g 16 = .agg (asC x).toArray from hg 6 (by decide)]
    ·rintro v w2 ⟨y,B,rfl,O⟩;have H5:=Ctx.back (L1:=[]) (L2:=[(b4,Bl 99 (Ce (BD x))),(b3,Bl 57 (asC x)),(bk,Bl 93 (Fc bl bm a ls.length c))]++[(bm,o)]++ent a 99 full) HJ' O.H;rw [← List.append_assoc] at H5;exact Ab ⟨_,O.H.ext.mono (by simp),rfl,trivial,y,B,⟨O.c,O.n,O.ask,O.rep,O.lie⟩,CG _ _ _,H5⟩
   ·cases hk;cases Option.some.inj ho;obtain ⟨y,B,g1,g2,g3⟩:=HJ;obtain ⟨b13,h13,hb13,-⟩:=hg 13 (by decide);have HL:=Ctx.lend (L1:=ent a 99 full) g3.comm;refine NS (L:=[]) U I4 I4 DV by_99 I9 U (hg 11 (by decide)) h13 HL D.O (new:=Ce (BD x)) U (by simp [AR]) (fun j v hv=>⟨_,rfl,by rw [Go.GV.add_none,Nat.zero_add,A6 hb13]; exact hv⟩) ?_;intro a' o9 c' full' w2 H2 O2;have H3:=(Ctx.back (L1:=ent a 99 full) g3.comm H2).comm;exact Ab ⟨_,H2.ext.mono hSe,rfl,trivial,y,B,a',o9,c',full',g1,(Cu (by decide)).trans g2,CG _ _ _,O2,H3⟩
   ·cases hk;cases Option.some.inj ho;obtain ⟨y,B,a',oo',c',full',g1,g2,g3,g4,g5⟩:=HJ;have G5:=Ug g5;refine L4 (BD x) (z:=as0) U keyW Pz SJ (hg 3 (by decide)) (hg 4 (by decide)) (Ctx.in' G5) at0 D.M hnone ?_;intro st oE w2 hE H2;have H3:=PT (Ctx.mid G5 H2);exact Ab ⟨_,H2.ext.mono hSm,rfl,trivial,y,B,a',oo',c',full',st,oE,g1,(Cu (by decide)).trans g2,(Cu (by decide)).trans g3,g4,CG _ _ _,hE,H3⟩
   ·cases hk;cases Option.some.inj ho;obtain ⟨y,B,a',oo',c',full',st,oE,g1,g2,g3,g4,g5,g6,g7⟩:=HJ;exact AO g5 U (Ab ⟨_,.refl _ _,rfl,trivial,y,B,a',oo',c',full',st,oE,g1,(Cu (by decide)).trans g2,(Cu (by decide)).trans g3,g4,CG _ _ _,g6,g7⟩)
   ·cases hk;cases Option.some.inj ho;obtain ⟨y,B,a',oo',c',full',st,oE,g1,g2,g3,g4,g5,g6,g7⟩:=HJ;have G7:=Ug g7;refine Jy (.agg (asC y).toArray) U (hg 3 (by decide)) g5 g2 (Ctx.in' G7) at0 g6 ?_;intro o9 w2 hM H2;have H3:=PT (Ctx.mid G7 H2);exact Ab ⟨e'.g 999,H2.ext.mono hSm,(Dy U).symm,trivial,y,B,a',oo',c',full',o9,g1,g3,g4,hM,H3⟩
   ·simp at hk
  ·intro e' w' hds hold hg hx HJ;obtain ⟨y,B,a',oo',c',full',o9,g1,g3,g4,hM,g7⟩:=HJ
   have G7:Ctx w1 S w' ((B++[(b4,Bl 99 (Ce (BD x))),(b3,Bl 57 (asC x))])++([(bk,Bl 93 (Fc bl bm a ls.length c))]++([(bm,o9)]++ent a' 99 full'))):=by
    have h:=g7;simp only [List.append_assoc,List.cons_append,List.nil_append] at h ⊢;exact h
   refine Bb (hg 5 (by decide)) ?_;refine Ah (off:=2) (by kernel_rfl) (CG _ _ _) ?_;refine Ck (.slice a' (ls.length+1) c') V4 (CG _ _ _) (((Cu (by decide)).trans (Cu (by decide))).trans g3) U (Ctx.in' G7) at0 (by show 0+2<3; decide) fun w4 H8=>Ab ?_;refine ⟨⟨a',oo',c',full',o9,y,B⟩,hds,trivial,?_,g1,g4,hM⟩;have H9:=Ctx.mid G7 H8;simp only [List.append_assoc,List.cons_append,List.nil_append] at H9 ⊢;exact H9
 ·rintro ⟨a9,oo9,c9,full9,o9,y,B⟩ j2 w ⟨H,hC,O,M⟩; dsimp only at H hC O M; (try dsimp only);have hcE:BD y=BD x:=by unfold BD; rw [hC.c,hC.n]
  have G0:Ctx w1 S w (([(b4,Bl 99 (Ce (BD x))),(b3,Bl 57 (asC x))]++((bk,Bl 93 (Fc bl bm a9 (ls.length+1) c9))::(bm,o9)::ent a9 99 full9))++B):=by
   have h:=H.comm;simp only [List.cons_append,List.nil_append] at h ⊢;exact h
  replace H:Ctx w1 S w ((b4,Bl 99 (Ce (BD x)))::(b3,Bl 57 (asC x))::(bk,Bl 93 (Fc bl bm a9 (ls.length+1) c9))::(bm,o9)::(ent a9 99 full9++B)):=by
   have h:=G0;simp only [List.cons_append,List.nil_append] at h ⊢;exact h
  clear G0;rw [← hcE,← Uf] at O;rw [← hcE,← Ud] at M;have hlen:(ls++[y]).length=ls.length+1:=List.length_append ..;refine Ag (AA U (Bb U (Ah Hc U (AH MK U H at2 U (Bp I4 U (CP U U (Ab (Aa (Ay _ U ?_ ?_)))))))))
  ·intro h1;replace h1:=AX h1;have hl32:ls.length=32:=by omega
   obtain ⟨x0,ls',rfl⟩:∃ x0 ls',ls=x0::ls':=by
    cases ls with
    | nil=>exact absurd hl32 (by decide)
    | cons a l=>exact ⟨a,l,rfl⟩
   obtain ⟨ba,rfl⟩:∃ ba,a9=some ⟨ba,oo9*2,none⟩:=by
    cases a9 with
    | none=>exact absurd (O.none' rfl).1 (by have:=O.le; omega)
    | some p=>exact ⟨p.block,by rw [← O.pos p rfl]⟩
   have hc9:33≤c9:=by have:=O.le; omega
   refine El 10 Bz U U ?_;refine E7 U (Cq U (BG LB U (DS Pk U (by rintro _ rfl; exact H.drew) at2 U ?_)));refine E7 U (Cq U (BG Hc U (DS MK U (by rintro _ rfl; exact H.drew) at2 U ?_)));refine Bc I4 DV U U ?_;refine Gy _ U Iz DV U U (by rintro _ rfl; exact ((OSo.head (by have h:=O; rw [List.cons_append,Rb] at h; exact h) (H.drew.get at4) (by simp)))) ?_;refine BZ ?_;replace H:=H.drew;refine NR (BD x0) U keyW Pz U U H at3 M ?_;rintro o10 w hM10 H;refine Ab (Aa (A5 (AA U (AA U (Bb U (Ah Hc U (AH MK U H at2 U (Mw U I4 DV U U ?_))))))));refine Bb U (Ah Hc U (Ck (.slice _ _ _) V4 U U U H at2 (by (simp; done)) ?_));rintro w H;refine Ab (CW U U ?_);rw [List.cons_append,Ue] at hM10
   have hcut:Jp (some ⟨ba,oo9*2,none⟩) c9 1 2=some ⟨ba,oo9*2+1*2,none⟩:=by
    unfold Jp;rw [if_neg (by omega)];simp [Go.GV.add_none]
   have O9:=OSo.cut (n:=(x0::ls').length) O (by omega);rw [hcut] at O9;have h32:(ls'++[y]).length=32:=by rw [List.length_append]; exact hl32
   obtain ⟨T',h1,h2⟩:=Nv (ls9:=ls'++[y]) (B:=B) (oo9:=oo9+1) (c9:=c9 - 1) (n9:=(x0::ls').length) (a9:=some ⟨ba,oo9*2+1*2,none⟩) (full9:=full9) (o9:=o10) D (by rw [← hS]; have h:=H.tail.tail; rw [show Int.toNat 1=1 from rfl,hcut] at h; exact h) hC (by rw [h32]; exact hl32) (by rw [h32,← hl32]; exact O9) hM10 (fun z hz=>(List.mem_append.1 hz).elim (fun h => .inl (List.mem_cons_of_mem _ h)) fun h => .inr (List.mem_singleton.1 h)) hA hR;refine ⟨rfl,T',y,hC.c,hC.n,hC.ask,hC.rep,?_,h2⟩;rw [IF,if_neg (by omega)];exact h1
  ·intro h1;replace h1:=AY h1;refine A2 (CW U U ?_);obtain ⟨T',h2,h3⟩:=Nv (ls9:=ls++[y]) D (by rw [← hS]; exact H.tail.tail) hC hlen.symm (by rw [hlen]; exact O) M (fun z hz=>(List.mem_append.1 hz).elim .inl fun h => .inr (List.mem_singleton.1 h)) hA hR;refine ⟨rfl,T',y,hC.c,hC.n,hC.ask,hC.rep,?_,h3⟩;rw [IF,if_pos (by omega)];exact h2
end Go.Proofs.YtibemkominehdaaGreat
namespace Go.Proofs.YtibemkominehdaaGreat
open Go.GV
attribute [local irreducible] Al W Wq Wt
theorem Xf {w:World} (a b:Option Addr) (c d n m:Nat) (x y:List UInt8) (Rx:Rd w a 1 B8 x) (Ry:Rd w b 1 B8 y) (hn:x.length=n) (hm:y.length=m) :
  Ret Tryz.prog 31 #[.slice a n c,.slice b m d] w fun v w'=>v = .bool (decide (x=y))∧w=w':=by
 subst hn hm;refine Au (fn:=Tryz.f31) Tryz.func31 U [.slice a x.length c,.slice b y.length d] U ?_;refine Ag (Am U (Ab (Aa (Ag (An U U (E8 (l:=x) BQ Er LG U Rx ?_))))));refine An U U (E8 (l:=y) BQ Er LG U Ry ?_);refine Jv (l:=x) (m:=y) U U U ?_;refine Am U (Ab (Aa (A9 (AD (v:=(.bool _)) U U U ?_))));exact ⟨rfl,rfl⟩
theorem Uh {n:Nat} (h:n<18446744073709551616):I64 (sgN 9223372036854775808 n):=by
 unfold sgN I64
 split <;> omega
theorem Vh (l:List UInt8):AkIn (D5 l):=by
 have h1:=fld1 l 12;have h2:=fld1 l 13;have h3:=OE (CI l 14 2) (QH l 14);have h4:=Uh (QI l 16);have h5:=QH l 24;have h6:=Uh (QI l 26);have h7:=QI l 34;unfold I64 at h4 h6;refine ⟨?_,?_,?_,?_,?_,?_,?_⟩ <;> (unfold D5; dsimp only) <;> (try unfold I64) <;> omega
theorem OH {l:List UInt8} (h:Cz l=true):gaK l=D5 l∧gaE l=0∧gaC l=CI l 0 4∧gaN l=CI l 4 8:=by
 unfold gaK gaE gaC gaN;rw [h];exact ⟨rfl,rfl,rfl,rfl⟩
theorem Ui {l:List UInt8} (h:Cz l=false):gaE l=5:=by
 unfold gaE;rw [h];rfl
theorem Nw {l:List Int} {e:Int} (he:0≤e∧e≤255) (hl:l.length≤29):(0≤(rp l e).e∧(rp l e).e≤255)∧(rp l e).n.length≤29:=by
 unfold rp
 split
 ·exact ⟨by dsimp only; omega,hl⟩
 ·exact ⟨he,by dsimp only; rw [List.length_nil]; omega⟩
theorem OI {s s':Ld} {k:Ak} {p:Rp} (h:CV s k s' p) (hk:k.kd=1∨k.kd=2∨k.kd=12):(0≤p.e∧p.e≤255)∧p.n.length≤29:=by
 obtain ⟨-,rfl⟩:=Hr h (by omega);unfold Mf
 rcases hk with hk | hk | hk
 ·rw [if_pos hk];exact Nw (by split <;> omega) (by simp)
 ·rw [if_neg (by omega),if_pos hk];refine Nw ?_ (by simp [JO]);unfold Dd
  repeat' split
  all_goals omega
 ·rw [if_neg (by omega),if_neg (by omega),if_neg (by omega),if_neg (by omega),if_neg (by omega),if_neg (by omega),if_neg (by omega),if_neg (by omega),if_neg (by omega),if_pos hk]
  split
  ·exact ⟨by dsimp only; omega,by simp [JO]⟩
  ·exact ⟨by dsimp only; omega,by simp⟩
def EE (s:Ld) (ls:List As) (l:List UInt8) (s':Ld) (ls':List As) (r:List UInt8):Prop :=
 if Cz l=false then s'=s∧ls'=ls∧r=Ef 0 0 5 []
 else match C0 ls (gaC l,gaN l) with
  | some x=>s'=s∧ls'=ls∧r=if x.ask=l then x.rep else Ef (gaC l) (gaN l) 15 []
  | none=>∃ p y,CV s (D5 l) s' p∧r=Ef (gaC l) (gaN l) p.e p.n∧y.c=gaC l∧y.n=gaN l∧y.ask=l∧y.rep=r∧ls'=IF ls y
theorem Led.right {bl:Nat} {w0 w:World} {X B:List (Nat × Obj)} {m:Lm} {s:Ld} {T:Nat→Prop} (L:Led bl w0 w (X++B) m s T):Led bl w0 w B m s T:=⟨by have h:=L.H; rw [List.append_assoc] at h; exact h.right,L.I,L.e⟩
theorem Led.in2 {bl:Nat} {w0 w:World} {F D R E:List (Nat × Obj)} {m:Lm} {s:Ld} {T:Nat→Prop} (L:Led bl w0 w (F++(D++(R++E))) m s T):Led bl w0 w (D++(R++(F++E))) m s T:=by
 refine ⟨L.H.perm ?_,L.I,L.e⟩;refine List.Perm.append_right _ ?_;refine List.perm_append_comm.trans ?_;rw [List.append_assoc,List.append_assoc];exact List.Perm.append_left _ (List.Perm.append_left _ List.perm_append_comm)
theorem DkL.next {bk bl:Nat} {w0 w w':World} {E F:List (Nat × Obj)} {m:Lm} {s:Ld} {T:Nat→Prop} {ls:List As} {bm:Nat} {o:Obj} {a:Option Addr} {oo c:Nat} {full:List Value} {bs:List (Nat × Obj)} (D:DkL bk bl w0 w E m s T ls bm o a oo c full bs) (H:Ctx w [] w' F):DkL bk bl w0 w' (F++E) m s T ls bm o a oo c full bs :=
 ⟨(D.L.next H).in2,D.M,D.O,D.lie,D.tur,D.few⟩
theorem DkL.call {bk bl:Nat} {w0 w w':World} {E:List (Nat × Obj)} {m:Lm} {s:Ld} {T:Nat→Prop} {ls:List As} {bm:Nat} {o:Obj} {a:Option Addr} {oo c:Nat} {full:List Value} {bs:List (Nat × Obj)} (D:DkL bk bl w0 w E m s T ls bm o a oo c full bs) (hx:Ext [] w w'):DkL bk bl w0 w' E m s T ls bm o a oo c full bs :=
 ⟨D.L.call hx,D.M,D.O,D.lie,D.tur,D.few⟩
theorem DkL.own {bk bl:Nat} {w0 w:World} {E:List (Nat × Obj)} {m:Lm} {s:Ld} {T:Nat→Prop} {ls:List As} {bm:Nat} {o:Obj} {a:Option Addr} {oo c:Nat} {full:List Value} {bs:List (Nat × Obj)} (D:DkL bk bl w0 w E m s T ls bm o a oo c full bs):∀ x∈F8 bk bl bm o a ls.length c full++(bs++E),w.heap[x.1]? = some x.2 :=
 fun x hx=>D.L.H.blk x (List.mem_append_left _ hx)
theorem Led.offB {bl:Nat} {w0 w w':World} {B R:List (Nat × Obj)} {m:Lm} {s:Ld} {T:Nat→Prop} (L:Led bl w0 w (B++R) m s T) (hx:Ext (B.map (·.1)) w w'):∀ x∈R,w'.heap[x.1]? = some x.2:=fun x h=>by
 have H:=L.H;rw [List.append_assoc] at H;refine hx.to (H.blk x (List.mem_append_right _ (List.mem_append_left _ h))) fun hm=>?_;obtain ⟨y,hy,hyx⟩:=List.mem_map.1 hm;exact (List.pairwise_append.1 H.nd).2.2 y hy x (List.mem_append_left _ h) hyx
abbrev asZ:As:=⟨0,0,[],[],none,0,none,0⟩
theorem Nx (ls:List As) (k:Nat × Nat):(D8 (Gb ls) k).getD as0 = .agg (asC ((C0 ls k).getD asZ)).toArray∧(D8 (Gb ls) k).isSome=(C0 ls k).isSome:=by
 rw [Nu]
 cases C0 ls k with
 | none=>exact ⟨rfl,rfl⟩
 | some x=>exact ⟨rfl,rfl⟩
theorem Ny {ls:List As} {k:Nat × Nat} {x:As} (h:C0 ls k=some x):x∈ls∧BD x=k:=by
 unfold C0 at h;have h2:=List.find?_some (p:=fun x=>decide (BD x=k)) h;exact ⟨List.mem_of_find?_eq_some h,of_decide_eq_true h2⟩
def PU (bk bl:Nat) (w0 w w':World) (E:List (Nat × Obj)) (s:Ld) (T:Nat→Prop) (ls:List As) (l:List UInt8) (v:Value):Prop :=
 ∃ r a c full m' s' T' ls',v = .slice a r.length c∧OS a r.length c 1 full (r.map bv)∧EE s ls l s' ls' r∧Dk bk bl w0 w' (ent a 5 full++E) m' s' T' ls'∧Grows T T' w
theorem CJ {w w':World} {v:Value} {r:List UInt8} (F:Fresh w w' 5 1 v (r.map bv)):∃ a c full,v = .slice a r.length c∧OS a r.length c 1 full (r.map bv)∧Ctx w [] w' (ent a 5 full):=by
 obtain ⟨a,n,c,full,rfl,O,h⟩:=F.ex;obtain rfl:n=r.length:=by have:=O.llen; rw [List.length_map] at this; omega
 exact ⟨a,c,full,rfl,O,by have:=(Ctx.start w []).callEnt F.ext h DO; rw [List.nil_append] at this; exact this⟩
theorem DkL.fin {bk bl:Nat} {w0 w1 w w':World} {E:List (Nat × Obj)} {m:Lm} {s:Ld} {T:Nat→Prop} {ls:List As} {bm:Nat} {o:Obj} {a:Option Addr} {oo c:Nat} {full:List Value} {bs:List (Nat × Obj)} (D:DkL bk bl w0 w1 E m s T ls bm o a oo c full bs) {l r:List UInt8} {a':Option Addr} {c':Nat} {full':List Value} (hx:Ext [] w1 w) (O:OS a' r.length c' 1 full' (r.map bv)) (H:Ctx w [] w' (ent a' 5 full')) (h:EE s ls l s ls r):PU bk bl w0 w1 w' E s T ls l (.slice a' r.length c') :=
 ⟨r,a',c',full',m,s,T,ls,rfl,O,h,⟨bm,o,a,oo,c,full,bs,(D.call hx).next H⟩,Grows.refl _ _⟩
set_option maxRecDepth 20000 in
set_option maxHeartbeats 4000000 in
theorem Xg {bk bl:Nat} {w0 w:World} {E:List (Nat × Obj)} {m:Lm} {s:Ld} {T:Nat→Prop} {ls:List As} {bm:Nat} {o:Obj} {a:Option Addr} {oo c:Nat} {full:List Value} {bs:List (Nat × Obj)} (D:DkL bk bl w0 w E m s T ls bm o a oo c full bs) {ab:Option Addr} {cb:Nat} {l:List UInt8} (hB:BIn E ab cb l) (hl:l.length≤1000)
  (hk:Cz l=true→(D5 l).kd=1∨(D5 l).kd=2∨(D5 l).kd=12∨(C0 ls (gaC l,gaN l)).isSome=true) :
  Ret Tryz.prog 11 #[ptr bk,.slice ab l.length cb] w fun v w'=>PU bk bl w0 w w' E s T ls l v:=by
 obtain ⟨w1,rfl⟩:∃ z,z=w:=⟨_,rfl⟩;have H:=Ctx.start w1 [];have hbk:w1.heap[bk]? = some (Bl 93 (Fc bl bm a ls.length c)):=D.own (bk,_) (List.mem_cons_self ..);have hbm:w1.heap[bm]? = some o:=D.own (bm,_) (List.mem_cons_of_mem _ (List.mem_cons_self ..));have hE:∀ x∈E,w1.heap[x.1]? = some x.2:=fun x hx=>D.own x (List.mem_append_right _ (List.mem_append_right _ hx));obtain ⟨R0,hcb⟩:=hB.rd hE
 have hc4:gaC l<4294967296:=by
  unfold gaC;cases Cz l
  ·exact (by decide:0<4294967296)
  ·exact fld4 l 0
 have hn8:gaN l<18446744073709551616:=by
  unfold gaN;cases Cz l
  ·exact (by decide:0<18446744073709551616)
  ·exact QI l 4
 refine Au (fn:=Tryz.f11) Tryz.func11 U [ptr bk,.slice ab l.length cb] U ?_;refine Ag (Aj U (Ab (Aa (Ax (Ag (AA U (Cg P0 U ?_)))))));refine Ab (Aa (E5 U (A2 (Aa (Ag (An U U (Ai ca_29 (QP ab cb _ l _ (R0.ext0 H.ext) U hcb) U ?_)))))));rintro v w ⟨rfl,hx⟩;replace H:=H.call hx;refine C9 U (AO U U (AO U U (AO U U (AO U U (B5 G1 H ?_)))));rintro b7 w - H;refine Ae U (Ae U (BB F1 U U U (by exact (by simp [AR])) H at0 U ?_));rintro w H;refine Ae U (Ab (Aa (Ax (Ag (Ad U (CQ U U (Ab (Aa (Ay _ U ?_ ?_)))))))))
 ·intro h1;replace h1:=Dw h1
  have hno:Cz l=false:=by
   cases h:Cz l with
   | false=>rfl
   | true=>exact absurd (OH h).2.1 h1
  rw [Ui hno];refine Ag (Bn (Ce (0,0)) S9 I9 ?_);refine Bn [.int .i64 5,.slice none 0 0] KL FR ?_;have H5:=H;refine Ai Ss (Ij 0 0 5 none 0 0 [] _ .nil U (by decide) (by decide) (by decide) (by decide)) U ?_;rintro v w F;obtain ⟨a6,c6,f6,rfl,O6,H6⟩:=CJ F;refine Aj U (Ab (Aa (A9 (A7 (AD (v:=(.slice _ _ _)) U U U ?_)))));exact D.fin H5.ext O6 H6 (by unfold EE; rw [if_pos hno]; exact ⟨rfl,rfl,rfl⟩)
 ·intro h1;replace h1:=Dx h1
  have hyes:Cz l=true:=by
   cases h:Cz l with
   | true=>rfl
   | false=>exact absurd (Ui h) (by omega)
  obtain ⟨hK,hE0,-,-⟩:=OH hyes;have hg:=Nx ls (gaC l,gaN l);refine A2 (Aa (Ag (Ad U (Ad U (Bn (Ce (gaC l,gaN l)) S9 I9 ?_)))));refine B5 I9 H ?_;rintro b9 w - H;refine BB DV U U U (by exact (by simp [AR])) H at0 U ?_;rintro w H;refine Ab (Aa (Ax (BT [([0,1,2,3,4,5,6,7,8],9),([],10),([],11)] (fun z=>(Ext [] w1 z∧z.heap[b9]? = some (Bl 99 (Ce (gaC l,gaN l))))) [10,11] Bz (⟨H.drew.ext,H.drew.get at0⟩) ?_)));refine A0 U U ?_;refine Cw U (BF U (A8 LB U (BE Pk U (fun _ hx=>(by rw [A6 (hx.1.to hbk (by simp))]; rfl)) ?_)));refine Kz _ U Iz DV U U (fun _ hx=>(CB (b:=b9) (t:=99) (l:=Ce (gaC l,gaN l)) hx.2 0 (Ce (gaC l,gaN l)) rfl)) ?_;refine ME (gaC l,gaN l) U keyW Pz SJ U U (fun z hx=>hx.1.to hbm (by simp)) D.M ?_;rw [hg.1,hg.2];refine IQ U U (C8 U U (C8 U U (Ba ?_)));replace H:=H.drew;refine B5 MT H ?_;rintro b10 w - H
  refine Ab (B1 (⟨H.ext,H.get at1⟩) (A0 U U ?_));refine Ba (BB J4 U U U (by exact (by simp [AR])) H at0 U ?_);rintro w H;refine Ab (Bo U (A0 U U ?_));refine Ba (Am U (Ab (Bo U (B6 (Ag (Ap U (Ab (Aa (Ay _ U ?_ ?_)))))))))
  ·intro h2;obtain ⟨x,hf⟩:=Option.isSome_iff_exists.1 h2;rw [hf,Option.getD_some] at H;obtain ⟨⟨hxA,hxR⟩,hx1,hx2⟩:=D.lie x (Ny hf).1;have RA:=(hxA.rd (fun z hz=>D.own z (List.mem_append_right _ (List.mem_append_left _ hz)))).1;have RR:=(hxR.rd (fun z hz=>D.own z (List.mem_append_right _ (List.mem_append_left _ hz)))).1
   have hst:EE s ls l s ls (if x.ask=l then x.rep else Ef (gaC l) (gaN l) 15 []):=by
    unfold EE;rw [if_neg (by rw [hyes]; decide),hf];exact ⟨rfl,rfl,rfl⟩
   refine Ax (Ag (Ah L8 U (AH MH U H at0 U (An U U (Ai ca_31 (Xf x.aA ab x.cA cb _ _ x.ask l (RA.ext0 H.ext) (R0.ext0 H.ext) U U) U ?_)))));rintro v w ⟨rfl,rfl⟩;refine Ab (Aa (Ay _ U ?_ ?_))
   ·intro h3;refine Ag (Ah L9 U (AH MH U H at0 U ?_));have H5:=H;refine Ai Pm (Hp x.aR x.cR _ x.rep _ (RR.ext0 H.ext) U) U ?_;rintro v w ⟨F,-⟩;obtain ⟨a6,c6,f6,rfl,O6,H6⟩:=CJ F;refine Aj U (Ab (Aa (A9 (A7 (A7 (AD (v:=(.slice _ _ _)) U U U ?_))))));rw [if_pos (of_decide_eq_true h3)] at hst;exact D.fin H5.ext O6 H6 hst
   ·intro h3;refine A2 (Aa (Ag (DZ Iz DV U H at1 U (Bn [.int .i64 15,.slice none 0 0] KL FR ?_))));have H5:=H;refine Ai Ss (Ij (gaC l) (gaN l) 15 none 0 0 [] _ .nil U (by decide) (by decide) hc4 hn8) U ?_;rintro v w F;obtain ⟨a6,c6,f6,rfl,O6,H6⟩:=CJ F;refine Aj U (Ab (Aa (A9 (A7 (AD (v:=(.slice _ _ _)) U U U ?_)))));rw [if_neg (of_decide_eq_false h3)] at hst;exact D.fin H5.ext O6 H6 hst
  ·intro h2
   have hf:C0 ls (gaC l,gaN l)=none:=by
    cases h:C0 ls (gaC l,gaN l) with
    | none=>rfl
    | some x=>rw [h] at h2; cases h2
   have hkd:(D5 l).kd=1∨(D5 l).kd=2∨(D5 l).kd=12:=by
    rcases hk hyes with h | h | h | h
    ·exact .inl h
    ·exact .inr (.inl h)
    ·exact .inr (.inr h)
    ·rw [hf] at h; cases h
   rw [hf,hK] at H;replace H:Ctx w1 [] w [(b10,Bl 57 (asC asZ)),(b9,Bl 99 (Ce (gaC l,gaN l))),(b7,Bl 34 (BW (D5 l)))]:=H;refine A2 (Aa (BT [([0,1,2,3,4,5],6),([],7),([],8)] (fun z=>(z.heap[b9]? = some (Bl 99 (Ce (gaC l,gaN l)))∧z.heap[b7]? = some (Bl 34 (BW (D5 l)))∧z.heap[bk]? = some (Bl 93 (Fc bl bm a ls.length c)))) [] Bz (⟨H.drew.get at1,H.drew.get at2,H.drew.ext.to hbk (by simp)⟩) ?_));refine A0 U U ?_;refine Kz _ U Iz DV U U (fun _ hx=>(CB (b:=b9) (t:=99) (l:=Ce (gaC l,gaN l)) hx.1 0 (Ce (gaC l,gaN l)) rfl)) ?_;refine Cw U (BF U (A8 Py U (BE Vs U (fun _ hx=>(by rw [A6 hx.2.2]; rfl)) ?_)));refine Kz _ U Ix F1 U U (fun _ hx=>(CB (b:=b7) (t:=34) (l:=BW (D5 l)) hx.2.1 0 (BW (D5 l)) rfl)) ?_;refine Ba ?_;replace H:=H.drew;have Hb:=H;refine Ai ca_33 (Vd (D.L.next H) (Vh l) hkd) U ?_;rintro v w ⟨a2,n2,c2,full2,p,s2,m2,T2,rfl,O2,hst,L2,g2,hx2⟩
   have h9:w.heap[b9]? = some (Bl 99 (Ce (gaC l,gaN l))):=L2.H.blk (b9,_) (List.mem_append_left _ (List.mem_append_right _ (List.mem_append_left _ (List.mem_cons_of_mem _ (List.mem_cons_self ..)))));have h7:w.heap[b7]? = some (Bl 34 (BW (D5 l))):=L2.H.blk (b7,_) (List.mem_append_left _ (List.mem_append_right _ (List.mem_append_left _ (List.mem_cons_of_mem _ (List.mem_cons_of_mem _ (List.mem_cons_self ..))))));have hbk2:w.heap[bk]? = some (Bl 93 (Fc bl bm a ls.length c)):=L2.H.blk (bk,_) (List.mem_append_left _ (List.mem_append_right _ (List.mem_append_right _ (List.mem_cons_self ..))));obtain ⟨hpe,hpn⟩:=OI hst hkd;obtain rfl:n2=p.n.length:=by (have:=O2.llen; rw [List.length_map] at this; omega)
   have R2:Rd w a2 1 I1 p.n:=OS.rd1 (f:=Eb) (t:=2) O2 (fun y hy=>L2.H.blk y (List.mem_append_left _ (List.mem_append_left _ hy)));obtain ⟨r,hr⟩:∃ r,r=Ef (gaC l) (gaN l) p.e p.n:=⟨_,rfl⟩;have hrl:r.length≤1000:=by (rw [hr,JN]; omega)
   refine Ab (B1 (⟨h9,h7,hbk2⟩) (A0 U U ?_));refine Ba (Ai Ss (Ij (gaC l) (gaN l) p.e a2 _ c2 p.n _ R2 U hpn hpe hc4 hn8) U ?_);rintro v w F;rw [← hr] at F;obtain ⟨a6,c6,f6,rfl,O6,H6⟩:=CJ F;have D3:DkL bk bl w0 w (ent a6 5 f6++E) m2 s2 T2 ls bm o a oo c full bs:=⟨(L2.right.right.next H6).in2,D.M,D.O,D.lie,fun z hz=>g2.1 _ (D.tur z hz),D.few⟩;have hsz:w1.heap.size≤w.heap.size:=Nat.le_trans Hb.size (Nat.le_trans hx2.size H6.size);refine Ab (B1 (⟨H6.ext.to h9 (by simp),H6.ext.to h7 (by simp),H6.ext.to hbk2 (by simp)⟩) ?_);refine A0 U U ?_;refine Ba (Aj U (Ab (B1 (⟨H6.ext.to h9 (by simp),H6.ext.to h7 (by simp),H6.ext.to hbk2 (by simp)⟩) ?_)));refine B6 (Ag (AA U (Ad U (Ad U (An U U (An U U (Bn (asC ⟨gaC l,gaN l,l,r,ab,cb,a6,c6⟩) pl_57 MT ?_)))))))
   refine Ai ca_34 (Vg D3 ⟨gaC l,gaN l,l,r,ab,cb,a6,c6⟩ (fun w' hx=>⟨(hB.rd fun z hz=>D3.L.offB hx z (List.mem_append_right _ (List.mem_append_right _ hz))).1,OS.rdB O6 (fun z hz=>D3.L.offB hx z (List.mem_append_right _ (List.mem_append_left _ hz))),hcb,O6.le⟩) hl hrl hf) U ?_;rintro v w ⟨rfl,T3,y,hy1,hy2,hy3,hy4,K,g3⟩;refine Ab (Aa (Ag (An U U (Aj U (Ab (Aa (A9 (AD (v:=(.slice _ _ _)) U U U ?_))))))));refine ⟨r,a6,c6,f6,m2,s2,T3,IF ls y,rfl,O6,?_,K,((Grows.refl T w1).trans g2 Hb.size).trans g3 hsz⟩;unfold EE;rw [if_neg (by rw [hyes]; decide),hf];exact ⟨p,y,hst,hr,hy1,hy2,hy3,hy4,rfl⟩
end Go.Proofs.YtibemkominehdaaGreat
namespace Go.Proofs.YtibemkominehdaaGreat
open Go.GV
attribute [local irreducible] Al W Wq Wt
theorem Nz (w:World):Ret Tryz.prog 8 #[] w fun v w'=>∃ bk bl m T,v=ptr bk∧Dk bk bl w w' [] m s00 T []:=by
 obtain ⟨w1,rfl⟩:∃ z,z=w:=⟨_,rfl⟩;have H:=Ctx.start w1 [];refine Au (fn:=Tryz.f8) Tryz.func8 U [] U ?_;refine Ag (BV U (Ab (Aa (Ag (Ai ca_26 (Vb _) U ?_)))));rintro v w ⟨m,rfl,H2,I2⟩;clear H;obtain ⟨w2,hw2⟩:∃ z,z=w:=⟨_,rfl⟩;rw [← hw2] at H2 I2 ⊢;have L0:Led m.bl w1 w2 [] m s00 (fun x=>x∈DA m s00):=⟨H2,I2,rfl⟩;have H:=Ctx.start w2 [];refine MB Ce U H ?_;rintro b2 o2 w hM2 H;refine Bn [ptr m.bl,.map (some b2),.slice none 0 0] pl_93 zc_93 ?_;refine BK [ptr m.bl,.map (some b2),.slice none 0 0] (.agg _) U U H ?_;rintro b4 w - H;refine BV U (Ab (Aa (A9 (AD (v:=(.pointer _)) U U U ?_))));refine ⟨b4,m.bl,m,_,rfl,b2,o2,none,0,0,[],[],⟨L0.nextT H,hM2,OSo.nil,(fun x hx=>by cases hx),(fun x hx=>Or.inr (List.mem_map.2 ⟨x,hx,rfl⟩)),Nat.zero_le _⟩⟩
theorem Vi {α:Type} {enc:α→List Value} {s:Nat}:∀ {xs:List α} {i j:Nat} {x:α} {v:Value},(∀ x∈xs,(enc x).length=s)→xs[i]? = some x→(enc x)[j]? = some v→j<s→(xs.flatMap enc)[i*s+j]? = some v:=by
 intro xs
 induction xs with
 | nil=>intro i j x v _ hx; cases hx
 | cons y xs ih =>
  intro i j x v hs hx hv hj;rw [List.flatMap_cons];have hy:=hs y (List.mem_cons_self ..)
  cases i with
  | zero =>
   cases hx;rw [Nat.zero_mul,Nat.zero_add,List.getElem?_append_left (by omega)];exact hv
  | succ i =>
   rw [Nat.add_mul,Nat.one_mul,List.getElem?_append_right (by omega),hy,show i*s+s+j - s=i*s+j by omega];exact ih (fun z hz=>hs z (List.mem_cons_of_mem _ hz)) hx hv hj
theorem OSo.rd {α:Type} {w:World} {a:Option Addr} {o n c s:Nat} {t:TypeId} {full:List Value} {enc:α→List Value} {xs:List α} (h:OSo a o n c s full (xs.flatMap enc)) (hb:∀ x∈ent a t full,w.heap[x.1]? = some x.2)
  (hs:∀ x∈xs,(enc x).length=s) (h0:0<s):Rd w a s enc xs:=by
 cases a with
 | none =>
  cases xs with
  | nil=>exact Rd.nil
  | cons x xs =>
   exfalso;have h1:=h.llen;have h2:=h.none' rfl;have h3:=h.le;have h4:n=0:=by omega
   have h5:=hs x (by simp);subst h4;simp only [List.flatMap_cons,List.length_append,Nat.zero_mul] at h1;omega
 | some p =>
  have hz:=h.pos p rfl;obtain ⟨b,q,sp⟩:=p;simp only [Addr.mk.injEq,true_and] at hz;obtain ⟨rfl,rfl⟩:=hz;refine ⟨fun _=>⟨b,o*s,rfl⟩,fun i x hx j v hv hj=>?_⟩;have hbb:=hb (b,Bl t full) (List.mem_cons_self ..);show w.cell? ⟨b,o*s+i*s+j,none⟩=some v;rw [Nat.add_assoc];exact h.cell hbb (Vi hs hx hv hj)
abbrev stA (s:Ld) (z:StZ) (a:Option Addr) (n c:Nat):List Value:=[.int .i64 s.day,.slice z.aA s.acs.length z.cA,.slice z.aD s.ds.length z.cD,.int .u64 s.nx,.slice z.aR s.rn.length z.cR,.int .u64 s.no,.slice a n c]
abbrev stZ:List Value:=[.int .i64 0,.slice none 0 0,.slice none 0 0,.int .u64 0,.slice none 0 0,.int .u64 0,.slice none 0 0]
theorem Rc {ls:List As} {x:As} (h:x∈ls):∃ y,C0 ls (BD x)=some y∧y∈ls:=by
 cases hf:C0 ls (BD x) with
 | none=>exact absurd (List.find?_eq_none.1 hf x h) (by simp)
 | some y=>exact ⟨y,rfl,(Ny hf).1⟩
structure DsZ where
 i:Nat
 a:Option Addr
 c:Nat
 full:List Value
 l:List Value
set_option maxRecDepth 20000 in
set_option maxHeartbeats 4000000 in
theorem Ln {bk bl:Nat} {w0 w:World} {E:List (Nat × Obj)} {m:Lm} {s:Ld} {T:Nat→Prop} {ls:List As} (K:Dk bk bl w0 w E m s T ls) :
  Ret Tryz.prog 13 #[ptr bk] w fun v w'=>Ext [] w w'∧∃ z a n c,v = .agg (stA s z a n c).toArray∧StAt w' s z:=by
 obtain ⟨bm,o,a,oo,c,full,bs,D⟩:=K;obtain ⟨w1,rfl⟩:∃ z,z=w:=⟨_,rfl⟩;have H:=Ctx.start w1 [];have hall:∀ x∈F8 bk bl bm o a ls.length c full++(bs++E),w1.heap[x.1]? = some x.2:=D.own;have hbk:w1.heap[bk]? = some (Bl 93 (Fc bl bm a ls.length c)):=D.own (bk,_) (List.mem_cons_self ..);refine Au (fn:=Tryz.f13) Tryz.func13 U [ptr bk] U ?_;refine Ag (B5 I6 H ?_);rintro b2 w - H;refine Ab (Aa (Ax (Ag (AA U (Cg P0 U ?_)))));refine Ab (Aa (E5 U (A2 (Aa (Ag (AA U (Bb U (Ah Py U (BN Vs U ((by rw [A6 (H.ext.to hbk (by simp))]; rfl)) ?_)))))))));have Hb:=H;refine Ai ca_37 (QZ (D.L.call H.ext)) U ?_;rintro v ws ⟨hx,z,rfl,Z,ZO⟩;replace H:=H.call hx;have hws:Ext [] w1 ws:=H.ext;replace H:=Ctx.lend (L1:=[_]) (L2:=[]) H;refine B5 I6 H ?_;rintro b3 w - H;refine BB FP U U U (by exact (by simp [AR])) H at0 U ?_;rintro w H;refine Ab (Aa (Ax ?_))
 have hall2:∀ w',Ext [b2] ws w'→∀ x∈F8 bk bl bm o a ls.length c full++(bs++E),w'.heap[x.1]? = some x.2:=fun w' h x hx=>by
  have h1:=hall x hx;refine h.to (hws.to h1 (by simp)) fun hm=>?_;have h2:=Bq h1;rw [List.mem_singleton.1 hm] at h2;exact (Hb.own _ (List.mem_cons_self ..)).elim (fun h=>by cases h) (fun h=>absurd h2 (Nat.not_lt.2 h))
 replace H:Ctx ws [b2] _ [(b3,Bl 44 (stA s z none 0 0)),(b2,_)]:=H;have hws2:w1.heap.size≤b2:=(Hb.own _ (List.mem_cons_self ..)).elim (fun h=>by cases h) id;refine Ag (AA U (Bb U (Ah Hc U (BN MK U ((by rw [A6 (hall2 _ H.ext (bk,_) (List.mem_cons_self ..))]; rfl)) ?_))));refine Bp I4 U (Ad U (Ab (Aa (A4 (Bt 68718952480 (α:=DsZ) (fun t=>[(19,.int .i64 (t.i:Int))]) (fun t w'=>t.i≤ls.length∧Ctx ws [b2] w' ([(b3,Bl 44 (stA s z t.a t.i t.c)),(b2,Bl 44 stZ)]++ent t.a 57 t.full)∧OS t.a t.i t.c 4 t.full t.l) (fun t=>ls.length - t.i) ⟨0,none,0,[],[]⟩ U ?_ ?_ ?_)))))
 ·exact ⟨rfl,trivial⟩
 ·exact ⟨Nat.zero_le _,H,OS.nil⟩
 ·clear H;rintro ⟨i,a3,c3,full3,l3⟩ j w ⟨hi,H,O3⟩; dsimp only at hi H O3; dsimp only;refine Ag (Bu U U (Ab (Aa (Ax (Ay _ U ?_ ?_)))))
  ·intro h2;replace h2:=AX h2;have hfew:=D.few;obtain ⟨x,hx⟩:=AV (l:=ls) (i:=i);have hk2:(ls.map BD)[i]? = some (BD x):=by rw [List.getElem?_map,hx]; rfl
   obtain ⟨y,hf,hy⟩:=Rc (List.mem_of_getElem? hx);have RW:∀ w',Ext [b2] ws w'→Rd w' a 2 Ce (ls.map BD):=fun w' h=>OSo.rd (t:=99) D.O (fun q hq=>hall2 w' h q (List.mem_append_left _ (List.mem_cons_of_mem _ (List.mem_cons_of_mem _ hq)))) (fun _ _=>rfl) (by decide);have hlm:(ls.map BD).length=ls.length:=List.length_map ..;refine A2 (Aa (Ax (A4 (Ag (BC (RW _ H.ext) I4 DV U U (by omega) ?_)))));refine Em _ Iz DV U U (((RW _ H.ext).row hk2 U)) ?_;refine B5 I9 H ?_;rintro b5 w - H;refine BB DV U U U (by exact (by simp [AR])) H at0 U ?_;rintro w H;refine Ab (Aa ?_);have hg:=Nx ls (BD x);rw [hf,Option.getD_some] at hg;obtain ⟨⟨hyA,hyR⟩,hy1,hy2⟩:=D.lie y hy;replace H:Ctx ws [b2] w ([(b5,Bl 99 (Ce (BD x))),(b3,Bl 44 (stA s z a3 i c3)),(b2,Bl 44 stZ)]++ent a3 57 full3):=H;clear hx
   refine G6 [([0,1,2,3,4,5,6,7],8),([],9),([],10),([11],12)] (fun q=>(Ext [b2] ws q∧q.heap[b3]? = some (Bl 44 (stA s z a3 i c3))∧q.heap[b5]? = some (Bl 99 (Ce (BD x))))) [12] Bz (⟨H.drew.ext,H.drew.get at1,H.drew.get at0⟩) ?_;refine A0 U U ?_;refine A8 IW U (BE Sd U (fun _ hx=>(by rw [A6 hx.2.1]; rfl)) ?_);refine Cw U (BF U (A8 LB U (BE Pk U (fun _ hx=>(by rw [A6 (hall2 _ hx.1 (bk,_) (List.mem_cons_self ..))]; rfl)) ?_)));refine Kz _ U Iz DV U U (fun _ hx=>(CB (b:=b5) (t:=99) (l:=Ce (BD x)) hx.2.2 0 (Ce (BD x)) rfl)) ?_;refine Qq (BD x) U keyW Pz SJ U U (fun q hx=>hall2 q hx.1 (bm,_) (List.mem_cons_of_mem _ (List.mem_cons_self ..))) D.M ?_;rw [hg.1];refine Ba ?_;replace H:=H.drew
   refine Ai Vx (TS y _ ⟨(hyA.rd fun q hq=>hall2 _ H.ext q (List.mem_append_right _ (List.mem_append_left _ hq))).1,(hyR.rd fun q hq=>hall2 _ H.ext q (List.mem_append_right _ (List.mem_append_left _ hq))).1,(hyA.rd fun q hq=>hall2 _ H.ext q (List.mem_append_right _ (List.mem_append_left _ hq))).2,(hyR.rd fun q hq=>hall2 _ H.ext q (List.mem_append_right _ (List.mem_append_left _ hq))).2⟩) U ?_;rintro v w ⟨y2,B2,rfl,O2⟩;replace H:=H.call O2.H.ext;refine Ab (B1 (⟨H.ext,H.get at1,H.get at0⟩) (A0 U U ?_));refine Ba (Cn _ (.agg _) KI J4 MT U U U U H ?_);rintro b32 w - H;refine Ab (B1 (⟨H.ext,H.get at2,H.get at1⟩) (A0 U U ?_));refine Ba (C2 (L:=[_,_,_]) KI KI J4 by_57 MT U U U H O3 U (by simp [AR]) ?_);rintro a9 c9 full9 w H O9;refine Ab (B1 (⟨H.ext,H.get at1,H.get at0⟩) (A0 U U ?_))
   refine A8 IW U (Ba (Ck (.slice _ _ _) sz_42 U U U H at1 (by (simp; done)) ?_));rintro w H;refine Ab (Bo U (B6 (AU (Aa (A5 (A3 U U ?_))))));refine Ad U (Ab (Aa ?_));exact ⟨⟨i+1,a9,c9,full9,_⟩,rfl,⟨rfl,trivial⟩,⟨by dsimp only; omega,H.tail,O9⟩,by dsimp only; omega⟩
  ·intro h2;replace h2:=AY h2;obtain rfl:i=ls.length:=by omega
   refine Bs (Ao (Ao (AK (Aa (Ag (DZ KE FP U H at0 U (BB FP U U U (by exact (by simp [AR])) H at1 U ?_)))))));rintro w H;refine Ab (Aa (A9 (E6 U U U KE FP H at1 U ?_)));exact ⟨hws.then H.ext (fun x hx => .inr (by rw [List.mem_singleton.1 hx]; exact hws2)),z,a3,_,c3,rfl,Z.ext H.ext (ZO.mono fun x hx=>by rw [List.mem_singleton.1 hx]; exact Hb.lt at0)⟩
end Go.Proofs.YtibemkominehdaaGreat
namespace Go.Proofs.YtibemkominehdaaGreat
open Go.GV
attribute [local irreducible] Al W Wq Wt
set_option maxHeartbeats 1000000 in
theorem Fx {a:Option Addr} {n c:Nat} {full:List Value} {l:List UInt8} (x k:Nat) (w:World) (H0:Ctx w ((ent a 5 full).map (·.1)) w (ent a 5 full)) (O0:OS a n c 1 full (l.map bv)) (_:x<18446744073709551616)  (hk:k≤8:=by decide) (hn:n≤100000:=by decide):
  Ret Tryz.prog 27 #[.slice a n c,.int .u64 (x:Int),.int .i64 (k:Int)] w fun v w'=>∃ a' c' full',v = .slice a' (n+k) c'∧OS a' (n+k) c' 1 full' ((l++Bh x k).map bv)∧Ctx w ((ent a 5 full).map (·.1)) w' (ent a' 5 full'):=by
 obtain ⟨w0,rfl⟩:∃ w0,w0=w:=⟨_,rfl⟩;obtain ⟨S,hS⟩:∃ S,S=(ent a 5 full).map (·.1):=⟨_,rfl⟩;have H:Ctx w0 S w0 (ent a 5 full):=by rw [hS]; exact H0
 rw [← hS];refine Au (fn:=Tryz.f27) Tryz.func27 U [.slice a n c,.int .u64 (x:Int),.int .i64 (k:Int)] U ?_;refine Ag (Aj U (Ab (Aa (Ax (Ag (Ad U (AN U U ?_)))))));refine Ae U (Ab (Aa (A4 (Bt 8387713 (α:=Nat × Option Addr × Nat × List Value) (fun z=>[(7,.int .i64 ((k:Int) - 1 - z.1)),(0,.slice z.2.1 (n+z.1) z.2.2.1)]) (fun z w'=>z.1≤k∧Ctx w0 S w' (ent z.2.1 5 z.2.2.2)∧OS z.2.1 (n+z.1) z.2.2.1 1 z.2.2.2 ((l++(Bh x k).take z.1).map bv)) (fun z=>k - z.1) (0,a,c,full) U ?_ ?_ ?_))))
 ·exact ⟨congrArg (Value.int .i64) (by omega),rfl,trivial⟩
 ·exact ⟨Nat.zero_le _,H,by simpa using O0⟩
 ·clear H;rintro ⟨i,a7,c7,full7⟩ j w ⟨hi,H,O⟩; dsimp only at hi H O; dsimp only;refine Ax (Ag (Ad U (Ci U U (Ab (Aa (Ay _ U ?_ ?_))))))
  ·intro h2;replace h2:=AX h2;have hik:i<k:=by omega
   refine A2 (Aa (Ax (A4 (A5 (An U U (Ad U (Ad U (C1 U U ?_))))))));rw [show (8:Int)*((k:Int) - 1 - (i:Int))=((8*(k - 1 - i):Nat):Int) from by omega];refine Cv U E0 J5 ?_;refine Eo U U U ?_;refine Iu U U CH Er ?_;rw [Ib];refine Cn _ (.int _ _) BQ FC MS U U U U H ?_;rintro b21 w - H;refine C2 (L:=[]) BQ BQ FC by_5 MS U U U H O U (by simp [AR]) ?_;rintro a9 c9 full9 w H O;refine Aj U (Ab (AU (Aa (A5 (Ad U (AN U U ?_))))));refine Ae U (Ab (Aa ?_));refine ⟨(i+1,a9,c9,full9),rfl,⟨congrArg (Value.int .i64) (by dsimp only; omega),rfl,trivial⟩,⟨by dsimp only; omega,H,?_⟩,by dsimp only; omega⟩;dsimp only;have O':OS a9 (n+(i+1)) c9 1 full9 ((l++(Bh x k).take i).map bv++[UInt8.ofNat (x / 2 ^ (8*(k - 1 - i)))].map bv):=O
   rw [← List.map_append,List.append_assoc,← Lh hik] at O';exact O'
  ·intro h2;replace h2:=AY h2;obtain rfl:i=k:=by omega
   refine Bs (Ao (Ao (AK (Aa (Ag (An U U (Aj U (Ab (Aa (A9 (AD (v:=(.slice _ _ _)) U U U ?_)))))))))));have hl:(Bh x i).take i=Bh x i:=List.take_of_length_le (by rw [Bg]; exact Nat.le_refl _);rw [hl] at O;exact ⟨_,_,_,rfl,O,H⟩
theorem N0 {x:Int} (h:0≤x∧x≤255):[Value.int .u8 x]=(Bh (w64 x) 1).map bv:=by
 obtain ⟨n,rfl⟩:∃ n:Nat,x=n:=⟨x.toNat,by omega⟩;rw [Eg];show [Value.int .u8 (n:Int)]=[bv (UInt8.ofNat (n / 2 ^ 0))];rw [← Ib]
 congr 2
 omega
theorem Uj {x:Int}:Bh (w64 x % 65536) 2=Bh (w64 x) 2:=by
 unfold Bh;apply List.map_congr_left;intro i hi;rw [List.mem_range] at hi;apply UInt8.toNat_inj.1;have h2:i=0∨i=1:=by omega
 rcases h2 with rfl | rfl <;> simp [UInt8.toNat_ofNat'] <;> omega
theorem Uk {a:Option Addr} {n c:Nat} {full:List Value} {l:List UInt8} (x:Int) (k:Nat) (w:World) (H0:Ctx w ((ent a 5 full).map (·.1)) w (ent a 5 full)) (O0:OS a n c 1 full (l.map bv))  (hx:0≤x∧x<18446744073709551616:=by omega) (hk:k≤8:=by decide) (hn:n≤100000:=by decide):
  Ret Tryz.prog 27 #[.slice a n c,.int .u64 x,.int .i64 (k:Int)] w fun v w'=>∃ a' c' full',v = .slice a' (n+k) c'∧OS a' (n+k) c' 1 full' ((l++Bh (w64 x) k).map bv)∧Ctx w ((ent a 5 full).map (·.1)) w' (ent a' 5 full'):=by
 obtain ⟨m,rfl⟩:∃ m:Nat,x=m:=⟨x.toNat,by omega⟩;rw [Eg];exact Fx m k w H0 O0 (by omega) (hk:=hk) (hn:=hn)
set_option maxRecDepth 20000 in
set_option maxHeartbeats 4000000 in
theorem OJ (c n:Nat) (k:Ak) (w:World) (hc:c<4294967296) (hn:n<18446744073709551616) (h:MayB k) :
  Ret Tryz.prog 9 #[.int .u32 (c:Int),.int .u64 (n:Int),.agg (BW k).toArray] w fun v w'=>∃ s,v = .tuple #[s,.int .i64 0]∧Fresh w w' 5 1 s ((CC c n k).map bv):=by
 obtain ⟨w0,rfl⟩:∃ w0,w0=w:=⟨_,rfl⟩;have H:=Ctx.start w0 [];obtain ⟨h1,h2,h3,h4,h5,h6,h7⟩:=h;refine Au (fn:=Tryz.f9) Tryz.func9 U [.int .u32 (c:Int),.int .u64 (n:Int),.agg (BW k).toArray] U ?_;refine Ag (BK (BW k) (.agg _) U U H ?_);rintro b5 w - H;refine Aj U (Ae U (Ab (Aa (Ax (Ag (CK (α:=Unit) 137438952960 (fun _=>[(36,.bool ((((((decide (k.a<0) || decide (k.a>255)) || decide (k.b < -32768)) || decide (k.b>32767)) || decide (k.w<0)) || decide (k.w>65535))))]) (fun _ w'=>Ctx w0 [] w' [(b5,Bl 34 (BW k))]) U ?_ ?_))))))
 ·refine Ah DE U (AH ER U H at0 U (Bu U U (Ap U (AZ 12 U ?_ ?_))))
  ·intro h1;replace h1:=AX h1;refine Af U (Af U (Af U (Av U (.bool _) U (Ap U (Af U (Af U (Af U (Av U (.bool _) U (Ap U ?_)))))))));refine Af U (Af U (Af U (Av U (.bool _) U (Ap U (Af U (Af U (Af U (Av U (.bool _) U (Ap U ?_)))))))));refine Af U (Af U (Af U (Av U (.bool _) U (Ab ?_))));exact ⟨rfl,(),rfl,⟨congrArg Value.bool (by (rw [Bool.eq_iff_iff]; simp only [Bool.or_eq_true,decide_eq_true_eq,true_iff]; omega)),trivial⟩,H⟩
  ·intro h2;replace h2:=AY h2;refine Ah DE U (AH ER U H at0 U (CP U U (AE U (.bool _) U (Ap U (AZ 17 U ?_ ?_)))))
   ·intro h3;replace h3:=AX h3;refine Af U (Af U (Af U (Av U (.bool _) U (Ap U (Af U (Af U (Af U (Av U (.bool _) U (Ap U ?_)))))))));refine Af U (Af U (Af U (Av U (.bool _) U (Ap U (Af U (Af U (Af U (Av U (.bool _) U (Ab ?_)))))))));exact ⟨rfl,(),rfl,⟨congrArg Value.bool (by (rw [Bool.eq_iff_iff]; simp only [Bool.or_eq_true,decide_eq_true_eq,true_iff]; omega)),trivial⟩,H⟩
   ·intro h4;replace h4:=AY h4;refine Ah Fk U (AH ER U H at0 U (Bu U U (AE U (.bool _) U (Ap U (AZ 22 U ?_ ?_)))))
    ·intro h5;replace h5:=AX h5;refine Af U (Af U (Af U (Av U (.bool _) U (Ap U (Af U (Af U (Af U (Av U (.bool _) U (Ap U ?_)))))))));refine Af U (Af U (Af U (Av U (.bool _) U (Ab ?_))));exact ⟨rfl,(),rfl,⟨congrArg Value.bool (by (rw [Bool.eq_iff_iff]; simp only [Bool.or_eq_true,decide_eq_true_eq,true_iff]; omega)),trivial⟩,H⟩
    ·intro h6;replace h6:=AY h6;refine Ah Fk U (AH ER U H at0 U (CP U U (AE U (.bool _) U (Ap U (AZ 27 U ?_ ?_)))))
     ·intro h7;replace h7:=AX h7;refine Af U (Af U (Af U (Av U (.bool _) U (Ap U (Af U (Af U (Af U (Av U (.bool _) U (Ab ?_)))))))));exact ⟨rfl,(),rfl,⟨congrArg Value.bool (by (rw [Bool.eq_iff_iff]; simp only [Bool.or_eq_true,decide_eq_true_eq,true_iff]; omega)),trivial⟩,H⟩
     ·intro h8;replace h8:=AY h8;refine Ah Fl U (AH CT U H at0 U (Bu U U (AE U (.bool _) U (Ap U (AZ 32 U ?_ ?_)))))
      ·intro h9;replace h9:=AX h9;refine Af U (Af U (Af U (Av U (.bool _) U (Ab ?_))));exact ⟨rfl,(),rfl,⟨congrArg Value.bool (by (rw [Bool.eq_iff_iff]; simp only [Bool.or_eq_true,decide_eq_true_eq,true_iff]; omega)),trivial⟩,H⟩
      ·intro h10;replace h10:=AY h10;refine Ah Fl U (AH CT U H at0 U (CP U U (AE U (.bool _) U (Ab ?_))));exact ⟨rfl,(),rfl,⟨congrArg Value.bool (by (rw [Bool.eq_iff_iff]; simp only [Bool.or_eq_true,decide_eq_true_eq]; omega)),trivial⟩,H⟩
 rintro - j36 w H;refine Ay _ U ?_ ?_
 ·intro g1;exfalso;simp at g1;omega
 ·intro g1;clear g1;replace H:Ctx w0 [] w (ent none 5 []++[(b5,Bl 34 (BW k))]):=H;refine A2 (Aa (Ag (Ad U (Cv U MR CH ?_))));refine Ai J2 (Fx (l:=[]) c 4 _ (Ctx.lend H) OS.nil (by omega)) U ?_;rintro v w ⟨a39,c39,f39,rfl,O,H7⟩;replace H:=Ctx.back H H7;clear H7;refine Aj U (Ab (Aa (Ag (An U U (Ad U (Ai J2 (Fx n 8 _ (Ctx.lend H) O hn) U ?_))))));rintro v w ⟨a42,c42,f42,rfl,O,H7⟩;replace H:=Ctx.back H H7;clear H7;refine Aj U (Ab (Aa ?_));replace H:Ctx w0 [] w ([(b5,Bl 34 (BW k))]++ent a42 5 f42):=H.comm;obtain ⟨l4,hl4⟩:∃ l4,l4=Bh c 4++Bh n 8:=⟨_,rfl⟩;replace O:OS a42 12 c42 1 f42 (l4.map bv):=by rw [hl4]; simpa using O
  refine Ag (An U U (Ah Fj U (AH GS U H at0 U (Ah DE U (AH ER U H at0 U (GA U U E0 Er ?_))))));refine Gi [.int .u8 k.kd,.int .u8 k.a] U BQ FC MS H ?_;rintro b49 w - H;refine C2 (L:=[_]) BQ BQ FC by_5 MS U U U H O U (by simp [AR]) ?_;rintro a50 c50 f50 w H O;refine Aj U (Ab (Aa ?_));obtain ⟨l5,hl5⟩:∃ l5,l5=l4++Bh (w64 k.kd) 1++Bh (w64 k.a) 1:=⟨_,rfl⟩
  replace O:OS a50 14 c50 1 f50 (l5.map bv):=by
   have hO:l4.map bv++[Value.int .u8 k.kd,Value.int .u8 k.a]=l5.map bv:=by
    rw [hl5,List.map_append,List.map_append,← N0 (x:=k.kd) (by omega),← N0 (x:=k.a) h2,List.append_assoc];rfl
   rw [← hO];exact O
  replace H:=H.comm;refine Ag (An U U (Ah Fk U (BN ER U ((by rw [A6 (H.comm.get at0)]; rfl)) ?_)));refine CF U E0 CH ?_;rw [D1];refine Jt U U U (EJ _) (by decide) ?_;rw [show w64 k.b &&& 65535=w64 k.b % 65536 from Nat.and_two_pow_sub_one_eq_mod _ 16];refine Ai J2 (Fx (w64 k.b % 65536) 2 _ (Ctx.lend H) O (by omega)) U ?_;rintro v w ⟨a56,c56,f56,rfl,O,H7⟩;rw [Uj] at O;replace H:=Ctx.back H H7;clear H7;refine Aj U (Ab (Aa (Ag (An U U (Ah IV U (BN CT U ((by rw [A6 (H.comm.get at0)]; rfl)) ?_))))));refine CF U Ki CH ?_;rw [D1];refine Ai J2 (Fx (w64 k.x) 8 _ (Ctx.lend H) O (EJ _)) U ?_;rintro v w ⟨a61,c61,f61,rfl,O,H7⟩;replace H:=Ctx.back H H7;clear H7;refine Aj U (Ab (Aa (Ag (An U U (Ah Fl U (BN CT U ((by rw [A6 (H.comm.get at0)]; rfl)) ?_))))));refine CF U Ki CH ?_;rw [D1]
  refine Ai J2 (Fx (w64 k.w) 2 _ (Ctx.lend H) O (EJ _)) U ?_;rintro v w ⟨a66,c66,f66,rfl,O,H7⟩;replace H:=Ctx.back H H7;clear H7;refine Aj U (Ab (Aa (Ag (An U U (Ah L6 U (BN CT U ((by rw [A6 (H.comm.get at0)]; rfl)) ?_))))));refine CF U Ki CH ?_;rw [D1];refine Ai J2 (Fx (w64 k.u) 8 _ (Ctx.lend H) O (EJ _)) U ?_;rintro v w ⟨a71,c71,f71,rfl,O,H7⟩;replace H:=Ctx.back H H7;clear H7;refine Aj U (Ab (Aa (Ag (An U U (Ah L7 U (BN Bm U ((by rw [A6 (H.comm.get at0)]; rfl)) ?_))))));refine Ai J2 (Uk k.id 8 _ (Ctx.lend H) O) U ?_;rintro v w ⟨a75,c75,f75,rfl,O,H7⟩;replace H:=Ctx.back H H7;clear H7;refine Aj U (Ae U (Ab (Aa (A9 (C6 (v1:=(.slice _ _ _)) (v2:=(.int _ _)) U U U U ?_)))));refine ⟨_,rfl,?_⟩
  have hfin:CC c n k=l5++Bh (w64 k.b) 2++Bh (w64 k.x) 8++Bh (w64 k.w) 2++Bh (w64 k.u) 8++Bh (w64 k.id) 8:=by
   unfold CC;rw [hl5,hl4];simp only [List.append_assoc,List.append_nil]
  rw [hfin];exact Ctx.fresh (L:=[_]) H.comm O
theorem Xh {l:List UInt8} {p i:Nat} {b:UInt8} (h:l[p+i]? = some b):numN ((l.drop p).take (i+1))=numN ((l.drop p).take i)*256+b.toNat:=by
 rw [Gh (l:=l.drop p) (i:=i) (by rw [List.getElem?_drop]; exact h),Ie]
set_option maxHeartbeats 1000000 in
theorem Lo (a:Option Addr) (c m:Nat) (l:List UInt8) (p k:Nat) (w:World) (R:Rd w a 1 B8 l) (hml:l.length=m)  (hm:m≤100000:=by decide) (hp:p+k≤l.length:=by omega) (hk:k≤8:=by decide):
  Ret Tryz.prog 28 #[.slice a m c,.int .i64 (p:Int),.int .i64 (k:Int)] w fun v w'=>v = .int .u64 (CI l p k:Int)∧Ext [] w w':=by
 subst hml;obtain ⟨w0,rfl⟩:∃ w0,w0=w:=⟨_,rfl⟩;have H:=Ctx.start w0 [];refine Au (fn:=Tryz.f28) Tryz.func28 U [.slice a l.length c,.int .i64 (p:Int),.int .i64 (k:Int)] U ?_;refine Ag (Ae U (Ab (Aa (Ag (Ae U (Ab (Aa (Ax (Ag (Ae U (Ab (Aa ?_))))))))))));refine A4 (Bt 16777088 (α:=Nat) (fun i=>[(8,.int .i64 (i:Int)),(7,.int .u64 (CI l p i:Int))]) (fun i w'=>i≤k∧Ctx w0 [] w' []) (fun i=>k - i) 0 U ?_ ?_ ?_)
 ·exact ⟨rfl,rfl,trivial⟩
 ·exact ⟨Nat.zero_le _,H⟩
 ·clear H;rintro i j w ⟨hi,H⟩;refine Ax (Ag (Ad U (Ad U (Bu U U (Ab (Aa (Ay _ U ?_ ?_)))))))
  ·intro h1;replace h1:=AX h1;have hik:i<k:=by omega
   obtain ⟨b,hb⟩:=AV (l:=l) (i:=p+i);have hlt:CI l p i<256 ^ i:=JM l p i;have hpw:(256:Nat) ^ i≤256 ^ 7:=Nat.pow_le_pow_right (by decide) (by omega);have hp7:(256:Nat) ^ 7=72057594037927936:=by decide
   have hbl:b.toNat<256:=Ho b;have hstep:CI l p (i+1)=CI l p i*256+b.toNat:=Xh hb;refine A2 (Aa (Ax (A4 (A5 (Ad U (NI U U U ?_))))));refine An U U (Ad U (Ad U (A3 U U ?_)));rw [show (p:Int)+(i:Int)=((p+i:Nat):Int) by omega];refine BC (R.ext0 H.ext) BQ FC U U (by rfl) ?_;refine BN GS U (((R.ext0 H.ext).one (f:=bv) hb)) ?_;refine Cv U Er CH (h1:=show (0:Int)≤(b.toNat:Int) by omega) (h2:=show (b.toNat:Int)≤_ by omega) ?_;refine Jq U U U ?_;refine Ae U (Ab (AU (Aa (A5 (Ad U (A3 U U ?_))))));refine Ae U (Ab (Aa ?_));exact ⟨i+1,rfl,⟨rfl,congrArg (Value.int .u64) (by rw [hstep]; omega),trivial⟩,⟨by omega,H⟩,by omega⟩
  ·intro h1;replace h1:=AY h1;obtain rfl:i=k:=by omega
   refine Bs (Ao (Ao (AK (Aa (Ag (Ad U (Ae U (Ab (Aa (A9 (AD (v:=(.int _ _)) U U U ?_)))))))))));exact ⟨rfl,H.ext⟩
set_option maxRecDepth 20000 in
set_option maxHeartbeats 2000000 in
theorem Lp (a:Option Addr) (c m:Nat) (l:List UInt8) (cl n:Nat) (e:Int) (w:World) (R:Rd w a 1 B8 l) (hml:l.length=m) (hl:l=Ef cl n e [])  (he:0≤e∧e≤255:=by decide) (hcl:cl<4294967296:=by decide) (hn:n<18446744073709551616:=by decide):
  Ret Tryz.prog 25 #[.slice a m c] w fun v w'=>v = .tuple #[.int .u32 (cl:Int),.int .u64 (n:Int),.agg #[.int .i64 e,.slice none 0 0],.int .i64 0]∧Ext [] w w':=by
 obtain ⟨en,rfl⟩:∃ en:Nat,e=en:=⟨e.toNat,by omega⟩;have h14:l.length=14:=by rw [hl,JN]; rfl
 obtain rfl:m=14:=by omega
 have f0:CI l 0 4=cl:=(DR (pre:=[]) (n:=cl) (k:=4) (post:=Bh n 8++(Bh (w64 en) 1++(Bh 0 1++EC []))) (by rw [hl]; rfl) rfl).trans (Nat.mod_eq_of_lt (by omega));have f4:CI l 4 8=n:=(DR (pre:=Bh cl 4) (n:=n) (k:=8) (post:=Bh (w64 en) 1++(Bh 0 1++EC [])) (by rw [hl]; rfl) (by rw [Bg])).trans (Nat.mod_eq_of_lt (by omega))
 have h12:∃ b:UInt8,l[12]? = some b∧(b.toNat:Int)=en:=by
  refine ⟨UInt8.ofNat (w64 en / 2 ^ 0),?_,?_⟩
  ·rw [hl];unfold Ef;rw [List.getElem?_append_right (by rw [Bg]; decide),Bg,List.getElem?_append_right (by rw [Bg]; decide),Bg];rfl
  ·rw [Eg,UInt8.toNat_ofNat'];omega
 have h13:l[13]? = some (0:UInt8):=by
  rw [hl];unfold Ef;rw [List.getElem?_append_right (by rw [Bg]; decide),Bg,List.getElem?_append_right (by rw [Bg]; decide),Bg,List.getElem?_append_right (by rw [Bg]; decide),Bg];rfl
 obtain ⟨eb,h12,heb⟩:=h12;obtain ⟨w0,rfl⟩:∃ w0,w0=w:=⟨_,rfl⟩;have H:=Ctx.start w0 [];have c13:∀ {w:World},Ext [] w0 w→w.cell? ⟨(adr a).block,(adr a).off+13*1,none⟩=some (Value.int .u8 0):=fun hx=>(R.ext0 hx).one (f:=bv) h13;have c12:∀ {w:World},Ext [] w0 w→w.cell? ⟨(adr a).block,(adr a).off+12*1,none⟩=some (Value.int .u8 (en:Int)):=fun hx=>((R.ext0 hx).one (f:=bv) h12).trans (by show some (Value.int .u8 (eb.toNat:Int))=_; rw [heb]);refine Au (fn:=Tryz.f25) Tryz.func25 U [.slice a 14 c] U ?_;refine Ag (Ae U (Ae U (B5 FR H ?_)));rintro b4 w - H;refine Ae U (Ab (Aa (Ax (Ag (An U U (Bp BQ U (Bu U U (Ap U (An U U (BC (R.ext0 H.ext) BQ FC U U (by omega) ?_))))))))));refine BN GS U ((c13 H.ext)) ?_;refine CP U U (AE U (.bool _) U (Ap U (An U U (Bp BQ U (An U U (BC (R.ext0 H.ext) BQ FC U U (by omega) ?_))))))
 refine BN GS U ((c13 H.ext)) ?_;refine BP U Er E0 ?_;refine C1 U U ?_;refine A3 U U ?_;refine CQ U U (AE U (.bool _) U (Ab (Aa (E5 U (A2 (Aa (Ag (An U U (BC (R.ext0 H.ext) BQ FC U U (by omega) ?_)))))))));refine BN GS U ((c12 H.ext)) ?_;refine BP U Er V5 ?_;refine Bn [.int .i64 (en:Int),.slice none 0 0] KL FR ?_;refine B5 FR H ?_;rintro b6 w - H;refine BB ES U U U (by simp [AR]) H at0 U ?_;rintro w H;refine Ab (Aa (Ax (Ag (Ae U (Ab (Aa (A4 (Bt 9007182074871936 (α:=Unit) (fun _=>[(7,.int .i64 0)]) (fun _ w'=>Ctx w0 [] w' [(b6,Bl 85 [.int .i64 (en:Int),.slice none 0 0]),(b4,Bl 85 [.int .i64 0,.slice none 0 0])]) (fun _=>0) () U ?_ ?_ ?_))))))))
 ·exact ⟨rfl,trivial⟩
 ·exact H
 ·clear H;rintro - j w H;refine Ax (Ag (Ad U (An U U (BC (R.ext0 H.ext) BQ FC U U (by omega) ?_))));refine BN GS U ((c13 H.ext)) ?_;refine BP U Er E0 ?_;refine Bu U U (Ab (Aa (E5 U (Bs (Ao (Ao (AK (Aa (BT [([0,3,5],1),([2],4),([6,7],8),([],9)] (fun z=>(Ext [] w0 z∧z.heap[b6]? = some (Bl 85 [.int .i64 (en:Int),.slice none 0 0]))) [8,9] Bz (⟨H.drew.ext,H.drew.get at0⟩) ?_)))))))));refine A0 U U ?_;refine AM U (AM U (Kz _ U KH ES U U (fun _ hx=>(CB (b:=b6) (t:=85) (l:=[.int .i64 (en:Int),.slice none 0 0]) hx.2 0 [.int .i64 (en:Int),.slice none 0 0] rfl)) ?_));refine Ba ?_;replace H:=H.drew;refine Ai Vw (Lo a c 14 l 0 4 _ (R.ext0 H.ext) h14) U ?_;rintro v w ⟨rfl,hx54⟩;replace H:=H.call hx54;rw [f0];refine Ab (B1 (⟨H.ext,H.get at0⟩) (A0 U U ?_))
  refine NJ U U CH MR ?_;refine Ba (Ai Vw (Lo a c 14 l 4 8 _ (R.ext0 H.ext) h14) U ?_);rintro v w ⟨rfl,hx57⟩;replace H:=H.call hx57;rw [f4];refine Ab (B1 (⟨H.ext,H.get at0⟩) (A0 U U ?_));refine Gj U U (Gj U U (Ba (BB ES U U U (by simp [AR]) H at1 U ?_)));rintro w H;refine Ab (Bo U (A0 U U ?_));refine Ba (Ae U (Ab (Bo U (B6 (A9 (IR U U (show _=(.int _ _) from rfl) (show _=(.int _ _) from rfl) U KH ES H at1 U (show _=(.int _ _) from rfl) ?_))))));exact ⟨rfl,H.ext⟩
end Go.Proofs.YtibemkominehdaaGreat
namespace Go.Proofs.YtibemkominehdaaGreat
open Go.GV
attribute [local irreducible] Al W Wq Wt
theorem JQ (c n:Nat) (k:Ak) (w:World) (h:MayB k)  (hc:c<4294967296:=by decide) (hn:n<18446744073709551616:=by decide):
  Ret Tryz.prog 14 #[.agg (BW k).toArray,.int .u32 (c:Int),.int .u64 (n:Int)] w fun v w'=>Fresh w w' 5 1 v ((CC c n k).map bv):=by
 obtain ⟨w0,rfl⟩:∃ w0,w0=w:=⟨_,rfl⟩;have H:=Ctx.start w0 [];refine Au (fn:=Tryz.f14) Tryz.func14 U [.agg (BW k).toArray,.int .u32 (c:Int),.int .u64 (n:Int)] U ?_;refine Ag (BK (BW k) (.agg _) U U H ?_);rintro b3 w - H;refine Aj U (Ab (Aa (Ag (Ad U (Ad U (DZ Ix F1 U H at0 U ?_))))));have H5:=H;refine Ai ca_39 (QO c n k _ hc hn h) U ?_;rintro v w ⟨s,rfl,F⟩;obtain ⟨a6,c6,f6,rfl,O6,H6⟩:=CJ F;refine C9 U (AO U U (AO U U (Aj U (Ae U (Ab (Aa (Ag (An U U (Aj U (Ab (Aa ?_)))))))))));refine A9 (AD (v:=(.slice _ _ _)) U U U ?_);exact Fresh.since F H5.ext
theorem JR (c n:Nat) (k:Ak) (w:World) (h:MayB k)  (hc:c<4294967296:=by decide) (hn:n<18446744073709551616:=by decide):
  Ret Tryz.prog 24 #[.int .u32 (c:Int),.int .u64 (n:Int),.agg (BW k).toArray] w fun v w'=>Fresh w w' 5 1 v ((CC c n k).map bv):=by
 obtain ⟨w0,rfl⟩:∃ w0,w0=w:=⟨_,rfl⟩;have H:=Ctx.start w0 [];refine Au (fn:=Tryz.f24) Tryz.func24 U [.int .u32 (c:Int),.int .u64 (n:Int),.agg (BW k).toArray] U ?_;refine Ag (BK (BW k) (.agg _) U U H ?_);rintro b3 w - H;refine Aj U (Ab (Aa (Ag (Ad U (Ad U (DZ Ix F1 U H at0 U ?_))))));have H5:=H;refine Ai ca_9 (OJ c n k _ hc hn h) U ?_;rintro v w ⟨s,rfl,F⟩;obtain ⟨a6,c6,f6,rfl,O6,H6⟩:=CJ F;refine C9 U (AO U U (AO U U (Aj U (Ae U (Ab (Aa (Ag (An U U (Aj U (Ab (Aa ?_)))))))))));refine A9 (AD (v:=(.slice _ _ _)) U U U ?_);exact Fresh.since F H5.ext
theorem Rg (ab:Option Addr) (n cb:Nat) (w:World):Ret Tryz.prog 11 #[.pointer none,.slice ab n cb] w fun v w'=>v = .slice none 0 0∧Ext [] w w':=by
 obtain ⟨w0,rfl⟩:∃ w0,w0=w:=⟨_,rfl⟩;have H:=Ctx.start w0 [];refine Au (fn:=Tryz.f11) Tryz.func11 U [.pointer none,.slice ab n cb] U ?_;refine Ag (Aj U (Ab (Aa (Ax (Ag (AA U (Cg P0 U ?_)))))));refine Ab (Aa (Ay _ U ?_ ?_))
 ·intro h1;refine Ag (Aj U (Ab (Aa (A9 (A7 (AD (v:=(.slice _ _ _)) U U U ?_))))));exact ⟨rfl,H.ext⟩
 ·intro h1;cases h1
theorem Mj (w:World):Ret Tryz.prog 13 #[.pointer none] w fun v w'=>v = .agg (stC JP Kl).toArray∧Ext [] w w':=by
 obtain ⟨w0,rfl⟩:∃ w0,w0=w:=⟨_,rfl⟩;have H:=Ctx.start w0 [];refine Au (fn:=Tryz.f13) Tryz.func13 U [.pointer none] U ?_;refine Ag (B5 I6 H ?_);rintro b2 w - H;refine Ab (Aa (Ax (Ag (AA U (Cg P0 U ?_)))));refine Ab (Aa (Ay _ U ?_ ?_))
 ·intro h1;refine Ag (Bn (stC JP Kl) S8 I6 ?_);refine BB FP U U U (by exact (by simp [AR])) H at0 U ?_;rintro w H;refine Ab (Aa (A9 (A7 (E6 U U U KE FP H at0 U ?_))));exact ⟨rfl,H.ext⟩
 ·intro h1;cases h1
theorem Rh (w:World):Ret Tryz.prog 36 #[.slice none 0 0,.slice none 0 0] w fun v w'=>v = .bool true∧Ext [] w w':=by
 obtain ⟨w0,rfl⟩:∃ w0,w0=w:=⟨_,rfl⟩;have H:=Ctx.start w0 [];refine Au (fn:=Tryz.f36) Tryz.func36 U [.slice none 0 0,.slice none 0 0] U ?_;refine Ag (Am U (Ab (Aa (Ax (Ag (An U U (Bp KI U (An U U (Bp KI U (CQ U U ?_))))))))));refine Ab (Aa (E5 U (A2 (Aa (Ax (Ag (Ae U (Ab (Aa (A4 (Bt 2361183241434822604848 (α:=Unit) (fun _=>[(5,.int .i64 0)]) (fun _ w'=>Ctx w0 [] w' []) (fun _=>0) () U ?_ ?_ ?_)))))))))))
 ·exact ⟨rfl,trivial⟩
 ·exact H
 ·clear H;rintro ⟨⟩ j w H;refine Ax (Ag (Ad U (An U U (Bp KI U (Bu U U (Ab (Aa (Ay _ U ?_ ?_))))))))
  ·intro h2;replace h2:=AX h2;cases h2
  ·intro h2;replace h2:=AY h2;refine Bs (Ao (Ao (AK (Aa (Ag (Am U (Ab (Aa (A9 (AD (v:=(.bool _)) U U U ?_))))))))));exact ⟨rfl,H.ext⟩
theorem Ul (w:World):Ret Tryz.prog 12 #[.agg (stC JP Kl).toArray,.agg (stC JP Kl).toArray] w fun v w'=>v = .bool true∧Ext [] w w':=by
 obtain ⟨w0,rfl⟩:∃ w0,w0=w:=⟨_,rfl⟩;have H:=Ctx.start w0 [];refine Au (fn:=Tryz.f12) Tryz.func12 U [.agg (stC JP Kl).toArray,.agg (stC JP Kl).toArray] U ?_;refine Ag (BK (stC JP Kl) (.agg _) U U H ?_);rintro b2 w - H;refine BK (stC JP Kl) (.agg _) U U H ?_;rintro b3 w - H;refine Am U (Ab (Aa (Ag (DZ KE FP U H at1 U (DZ KE FP U H at0 U (Ai ca_35 (Ub (s:=JP) _ (Uc _) (Uc _) (fun r hr=>by cases hr)) U ?_))))));rintro v w ⟨rfl,hx⟩;replace H:=H.call hx;refine Ap U (Ah IW U (AH Sd U H at1 U (Ah IW U (AH Sd U H at0 U (Ai ca_36 (Rh _) U ?_)))));rintro v w ⟨rfl,hx⟩;replace H:=H.call hx;refine Av U (.bool _) U (Am U (Ab (Aa (A9 (AD (v:=(.bool _)) U U U ?_)))));exact ⟨rfl,H.ext⟩
end Go.Proofs.YtibemkominehdaaGreat
namespace Go.Proofs.YtibemkominehdaaGreat
open Go.GV
attribute [local irreducible] Al W Wq Wt
theorem Ik {c n:Nat} {k:Ak} (h:MayB k) (hc:c<4294967296:=by decide) (hn:n<18446744073709551616:=by decide):Cz (CC c n k)=true∧gaC (CC c n k)=c∧gaN (CC c n k)=n∧D5 (CC c n k)=k:=by
 obtain ⟨h1,h2,h3,h4⟩:=UX hc hn h;obtain ⟨-,-,h5,h6⟩:=OH h1;exact ⟨h1,h5.trans h2,h6.trans h3,h4⟩
theorem Gu {s s':Ld} {ls ls':List As} {l r:List UInt8} (h:EE s ls l s' ls' r) (hi:Cz l=true) (hf:C0 ls (gaC l,gaN l)=none):∃ p y,CV s (D5 l) s' p∧r=Ef (gaC l) (gaN l) p.e p.n∧y.c=gaC l∧y.n=gaN l∧y.ask=l∧y.rep=r∧ls'=IF ls y:=by
 unfold EE at h;rw [if_neg (by rw [hi]; decide),hf] at h;exact h
theorem Il {s s':Ld} {ls ls':List As} {l r:List UInt8} {x:As} (h:EE s ls l s' ls' r) (hi:Cz l=true) (hf:C0 ls (gaC l,gaN l)=some x):s'=s∧ls'=ls∧r=if x.ask=l then x.rep else Ef (gaC l) (gaN l) 15 []:=by
 unfold EE at h;rw [if_neg (by rw [hi]; decide),hf] at h;exact h
theorem Ri {s s':Ld} {ls ls':List As} {l r:List UInt8} (h:EE s ls l s' ls' r) (hi:Cz l=false):s'=s∧ls'=ls∧r=Ef 0 0 5 []:=by
 unfold EE at h;rw [if_pos hi] at h;exact h
theorem Dk.next {bk bl:Nat} {w0 w w':World} {E F:List (Nat × Obj)} {m:Lm} {s:Ld} {T:Nat→Prop} {ls:List As} (K:Dk bk bl w0 w E m s T ls) (H:Ctx w [] w' F):Dk bk bl w0 w' (F++E) m s T ls:=by
 obtain ⟨bm,o,a,oo,c,full,bs,D⟩:=K;exact ⟨bm,o,a,oo,c,full,bs,D.next H⟩
theorem Dk.call {bk bl:Nat} {w0 w w':World} {E:List (Nat × Obj)} {m:Lm} {s:Ld} {T:Nat→Prop} {ls:List As} (K:Dk bk bl w0 w E m s T ls) (h:Ext [] w w'):Dk bk bl w0 w' E m s T ls:=by
 obtain ⟨bm,o,a,oo,c,full,bs,D⟩:=K;exact ⟨bm,o,a,oo,c,full,bs,D.call h⟩
theorem Dk.own {bk bl:Nat} {w0 w:World} {E:List (Nat × Obj)} {m:Lm} {s:Ld} {T:Nat→Prop} {ls:List As} (K:Dk bk bl w0 w E m s T ls):∀ x∈E,w.heap[x.1]? = some x.2:=by
 obtain ⟨bm,o,a,oo,c,full,bs,D⟩:=K;exact fun x hx=>D.own x (List.mem_append_right _ (List.mem_append_right _ hx))
theorem Dk.ext {bk bl:Nat} {w0 w:World} {E:List (Nat × Obj)} {m:Lm} {s:Ld} {T:Nat→Prop} {ls:List As} (K:Dk bk bl w0 w E m s T ls):Ext [] w0 w:=by
 obtain ⟨bm,o,a,oo,c,full,bs,D⟩:=K;exact D.L.H.ext
theorem VL {bk bl:Nat} {w0 w:World} {E:List (Nat × Obj)} {m:Lm} {s:Ld} {T:Nat→Prop} {ls:List As} (K:Dk bk bl w0 w E m s T ls) {a:Option Addr} {c:Nat} {l:List UInt8} (hB:BIn E a c l) (hl:l.length≤1000)
  (hk:Cz l=true→(D5 l).kd=1∨(D5 l).kd=2∨(D5 l).kd=12∨(C0 ls (gaC l,gaN l)).isSome=true) :
  Ret Tryz.prog 11 #[ptr bk,.slice a l.length c] w fun v w'=>PU bk bl w0 w w' E s T ls l v:=by
 obtain ⟨bm,o,a,oo,c,full,bs,D⟩:=K;exact Xg D hB hl hk
theorem Fy {bk bl:Nat} {w0 w w':World} {E:List (Nat × Obj)} {m:Lm} {s:Ld} {T:Nat→Prop} {ls:List As} (K:Dk bk bl w0 w E m s T ls) {a:Option Addr} {c:Nat} {full:List Value} {l:List UInt8} (H:Ctx w [] w' (ent a 5 full)) (O:OS a l.length c 1 full (l.map bv))
  (hk:Cz l=true→(D5 l).kd=1∨(D5 l).kd=2∨(D5 l).kd=12∨(C0 ls (gaC l,gaN l)).isSome=true)  (hl:l.length≤1000:=by omega):
  Ret Tryz.prog 11 #[ptr bk,.slice a l.length c] w' fun v w''=>PU bk bl w0 w' w'' (ent a 5 full++E) s T ls l v :=
 VL (K.next H) ⟨full,O,fun _ h=>List.mem_append_left _ h⟩ hl hk
theorem N1 {x:As} {k:Nat × Nat} (h:BD x=k):C0 [x] k=some x:=by
 unfold C0;rw [List.find?_cons_of_pos (by rw [h]; exact decide_eq_true rfl)]
abbrev kO:Ak:=⟨1,0,0,0,0,0,0⟩
abbrev kB:Ak:=⟨10,0,0,0,0,0,0⟩
theorem Im:MayB kO:=⟨by decide,by decide,by decide,by decide,by decide,by decide,by decide⟩
theorem Um:MayB kB:=⟨by decide,by decide,by decide,by decide,by decide,by decide,by decide⟩
abbrev s1:Ld:=⟨0,[a00],[],1,[],0⟩
theorem Rj {s':Ld} {p:Rp} (h:CV s00 kO s' p):s'=s1∧p=⟨0,[0]⟩:=by
 obtain ⟨h1,h2⟩:=Hr h (by decide);exact ⟨h1,h2⟩
theorem JS {s':Ld} {ls':List As} {l r:List UInt8} (h:EE s00 [] l s' ls' r) (e:l=CC 1 1 kO):s'=s1∧r=Ef 1 1 0 [0]∧∃ y,ls'=[y]∧BD y=(1,1)∧y.ask=l∧y.rep=r:=by
 obtain ⟨h1,h2,h3,h4⟩:=Ik (c:=1) (n:=1) Im;rw [← e] at h1 h2 h3 h4;obtain ⟨p,y,hs,hr,hc,hn,ha,hp,hl⟩:=Gu h h1 rfl;rw [h4] at hs;obtain ⟨rfl,rfl⟩:=Rj hs;rw [h2,h3] at hr;exact ⟨rfl,hr,y,hl,by unfold BD; rw [hc,hn,h2,h3],ha,hp⟩
end Go.Proofs.YtibemkominehdaaGreat
namespace Go.Proofs.YtibemkominehdaaGreat
open Go.GV
attribute [local irreducible] Al W Wq Wt
set_option maxRecDepth 20000 in
set_option maxHeartbeats 4000000 in
theorem Ex (w:World):Ret Tryz.prog 7 #[] w fun v w'=>v = .bool true∧Ext [] w w':=by
 obtain ⟨w0,rfl⟩:∃ w0,w0=w:=⟨_,rfl⟩;obtain ⟨l1,e1⟩:∃ l1,l1=CC 1 1 kO:=⟨_,rfl⟩;obtain ⟨l3,e3⟩:∃ l3,l3=CC 1 1 kB:=⟨_,rfl⟩;have g1:=Ik (c:=1) (n:=1) Im;have g3:=Ik (c:=1) (n:=1) Um;have n1:=Fb 1 1 kO;have n3:=Fb 1 1 kB;rw [← e1] at g1 n1;rw [← e3] at g3 n3
 have hne:l1≠l3:=fun h=>by
  have h2:=g3.2.2.2;rw [← h,g1.2.2.2] at h2;cases h2
 have H:=Ctx.start w0 [];refine Au (fn:=Tryz.f7) Tryz.func7 U [] U ?_;refine Ag (Am U (Ab (Aa (Ag (Ai ca_8 (Nz _) U ?_)))));rintro v w ⟨bk,bl,m0,T0,rfl,K⟩;refine BV U (Ab (Aa (Ag (AA U (Bn (BW kO) I5 G1 ?_)))));refine Ai So (JR 1 1 kO _ Im) U ?_;rintro v w F;rw [← e1] at F;obtain ⟨a15,c15,f15,rfl,O15,H15⟩:=CJ F;refine Ai GU (Fy K H15 O15 (fun _ => .inl (by rw [g1.2.2.2]))) U ?_;rintro v w ⟨r1,a16,c16,f16,m2,s2,T2,ls2,rfl,O16,S,K,-⟩;obtain ⟨rfl,hr1,y,rfl,hky,hya,hyr⟩:=JS S e1;refine Aj U (Ab (Aa (Ag (AA U (Bn (BW kO) I5 G1 ?_)))));refine Ai So (JR 1 1 kO _ Im) U ?_;rintro v w F;rw [← e1] at F;obtain ⟨a19,c19,f19,rfl,O19,H19⟩:=CJ F;refine Ai GU (Fy K H19 O19 (fun _ => .inl (by rw [g1.2.2.2]))) U ?_
 rintro v w ⟨r2,a20,c20,f20,m3,s3,T3,ls3,rfl,O20,S,K,-⟩;obtain ⟨rfl,rfl,hr2⟩:=Il S g1.1 (N1 (by rw [g1.2.1,g1.2.2.1]; exact hky));rw [if_pos hya,hyr] at hr2;subst hr2;refine Aj U (Ab (Aa (Ag (AA U (Bn (BW kB) I5 G1 ?_)))));refine Ai So (JR 1 1 kB _ Um) U ?_;rintro v w F;rw [← e3] at F;obtain ⟨a24,c24,f24,rfl,O24,H24⟩:=CJ F;have fy:C0 [y] (gaC l3,gaN l3)=some y:=N1 (by rw [g3.2.1,g3.2.2.1]; exact hky);refine Ai GU (Fy K H24 O24 (fun _ => .inr (.inr (.inr (by rw [fy]; rfl))))) U ?_;rintro v w ⟨r3,a25,c25,f25,m4,s4,T4,ls4,rfl,O25,S,K,-⟩;obtain ⟨rfl,rfl,hr3⟩:=Il S g3.1 fy;rw [if_neg (by rw [hya]; exact hne),g3.2.1,g3.2.2.1] at hr3;refine Ai Vv (Lp a25 c25 _ r3 1 1 15 _ (OS.rdB O25 (fun x hx=>K.own x (List.mem_append_left _ hx))) U hr3) U ?_;rintro v w ⟨rfl,hx⟩;replace K:=K.call hx
 replace H:=Ctx.start w [];refine C9 U (AO U U (AO U U (AO U U (AO U U (B5 FR H ?_)))));rintro b6 w - H;refine Ae U (Ae U (BB ES U U U (by exact (by simp [AR])) H at0 U ?_));rintro w H;refine Ae U (Ab (Aa ?_))
 replace K:=K.next H
 replace H:=Ctx.start w [];refine Ag (AA U (Cn _ (.int _ _) BQ FC MS U U U U H ?_));rintro b33 w - H;refine Ai GU (Fy (a:=some ⟨b33,0,none⟩) (c:=1) (full:=[.int .u8 1]) (l:=[1]) K H ⟨(fun p hp=>by cases hp; rfl),(fun h=>by cases h),rfl,Nat.le_refl _,rfl⟩ (hl:=by decide) (fun h=>by cases h)) U ?_;rintro v w ⟨r4,a34,c34,f34,m5,s5,T5,ls5,rfl,O34,S,K,-⟩;obtain ⟨rfl,rfl,hr4⟩:=Ri S rfl;refine Ai Vv (Lp a34 c34 _ r4 0 0 5 _ (OS.rdB O34 (fun x hx=>K.own x (List.mem_append_left _ hx))) U hr4) U ?_;rintro v w ⟨rfl,hx⟩;replace K:=K.call hx;replace H:=Ctx.start w [];refine C9 U (AO U U (AO U U (AO U U (AO U U (B5 FR H ?_)))));rintro b10 w - H;refine Ae U (Ae U (BB ES U U U (by exact (by simp [AR])) H at0 U ?_));rintro w H;refine Ae U (Ab (Aa ?_))
 replace K:=K.next H
 replace H:=Ctx.start w [];have h10:w.heap[b10]? = some (Bl 85 [.int .i64 5,.slice none 0 0]):=K.own (b10,_) (List.mem_append_left _ (List.mem_cons_self ..));have h6:w.heap[b6]? = some (Bl 85 [.int .i64 15,.slice none 0 0]):=K.own (b6,_) (List.mem_append_right _ (List.mem_append_right _ (List.mem_append_right _ (List.mem_append_left _ (List.mem_cons_self ..)))));have R16:Rd w a16 1 B8 r2:=OS.rdB O16 (fun x hx=>K.own x (List.mem_append_right _ (List.mem_append_right _ (List.mem_append_right _ (List.mem_append_right _ (List.mem_append_right _ (List.mem_append_right _ (List.mem_append_right _ (List.mem_append_right _ (List.mem_append_left _ hx))))))))));have R20:Rd w a20 1 B8 r2:=OS.rdB O20 (fun x hx=>K.own x (List.mem_append_right _ (List.mem_append_right _ (List.mem_append_right _ (List.mem_append_right _ (List.mem_append_right _ (List.mem_append_right _ (List.mem_append_left _ hx))))))))
 have h22:r2.length=22:=by rw [hr1,JN]; rfl
 refine Ag (An U U (E8 (l:=r2) BQ Er LG U R16 ?_));refine An U U (E8 (l:=r2) BQ Er LG U R20 ?_);refine Jv (l:=r2) (m:=r2) U U U ?_;rw [show decide (r2=r2)=true from decide_eq_true rfl,h22];refine Ap U (An U U (Bp BQ U (Cp U U (Av U (.bool _) U (Ap U (AA U (Ai Si (Ln K) U ?_)))))));rintro v w ⟨hx,z,a52,n52,c52,rfl,Z⟩;have hE:=(Dk.ext K).trans hx;replace h6:=hx.to h6 (by simp);replace h10:=hx.to h10 (by simp);replace H:=Ctx.start w [];refine Qr (off:=1) (v := .slice z.aA 1 z.cA) U U U ?_;refine Bp CM U (Cp U U (Av U (.bool _) U (Ap U (Ad U (Cp U U (Av U (.bool _) U (Ap U (Ah Ha U (BN KD U ((by rw [A6 h6]; rfl)) ?_)))))))));refine Cp U U (Av U (.bool _) U (Ap U (Ad U (Cp U U (Av U (.bool _) U (Ap U (Ah Ha U (BN KD U ((by rw [A6 h10]; rfl)) ?_))))))))
 refine Cp U U (Av U (.bool _) U (Am U (Ab (Aa (A9 (AD (v:=(.bool _)) U U U ?_))))));exact ⟨rfl,hE⟩
end Go.Proofs.YtibemkominehdaaGreat
namespace Go.Proofs.YtibemkominehdaaGreat
open Go.GV
attribute [local irreducible] Al W Wq Wt
theorem OL (a:Option Addr) (n c:Nat) (w:World):Ret Tryz.prog 4 #[.slice a n c] w fun v w'=>v = .bool true∧Ext [] w w':=by
 obtain ⟨w0,rfl⟩:∃ w0,w0=w:=⟨_,rfl⟩;have H:=Ctx.start w0 [];refine Au (fn:=Tryz.f4) Tryz.func4 U [.slice a n c] U ?_;refine Ag (Am U (Ab (Aa (Ax (Ag (An U U (Bp BQ U (CP U U (Ab (Aa (Ay _ U ?_ ?_)))))))))))
 ·intro h1;replace h1:=AX h1;refine Ag (Ai Su (Ex _) U ?_);rintro v w ⟨rfl,hx⟩;replace H:=H.call hx;refine Am U (Ab (Aa (A9 (A7 (AD (v:=(.bool _)) U U U ?_)))));exact ⟨rfl,H.ext⟩
 ·intro h1;replace h1:=AY h1;refine A2 (Aa (Ag (BV U (Ab (Aa (Ag (AA U (An U U (Ai GU (Rg a n c _) U ?_)))))))));rintro v w ⟨rfl,hx⟩;replace H:=H.call hx;refine Bp BQ U (Cp U U (Ap U (AA U (Ai Si (Mj _) U ?_))));rintro v w ⟨rfl,hx⟩;replace H:=H.call hx;refine Bn (stC JP Kl) S8 I6 ?_;refine Ai ca_12 (Ul _) U ?_;rintro v w ⟨rfl,hx⟩;replace H:=H.call hx;refine Av U (.bool _) U (Ap U (Ai Su (Ex _) U ?_));rintro v w ⟨rfl,hx⟩;replace H:=H.call hx;refine Av U (.bool _) U (Am U (Ab (Aa (A9 (AD (v:=(.bool _)) U U U ?_)))));exact ⟨rfl,H.ext⟩
def Ey (L:List As):List As:=L.drop (L.length - 32)
theorem Rk (L:List As) (y:As):IF (Ey L) y=Ey (L++[y]):=by
 unfold IF Ey;rw [List.length_drop,List.length_append,List.length_singleton]
 by_cases h:L.length<32
 ·rw [if_pos (by omega),show L.length - 32=0 by omega,show L.length+1 - 32=0 by omega];rfl
 ·rw [if_neg (by omega),← List.drop_append_of_le_length (by omega),List.drop_drop,show L.length - 32+1=L.length+1 - 32 by omega]
theorem Un {L:List As} {x:As} (h:x∈Ey L):x∈L:=List.mem_of_mem_drop h
theorem Mk {L:List As} {k:Nat × Nat} (h:∀ x∈L,BD x≠k):C0 L k=none:=by
 unfold C0;rw [List.find?_eq_none];exact fun x hx=>by rw [decide_eq_true_eq]; exact h x hx
abbrev sB (b:Int):Ld:=⟨0,[⟨b,0⟩],[],1,[],0⟩
abbrev kF (x:Int):Ak:=⟨2,0,0,x,0,0,0⟩
abbrev kL:Ak:=⟨12,0,0,0,0,0,0⟩
theorem Uo:MayB kL:=⟨by decide,by decide,by decide,by decide,by decide,by decide,by decide⟩
theorem Xi {x:Int} (h:0<x∧x≤65536:=by omega):MayB (kF x):=by
 refine ⟨?_,?_,?_,?_,?_,?_,?_⟩ <;> dsimp only <;> omega
theorem Lq {b x:Int} {s':Ld} {p:Rp} (h:CV (sB b) (kF x) s' p) (hb:0≤b∧b≤65536) (hx:0<x∧x≤65536:=by omega):s'=sB (b+x)∧p=⟨0,[b+x,0]⟩:=by
 obtain ⟨h1,h2⟩:=Hr h (by dsimp only; omega)
 have hc:Dd [⟨b,0⟩] 0 x=0:=by
  have h1:inA [⟨b,0⟩] 0=true:=rfl;have h2:Cr b=true:=Cd.2 (by omega);have h3:Cr x=true:=Cd.2 (by omega);unfold Dd;rw [if_neg (by rw [h1]; decide),if_neg (by rw [h3,decide_eq_true hx.1]; decide),if_neg];unfold D4;show ¬ (if (List.all [b,x] Cr)=false then ((0:Int),(1:Int)) else if BO [b,x]≤4503599627370496 then (BO [b,x],0) else (0,13)).2≠0;have h4:List.all [b,x] Cr=true:=by simp [h2,h3]
  have h5:BO [b,x]≤4503599627370496:=by simp [BO]; omega
  rw [if_neg (by rw [h4]; decide),if_pos h5];exact fun h=>h rfl
 have ha:Cy [⟨b,0⟩] 0 x=[⟨b+x,0⟩]:=by
  unfold Cy;rw [if_pos hc];rfl
 constructor
 ·rw [h1];show ({ sB b with acs:=Cy [⟨b,0⟩] 0 x }:Ld)=_;rw [ha]
 ·rw [h2];show rp (JO (Cy [⟨b,0⟩] 0 x) 0) (Dd [⟨b,0⟩] 0 x)=_;rw [ha,hc];rfl
theorem Rl {s s':Ld} {p:Rp} (h:CV s kL s' p):s'=s:=(Hr h (by decide)).1
end Go.Proofs.YtibemkominehdaaGreat
namespace Go.Proofs.YtibemkominehdaaGreat
open Go.GV
attribute [local irreducible] Al W Wq Wt
structure FgZ where
 i:Nat
 m:Lm
 T:Nat→Prop
 R:List As
 F:List (Nat × Obj)
structure FgI (bk bl:Nat) (w0 w:World) (E:List (Nat × Obj)) (s:Ld) (y1 y2:As) (t:FgZ):Prop where
 K:Dk bk bl w0 w (t.F++E) t.m s t.T (Ey (y1::y2::t.R))
 n:t.R.length=t.i
 k:∀ z∈t.R,2≤z.c∧z.n<100+t.i
theorem OM {L:List As} (h:L.length≤32):Ey L=L:=by
 unfold Ey;rw [show L.length - 32=0 by omega];rfl
theorem Xj {c n:Nat} {e e' x y:Int} {l l':List Int} (h:w64 x≠w64 y):Ef c n e (x::l)≠Ef c n e' (y::l'):=fun hh=>by
 have h1:=Li c n e x l;rw [hh,Li] at h1;exact h h1.symm
theorem Rm {y1 y2:As} {R:List As} (h1:BD y1=(1,1)) (h2:BD y2=(1,2)) (hR:∀ z∈R,2≤z.c):C0 (Ey (y1::y2::R)) (1,2)=if R.length≤31 then some y2 else none:=by
 have hno:∀ z∈R,BD z≠(1,2):=fun z hz h=>by
  have:=hR z hz;have h3:z.c=1:=congrArg Prod.fst h;omega
 by_cases h:R.length≤30
 ·rw [OM (by simp only [List.length_cons]; omega),if_pos (by omega)];unfold C0;rw [List.find?_cons_of_neg (by rw [h1]; decide),List.find?_cons_of_pos (by rw [h2]; decide)]
 ·by_cases h':R.length=31
  ·rw [if_pos (by omega)];unfold Ey C0;rw [show (y1::y2::R).length - 32=1 by simp only [List.length_cons]; omega];show List.find? _ (y2::R)=_;rw [List.find?_cons_of_pos (by rw [h2]; decide)]
  ·rw [if_neg (by omega)];refine Mk fun z hz=>hno z ?_;unfold Ey at hz;obtain ⟨k,hk⟩:∃ k,(y1::y2::R).length - 32=k+2:=⟨R.length - 32,by simp only [List.length_cons]; omega⟩;rw [hk] at hz;exact List.mem_of_mem_drop hz
theorem Xk {x i:Nat} {ls ls':List As} {s':Ld} {l r r2:List UInt8} {y:As} (S:EE (sB (1+x)) ls l s' ls' r) (g:Cz l=true∧gaC l=1∧gaN l=2∧D5 l=kF (1+x)) (ha:y.ask=l) (hr:y.rep=r2) (hf:C0 ls (1,2)=if i≤31 then some y else none) (hx:x<65536) :
  ∃ b:Int,s'=sB b∧((i≤31∧b=1+x∧r=r2)∨(32≤i∧b=1+x+(1+x)∧r=Ef 1 2 0 [1+x+(1+x),0])):=by
 obtain ⟨g1,g2,g3,g4⟩:=g
 by_cases h:i≤31
 ·rw [if_pos h] at hf;obtain ⟨rfl,-,rfl⟩:=Il S g1 (by rw [g2,g3]; exact hf);exact ⟨_,rfl,.inl ⟨h,rfl,by rw [if_pos ha,hr]⟩⟩
 ·rw [if_neg h] at hf;obtain ⟨p,y,hs,hr,-,-,-,-,-⟩:=Gu S g1 (by rw [g2,g3]; exact hf);rw [g4] at hs;obtain ⟨rfl,rfl⟩:=Lq hs (by omega);rw [g2,g3] at hr;exact ⟨_,rfl,.inr ⟨by omega,rfl,hr⟩⟩
set_option maxRecDepth 20000 in
set_option maxHeartbeats 4000000 in
theorem JT (x k:Nat) (a:Option Addr) (c:Nat) (l:List UInt8) (w:World) (R:Rd w a 1 B8 l)  (hx:x<65536:=by omega) (hk:k<256:=by omega):
  Ret Tryz.prog 5 #[.int .u16 (x:Int),.int .u8 (k:Int),.slice a l.length c] w fun v w'=>v = .bool true∧Ext [] w w':=by
 obtain ⟨w0,rfl⟩:∃ w0,w0=w:=⟨_,rfl⟩;obtain ⟨l1,e1⟩:∃ l1,l1=CC 1 1 kO:=⟨_,rfl⟩;obtain ⟨l2,e2⟩:∃ l2,l2=CC 1 2 (kF (1+x)):=⟨_,rfl⟩;have hF:MayB (kF (1+(x:Int))):=Xi;have g1:=Ik (c:=1) (n:=1) Im;have g2:=Ik (c:=1) (n:=2) hF;have n1:=Fb 1 1 kO;have n2:=Fb 1 2 (kF (1+x));rw [← e1] at g1 n1;rw [← e2] at g2 n2;have H:=Ctx.start w0 [];refine Au (fn:=Tryz.f5) Tryz.func5 U [.int .u16 (x:Int),.int .u8 (k:Int),.slice a l.length c] U ?_;refine Ag (Am U (Ab (Aa (Ag (Ai ca_8 (Nz _) U ?_)))));rintro v w ⟨bk,bl,m0,T0,rfl,K⟩;refine BV U (Ab (Aa (Ag (Ad U (BP U Er E0 ?_)))));refine Rv U U U (by omega) ?_;refine Ae U (Ab (Aa (Ax (Ag (An U U (Bp BQ U (CP U U (Ab (Aa (Ay _ U ?_ ?_))))))))))
 ·intro h1;replace h1:=AX h1;refine Ag ?_;have hE:=Dk.ext K;refine Ai Su (Ex _) U ?_;rintro v w ⟨rfl,hx2⟩;replace hE:=hE.trans hx2;refine Am U (Ab (Aa (A9 (A7 (AD (v:=(.bool _)) U U U ?_)))));exact ⟨rfl,hE⟩
 ·intro h1;replace h1:=AY h1;refine A2 (Aa (Ag (Bn (BW kO) I5 G1 ?_)));refine Ai Sj (JQ 1 1 kO _ Im) U ?_;rintro v w F;rw [← e1] at F;obtain ⟨a25,c25,f25,rfl,O25,H25⟩:=CJ F;refine Aj U (Ab (Aa (Ag (AA U (An U U (Ai GU (Fy K H25 O25 (fun _ => .inl (by rw [g1.2.2.2]))) U ?_))))));rintro v w ⟨r1,a28,c28,f28,m2,s2,T2,ls2,rfl,O28,S,K,-⟩;obtain ⟨rfl,hr1,y1,rfl,hky1,hya1,hyr1⟩:=JS S e1;refine Ab (Aa (Ag (Ad U (BP U SE Ki ?_))));refine A3 U U ?_;refine Bn (BW (kF (1+x))) I5 G1 ?_;refine Ai Sj (JQ 1 2 (kF (1+x)) _ hF) U ?_;rintro v w F;rw [← e2] at F;obtain ⟨a33,c33,f33,rfl,O33,H33⟩:=CJ F;refine Aj U (Ab (Aa (Ag (AA U (An U U ?_)))))
  have f2:C0 [y1] (gaC l2,gaN l2)=none:=Mk (fun z hz=>by rw [List.mem_singleton.1 hz,hky1,g2.2.1,g2.2.2.1]; decide);refine Ai GU (Fy K H33 O33 (fun _ => .inr (.inl (by rw [g2.2.2.2])))) U ?_;rintro v w ⟨r2,a36,c36,f36,m3,s3,T3,ls3,rfl,O36,S,K,-⟩;obtain ⟨p2,y2,hs2,hr2,hc2,hn2,hya2,hyr2,rfl⟩:=Gu S g2.1 f2;rw [g2.2.2.2] at hs2;obtain ⟨rfl,rfl⟩:=Lq (b:=0) hs2 (by decide);rw [g2.2.1] at hc2 hr2;rw [g2.2.2.1] at hn2 hr2;rw [Int.zero_add] at hr2 K;refine Aj U (Ab (Aa (Ax (Ag (Ae U (Ab (Aa (A4 ?_))))))));obtain ⟨E2,hE2⟩:∃ E2,E2=(ent a36 5 f36++(ent a33 5 f33++(ent a28 5 f28++(ent a25 5 f25++[])))):=⟨_,rfl⟩;rw [← hE2] at K;have B33:BIn E2 a33 c33 l2:=⟨f33,O33,fun z hz=>by rw [hE2]; exact List.mem_append_right _ (List.mem_append_left _ hz)⟩;have B36:BIn E2 a36 c36 r2:=⟨f36,O36,fun z hz=>by rw [hE2]; exact List.mem_append_left _ hz⟩;clear H
  have hky2:BD y2=(1,2):=by unfold BD; rw [hc2,hn2]
  refine Bt 2305842871774752768 (α:=FgZ) (fun t=>[(12,.int .i64 (t.i:Int))]) (fun t w'=>t.i≤k % 40∧FgI bk bl w0 w' E2 (sB (1+x)) y1 y2 t) (fun t=>40 - t.i) ⟨0,m3,T3,[],[]⟩ U ?_ ?_ ?_
  ·exact ⟨rfl,trivial⟩
  ·exact ⟨Nat.zero_le _,K,rfl,fun z hz=>by cases hz⟩
  ·clear K;rintro ⟨i,m4,T4,R4,F4⟩ j w ⟨hi,K,hn,hk4⟩; dsimp only at hi K hn hk4; dsimp only;refine Ax (Ag (Ad U (Ad U (Bu U U (Ab (Aa (Ay _ U ?_ ?_)))))))
   ·intro h2;replace h2:=AX h2;refine A2 (Aa (Ax (A4 (Ag (Ae U (Ab (Aa (Ax (Ag (Ad U (An U U ?_)))))))))));refine Bp BQ U (Bu U U (Ab (Aa (Dl 8936830510571520 (α:=Nat) (fun q=>[(13,.int .u32 (q:Int))]) (fun q w'=>w'=w∧2≤q∧q≤6) U ?_ ?_))))
    ·skip
     refine Ay _ U ?_ ?_
     ·intro h3;replace h3:=AX h3;obtain ⟨b,hb⟩:=AV (l:=l) (i:=i);have hbl:b.toNat<256:=Ho b;refine A5 (An U U (Ad U (BC (R.ext0 K.ext) BQ FC U U (by rfl) ?_)));refine BN GS U (((R.ext0 K.ext).one (f:=bv) hb)) ?_;refine Rv (a:=(b.toNat:Int)) U U U (by decide) ?_;refine It U U Er MR (by omega) (by omega) ?_;refine NG U U U ?_;refine Ae U (Ab (Aa ?_));exact ⟨2+b.toNat % 5,rfl,⟨congrArg (Value.int .u32) (by omega),trivial⟩,rfl,by omega,by omega⟩
     ·intro h3;replace h3:=AY h3;refine A2 (Aa ?_);exact ⟨2,rfl,⟨rfl,trivial⟩,rfl,by omega,by omega⟩
    ·rintro q j2 w2 ⟨rfl,hq1,hq2⟩;obtain ⟨l4,e4⟩:∃ l4,l4=CC q (100+i) kL:=⟨_,rfl⟩;have g4:=Ik (c:=q) (n:=100+i) (hc:=by omega) (hn:=by omega) Uo;have n4:=Fb q (100+i) kL;rw [← e4] at g4 n4
     have f4:C0 (Ey (y1::y2::R4)) (gaC l4,gaN l4)=none:=Mk fun z hz hzk=>by
      rw [g4.2.1,g4.2.2.1] at hzk
      rcases List.mem_cons.1 (Un hz) with rfl | hz
      ·rw [hky1,Prod.mk.injEq] at hzk; omega
      ·rcases List.mem_cons.1 hz with rfl | hz
       ·rw [hky2,Prod.mk.injEq] at hzk; omega
       ·have h5:=(hk4 z hz).2;have h6:z.n=100+i:=congrArg Prod.snd hzk;omega
     refine A5 (AA U (Bn (BW kL) I5 G1 ?_));refine Ad U (Ad U (A3 U U ?_));refine Cv U E0 CH ?_;rw [show (100:Int)+(i:Int)=((100+i:Nat):Int) by omega];refine Ai Sj (JQ q (100+i) kL _ (hc:=by omega) (hn:=by omega) Uo) U ?_;rintro v w F;rw [← e4] at F;obtain ⟨a59,c59,f59,rfl,O59,H59⟩:=CJ F;refine Ai GU (Fy K H59 O59 (fun _ => .inr (.inr (.inl (by rw [g4.2.2.2]))))) U ?_;rintro v w ⟨r4,a60,c60,f60,m5,s5,T5,ls5,rfl,O60,S,K,-⟩;obtain ⟨p4,y,hs4,hr4,hc4,hn4,hya4,hyr4,rfl⟩:=Gu S g4.1 f4;rw [g4.2.2.2] at hs4;obtain rfl:=Rl hs4;rw [Rk] at K;refine Ab (AU (Aa (A5 (Ad U (A3 U U ?_)))));refine Ae U (Ab (Aa ?_))
     refine ⟨⟨i+1,m5,T5,R4++[y],ent a60 5 f60++(ent a59 5 f59++F4)⟩,rfl,⟨rfl,trivial⟩,⟨by dsimp only; omega,by rw [List.append_assoc,List.append_assoc]; exact K,by rw [List.length_append]; dsimp only; rw [hn]; rfl,fun z hz=>?_⟩,by dsimp only; omega⟩;dsimp only at hz ⊢
     rcases List.mem_append.1 hz with hz | hz
     ·have:=hk4 z hz;omega
     ·rw [List.mem_singleton.1 hz,hc4,hn4,g4.2.1,g4.2.2.1];omega
   ·intro h2;replace h2:=AY h2;have hik:i=k % 40:=by omega
    have hf:=Rm hky1 hky2 (fun z hz=>(hk4 z hz).1);rw [hn] at hf;refine Bs (Ao (Ao (AK (Aa (Ag (AA U (An U U (Ai GU (VL K (B33.mono fun z hz=>List.mem_append_right _ hz) (by omega) (fun _ => .inr (.inl (by rw [g2.2.2.2])))) U ?_))))))));rintro v w ⟨r3,a63,c63,f63,m5,s5,T5,ls5,rfl,O63,S,K,-⟩;have R63:Rd w a63 1 B8 r3:=OS.rdB O63 (fun z hz=>K.own z (List.mem_append_left _ hz));have R36:Rd w a36 1 B8 r2:=(B36.rd fun z hz=>K.own z (List.mem_append_right _ (List.mem_append_right _ hz))).1;obtain ⟨b,rfl,hb⟩:=Xk S g2 hya2 hyr2 hf hx;refine Aj U (Ab (Aa (Ag (AA U (Ai Si (Ln K) U ?_)))));rintro v w ⟨hx,z,a65,n65,c65,rfl,Z⟩;have hE:=(Dk.ext K).trans hx;replace R63:=R63.ext0 hx;replace R36:=R36.ext0 hx;have H:=Ctx.start w [];refine B5 I6 H ?_;rintro b15 w - H;refine BB FP U U U (by exact (by simp [AR])) H at0 U ?_;rintro w H
    refine Ab (Aa (Ax (Ag (Ah GZ U (AH EA U H at0 U (Bp CM U (CQ U U (Ab (Aa (E5 U (A2 (Aa ?_))))))))))));refine Ax (Ag (Ad U (Jn U U U (Ab (Aa (Ay _ U ?_ ?_))))))
    ·intro h3;replace h3:=AX h3;obtain ⟨h5,rfl,hrr⟩:i≤31∧b=1+x∧r3=r2:=hb.elim id fun h=>absurd h.1 (by omega);refine Ag (An U U (E8 (l:=r3) BQ Er LG U (R63.ext0 H.ext) ?_));refine An U U (E8 (l:=r2) BQ Er LG U (R36.ext0 H.ext) ?_);refine Jv (l:=r3) (m:=r2) U U U ?_;rw [show decide (r3=r2)=true from decide_eq_true hrr];refine Ap U (Ah GZ U (AH EA U H at0 U (BC (Z.A.ext0 H.ext) CM Dj U U (h0:=by decide) (h1:=by show (0:Int)<((1:Nat):Int); decide) U ?_)));refine Ah Fm U (BN CT U (((Z.A.ext0 H.ext).fld (i:=0) (x:=⟨_,0⟩) U U (j:=0) U)) ?_);refine Ad U (BP U SE Ki ?_);refine A3 U U ?_;refine Cp U U ?_;rw [show decide ((1+x:Int)=1+x)=true from decide_eq_true rfl];refine Av U (.bool _) U (Ap U ?_);replace hE:=hE.trans H.ext;refine Ai Su (Ex _) U ?_;rintro v w ⟨rfl,hx2⟩;replace hE:=hE.trans hx2
     refine Av U (.bool _) U (Am U (Ab (Aa (A9 (A7 (AD (v:=(.bool _)) U U U ?_))))));exact ⟨rfl,hE⟩
    ·intro h3;replace h3:=AY h3;obtain ⟨h5,rfl,hrr⟩:32≤i∧b=1+x+(1+x)∧r3=Ef 1 2 0 [1+x+(1+x),0]:=hb.elim (fun h=>absurd h.1 (by omega)) id
     have hne:r3≠r2:=by
      rw [hrr,hr2];exact Xj (by unfold w64; omega)
     refine A2 (Aa (Ag (An U U (E8 (l:=r3) BQ Er LG U (R63.ext0 H.ext) ?_))));refine An U U (E8 (l:=r2) BQ Er LG U (R36.ext0 H.ext) ?_);refine R9 (l:=r3) (m:=r2) U U U ?_;rw [show decide (r3=r2)=false from decide_eq_false hne];refine Ap U (Ah GZ U (AH EA U H at0 U (BC (Z.A.ext0 H.ext) CM Dj U U (h0:=by decide) (h1:=by show (0:Int)<((1:Nat):Int); decide) U ?_)));refine Ah Fm U (BN CT U (((Z.A.ext0 H.ext).fld (i:=0) (x:=⟨_,0⟩) U U (j:=0) U)) ?_);refine Ad U (BP U SE Ki ?_);refine C1 U U ?_;refine A3 U U ?_;refine Cp U U ?_;rw [show decide ((1+x+(1+x):Int)=2+2*x)=true from decide_eq_true (by omega)];refine Av U (.bool _) U (Ap U ?_);replace hE:=hE.trans H.ext;refine Ai Su (Ex _) U ?_;rintro v w ⟨rfl,hx2⟩;replace hE:=hE.trans hx2
     refine Av U (.bool _) U (Am U (Ab (Aa (A9 (AD (v:=(.bool _)) U U U ?_)))));exact ⟨rfl,hE⟩
theorem Km (x k:Int) (a:Option Addr) (c:Nat) (l:List UInt8) (w:World) (hx:0≤x∧x≤65535) (hk:0≤k∧k≤255) (R:Rd w a 1 B8 l) :
  Ret Tryz.prog 5 #[.int .u16 x,.int .u8 k,.slice a l.length c] w fun v w'=>v = .bool true∧Ext [] w w':=by
 obtain ⟨n,rfl⟩:∃ n:Nat,x=n:=⟨x.toNat,by omega⟩;obtain ⟨m,rfl⟩:∃ n:Nat,k=n:=⟨k.toNat,by omega⟩;exact JT n m a c l w R
end Go.Proofs.YtibemkominehdaaGreat
namespace Go.Proofs.YtibemkominehdaaGreat
open Go.GV Go.ChangeShapes Go.WideShapes
theorem own:ownKnob Tryz.prog.godebug=none:=by kernel_rfl
theorem PV:laidOutB Tryz.prog=true:=by kernel_rfl
section
variable {H:Type} {enc:TypeId × Value→H} {w:World} {base:Nat} {spare:Nat→Bool} {held:Bool}
theorem Up:∀ n cs y,DataW.trod enc Tryz.prog w base spare held n 5 cs=some y→∃ b:UInt8,cs=B8 b∧True:=by
 intro n cs y h;obtain ⟨d,rfl,h1,h2⟩:=UB Tryz.underlying5 n cs y h;have h1:(0:Int)≤d:=h1;have h2:d≤255:=h2;refine ⟨UInt8.ofNat d.toNat,?_,trivial⟩;have:(UInt8.ofNat d.toNat).toNat=d.toNat:=by simp [UInt8.toNat_ofNat']; omega
 rw [B8,bv,this,Int.toNat_of_nonneg h1]
theorem Rn:Tryz.prog.cellsOf 5=1:=by kernel_rfl
set_option maxRecDepth 100000 in
theorem N2 {b:Nat} {v:Value} {d:DataW H} {ps:List MemPlace} (hv:Value.okWide Tryz.prog w .any b 27 v) (h:DataW.Trod enc Tryz.prog w base spare held 27 v d ps):∃ a c l,v = .slice a l.length c∧Rd w a 1 B8 l∧l.length≤c:=by
 obtain ⟨a,c,l,h1,h2,hc,-,-⟩:=UA Tryz.underlying27 Rn Up (okWide_slice Tryz.underlying27 hv) h;exact ⟨a,c,l,h1,h2,hc⟩
end
end Go.Proofs.YtibemkominehdaaGreat
