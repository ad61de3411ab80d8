/- Part 4 of the proof. -/
import Derived.Test.YtbkadlngijkmmaaGreatDoorPart3
import Derived.Shelf.SlIterI.Nil
import Derived.Shelf.SortM.Plain
import Derived.Shelf.SortM.SortNone
import Derived.Ground.GgzProg
import Derived.Ground.SlgmProg
import Derived.Test.YtbkadlngijkmmaaGreatDoorPart2
import Derived.RangeFuncLeaves
/- Nodes, and nodes as bytes. -/
namespace Go.Proofs.YtbkadlngijkmmaaGreatDoor
open Go.GV

structure It where
  key : List UInt8
  val : List UInt8
  page : Nat
def sizeI (inner : Bool) (x : It) : Nat := bif inner then 6 + x.key.length else 4 + x.key.length + x.val.length
def totalI (inner : Bool) (l : List It) : Nat := (l.map (sizeI inner)).sum
def itemB (inner : Bool) (x : It) : List UInt8 := bif inner then putN x.page 4 ++ (putN x.key.length 2 ++ x.key) else putN x.key.length 2 ++ x.key ++ (putN x.val.length 2 ++ x.val)
def bodyI (inner : Bool) (l : List It) : List UInt8 := putN l.length 2 ++ l.flatMap (itemB inner)
def kindI (inner : Bool) (l : List It) : UInt8 := if inner = true ∧ l ≠ [] then 3 else 2

theorem itemB_len (inner : Bool) (x : It) : (itemB inner x).length = sizeI inner x := by
  cases inner <;> simp [itemB, sizeI, putN_len] <;> omega
theorem flat_len (inner : Bool) (l : List It) : (l.flatMap (itemB inner)).length = totalI inner l := by
  induction l with
  | nil => rfl
  | cons x l ih => rw [List.flatMap_cons, List.length_append, itemB_len, ih]; rfl
theorem bodyI_len (inner : Bool) (l : List It) : (bodyI inner l).length = 2 + totalI inner l := by rw [bodyI, List.length_append, putN_len, flat_len]
theorem totalI_append (inner : Bool) (a b : List It) : totalI inner (a ++ b) = totalI inner a + totalI inner b := by simp [totalI]
theorem totalI_cons (inner : Bool) (x : It) (b : List It) : totalI inner (x :: b) = sizeI inner x + totalI inner b := by simp [totalI]

/-! ### Taking -/
/-- A byte string at a place. -/
def tbO (b : List UInt8) (at' : Nat) : Option (List UInt8 × Nat) :=
  if takeE b at' 2 = 0 then (if at' + 2 + numN ((b.drop at').take 2) ≤ b.length then some ((b.drop (at' + 2)).take (numN ((b.drop at').take 2)), at' + 2 + numN ((b.drop at').take 2)) else none) else none
def oneO (inner : Bool) (b : List UInt8) (at' : Nat) : Option (It × Nat) :=
  if inner = true then
    (if takeE b at' 4 = 0 then (match tbO b (at' + 4) with
      | some (k, n) => some (⟨k, [], numN ((b.drop at').take 4)⟩, n)
      | none => none) else none)
  else match tbO b at' with
    | some (k, n) => (match tbO b n with
      | some (v, m) => some (⟨k, v, 0⟩, m)
      | none => none)
    | none => none
def parseG (inner : Bool) (b : List UInt8) : Nat → Nat → Option (List It × Nat)
  | 0, at' => some ([], at')
  | n + 1, at' => match oneO inner b at' with
    | none => none
    | some (x, m) => match parseG inner b n m with
      | none => none
      | some (l, e) => some (x :: l, e)
def finG (inner : Bool) (b : List UInt8) : Option (List It × Nat) → Option (Bool × List It)
  | some r => if r.2 = b.length ∧ r.1 ≠ [] then some (inner, r.1) else none
  | none => none
/-- The node in a block. -/
def parseO (b : List UInt8) : Option (Bool × List It) :=
  if openE b = 0 ∧ takeE (bodyB b) 0 2 = 0 ∧ ((kindB b).toNat = 2 ∨ (kindB b).toNat = 3) then
    finG (decide ((kindB b).toNat = 3)) (bodyB b) (parseG (decide ((kindB b).toNat = 3)) (bodyB b) (numN ((bodyB b).take 2)) 2)
  else none

theorem takeE_0 {b : List UInt8} {at' : Nat} {k : Nat} (hk : sizeB k = true) : takeE b (at' : Int) (k : Int) = 0 ↔ at' + k ≤ b.length := by
  unfold takeE
  rw [hk]
  by_cases h1 : at' ≤ b.length
  · rw [decide_eq_true (show (0 : Int) ≤ (at' : Int) by omega), decide_eq_true (show (at' : Int) ≤ (b.length : Int) by omega)]
    by_cases h2 : at' + k ≤ b.length
    · rw [decide_eq_true (show (k : Int) ≤ (b.length : Int) - (at' : Int) by omega)]
      simp [h2]
    · rw [decide_eq_false (show ¬ (k : Int) ≤ (b.length : Int) - (at' : Int) by omega)]
      simp [h2]
  · rw [decide_eq_false (show ¬ (at' : Int) ≤ (b.length : Int) by omega)]
    simp; omega
theorem takeE_2 {b : List UInt8} {at' : Nat} : takeE b (at' : Int) 2 = 0 ↔ at' + 2 ≤ b.length := takeE_0 (k := 2) (by decide)
theorem takeE_4 {b : List UInt8} {at' : Nat} : takeE b (at' : Int) 4 = 0 ↔ at' + 4 ≤ b.length := takeE_0 (k := 4) (by decide)
theorem drop_app {α : Type} {a b : List α} {n : Nat} (h : a.length = n) : (a ++ b).drop n = b := by subst h; simp
theorem take_app {α : Type} {a b : List α} {n : Nat} (h : a.length = n) : (a ++ b).take n = a := by subst h; simp

theorem tbO_put {A s B : List UInt8} {at' : Nat} (ha : A.length = at') (hs : s.length < 65536) : tbO (A ++ (putN s.length 2 ++ (s ++ B))) at' = some (s, at' + 2 + s.length) := by
  have e1 : (A ++ (putN s.length 2 ++ (s ++ B))).drop at' = putN s.length 2 ++ (s ++ B) := drop_app ha
  have e2 : (putN s.length 2 ++ (s ++ B)).take 2 = putN s.length 2 := take_app (putN_len ..)
  have e3 : numN (putN s.length 2) = s.length := by rw [numN_putN]; exact Nat.mod_eq_of_lt (by omega)
  have e4 : (A ++ (putN s.length 2 ++ (s ++ B))).drop (at' + 2) = s ++ B := by
    rw [← List.append_assoc]; exact drop_app (by rw [List.length_append, putN_len, ha])
  have e5 : (A ++ (putN s.length 2 ++ (s ++ B))).length = at' + 2 + s.length + B.length := by simp [putN_len, ha]; omega
  unfold tbO
  rw [if_pos (takeE_2.2 (by omega)), e1, e2, e3, if_pos (by omega), e4, take_app rfl]

/-- What may stand in a node. -/
def OkI (inner : Bool) (x : It) : Prop := x.key.length < 65536 ∧ x.val.length < 65536 ∧ x.page < 4294967296 ∧ (if inner = true then x.val = [] else x.page = 0)
theorem oneO_item {inner : Bool} {x : It} (hx : OkI inner x) {A B : List UInt8} {at' : Nat} (ha : A.length = at') : oneO inner (A ++ (itemB inner x ++ B)) at' = some (x, at' + sizeI inner x) := by
  obtain ⟨hk, hv, hp, hc⟩ := hx
  obtain ⟨key, val, page⟩ := x
  cases inner with
  | true =>
    simp only [if_true] at hc
    subst hc
    have e0 : A ++ (itemB true ⟨key, [], page⟩ ++ B) = A ++ (putN page 4 ++ (putN key.length 2 ++ (key ++ B))) := by simp [itemB]
    have e1 : (A ++ (putN page 4 ++ (putN key.length 2 ++ (key ++ B)))).drop at' = putN page 4 ++ (putN key.length 2 ++ (key ++ B)) := drop_app ha
    have e2 : (putN page 4 ++ (putN key.length 2 ++ (key ++ B))).take 4 = putN page 4 := take_app (putN_len ..)
    have e3 : numN (putN page 4) = page := by rw [numN_putN]; exact Nat.mod_eq_of_lt (by omega)
    have e4 : tbO (A ++ (putN page 4 ++ (putN key.length 2 ++ (key ++ B)))) (at' + 4) = some (key, at' + 4 + 2 + key.length) := by
      rw [← List.append_assoc]; exact tbO_put (by rw [List.length_append, putN_len, ha]) hk
    have e5 : (A ++ (putN page 4 ++ (putN key.length 2 ++ (key ++ B)))).length = at' + 6 + key.length + B.length := by simp [putN_len, ha]; omega
    unfold oneO
    rw [e0, if_pos rfl, if_pos (takeE_4.2 (by omega)), e4]
    simp only [e1, e2, e3, sizeI, cond_true]
    rw [show at' + 4 + 2 + key.length = at' + (6 + key.length) by omega]
  | false =>
    simp only [Bool.false_eq_true, if_false] at hc
    subst hc
    have e0 : A ++ (itemB false ⟨key, val, 0⟩ ++ B) = A ++ (putN key.length 2 ++ (key ++ (putN val.length 2 ++ (val ++ B)))) := by simp [itemB]
    have e1 := tbO_put (s := key) (B := putN val.length 2 ++ (val ++ B)) ha hk
    have e2 : tbO (A ++ (putN key.length 2 ++ (key ++ (putN val.length 2 ++ (val ++ B))))) (at' + 2 + key.length) = some (val, at' + 2 + key.length + 2 + val.length) := by
      rw [show A ++ (putN key.length 2 ++ (key ++ (putN val.length 2 ++ (val ++ B)))) = (A ++ (putN key.length 2 ++ key)) ++ (putN val.length 2 ++ (val ++ B)) by simp]
      exact tbO_put (by simp [putN_len, ha]; omega) hv
    unfold oneO
    rw [e0, if_neg (by simp), e1]
    simp only [e2, sizeI, cond_false]
    rw [show at' + 2 + key.length + 2 + val.length = at' + (4 + key.length + val.length) by omega]
theorem parseG_items {inner : Bool} : ∀ {l : List It} (_ : ∀ x ∈ l, OkI inner x) {A : List UInt8} {at' : Nat} (_ : A.length = at'), parseG inner (A ++ l.flatMap (itemB inner)) l.length at' = some (l, at' + totalI inner l)
  | [], _, A, at', _ => rfl
  | x :: l, hl, A, at', ha => by
    have h1 := oneO_item (hl x (List.mem_cons_self ..)) (B := l.flatMap (itemB inner)) ha
    have h2 := parseG_items (l := l) (fun y hy => hl y (List.mem_cons_of_mem _ hy)) (A := A ++ itemB inner x) (at' := at' + sizeI inner x) (by rw [List.length_append, itemB_len, ha])
    rw [List.append_assoc] at h2
    rw [List.flatMap_cons, List.length_cons]
    unfold parseG
    rw [h1]
    simp only [h2, totalI_cons]
    rw [Nat.add_assoc]
/-- What was written is read. -/
theorem parse_seal {inner : Bool} {l : List It} (hl : ∀ x ∈ l, OkI inner x) (hne : l ≠ []) (ht : totalI inner l ≤ 503) : parseO (sealB (kindI inner l) (bodyI inner l)) = some (inner, l) := by
  have hbl := bodyI_len inner l
  have hk : (kindI inner l).toNat = if inner = true then 3 else 2 := by unfold kindI; cases inner <;> simp [hne] <;> rfl
  have hk0 : (kindI inner l).toNat ≠ 0 := by rw [hk]; split <;> omega
  have o1 := open_seal (k := kindI inner l) (l := bodyI inner l) hk0 (by omega)
  have o2 := kind_seal (kindI inner l) (bodyI inner l)
  have hb := body_seal (kindI inner l) (l := bodyI inner l) (by omega)
  have hlen : l.length ≤ totalI inner l := by
    have : ∀ l : List It, l.length ≤ totalI inner l := by
      intro l
      induction l with
      | nil => exact Nat.le_refl _
      | cons x l ih =>
        have h1 : 1 ≤ sizeI inner x := by
          cases inner
          · simp only [sizeI, cond_false]; omega
          · simp only [sizeI, cond_true]; omega
        rw [totalI_cons, List.length_cons]; omega
    exact this l
  have hd : decide ((kindI inner l).toNat = 3) = inner := by rw [hk]; cases inner <;> rfl
  unfold parseO
  rw [o2, hb]
  have ht2 : (bodyI inner l).take 2 = putN l.length 2 := take_app (putN_len ..)
  have hn : numN (putN l.length 2) = l.length := by rw [numN_putN]; exact Nat.mod_eq_of_lt (by omega)
  have hp := parseG_items hl (A := putN l.length 2) (at' := 2) (putN_len ..)
  rw [if_pos ⟨o1, (takeE_2 (b := bodyI inner l) (at' := 0)).2 (by omega), by rw [hk]; split <;> simp⟩, ht2, hn, hd]
  rw [show bodyI inner l = putN l.length 2 ++ l.flatMap (itemB inner) from rfl, hp]
  show (if _ then _ else _) = _
  rw [if_pos ⟨by rw [← bodyI_len]; rfl, hne⟩]

end Go.Proofs.YtbkadlngijkmmaaGreatDoor

/- Pointers against nil; reads of maps that any order takes. It holds for every program. -/
namespace Go.GV
open Go

section
variable {P : Program} {r : Option Nat} {ops rest : List Oper} {Q : Exit → Env → World → Prop} {e : Env} {w w0 : World} {S : List Nat} {L : List (Nat × Obj)} {C : World → Prop} {K : Env → Prop}
  {dst : Option Tmp} {ty : TypeId} {pos : String} {af : Array Edge} {g : Option (Nat × Bool)}

theorem run_peq {P : Program} {t el : TypeId} (hu : P.underlying t = some (.pointer el)) (d : Nat) (a : Option Addr) (w : World) : (Op.equalIn (d + 1) t (.pointer a) (.pointer none)).run P w = .ok a.isNone w := by
  cases a <;> simp [Op.equalIn, run_under hu]
theorem run_peql {P : Program} {t el : TypeId} (hu : P.underlying t = some (.pointer el)) (a : Option Addr) (w : World) : (binOp .eql t (.pointer a) (.pointer none)).run P w = .ok (.bool a.isNone) w := by
  simp only [binOp, Sem.run_bind, Op.equal, Op.maxDepth, run_peq hu 9999]
  cases a <;> rfl
theorem run_pneq {P : Program} {t el : TypeId} (hu : P.underlying t = some (.pointer el)) (a : Option Addr) (w : World) : (binOp .neq t (.pointer a) (.pointer none)).run P w = .ok (.bool a.isSome) w := by
  simp only [binOp, Sem.run_bind, Op.equal, Op.maxDepth, run_peq hu 9999]
  cases a <;> rfl

theorem op_eqlptr {t t2 : TypeId} {x : Operand} {a : Option Addr} {el : TypeId} (hg : wants ⟨dst, .binOp .eql t x (.const (.pointer none)) t2, ty, pos, af, g⟩ ops e = true) (hu : P.underlying t = some (.pointer el)) (hx : ev e x = .pointer a)
    (h : Wops P r ops Q rest (put e dst (.bool a.isNone)) w) : Wops P r ops Q (⟨dst, .binOp .eql t x (.const (.pointer none)) t2, ty, pos, af, g⟩ :: rest) e w :=
  op_val hg rfl (by
    have hq : eqGuard .eql t x (.const (.pointer none)) (.pointer a) (.pointer none) = pure () := rfl
    have he : ev e (.const (.pointer none)) = .pointer none := rfl
    simp only [execOp, hx, he, hq, Sem.run_bind, Sem.run_pure, Result.andThen_ok, run_peql hu]) h
theorem op_neqptr {t t2 : TypeId} {x : Operand} {a : Option Addr} {el : TypeId} (hg : wants ⟨dst, .binOp .neq t x (.const (.pointer none)) t2, ty, pos, af, g⟩ ops e = true) (hu : P.underlying t = some (.pointer el)) (hx : ev e x = .pointer a)
    (h : Wops P r ops Q rest (put e dst (.bool a.isSome)) w) : Wops P r ops Q (⟨dst, .binOp .neq t x (.const (.pointer none)) t2, ty, pos, af, g⟩ :: rest) e w :=
  op_val hg rfl (by
    have hq : eqGuard .neq t x (.const (.pointer none)) (.pointer a) (.pointer none) = pure () := rfl
    have he : ev e (.const (.pointer none)) = .pointer none := rfl
    simp only [execOp, hx, he, hq, Sem.run_bind, Sem.run_pure, Result.andThen_ok, run_pneq hu]) h

theorem run_lookup {t k el : TypeId} {kk : IntKind} {x y : Operand} {b : Nat} {o : Obj} {m : List (Int × Value)} {n : Int} {z : Value}
    (ht : mapT P t = some (k, el)) (hk : P.underlying k = some (.int kk)) (hz : (P.info? el).bind (·.zero) = some z) (hx : ev e x = .map (some b)) (hy : ev e y = .int kk n) (hb : w.heap[b]? = some o) (hM : MapO kk m o) :
    (execOp (ev e) ⟨dst, .lookup t x y false, ty, pos, af, g⟩).run P w = .ok (.value ((mget m n).getD z)) w := by
  obtain ⟨es, clock, rfl, hes, _⟩ := hM
  have hf := findNow_at kk n es.toList m 0 hes
  have hgo : (getObj b).run P w = .ok (.map es clock) w := by simp [getObj, Sem.run, hb]
  have hzr : (zeroValue el).run P w = .ok z w := by
    cases hi : P.info? el with
    | none => rw [hi] at hz; cases hz
    | some i => rw [hi] at hz; simp at hz; simp [zeroValue, typeInfo, program, Sem.run, hi, hz]
  cases hm : mget m n with
  | none => simp [execOp, Instr.lookup, run_under (mapT_u ht), hx, hy, hgo, run_checkKey hk, Instr.findKey, run_under hk, hf.1 hm, hzr]
  | some v =>
    obtain ⟨i, hi, _⟩ := hf.2 v hm
    simp [execOp, Instr.lookup, run_under (mapT_u ht), hx, hy, hgo, run_checkKey hk, Instr.findKey, run_under hk, hi]
theorem op_lookupH {t k el : TypeId} {kk : IntKind} {x y : Operand} {b : Nat} {o : Obj} {m : List (Int × Value)} {n : Int} {z : Value} (hg : wants ⟨dst, .lookup t x y false, ty, pos, af, g⟩ ops e = true)
    (ht : mapT P t = some (k, el)) (hk : P.underlying k = some (.int kk)) (hz : (P.info? el).bind (·.zero) = some z) (hx : ev e x = .map (some b)) (hy : ev e y = .int kk n) (hb : w.heap[b]? = some o) (hM : MapO kk m o)
    (h : Wops P r ops Q rest (put e dst ((mget m n).getD z)) w) : Wops P r ops Q (⟨dst, .lookup t x y false, ty, pos, af, g⟩ :: rest) e w :=
  op_val hg rfl (run_lookup ht hk hz hx hy hb hM) h
theorem t_lookup {t k el : TypeId} {kk : IntKind} {x y : Operand} {b j : Nat} {o : Obj} {m : List (Int × Value)} {n : Int} {z : Value} (hg : wants ⟨dst, .lookup t x y false, ty, pos, af, g⟩ ops e = true)
    (ht : mapT P t = some (k, el)) (hk : P.underlying k = some (.int kk)) (hz : (P.info? el).bind (·.zero) = some z) (hx : ev e x = .map (some b)) (hy : ev e y = .int kk n) (H : ∀ w, C w → Ctx w0 S w L) (hl : L[j]? = some (b, o)) (hM : MapO kk m o)
    (h : Wt P ops C K rest (put e dst ((mget m n).getD z))) : Wt P ops C K (⟨dst, .lookup t x y false, ty, pos, af, g⟩ :: rest) e :=
  t_valC rfl hg (fun w hw => run_lookup ht hk hz hx hy ((H w hw).get hl) hM) h
end
theorem Ctx.oldb {w0 w : World} {L : List (Nat × Obj)} {b : Nat} {o : Obj} (H : Ctx w0 [] w L) (h : w0.heap[b]? = some o) : w.heap[b]? = some o := by
  rw [H.ext.block b (heap_lt h) (by simp)]; exact h
theorem OS.rdV {w : World} {a : Option Addr} {n c : Nat} {t : TypeId} {full vs : List Value} (h : OS a n c 1 full vs) (hb : ∀ x ∈ ent a t full, w.heap[x.1]? = some x.2) : Rd w a 1 (fun v : Value => [v]) vs :=
  OS.rd1 (f := fun v => v) (by simpa using h) hb
theorem rdV_bl {w : World} {b t : Nat} {vs : List Value} (h : w.heap[b]? = some (Bl t vs)) : Rd w (some ⟨b, 0, none⟩) 1 (fun v : Value => [v]) vs :=
  Rd.of_bl (r := []) h (by rw [List.append_nil, flat1 (f := fun v => v)]; simp) (fun x _ => rfl)
end Go.GV

/- Devices: what they hold, and how they lie. -/
namespace Go.Proofs.YtbkadlngijkmmaaGreatDoor
open Go.GV
attribute [local irreducible] Wops W Wq Wt

abbrev Byt := List UInt8
/-- A device: of each block what is sure and what is loose; writes and flushes that are done yet; is it on? -/
structure Dev where
  B : List (Byt × List Byt)
  left : Int
  on : Bool

def stands (p : Byt × List Byt) : Byt := p.2.getLast?.getD p.1
def zeros : Byt := List.replicate 512 0
def Dev.goes (A : Dev) : Bool := decide (A.left = 0)
def Dev.less (A : Dev) : Dev := if A.left = 0 then { A with on := false } else if A.left = -1 then A else { A with left := A.left - 1 }

def newE (n : Int) : Int := bif decide (n < 1) || decide (4096 < n) then 1 else 0
def newD (n : Nat) : Dev := ⟨List.replicate n (zeros, []), -1, true⟩
def Dev.has (A : Dev) (k : Int) : Bool := decide (0 ≤ k) && decide (k < A.B.length)
def readE (A : Dev) (k : Int) : Int := bif A.on then (bif A.has k then 0 else 1) else 8
def readB (A : Dev) (k : Int) : Byt := bif decide (readE A k = 0) then stands (A.B.getD k.toNat (zeros, [])) else []
def writeE (A : Dev) (k : Int) (b : Byt) : Int := bif A.on then (bif A.has k && decide (b.length = 512) then (bif A.goes then 8 else 0) else 1) else 8
def addW (A : Dev) (k : Nat) (b : Byt) : Dev := { A with B := A.B.modify k fun p => (p.1, p.2 ++ [b]) }
def writeD (A : Dev) (k : Int) (b : Byt) : Dev := bif A.on && (A.has k && decide (b.length = 512)) then (bif A.goes then A.less else addW A.less k.toNat b) else A
def flushE (A : Dev) : Int := bif A.on then (bif A.goes then 8 else 0) else 8
def sureD (A : Dev) : Dev := { A with B := A.B.map fun p => (stands p, []) }
def flushD (A : Dev) : Dev := bif A.on then (bif A.goes then A.less else sureD A.less) else A
def armE (A : Dev) : Int := bif A.on then 0 else 8
def armD (A : Dev) (n : Int) : Dev := bif A.on then { A with left := max n (-1) } else A
def offD (A : Dev) : Dev := { A with on := false }
/-- What is kept of what was loose. -/
def kept (p : Byt × List Byt) (x : Nat) : Byt := if x = 0 then p.1 else p.2.getD (x - 1) p.1
def pickN (p : Byt × List Byt) (picks : List Int) : Nat := match picks with | [] => 0 | x :: _ => (max x 0).toNat % (p.2.length + 1)
def keepB : List (Byt × List Byt) → List Int → List (Byt × List Byt)
  | [], _ => []
  | p :: l, picks => if p.2 = [] then (p.1, []) :: keepB l picks else (kept p (pickN p picks), []) :: keepB l picks.tail
def onE (A : Dev) : Int := bif A.on then 3 else 0
def onD (A : Dev) (picks : List Int) : Dev := bif A.on then A else ⟨keepB A.B picks, -1, true⟩

/-- All blocks are whole; no number is too great. -/
structure Wf (A : Dev) : Prop where
  lo : 1 ≤ A.B.length
  hi : A.B.length ≤ 4096
  left : -1 ≤ A.left
  left2 : A.left ≤ 9223372036854775807
  sure : ∀ p ∈ A.B, p.1.length = 512
  loose : ∀ p ∈ A.B, ∀ b ∈ p.2, b.length = 512
/-- No more than so many are loose in one block. -/
def Few (A : Dev) (m : Nat) : Prop := ∀ p ∈ A.B, p.2.length ≤ m

theorem getD_mem {α : Type} {l : List α} {i : Nat} {d : α} (h : i < l.length) : l.getD i d ∈ l := by
  rw [List.getD_eq_getElem?_getD, List.getElem?_eq_getElem h]
  exact List.getElem_mem h
theorem mem_modify' {α : Type} {l : List α} {f : α → α} {i : Nat} {x : α} (h : x ∈ l.modify i f) : x ∈ l ∨ ∃ y ∈ l, x = f y := by
  induction l generalizing i with
  | nil => simp at h
  | cons a l ih =>
    cases i with
    | zero =>
      rw [List.modify_zero_cons, List.mem_cons] at h
      rcases h with rfl | h
      · exact .inr ⟨a, List.mem_cons_self .., rfl⟩
      · exact .inl (List.mem_cons_of_mem _ h)
    | succ i =>
      rw [List.modify_succ_cons, List.mem_cons] at h
      rcases h with rfl | h
      · exact .inl (List.mem_cons_self ..)
      · rcases ih h with h | ⟨y, hy, rfl⟩
        · exact .inl (List.mem_cons_of_mem _ h)
        · exact .inr ⟨y, List.mem_cons_of_mem _ hy, rfl⟩

theorem less_B (A : Dev) : A.less.B = A.B := by
  unfold Dev.less
  split
  · rfl
  · split <;> rfl
theorem less_wf {A : Dev} (h : Wf A) : Wf A.less := by
  have h1 := h.left; have h2 := h.left2
  unfold Dev.less
  split
  · exact ⟨h.lo, h.hi, h.left, h.left2, h.sure, h.loose⟩
  · split
    · exact h
    · exact ⟨h.lo, h.hi, by dsimp only; omega, by dsimp only; omega, h.sure, h.loose⟩
theorem stands_len {A : Dev} (h : Wf A) {p : Byt × List Byt} (hp : p ∈ A.B) : (stands p).length = 512 := by
  unfold stands
  cases hl : p.2.getLast? with
  | none => exact h.sure p hp
  | some b => exact h.loose p hp b (List.mem_of_getLast? hl)
theorem addW_wf {A : Dev} (h : Wf A) {k : Nat} {b : Byt} (hb : b.length = 512) : Wf (addW A k b) := by
  refine ⟨by simpa [addW] using h.lo, by simpa [addW] using h.hi, h.left, h.left2, fun p hp => ?_, fun p hp x hx => ?_⟩
  · rcases mem_modify' hp with hp | ⟨y, hy, rfl⟩
    · exact h.sure p hp
    · exact h.sure y hy
  · rcases mem_modify' hp with hp | ⟨y, hy, rfl⟩
    · exact h.loose p hp x hx
    · simp only [List.mem_append, List.mem_singleton] at hx
      rcases hx with hx | rfl
      · exact h.loose y hy x hx
      · exact hb
theorem sureD_wf {A : Dev} (h : Wf A) : Wf (sureD A) := by
  refine ⟨by simpa [sureD] using h.lo, by simpa [sureD] using h.hi, h.left, h.left2, fun p hp => ?_, fun p hp x hx => ?_⟩
  · obtain ⟨y, hy, rfl⟩ := List.mem_map.1 hp
    exact stands_len h hy
  · obtain ⟨y, hy, rfl⟩ := List.mem_map.1 hp
    simp at hx
theorem kept_len {A : Dev} (h : Wf A) {p : Byt × List Byt} (hp : p ∈ A.B) (x : Nat) : (kept p x).length = 512 := by
  unfold kept
  split
  · exact h.sure p hp
  · rw [List.getD_eq_getElem?_getD]
    cases hx : p.2[x - 1]? with
    | none => exact h.sure p hp
    | some b => exact h.loose p hp b (List.mem_of_getElem? hx)
theorem keepB_len (l : List (Byt × List Byt)) (picks : List Int) : (keepB l picks).length = l.length := by
  induction l generalizing picks with
  | nil => rfl
  | cons p l ih => unfold keepB; split <;> simp [ih]
theorem keepB_mem {l : List (Byt × List Byt)} {picks : List Int} {q : Byt × List Byt} (h : q ∈ keepB l picks) : q.2 = [] ∧ ∃ p ∈ l, ∃ x, q.1 = kept p x := by
  induction l generalizing picks with
  | nil => simp [keepB] at h
  | cons p l ih =>
    unfold keepB at h
    split at h
    · rw [List.mem_cons] at h
      rcases h with rfl | h
      · exact ⟨rfl, p, List.mem_cons_self .., 0, rfl⟩
      · obtain ⟨h1, y, hy, h2⟩ := ih h
        exact ⟨h1, y, List.mem_cons_of_mem _ hy, h2⟩
    · rw [List.mem_cons] at h
      rcases h with rfl | h
      · exact ⟨rfl, p, List.mem_cons_self .., _, rfl⟩
      · obtain ⟨h1, y, hy, h2⟩ := ih h
        exact ⟨h1, y, List.mem_cons_of_mem _ hy, h2⟩
theorem new_wf {n : Nat} (h1 : 1 ≤ n) (h2 : n ≤ 4096) : Wf (newD n) := by
  refine ⟨by simpa [newD] using h1, by simpa [newD] using h2, by show (-1 : Int) ≤ -1; omega, by show (-1 : Int) ≤ _; omega, fun p hp => ?_, fun p hp x hx => ?_⟩
  · rw [(List.mem_replicate.1 hp).2]; exact List.length_replicate
  · rw [(List.mem_replicate.1 hp).2] at hx; cases hx
theorem arm_wf {A : Dev} (h : Wf A) (n : Int) (hn : n ≤ 9223372036854775807) : Wf (armD A n) := by
  unfold armD
  cases A.on
  · exact h
  · exact ⟨h.lo, h.hi, by show (-1 : Int) ≤ max n (-1); omega, by show max n (-1) ≤ (_ : Int); omega, h.sure, h.loose⟩
theorem off_wf {A : Dev} (h : Wf A) : Wf (offD A) := ⟨h.lo, h.hi, h.left, h.left2, h.sure, h.loose⟩
theorem on_wf {A : Dev} (h : Wf A) (picks : List Int) : Wf (onD A picks) := by
  unfold onD
  cases A.on
  · refine ⟨by show 1 ≤ (keepB A.B picks).length; rw [keepB_len]; exact h.lo, by show (keepB A.B picks).length ≤ 4096; rw [keepB_len]; exact h.hi, by show (-1 : Int) ≤ -1; omega, by show (-1 : Int) ≤ _; omega, fun p hp => ?_, fun p hp x hx => ?_⟩
    · obtain ⟨_, y, hy, x, hx⟩ := keepB_mem hp
      rw [hx]; exact kept_len h hy x
    · rw [(keepB_mem hp).1] at hx; cases hx
  · exact h

theorem Few.mono {A : Dev} {m m' : Nat} (h : Few A m) (hm : m ≤ m') : Few A m' := fun p hp => Nat.le_trans (h p hp) hm
theorem new_few (n : Nat) : Few (newD n) 0 := fun p hp => by rw [(List.mem_replicate.1 hp).2]; exact Nat.le_refl _
theorem less_few {A : Dev} {m : Nat} (h : Few A m) : Few A.less m := fun p hp => h p (by rwa [less_B] at hp)
theorem write_few {A : Dev} {m : Nat} (h : Few A m) (k : Int) (b : Byt) : Few (writeD A k b) (m + 1) := by
  unfold writeD
  cases A.on && (A.has k && decide (b.length = 512))
  · exact h.mono (by omega)
  · cases A.goes
    · intro p hp
      rcases mem_modify' hp with hp | ⟨y, hy, rfl⟩
      · have := less_few h p hp; omega
      · have := less_few h y hy
        simp only [List.length_append, List.length_singleton]; omega
    · exact (less_few h).mono (by omega)
theorem flush_few {A : Dev} {m : Nat} (h : Few A m) : Few (flushD A) m := by
  unfold flushD
  cases A.on
  · exact h
  · cases A.goes
    · intro p hp
      obtain ⟨y, _, rfl⟩ := List.mem_map.1 hp
      exact Nat.zero_le _
    · exact less_few h
/-! ### How a device lies -/
def All2 {α β : Type} (R : α → β → Prop) (xs : List α) (ys : List β) : Prop := xs.length = ys.length ∧ ∀ (i : Nat) (x : α) (y : β), xs[i]? = some x → ys[i]? = some y → R x y

def BytesAt (w : World) (role : Nat → Nat) (v : Value) (s : Byt) : Prop := ∃ a c, v = .slice a 512 c ∧ Rd w a 1 B8 s ∧ s.length = 512 ∧ role (adr a).block = 4 ∧ 512 ≤ c
def SureAt (w : World) (role : Nat → Nat) (v : Value) (s : Byt) : Prop := (v = .slice none 0 0 ∧ s = zeros) ∨ BytesAt w role v s
def LooseAt (w : World) (role : Nat → Nat) (k : Nat) (v : Value) (l : List Byt) : Prop :=
  ∃ a n c full vs, v = .slice a n c ∧ OS a n c 1 full vs ∧ (∀ x ∈ ent a 23 full, w.heap[x.1]? = some x.2 ∧ role x.1 = 5 + k) ∧ All2 (BytesAt w role) vs l

def DB (n bs bm : Nat) (left : Int) (on : Bool) : List Value := [.slice (some ⟨bs, 0, none⟩) n n, .map (some bm), .int .i64 left, .bool (!on)]
def TD : Nat := 144
def nilS : Value := .slice none 0 0

structure DevR (w : World) (bd : Nat) (A : Dev) (role : Nat → Nat) (bs bm : Nat) (sv : List Value) (m : List (Int × Value)) (o : Obj) : Prop where
  lt : ∀ x, role x ≠ 0 → x < w.heap.size
  rd : role bd = 1
  rs : role bs = 2
  rm : role bm = 3
  hd : w.heap[bd]? = some (Bl TD (DB A.B.length bs bm A.left A.on))
  hs : w.heap[bs]? = some (Bl 23 sv)
  hm : w.heap[bm]? = some o
  hM : MapO .i64 m o
  nd : (m.map (·.1)).Nodup
  keys : ∀ k v, mget m k = some v → ∃ i : Nat, k = i ∧ i < A.B.length
  len : sv.length = A.B.length
  part : ∀ i p, A.B[i]? = some p → (∃ v, sv[i]? = some v ∧ SureAt w role v p.1) ∧ LooseAt w role i ((mget m i).getD nilS) p.2 ∧ ((mget m i).isSome = true ↔ p.2 ≠ [])
  wf : Wf A

/-- The device at bd; F: what it lies in. -/
def DevAt (w : World) (bd : Nat) (A : Dev) (F : Nat → Prop) : Prop := ∃ role bs bm sv m o, DevR w bd A role bs bm sv m o ∧ ∀ x, role x ≠ 0 → F x

/-- What an operation on it may turn. -/
def Turn (F : Nat → Prop) (w w' : World) : Prop := ∃ S, (∀ x ∈ S, F x) ∧ Ext S w w'
def grow (F : Nat → Prop) (w w' : World) : Nat → Prop := fun x => F x ∨ (w.heap.size ≤ x ∧ x < w'.heap.size)

theorem Turn.size {F : Nat → Prop} {w w' : World} (h : Turn F w w') : w.heap.size ≤ w'.heap.size := let ⟨_, _, h⟩ := h; h.size
theorem Turn.of {F : Nat → Prop} {w w' : World} {S : List Nat} (h : Ext S w w') (hS : ∀ x ∈ S, F x) : Turn F w w' := ⟨S, hS, h⟩
theorem Turn.of0 {F : Nat → Prop} {w w' : World} (h : Ext [] w w') : Turn F w w' := ⟨[], by simp, h⟩
theorem Turn.trans {F G : Nat → Prop} {a b c : World} (h : Turn F a b) (k : Turn G b c) (hG : ∀ x, G x → F x ∨ a.heap.size ≤ x) : Turn F a c := by
  obtain ⟨S, hS, h⟩ := h
  obtain ⟨T, hT, k⟩ := k
  classical
  refine ⟨S ++ T.filter (fun x => decide (x < a.heap.size)), fun x hx => ?_, (h.mono (by intro x hx; simp [hx])).then k fun x hx => ?_⟩
  · rw [List.mem_append, List.mem_filter] at hx
    rcases hx with hx | ⟨hx, hlt⟩
    · exact hS x hx
    · rcases hG x (hT x hx) with h | h
      · exact h
      · rw [decide_eq_true_eq] at hlt; omega
  · by_cases hlt : x < a.heap.size
    · exact .inl (List.mem_append_right _ (List.mem_filter.2 ⟨hx, decide_eq_true hlt⟩))
    · exact .inr (by omega)

theorem BytesAt.keep {w w' : World} {role role' : Nat → Nat} {v : Value} {s : Byt} {S : List Nat} (h : BytesAt w role v s) (hx : Ext S w w') (hS : ∀ x ∈ S, role x ≠ 4) (hr : ∀ x, role x = 4 → role' x = 4) : BytesAt w' role' v s := by
  obtain ⟨a, c, rfl, R, hl, h4, hc⟩ := h
  exact ⟨a, c, rfl, R.ext hx fun h => hS _ h h4, hl, hr _ h4, hc⟩
theorem SureAt.keep {w w' : World} {role role' : Nat → Nat} {v : Value} {s : Byt} {S : List Nat} (h : SureAt w role v s) (hx : Ext S w w') (hS : ∀ x ∈ S, role x ≠ 4) (hr : ∀ x, role x = 4 → role' x = 4) : SureAt w' role' v s :=
  h.elim .inl fun h => .inr (h.keep hx hS hr)
theorem LooseAt.keep {w w' : World} {role role' : Nat → Nat} {k : Nat} {v : Value} {l : List Byt} {S : List Nat} (h : LooseAt w role k v l) (hx : Ext S w w') (hS : ∀ x ∈ S, role x ≠ 4 ∧ role x ≠ 5 + k) (hr : ∀ x, role x = 4 → role' x = 4) (hr5 : ∀ x, role x = 5 + k → role' x = 5 + k) : LooseAt w' role' k v l := by
  obtain ⟨a, n, c, full, vs, rfl, O, hb, h2, h3⟩ := h
  refine ⟨a, n, c, full, vs, rfl, O, fun x hx' => ?_, h2, fun i x y h4 h5 => (h3 i x y h4 h5).keep hx (fun x h => (hS x h).1) hr⟩
  obtain ⟨h6, h7⟩ := hb x hx'
  exact ⟨by rw [hx.block x.1 (heap_lt h6) fun h => (hS _ h).2 h7]; exact h6, hr5 _ h7⟩

/-- It stays where others turn what is theirs. -/
theorem DevAt.keep {w w' : World} {bd : Nat} {A : Dev} {F : Nat → Prop} (h : DevAt w bd A F) {S : List Nat} (hx : Ext S w w') (hS : ∀ x ∈ S, ¬ F x) : DevAt w' bd A F := by
  obtain ⟨role, bs, bm, sv, m, o, D, hF⟩ := h
  have hS' : ∀ x ∈ S, role x = 0 := fun x hx => Classical.byContradiction fun h => hS x hx (hF x h)
  have hb : ∀ {b : Nat} {o : Obj}, w.heap[b]? = some o → role b ≠ 0 → w'.heap[b]? = some o := fun {b o} h1 h2 => by
    rw [hx.block b (heap_lt h1) fun h => h2 (hS' b h)]; exact h1
  refine ⟨role, bs, bm, sv, m, o, ⟨fun x h => Nat.lt_of_lt_of_le (D.lt x h) hx.size, D.rd, D.rs, D.rm, hb D.hd (by rw [D.rd]; decide), hb D.hs (by rw [D.rs]; decide), hb D.hm (by rw [D.rm]; decide), D.hM, D.nd, D.keys, D.len, fun i p hp => ?_, D.wf⟩, hF⟩
  obtain ⟨⟨v, h1, h2⟩, h3, h4⟩ := D.part i p hp
  exact ⟨⟨v, h1, h2.keep hx (fun x h => by rw [hS' x h]; decide) fun _ h => h⟩, h3.keep hx (fun x h => by rw [hS' x h]; omega) (fun _ h => h) (fun _ h => h), h4⟩
theorem DevAt.keep0 {w w' : World} {bd : Nat} {A : Dev} {F : Nat → Prop} (h : DevAt w bd A F) (hx : Ext [] w w') : DevAt w' bd A F := h.keep hx (by simp)
theorem DevAt.mono {w : World} {bd : Nat} {A : Dev} {F G : Nat → Prop} (h : DevAt w bd A F) (hG : ∀ x, F x → G x) : DevAt w bd A G :=
  let ⟨role, bs, bm, sv, m, o, D, hF⟩ := h; ⟨role, bs, bm, sv, m, o, D, fun x hx => hG x (hF x hx)⟩
theorem DevAt.wf {w : World} {bd : Nat} {A : Dev} {F : Nat → Prop} (h : DevAt w bd A F) : Wf A := let ⟨_, _, _, _, _, _, D, _⟩ := h; D.wf

end Go.Proofs.YtbkadlngijkmmaaGreatDoor

/- What a device's functions do; the plain ones. -/
namespace Go.Proofs.YtbkadlngijkmmaaGreatDoor
open Go.GV
attribute [local irreducible] Wops W Wq Wt

@[simp] theorem DB_len (n bs bm : Nat) (left : Int) (on : Bool) : (DB n bs bm left on).length = 4 := rfl
def ptr (b : Nat) : Value := .pointer (some ⟨b, 0, none⟩)

theorem DevR.turn {w w' : World} {bd : Nat} {A A' : Dev} {role : Nat → Nat} {bs bm : Nat} {sv : List Value} {m : List (Int × Value)} {o : Obj} (D : DevR w bd A role bs bm sv m o) (hx : Ext [bd] w w')
    (hd : w'.heap[bd]? = some (Bl TD (DB A'.B.length bs bm A'.left A'.on))) (hB : A'.B = A.B) (wf : Wf A') : DevR w' bd A' role bs bm sv m o := by
  have hb : ∀ {b : Nat} {o : Obj}, w.heap[b]? = some o → role b ≠ 1 → w'.heap[b]? = some o := fun {b o} h1 h2 => by
    rw [hx.block b (heap_lt h1) fun h => h2 (by rw [List.mem_singleton.1 h]; exact D.rd)]; exact h1
  refine ⟨fun x h => Nat.lt_of_lt_of_le (D.lt x h) hx.size, D.rd, D.rs, D.rm, hd, hb D.hs (by rw [D.rs]; decide), hb D.hm (by rw [D.rm]; decide), D.hM, D.nd, fun k v h => by rw [hB]; exact D.keys k v h, by rw [hB]; exact D.len, fun i p hp => ?_, wf⟩
  rw [hB] at hp
  obtain ⟨⟨v, h1, h2⟩, h3, h4⟩ := D.part i p hp
  have hs : ∀ x ∈ [bd], role x = 1 := fun x h => by rw [List.mem_singleton.1 h]; exact D.rd
  exact ⟨⟨v, h1, h2.keep hx (fun x h => by rw [hs x h]; decide) fun _ h => h⟩, h3.keep hx (fun x h => by rw [hs x h]; omega) (fun _ h => h) (fun _ h => h), h4⟩

theorem don_ok {w : World} {bd n bs bm : Nat} {left : Int} {on : Bool} (h : w.heap[bd]? = some (Bl TD (DB n bs bm left on))) :
    Ret Tryz.prog 82 #[ptr bd] w fun v w' => v = .int .i64 (bif on then 0 else 8) ∧ w = w' := by
  obtain ⟨w0, rfl⟩ : ∃ w0, w0 = w := ⟨_, rfl⟩
  have H := Ctx.start1 h
  refine ret_of_W (fn := Tryz.f82) Tryz.func82 rfl [.pointer (some ⟨bd, 0, none⟩)] rfl (by kernel_rfl) ?_
  refine W_rseq ?_
  refine op_assign rfl (.int _ _) rfl ?_
  refine op_nil (at_then ?_)
  refine W_seq ?_
  refine W_block ?_
  refine W_rseq ?_
  refine op_move rfl (.pointer _) rfl ?_
  refine op_eqlptr rfl un_32 rfl ?_
  refine op_assign rfl (.bool _) rfl ?_
  refine op_nil (at_then ?_)
  refine W_cond0 rfl ?_
  refine W_rseq ?_
  refine op_move rfl (.pointer _) rfl ?_
  refine op_nilCheck rfl rfl ?_
  refine op_fieldAddr rfl fo_144_3 rfl ?_
  refine op_ldb rfl ag_4 rfl H (by first | exact at0 | exact at1 | exact at2 | exact at3 | exact at4 | exact at5 | exact at6 | exact at7 | exact at8 | exact at9) rfl ?_
  refine op_assign rfl (.bool _) rfl ?_
  refine op_nil (at_then ?_)
  refine W_cond _ rfl ?_ ?_
  · intro h1
    refine W_rseq ?_
    refine op_assign rfl (.int _ _) rfl ?_
    refine op_nil (at_then ?_)
    refine W_ret (ret_block (ret_then (leave1 (v := (.int _ _)) rfl rfl rfl ?_)))
    exact ⟨by cases on <;> simp_all, rfl⟩
  · intro h2
    refine W_skip (at_block (at_then ?_))
    refine W_rseq ?_
    refine op_assign rfl (.int _ _) rfl ?_
    refine op_nil (at_then ?_)
    refine W_ret (leave1 (v := (.int _ _)) rfl rfl rfl ?_)
    exact ⟨by cases on <;> simp_all, rfl⟩

theorem dhas_ok {w : World} {bd n bs bm : Nat} {left : Int} {on : Bool} (k : Int) (h : w.heap[bd]? = some (Bl TD (DB n bs bm left on))) :
    Ret Tryz.prog 165 #[ptr bd, .int .i64 k] w fun v w' => v = .bool (decide (0 ≤ k) && decide (k < n)) ∧ w = w' := by
  obtain ⟨w0, rfl⟩ : ∃ w0, w0 = w := ⟨_, rfl⟩
  have H := Ctx.start1 h
  refine ret_of_W (fn := Tryz.f165) Tryz.func165 rfl [.pointer (some ⟨bd, 0, none⟩), .int .i64 k] rfl (by kernel_rfl) ?_
  refine W_rseq ?_
  refine op_assign rfl (.bool _) rfl ?_
  refine op_nil (at_then ?_)
  refine W_rseq ?_
  refine op_move rfl (.int _ _) rfl ?_
  refine op_geq rfl rfl rfl ?_
  refine op_move rfl (.bool _) rfl ?_
  refine Wops_split 7 rfl ?_ ?_
  · intro h1
    replace h1 := dec_t h1
    refine op_move rfl (.int _ _) rfl ?_
    refine op_move rfl (.pointer _) rfl ?_
    refine op_nilCheck rfl rfl ?_
    refine op_fieldAddr rfl fo_144_0 rfl ?_
    refine op_ldb rfl ag_141 rfl H (by first | exact at0 | exact at1 | exact at2 | exact at3 | exact at4 | exact at5 | exact at6 | exact at7 | exact at8 | exact at9) rfl ?_
    refine op_len rfl el_141 rfl ?_
    refine op_lss rfl rfl rfl ?_
    refine op_pick1 rfl rfl (.bool _) rfl ?_
    refine op_assign rfl (.bool _) rfl ?_
    refine op_nil (at_then ?_)
    refine W_ret (leave1 (v := (.bool _)) rfl rfl rfl ?_)
    exact ⟨congrArg Value.bool (by simp_all; try omega), rfl⟩
  · intro h2
    replace h2 := dec_f h2
    refine op_skip rfl ?_
    refine op_skip rfl ?_
    refine op_skip rfl ?_
    refine op_skip rfl ?_
    refine op_skip rfl ?_
    refine op_skip rfl ?_
    refine op_skip rfl ?_
    refine op_pick0 rfl rfl (.bool _) rfl ?_
    refine op_assign rfl (.bool _) rfl ?_
    refine op_nil (at_then ?_)
    refine W_ret (leave1 (v := (.bool _)) rfl rfl rfl ?_)
    exact ⟨congrArg Value.bool (by simp_all; try omega), rfl⟩

theorem dsize_ok {w : World} {bd n bs bm : Nat} {left : Int} {on : Bool} (h : w.heap[bd]? = some (Bl TD (DB n bs bm left on))) :
    Ret Tryz.prog 81 #[ptr bd] w fun v w' => v = .int .i64 n ∧ w = w' := by
  obtain ⟨w0, rfl⟩ : ∃ w0, w0 = w := ⟨_, rfl⟩
  have H := Ctx.start1 h
  refine ret_of_W (fn := Tryz.f81) Tryz.func81 rfl [.pointer (some ⟨bd, 0, none⟩)] rfl (by kernel_rfl) ?_
  refine W_rseq ?_
  refine op_assign rfl (.int _ _) rfl ?_
  refine op_nil (at_then ?_)
  refine W_seq ?_
  refine W_rseq ?_
  refine op_move rfl (.pointer _) rfl ?_
  refine op_eqlptr rfl un_32 rfl ?_
  refine op_nil (at_then ?_)
  refine W_cond0 rfl ?_
  refine W_skip (at_then ?_)
  refine W_rseq ?_
  refine op_move rfl (.pointer _) rfl ?_
  refine op_nilCheck rfl rfl ?_
  refine op_fieldAddr rfl fo_144_0 rfl ?_
  refine op_ldb rfl ag_141 rfl H (by first | exact at0 | exact at1 | exact at2 | exact at3 | exact at4 | exact at5 | exact at6 | exact at7 | exact at8 | exact at9) rfl ?_
  refine op_len rfl el_141 rfl ?_
  refine op_assign rfl (.int _ _) rfl ?_
  refine op_nil (at_then ?_)
  refine W_ret (leave1 (v := (.int _ _)) rfl rfl rfl ?_)
  exact ⟨rfl, rfl⟩
theorem dcounts_ok {w : World} {bd : Nat} {A : Dev} {role : Nat → Nat} {bs bm : Nat} {sv : List Value} {m : List (Int × Value)} {o : Obj} (D : DevR w bd A role bs bm sv m o) :
    Ret Tryz.prog 83 #[ptr bd] w fun v w' => v = .int .i64 (bif A.goes then 8 else 0) ∧ DevR w' bd A.less role bs bm sv m o ∧ Ext [bd] w w' := by
  obtain ⟨w0, rfl⟩ : ∃ w0, w0 = w := ⟨_, rfl⟩
  have H := Ctx.start1 D.hd
  have h1 := D.wf.left; have h2 := D.wf.left2
  refine ret_of_W (fn := Tryz.f83) Tryz.func83 rfl [.pointer (some ⟨bd, 0, none⟩)] rfl (by kernel_rfl) ?_
  refine W_rseq ?_
  refine op_assign rfl (.int _ _) rfl ?_
  refine op_nil (at_then ?_)
  refine W_seq ?_
  refine W_rseq ?_
  refine op_move rfl (.pointer _) rfl ?_
  refine op_nilCheck rfl rfl ?_
  refine op_fieldAddr rfl fo_144_2 rfl ?_
  refine op_ldb rfl ag_3 rfl H (by first | exact at0 | exact at1 | exact at2 | exact at3 | exact at4 | exact at5 | exact at6 | exact at7 | exact at8 | exact at9) rfl ?_
  refine op_nil (at_then ?_)
  refine W_block ?_
  refine W_rseq ?_
  refine op_eql rfl rfl rfl ?_
  refine op_assign rfl (.bool _) rfl ?_
  refine op_nil (at_then ?_)
  refine W_cond _ rfl ?_ ?_
  · intro h3
    replace h3 := dec_t h3
    have hl : A.less = A := by unfold Dev.less; rw [if_neg (by omega), if_pos (by omega)]
    refine W_skip (at_block (at_then ?_))
    refine W_rseq ?_
    refine op_assign rfl (.int _ _) rfl ?_
    refine op_nil (at_then ?_)
    refine W_ret (leave1 (v := (.int _ _)) rfl rfl rfl ?_)
    exact ⟨by rw [Dev.goes, decide_eq_false (by omega)]; rfl, by rw [hl]; exact D, H.ext⟩
  · intro h3
    replace h3 := dec_f h3
    refine W_rseq ?_
    refine op_eql rfl rfl rfl ?_
    refine op_assign rfl (.bool _) rfl ?_
    refine op_nil (at_then ?_)
    refine W_cond _ rfl ?_ ?_
    · intro h4
      replace h4 := dec_t h4
      have hl : A.less = ⟨A.B, A.left, false⟩ := by unfold Dev.less; rw [if_pos (by omega)]
      refine W_rseq ?_
      refine op_move rfl (.pointer _) rfl ?_
      refine op_nilCheck rfl rfl ?_
      refine op_fieldAddr rfl fo_144_3 rfl ?_
      refine op_stb (.bool _) rfl sz_4 rfl rfl rfl H (by first | exact at0 | exact at1 | exact at2 | exact at3 | exact at4 | exact at5 | exact at6 | exact at7 | exact at8 | exact at9) (by first | decide | (simp; done) | (simp; omega)) ?_
      rintro w H
      refine op_nil (at_then ?_)
      refine W_rseq ?_
      refine op_assign rfl (.int _ _) rfl ?_
      refine op_nil (at_then ?_)
      refine W_ret (ret_block (ret_then (leave1 (v := (.int _ _)) rfl rfl rfl ?_)))
      exact ⟨by rw [Dev.goes, decide_eq_true (by omega)]; rfl, D.turn H.ext (by rw [hl]; exact H.get at0) (less_B A) (less_wf D.wf), H.ext⟩
    · intro h4
      replace h4 := dec_f h4
      have hl : A.less = ⟨A.B, A.left - 1, A.on⟩ := by unfold Dev.less; rw [if_neg (by omega), if_neg (by omega)]
      refine W_region ?_
      refine op_move rfl (.pointer _) rfl ?_
      refine op_nilCheck rfl rfl ?_
      refine op_fieldAddr rfl fo_144_2 rfl ?_
      refine op_ldb rfl ag_3 rfl H (by first | exact at0 | exact at1 | exact at2 | exact at3 | exact at4 | exact at5 | exact at6 | exact at7 | exact at8 | exact at9) rfl ?_
      refine op_sub_i64 rfl rfl rfl (by omega) (by omega) ?_
      refine op_nilCheck rfl rfl ?_
      refine op_fieldAddr rfl fo_144_2 rfl ?_
      refine op_stb (.int _ _) rfl sz_3 rfl rfl rfl H (by first | exact at0 | exact at1 | exact at2 | exact at3 | exact at4 | exact at5 | exact at6 | exact at7 | exact at8 | exact at9) (by first | decide | (simp; done) | (simp; omega)) ?_
      rintro w H
      refine op_nil (at_block (at_then ?_))
      refine W_rseq ?_
      refine op_assign rfl (.int _ _) rfl ?_
      refine op_nil (at_then ?_)
      refine W_ret (leave1 (v := (.int _ _)) rfl rfl rfl ?_)
      exact ⟨by rw [Dev.goes, decide_eq_false (by omega)]; rfl, D.turn H.ext (by rw [hl]; exact H.get at0) (less_B A) (less_wf D.wf), H.ext⟩

theorem darm_ok {w : World} {bd : Nat} {A : Dev} {F : Nat → Prop} (n : Int) (hn : n ≤ 9223372036854775807) (DA : DevAt w bd A F) :
    Ret Tryz.prog 38 #[ptr bd, .int .i64 n] w fun v w' => v = .int .i64 (armE A) ∧ DevAt w' bd (armD A n) F ∧ Turn F w w' := by
  obtain ⟨w0, rfl⟩ : ∃ w0, w0 = w := ⟨_, rfl⟩
  obtain ⟨role, bs, bm, sv, m, o, D, hF⟩ := DA
  have hFd : ∀ x ∈ [bd], F x := fun x h => hF x (by rw [List.mem_singleton.1 h, D.rd]; decide)
  have H := Ctx.start1 D.hd
  refine ret_of_W (fn := Tryz.f38) Tryz.func38 rfl [.pointer (some ⟨bd, 0, none⟩), .int .i64 n] rfl (by kernel_rfl) ?_
  refine W_rseq ?_
  refine op_assign rfl (.int _ _) rfl ?_
  refine op_nil (at_then ?_)
  refine W_rseq ?_
  refine op_move rfl (.pointer _) rfl ?_
  refine op_call rfl ca_82 (don_ok (H.get at0)) rfl ?_
  rintro v w ⟨rfl, rfl⟩
  refine op_assign rfl (.int _ _) rfl ?_
  refine op_nil (at_then ?_)
  refine W_seq ?_
  refine W_rseq ?_
  refine op_move rfl (.int _ _) rfl ?_
  refine op_eql rfl rfl rfl ?_
  refine op_nil (at_then ?_)
  refine W_cond _ rfl ?_ ?_
  · intro h1
    replace h1 := dec_t h1
    have ho : A.on = true := by cases h : A.on <;> simp_all
    refine W_region ?_
    refine op_move rfl (.pointer _) rfl ?_
    refine op_move rfl (.int _ _) rfl ?_
    refine op_max2 rfl rfl rfl ?_
    refine op_nilCheck rfl rfl ?_
    refine op_fieldAddr rfl fo_144_2 rfl ?_
    refine op_stb (.int _ _) rfl sz_3 rfl rfl rfl H (by first | exact at0 | exact at1 | exact at2 | exact at3 | exact at4 | exact at5 | exact at6 | exact at7 | exact at8 | exact at9) (by first | decide | (simp; done) | (simp; omega)) ?_
    rintro w H
    refine op_nil (at_then ?_)
    refine W_rseq ?_
    refine op_move rfl (.int _ _) rfl ?_
    refine op_assign rfl (.int _ _) rfl ?_
    refine op_nil (at_then ?_)
    refine W_ret (leave1 (v := (.int _ _)) rfl rfl rfl ?_)
    refine ⟨by rw [armE, ho], ⟨role, bs, bm, sv, m, o, D.turn H.ext ?_ (by rw [armD, ho]; rfl) (arm_wf D.wf n hn), hF⟩, .of H.ext hFd⟩
    rw [armD, ho]
    have h2 := H.get at0
    rw [ho] at h2
    exact h2
  · intro h1
    replace h1 := dec_f h1
    have ho : A.on = false := by cases h : A.on <;> simp_all
    refine W_skip (at_then ?_)
    refine W_rseq ?_
    refine op_move rfl (.int _ _) rfl ?_
    refine op_assign rfl (.int _ _) rfl ?_
    refine op_nil (at_then ?_)
    refine W_ret (leave1 (v := (.int _ _)) rfl rfl rfl ?_)
    exact ⟨by rw [armE, ho], ⟨role, bs, bm, sv, m, o, by rw [armD, ho]; exact D, hF⟩, .of H.ext hFd⟩

theorem doff_ok {w : World} {bd : Nat} {A : Dev} {F : Nat → Prop} (DA : DevAt w bd A F) :
    Ret Tryz.prog 43 #[ptr bd] w fun v w' => v = .int .i64 (armE A) ∧ DevAt w' bd (offD A) F ∧ Turn F w w' := by
  obtain ⟨w0, rfl⟩ : ∃ w0, w0 = w := ⟨_, rfl⟩
  obtain ⟨role, bs, bm, sv, m, o, D, hF⟩ := DA
  have hFd : ∀ x ∈ [bd], F x := fun x h => hF x (by rw [List.mem_singleton.1 h, D.rd]; decide)
  have H := Ctx.start1 D.hd
  refine ret_of_W (fn := Tryz.f43) Tryz.func43 rfl [.pointer (some ⟨bd, 0, none⟩)] rfl (by kernel_rfl) ?_
  refine W_rseq ?_
  refine op_assign rfl (.int _ _) rfl ?_
  refine op_nil (at_then ?_)
  refine W_rseq ?_
  refine op_move rfl (.pointer _) rfl ?_
  refine op_call rfl ca_82 (don_ok (H.get at0)) rfl ?_
  rintro v w ⟨rfl, rfl⟩
  refine op_assign rfl (.int _ _) rfl ?_
  refine op_nil (at_then ?_)
  refine W_seq ?_
  refine W_rseq ?_
  refine op_move rfl (.int _ _) rfl ?_
  refine op_eql rfl rfl rfl ?_
  refine op_nil (at_then ?_)
  refine W_cond _ rfl ?_ ?_
  · intro h1
    replace h1 := dec_t h1
    have ho : A.on = true := by cases h : A.on <;> simp_all
    refine W_region ?_
    refine op_move rfl (.pointer _) rfl ?_
    refine op_nilCheck rfl rfl ?_
    refine op_fieldAddr rfl fo_144_3 rfl ?_
    refine op_stb (.bool _) rfl sz_4 rfl rfl rfl H (by first | exact at0 | exact at1 | exact at2 | exact at3 | exact at4 | exact at5 | exact at6 | exact at7 | exact at8 | exact at9) (by first | decide | (simp; done) | (simp; omega)) ?_
    rintro w H
    refine op_nil (at_then ?_)
    refine W_rseq ?_
    refine op_move rfl (.int _ _) rfl ?_
    refine op_assign rfl (.int _ _) rfl ?_
    refine op_nil (at_then ?_)
    refine W_ret (leave1 (v := (.int _ _)) rfl rfl rfl ?_)
    exact ⟨by rw [armE, ho], ⟨role, bs, bm, sv, m, o, D.turn H.ext (H.get at0) rfl (off_wf D.wf), hF⟩, .of H.ext hFd⟩
  · intro h1
    replace h1 := dec_f h1
    have ho : A.on = false := by cases h : A.on <;> simp_all
    refine W_skip (at_then ?_)
    refine W_rseq ?_
    refine op_move rfl (.int _ _) rfl ?_
    refine op_assign rfl (.int _ _) rfl ?_
    refine op_nil (at_then ?_)
    refine W_ret (leave1 (v := (.int _ _)) rfl rfl rfl ?_)
    have he : offD A = A := by rw [offD, ← ho]
    exact ⟨by rw [armE, ho], ⟨role, bs, bm, sv, m, o, by rw [he]; exact D, hF⟩, .of H.ext hFd⟩

theorem dnew_ok (n : Int) (w : World) :
    Ret Tryz.prog 30 #[.int .i64 n] w fun v w' => Ext [] w w' ∧ ((newE n = 1 ∧ v = .tuple #[.pointer none, .int .i64 1]) ∨
      (newE n = 0 ∧ 1 ≤ n ∧ n ≤ 4096 ∧ ∃ bd, v = .tuple #[ptr bd, .int .i64 0] ∧ DevAt w' bd (newD n.toNat) fun x => w.heap.size ≤ x ∧ x < w'.heap.size)) := by
  obtain ⟨w0, rfl⟩ : ∃ w0, w0 = w := ⟨_, rfl⟩
  have H := Ctx.start w0 []
  refine ret_of_W (fn := Tryz.f30) Tryz.func30 rfl [.int .i64 n] rfl (by kernel_rfl) ?_
  refine W_rseq ?_
  refine op_assign rfl (.pointer _) rfl ?_
  refine op_assign rfl (.int _ _) rfl ?_
  refine op_nil (at_then ?_)
  refine W_seq ?_
  refine W_rseq (Wops_join (α := Unit) 1008 (fun _ => [(9, .bool (decide (n < 1) || decide (4096 < n)))]) (fun _ w' => Ctx w0 [] w' []) rfl ?_ ?_)
  · refine op_move rfl (.int _ _) rfl ?_
    refine op_lss rfl rfl rfl ?_
    refine op_move rfl (.bool _) rfl ?_
    refine Wops_split 6 rfl ?_ ?_
    · intro h1
      replace h1 := dec_t h1
      refine op_skip rfl ?_
      refine op_skip rfl ?_
      refine op_pick1 rfl rfl (.bool _) rfl ?_
      refine op_nil ?_
      exact ⟨rfl, (), rfl, ⟨congrArg Value.bool (by rw [Bool.eq_iff_iff]; simp_all; try omega), trivial⟩, H⟩
    · intro h2
      replace h2 := dec_f h2
      refine op_move rfl (.int _ _) rfl ?_
      refine op_gtr rfl rfl rfl ?_
      refine op_pick0 rfl rfl (.bool _) rfl ?_
      refine op_nil ?_
      exact ⟨rfl, (), rfl, ⟨congrArg Value.bool (by rw [Bool.eq_iff_iff]; simp_all; try omega), trivial⟩, H⟩
  rintro - j9 w H
  refine W_cond _ rfl ?_ ?_
  · intro h1
    refine W_rseq ?_
    refine op_assign rfl (.pointer _) rfl ?_
    refine op_assign rfl (.int _ _) rfl ?_
    refine op_nil (at_then ?_)
    refine W_ret (ret_then (leave2 (v1 := (.pointer _)) (v2 := (.int _ _)) rfl rfl rfl rfl ?_))
    exact ⟨H.ext, .inl ⟨by rw [newE, h1]; rfl, rfl⟩⟩
  · intro h1
    have h2 : 1 ≤ n ∧ n ≤ 4096 := by simp only [Bool.or_eq_false_iff, decide_eq_false_iff_not] at h1; omega
    refine W_skip (at_then ?_)
    refine W_rseq ?_
    refine op_move rfl (.int _ _) rfl ?_
    refine op_make rfl el_141 sz_23 by_23 zc_23 rfl rfl (by omega) (by omega) (by omega) (by omega) H ?_
    rintro b11 w - H
    refine op_makeMap .i64 rfl H ?_
    rintro b12 o12 w hM H
    refine op_buildS [.slice (some ⟨b11, 0, none⟩) n.toNat n.toNat, .map (some b12), .int .i64 (-1), .bool false] rfl pl_144 zc_144 (by kernel_rfl) ?_
    refine op_box rfl _ (.agg _) rfl rfl H ?_
    rintro b14 w - H
    refine op_assign rfl (.pointer _) rfl ?_
    refine op_assign rfl (.int _ _) rfl ?_
    refine op_nil (at_then ?_)
    refine W_ret (leave2 (v1 := (.pointer _)) (v2 := (.int _ _)) rfl rfl rfl rfl ?_)
    have e1 : b14 ≠ b12 := H.ne at0 at1 (by decide)
    have e2 : b14 ≠ b11 := H.ne at0 at2 (by decide)
    have e3 : b12 ≠ b11 := H.ne at1 at2 (by decide)
    have own : ∀ {k b : Nat} {o : Obj}, [(b14, _), (b12, o12), (b11, _)][k]? = some (b, o) → w0.heap.size ≤ b ∧ b < w.heap.size := fun {k b o} hk => ⟨(H.own _ (List.mem_of_getElem? hk)).elim (fun h => by cases h) id, heap_lt (H.get hk)⟩
    have hr : ∀ x, (if x = b14 then 1 else if x = b11 then 2 else if x = b12 then 3 else 0) ≠ 0 → w0.heap.size ≤ x ∧ x < w.heap.size := by
      intro x hx
      by_cases h14 : x = b14
      · rw [h14]; exact own at0
      · by_cases h11 : x = b11
        · rw [h11]; exact own at2
        · by_cases h12 : x = b12
          · rw [h12]; exact own at1
          · rw [if_neg h14, if_neg h11, if_neg h12] at hx; exact absurd rfl hx
    have hln : (newD n.toNat).B.length = n.toNat := List.length_replicate
    refine ⟨H.ext, .inr ⟨by rw [newE, h1]; rfl, h2.1, h2.2, b14, rfl, fun x => if x = b14 then 1 else if x = b11 then 2 else if x = b12 then 3 else 0, b11, b12, List.replicate n.toNat nilS, [], o12, ⟨fun x h => (hr x h).2, if_pos rfl, ?_, ?_, ?_, H.get at2, H.get at1, hM, List.nodup_nil, fun k v h => (by cases h), by rw [hln]; exact List.length_replicate, fun i p hp => ?_, new_wf (by omega) (by omega)⟩, hr⟩⟩
    · rw [if_neg (Ne.symm e2), if_pos rfl]
    · rw [if_neg (Ne.symm e1), if_neg e3, if_pos rfl]
    · rw [hln]; exact H.get at0
    · obtain ⟨hi, rfl⟩ := List.getElem?_eq_some_iff.1 hp
      have hi' : i < n.toNat := by rw [hln] at hi; exact hi
      have hpe : (newD n.toNat).B[i] = (zeros, []) := List.getElem_replicate _
      rw [hpe]
      refine ⟨⟨nilS, by rw [List.getElem?_replicate, if_pos hi'], .inl ⟨rfl, rfl⟩⟩, ⟨none, 0, 0, [], [], rfl, OS.nil, by simp [ent], rfl, fun j x y h => by cases h⟩, by simp [mget_nil]⟩

end Go.Proofs.YtbkadlngijkmmaaGreatDoor

/- Reads and writes of a device. -/
namespace Go.Proofs.YtbkadlngijkmmaaGreatDoor
open Go.GV
attribute [local irreducible] Wops W Wq Wt

theorem Ctx.startL {w : World} {L : List (Nat × Obj)} (h : ∀ x ∈ L, w.heap[x.1]? = some x.2) (nd : L.Pairwise fun x y => x.1 ≠ y.1) : Ctx w (L.map (·.1)) w L :=
  ⟨.refl _ _, h, nd, fun x hx => .inl (List.mem_map.2 ⟨x, hx, rfl⟩)⟩
theorem pad_zeros (s : Byt) (h : s.length = 512) : over (List.replicate 512 (Value.int .u8 0)) 0 ((s.map bv).take 512) = s.map bv := by
  have h1 := over_mid [] (List.replicate 512 (Value.int .u8 0)) [] (s.map bv) (by rw [List.length_replicate, List.length_map, h])
  simp only [List.nil_append, List.append_nil, List.length_nil] at h1
  rw [List.take_of_length_le (by rw [List.length_map, h]; exact Nat.le_refl _)]
  exact h1
theorem pad_nil : over (List.replicate 512 (Value.int .u8 0)) 0 (([] : Byt).map bv |>.take 512) = zeros.map bv := by
  rw [zeros, List.map_replicate]
  rfl
theorem pad_ts {ts s : Byt} (h : ts = s ∨ ts = [] ∧ s = zeros) (hl : s.length = 512) : over (List.replicate 512 (Value.int .u8 0)) 0 ((ts.map bv).take 512) = s.map bv := by
  rcases h with rfl | ⟨rfl, rfl⟩
  · exact pad_zeros _ hl
  · exact pad_nil
theorem Ctx.fresh_bl {w0 w : World} {b t n : Nat} {l : List Value} (H : Ctx w0 [] w [(b, Bl t l)]) (hl : l.length = n) : Fresh w0 w t 1 (.slice (some ⟨b, 0, none⟩) n n) l :=
  Ctx.fresh (L := []) H ⟨fun p hp => (by cases hp; rfl), fun h => (by cases h), by rw [hl, Nat.mul_one], Nat.le_refl _, by rw [Nat.mul_one, ← hl]; exact List.take_length⟩
theorem has_num {A : Dev} {k : Int} (h : A.has k = true) : ∃ q : Nat, k = q ∧ q < A.B.length := by
  simp only [Dev.has, Bool.and_eq_true, decide_eq_true_eq] at h
  exact ⟨k.toNat, by omega, by omega⟩
/-- What lies in a block, all that is known of it. -/
theorem slot_bytes {w : World} {role : Nat → Nat} {v : Value} {s : Byt} (h : SureAt w role v s) : ∃ a c t, v = .slice a (List.length t) c ∧ Rd w a 1 B8 t ∧ (t = s ∨ t = [] ∧ s = zeros) := by
  rcases h with ⟨rfl, rfl⟩ | ⟨a, c, rfl, R, hl, _, _⟩
  · exact ⟨none, 0, [], rfl, Rd.nil, .inr ⟨rfl, rfl⟩⟩
  · exact ⟨a, c, s, by rw [hl], R, .inl rfl⟩

set_option maxHeartbeats 1000000 in
theorem dread_ok {w : World} {bd : Nat} {A : Dev} {F : Nat → Prop} (k : Int) {mx : Nat} (hfew : Few A mx) (hmx : mx ≤ 1000000000000) (DA : DevAt w bd A F) :
    Ret Tryz.prog 123 #[ptr bd, .int .i64 k] w fun v w' => ∃ s, v = .tuple #[s, .int .i64 (readE A k)] ∧ Fresh w w' 5 1 s ((readB A k).map bv) := by
  obtain ⟨w0, rfl⟩ : ∃ w0, w0 = w := ⟨_, rfl⟩
  obtain ⟨role, bs, bm, sv, m, o, D, hF⟩ := DA
  have H := Ctx.start w0 []
  refine ret_of_W (fn := Tryz.f123) Tryz.func123 rfl [.pointer (some ⟨bd, 0, none⟩), .int .i64 k] rfl (by kernel_rfl) ?_
  refine W_rseq ?_
  refine op_assign rfl (.slice _ _ _) rfl ?_
  refine op_assign rfl (.int _ _) rfl ?_
  refine op_nil (at_then ?_)
  refine W_seq ?_
  refine W_rseq ?_
  refine op_move rfl (.pointer _) rfl ?_
  refine op_call rfl ca_82 (don_ok (Ctx.oldb H D.hd)) rfl ?_
  rintro v w ⟨rfl, rfl⟩
  refine op_assign rfl (.int _ _) rfl ?_
  refine op_nil (at_then ?_)
  refine W_rseq ?_
  refine op_move rfl (.int _ _) rfl ?_
  refine op_neq rfl rfl rfl ?_
  refine op_nil (at_then ?_)
  refine W_cond _ rfl ?_ ?_
  · intro h1
    replace h1 := ndec_t h1
    have ho : A.on = false := by cases h : A.on <;> simp_all
    have he : readE A k = 8 := by rw [readE, ho]; rfl
    refine W_rseq ?_
    refine op_move rfl (.int _ _) rfl ?_
    refine op_assign rfl (.slice _ _ _) rfl ?_
    refine op_assign rfl (.int _ _) rfl ?_
    refine op_nil (at_then ?_)
    refine W_ret (ret_then (leave2 (v1 := (.slice _ _ _)) (v2 := (.int _ _)) rfl rfl rfl rfl ?_))
    refine ⟨_, by rw [he, ho]; rfl, ?_⟩
    rw [readB, he]
    exact Fresh.nil H _ _
  · intro h1
    replace h1 := ndec_f h1
    have ho : A.on = true := by cases h : A.on <;> simp_all
    refine W_skip (at_then ?_)
    refine W_seq ?_
    refine W_rseq ?_
    refine op_move rfl (.pointer _) rfl ?_
    refine op_move rfl (.int _ _) rfl ?_
    refine op_call rfl ca_165 (dhas_ok k (Ctx.oldb H D.hd)) rfl ?_
    rintro v w ⟨rfl, rfl⟩
    rw [show (decide (0 ≤ k) && decide (k < (A.B.length : Int))) = A.has k from rfl]
    refine op_not rfl rfl ?_
    refine op_nil (at_then ?_)
    refine W_cond _ rfl ?_ ?_
    · intro h2
      replace h2 := nvar_t h2
      have he : readE A k = 1 := by rw [readE, ho, h2]; rfl
      refine W_rseq ?_
      refine op_assign rfl (.slice _ _ _) rfl ?_
      refine op_assign rfl (.int _ _) rfl ?_
      refine op_nil (at_then ?_)
      refine W_ret (ret_then (leave2 (v1 := (.slice _ _ _)) (v2 := (.int _ _)) rfl rfl rfl rfl ?_))
      refine ⟨_, by rw [he], ?_⟩
      rw [readB, he]
      exact Fresh.nil H _ _
    · intro h2
      replace h2 := nvar_f h2
      have he : readE A k = 0 := by rw [readE, ho, h2]; rfl
      obtain ⟨q, rfl, hq⟩ := has_num h2
      obtain ⟨p, hp⟩ : ∃ p, A.B[q]? = some p := ⟨_, List.getElem?_eq_getElem hq⟩
      have hpm := List.mem_of_getElem? hp
      have hbe : readB A q = stands p := by
        rw [readB, he, show ((q : Int)).toNat = q from rfl, List.getD_eq_getElem?_getD, hp]; rfl
      have hst := stands_len D.wf hpm
      obtain ⟨⟨v0, hv0, hsure⟩, ⟨al, nl, cl, fl, vs, hvl, O, hent, hvs⟩, _⟩ := D.part q p hp
      have Rs := rdV_bl D.hs
      have Rl := OS.rdV O fun x hx => (hent x hx).1
      have hnl : nl = vs.length := by have := O.llen; omega
      have hll := hfew p hpm
      have hvn := hvs.1
      obtain ⟨a0, c0, ts, rfl, R0, hts⟩ := slot_bytes hsure
      refine W_skip (at_then ?_)
      refine W_rseq ?_
      refine op_move rfl (.pointer _) rfl ?_
      refine op_nilCheck rfl rfl ?_
      refine op_fieldAddr rfl fo_144_0 rfl ?_
      first | refine op_ldb rfl ag_141 rfl H (by first | exact at0 | exact at1 | exact at2 | exact at3 | exact at4 | exact at5 | exact at6 | exact at7 | exact at8 | exact at9) rfl ?_ | refine op_ld rfl ag_141 rfl (H.old0 (cell_bl D.hd _)) ?_ | refine op_ld rfl ag_141 rfl ((Rs.ext0 H.ext).one (f := fun v => v) hv0) ?_
      refine op_move rfl (.int _ _) rfl ?_
      first | refine op_indexRd Rs rfl el_141 sz_23 rfl rfl (by omega) (by omega) (by first | rfl | omega) ?_ | refine op_indexAddr rfl el_141 sz_23 rfl rfl (by omega) (by omega) ?_
      first | refine op_ldb rfl ag_23 rfl H (by first | exact at0 | exact at1 | exact at2 | exact at3 | exact at4 | exact at5 | exact at6 | exact at7 | exact at8 | exact at9) rfl ?_ | refine op_ld rfl ag_23 rfl (H.old0 (cell_bl D.hd _)) ?_ | refine op_ld rfl ag_23 rfl ((Rs.ext0 H.ext).one (f := fun v => v) hv0) ?_
      refine op_assign rfl (.slice _ _ _) rfl ?_
      refine op_nil (at_then ?_)
      refine W_seq ?_
      refine W_rseq ?_
      refine op_move rfl (.pointer _) rfl ?_
      refine op_nilCheck rfl rfl ?_
      refine op_fieldAddr rfl fo_144_1 rfl ?_
      first | refine op_ldb rfl ag_142 rfl H (by first | exact at0 | exact at1 | exact at2 | exact at3 | exact at4 | exact at5 | exact at6 | exact at7 | exact at8 | exact at9) rfl ?_ | refine op_ld rfl ag_142 rfl (H.old0 (cell_bl D.hd _)) ?_ | refine op_ld rfl ag_142 rfl ((Rs.ext0 H.ext).one (f := fun v => v) hv0) ?_
      refine op_move rfl (.int _ _) rfl ?_
      refine op_lookupH rfl mt_142 un_3 zv_141 rfl rfl (Ctx.oldb H D.hm) D.hM ?_
      rw [show ((mget m (q : Int)).getD (.slice none 0 0)) = .slice al nl cl from hvl]
      refine op_assign rfl (.slice _ _ _) rfl ?_
      refine op_nil (at_then ?_)
      refine W_rseq ?_
      refine op_move rfl (.slice _ _ _) rfl ?_
      refine op_len rfl el_141 rfl ?_
      refine op_gtr rfl rfl rfl ?_
      refine op_nil (at_then ?_)
      refine W_cond _ rfl ?_ ?_
      · intro h3
        replace h3 := dec_t h3
        obtain ⟨b, hb⟩ : ∃ b, p.2[nl - 1]? = some b := ⟨_, List.getElem?_eq_getElem (by omega)⟩
        obtain ⟨vb, hvb⟩ : ∃ v, vs[nl - 1]? = some v := ⟨_, List.getElem?_eq_getElem (by omega)⟩
        obtain ⟨ab, cb, rfl, Rb, hbl, _, _⟩ := hvs.2 _ _ _ hvb hb
        have hstb : stands p = b := by
          rw [stands, List.getLast?_eq_getElem?, show p.2.length - 1 = nl - 1 by omega, hb]; rfl
        refine W_region ?_
        refine op_move rfl (.slice _ _ _) rfl ?_
        refine op_move rfl (.slice _ _ _) rfl ?_
        refine op_len rfl el_141 rfl ?_
        refine op_sub_i64 rfl rfl rfl (by omega) (by omega) ?_
        rw [show ((nl : Int) - 1) = ((nl - 1 : Nat) : Int) by omega]
        first | refine op_indexRd Rs rfl el_141 sz_23 rfl rfl (by omega) (by omega) (by first | rfl | omega) ?_ | refine op_indexRd Rl rfl el_141 sz_23 rfl rfl (by omega) (by omega) (by first | rfl | omega) ?_ | refine op_indexAddr rfl el_141 sz_23 rfl rfl (by omega) (by omega) ?_
        first | refine op_ldb rfl ag_23 rfl H (by first | exact at0 | exact at1 | exact at2 | exact at3 | exact at4 | exact at5 | exact at6 | exact at7 | exact at8 | exact at9) rfl ?_ | refine op_ld rfl ag_23 rfl (H.old0 (cell_bl D.hd _)) ?_ | refine op_ld rfl ag_23 rfl ((Rs.ext0 H.ext).one (f := fun v => v) hv0) ?_ | refine op_ld rfl ag_23 rfl ((Rl.ext0 H.ext).one (f := fun v => v) hvb) ?_
        refine op_assign rfl (.slice _ _ _) rfl ?_
        refine op_nil (at_then ?_)
        refine W_rseq ?_
        refine op_make rfl el_23 sz_5 by_5 zc_5 rfl rfl (by omega) (by omega) (by omega) (by omega) H ?_
        rintro b41 w - H
        refine op_assign rfl (.slice _ _ _) rfl ?_
        refine op_nil (at_then ?_)
        refine W_rseq ?_
        refine op_move rfl (.slice _ _ _) rfl ?_
        refine op_move rfl (.slice _ _ _) rfl ?_
        refine op_copy (b.map bv) rfl el_23 sz_5 rfl rfl (by simp [hbl]) (bv_one _) (Rd.appB (Rb.ext0 H.ext)) (show Ctx w0 [] w [(b41, Bl 5 (List.replicate 512 (Value.int .u8 0)))] from H) at0 (by rw [List.length_replicate]; exact Nat.le_refl _) ?_
        rintro w H
        replace H : Ctx w0 [] w [(b41, Bl 5 (over (List.replicate 512 (Value.int .u8 0)) 0 ((b.map bv).take 512)))] := H
        rw [pad_zeros b hbl] at H
        refine op_nil (at_then ?_)
        refine W_rseq ?_
        refine op_move rfl (.slice _ _ _) rfl ?_
        refine op_assign rfl (.slice _ _ _) rfl ?_
        refine op_assign rfl (.int _ _) rfl ?_
        refine op_nil (at_then ?_)
        refine W_ret (leave2 (v1 := (.slice _ _ _)) (v2 := (.int _ _)) rfl rfl rfl rfl ?_)
        refine ⟨_, by rw [he], ?_⟩
        rw [hbe, hstb]
        exact Ctx.fresh_bl H (by rw [List.length_map, hbl]; rfl)
      · intro h3
        replace h3 := dec_f h3
        have hstb : stands p = p.1 := by
          have : p.2 = [] := List.eq_nil_of_length_eq_zero (by omega)
          rw [stands, this]; rfl
        refine W_skip (at_then ?_)
        refine W_rseq ?_
        refine op_make rfl el_23 sz_5 by_5 zc_5 rfl rfl (by omega) (by omega) (by omega) (by omega) H ?_
        rintro b41 w - H
        refine op_assign rfl (.slice _ _ _) rfl ?_
        refine op_nil (at_then ?_)
        refine W_rseq ?_
        refine op_move rfl (.slice _ _ _) rfl ?_
        refine op_move rfl (.slice _ _ _) rfl ?_
        refine op_copy (ts.map bv) rfl el_23 sz_5 rfl rfl (by simp) (bv_one _) (Rd.appB (R0.ext0 H.ext)) (show Ctx w0 [] w [(b41, Bl 5 (List.replicate 512 (Value.int .u8 0)))] from H) at0 (by rw [List.length_replicate]; exact Nat.le_refl _) ?_
        rintro w H
        replace H : Ctx w0 [] w [(b41, Bl 5 (over (List.replicate 512 (Value.int .u8 0)) 0 ((ts.map bv).take 512)))] := H
        rw [pad_ts hts (by rw [← hstb]; exact hst)] at H
        refine op_nil (at_then ?_)
        refine W_rseq ?_
        refine op_move rfl (.slice _ _ _) rfl ?_
        refine op_assign rfl (.slice _ _ _) rfl ?_
        refine op_assign rfl (.int _ _) rfl ?_
        refine op_nil (at_then ?_)
        refine W_ret (leave2 (v1 := (.slice _ _ _)) (v2 := (.int _ _)) rfl rfl rfl rfl ?_)
        refine ⟨_, by rw [he], ?_⟩
        rw [hbe, hstb]
        exact Ctx.fresh_bl H (by rw [List.length_map, ← hstb, hst]; rfl)

theorem All2.snoc {α β : Type} {R : α → β → Prop} {xs : List α} {ys : List β} {x : α} {y : β} (h : All2 R xs ys) (hxy : R x y) : All2 R (xs ++ [x]) (ys ++ [y]) := by
  refine ⟨by rw [List.length_append, List.length_append, h.1]; rfl, fun i a b ha hb => ?_⟩
  by_cases hi : i < xs.length
  · rw [List.getElem?_append_left hi] at ha
    rw [List.getElem?_append_left (by rw [← h.1]; exact hi)] at hb
    exact h.2 i a b ha hb
  · have h2 := get_lt ha
    rw [List.length_append, List.length_singleton] at h2
    have hi' : i = xs.length := by omega
    subst hi'
    rw [List.getElem?_append_right (Nat.le_refl _), Nat.sub_self] at ha
    rw [List.getElem?_append_right (by rw [h.1]; exact Nat.le_refl _), h.1, Nat.sub_self] at hb
    cases ha; cases hb
    exact hxy
theorem All2.imp {α β : Type} {R R' : α → β → Prop} {xs : List α} {ys : List β} (h : All2 R xs ys) (hi : ∀ x y, R x y → R' x y) : All2 R' xs ys := ⟨h.1, fun i x y hx hy => hi x y (h.2 i x y hx hy)⟩
theorem mset_nodup {α : Type} {m : List (Int × α)} {k : Int} {v : α} (h : (m.map (·.1)).Nodup) : ((mset m k v).map (·.1)).Nodup := by
  induction m with
  | nil => simp [mset]
  | cons p m ih =>
    unfold mset
    rw [List.map_cons, List.nodup_cons] at h
    by_cases hp : p.1 = k
    · rw [if_pos hp, List.map_cons, List.nodup_cons]
      exact ⟨by rw [← hp]; exact h.1, h.2⟩
    · rw [if_neg hp, List.map_cons, List.nodup_cons]
      refine ⟨fun hm => ?_, ih h.2⟩
      rcases (mset_keys m k v p.1).1 hm with h1 | h1
      · exact hp h1
      · exact h.1 h1

/-- What is written is one more that is loose. -/
theorem DevR.write {wS w15 : World} {bd : Nat} {A : Dev} {role : Nat → Nat} {bs bm : Nat} {sv : List Value} {m : List (Int × Value)} {o o' : Obj} (D : DevR wS bd A role bs bm sv m o) {k : Nat} (hk : k < A.B.length) {arrs : List Nat}
    (ha : ∀ x ∈ arrs, role x = 5 + k) (hx : Ext (bm :: arrs) wS w15) (hm15 : w15.heap[bm]? = some o') {b9 n9 c9 : Nat} {full9 vs : List Value} (hM : MapO .i64 (mset m k (.slice (some ⟨b9, 0, none⟩) n9 c9)) o')
    {a39 : Option Addr} {c39 : Nat} {l : Byt} (O : OS (some ⟨b9, 0, none⟩) n9 c9 1 full9 (vs ++ [.slice a39 512 c39])) (h9 : w15.heap[b9]? = some (Bl 23 full9)) (h9n : b9 ∈ arrs ∨ wS.heap.size ≤ b9)
    {p : Byt × List Byt} (hp : A.B[k]? = some p) (hvs : All2 (BytesAt wS role) vs p.2) (R39 : Rd w15 a39 1 B8 l) (hl : l.length = 512) (hc : 512 ≤ c39) (h39 : wS.heap.size ≤ (adr a39).block) (h39' : (adr a39).block ≠ b9) (h39lt : (adr a39).block < w15.heap.size)
    (wf : Wf (addW A k l)) : ∃ role', DevR w15 bd (addW A k l) role' bs bm sv (mset m k (.slice (some ⟨b9, 0, none⟩) n9 c9)) o' ∧ ∀ x, role' x ≠ 0 → role x ≠ 0 ∨ (wS.heap.size ≤ x ∧ x < w15.heap.size) := by
  obtain ⟨role', hrole⟩ : ∃ f : Nat → Nat, ∀ x, f x = if x = b9 then 5 + k else if x = (adr a39).block then 4 else role x := ⟨_, fun _ => rfl⟩
  have hr9 : role' b9 = 5 + k := by rw [hrole, if_pos rfl]
  have hr39 : role' (adr a39).block = 4 := by rw [hrole, if_neg h39', if_pos rfl]
  have hold : ∀ x, role x ≠ 0 → role' x = role x := fun x h0 => by
    have hlt := D.lt x h0
    rw [hrole]
    by_cases h : x = b9
    · rw [if_pos h]
      rcases h9n with h1 | h1
      · rw [h, ha _ h1]
      · omega
    · rw [if_neg h, if_neg (by omega)]
  have hnew : ∀ x, role' x ≠ 0 → role x ≠ 0 ∨ (wS.heap.size ≤ x ∧ x < w15.heap.size) := fun x h0 => by
    rw [hrole] at h0
    by_cases h : x = b9
    · rcases h9n with h1 | h1
      · exact .inl (by rw [h, ha _ h1]; omega)
      · exact .inr (by rw [h]; exact ⟨h1, heap_lt h9⟩)
    · rw [if_neg h] at h0
      by_cases h2 : x = (adr a39).block
      · exact .inr (by rw [h2]; exact ⟨h39, h39lt⟩)
      · rw [if_neg h2] at h0
        exact .inl h0
  have hS : ∀ x ∈ bm :: arrs, role x = 3 ∨ role x = 5 + k := fun x h => by
    rcases List.mem_cons.1 h with h | h
    · exact .inl (by rw [h]; exact D.rm)
    · exact .inr (ha x h)
  have hb : ∀ {b : Nat} {o : Obj}, wS.heap[b]? = some o → role b = 1 ∨ role b = 2 → w15.heap[b]? = some o := fun {b o} h1 h2 => by
    rw [hx.block b (heap_lt h1) fun h => ?_]
    · exact h1
    · rcases hS b h with h3 | h3 <;> omega
  have k4 : ∀ x, role x = 4 → role' x = 4 := fun x h => by rw [hold x (by omega), h]
  refine ⟨role', ⟨fun x h => ?_, by rw [hold _ (by rw [D.rd]; decide), D.rd], by rw [hold _ (by rw [D.rs]; decide), D.rs], by rw [hold _ (by rw [D.rm]; decide), D.rm], ?_, hb D.hs (.inr D.rs), hm15, hM, mset_nodup D.nd, fun k' v h => ?_, ?_, fun i q hq => ?_, wf⟩, hnew⟩
  · rcases hnew x h with h | h
    · exact Nat.lt_of_lt_of_le (D.lt x h) hx.size
    · exact h.2
  · rw [show (addW A k l).B.length = A.B.length from List.length_modify ..]
    exact hb D.hd (.inl D.rd)
  · rw [show (addW A k l).B.length = A.B.length from List.length_modify ..]
    rw [mget_mset] at h
    by_cases hkk : k' = (k : Int)
    · exact ⟨k, hkk, hk⟩
    · rw [if_neg hkk] at h
      exact D.keys k' v h
  · rw [show (addW A k l).B.length = A.B.length from List.length_modify ..]; exact D.len
  · have hq' : (A.B.modify k fun p => (p.1, p.2 ++ [l]))[i]? = some q := hq
    rw [List.getElem?_modify] at hq'
    rw [mget_mset]
    by_cases hik : k = i
    · subst hik
      rw [hp] at hq'
      simp only [if_pos, Option.map_eq_map, Option.map_some, Option.some.injEq] at hq'
      subst hq'
      obtain ⟨⟨v, h1, h2⟩, _, _⟩ := D.part k p hp
      refine ⟨⟨v, h1, h2.keep hx (fun x h => by rcases hS x h with h3 | h3 <;> omega) k4⟩, ?_, by simp⟩
      rw [if_pos rfl, Option.getD_some]
      refine ⟨_, _, _, full9, _, rfl, O, fun x hx' => ?_, All2.snoc (hvs.imp fun v s h => h.keep hx (fun x h => by rcases hS x h with h3 | h3 <;> omega) k4) ⟨a39, c39, rfl, R39, hl, hr39, hc⟩⟩
      rw [mem_ent rfl, List.mem_singleton] at hx'
      subst hx'
      exact ⟨h9, hr9⟩
    · simp only [if_neg hik] at hq'
      have hq2 : A.B[i]? = some q := by simpa using hq'
      rw [if_neg (show ¬ ((i : Int) = (k : Int)) by omega)]
      obtain ⟨⟨v, h1, h2⟩, h3, h4⟩ := D.part i q hq2
      exact ⟨⟨v, h1, h2.keep hx (fun x h => by rcases hS x h with h3 | h3 <;> omega) k4⟩, h3.keep hx (fun x h => by rcases hS x h with h3 | h3 <;> omega) k4 (fun x h => by rw [hold x (by omega), h]), h4⟩

end Go.Proofs.YtbkadlngijkmmaaGreatDoor

/- Writes of a device. -/
namespace Go.Proofs.YtbkadlngijkmmaaGreatDoor
open Go.GV
attribute [local irreducible] Wops W Wq Wt

theorem Fresh.new512 {w w' : World} {t : Nat} {s : Value} {xs : Byt} (h : Fresh w w' t 1 s (xs.map bv)) (hl : xs.length = 512) : ∃ a c, s = .slice a 512 c ∧ Rd w' a 1 B8 xs ∧ 512 ≤ c ∧ w.heap.size ≤ (adr a).block ∧ (adr a).block < w'.heap.size := by
  obtain ⟨a, n, c, full, rfl, O, hb⟩ := h.ex
  have hn : n = 512 := by rw [← hl]; exact OS.num O
  subst hn
  obtain ⟨b, rfl⟩ := O.form (by decide)
  have h1 := hb (b, Bl t full) (by rw [mem_ent rfl]; exact List.mem_singleton.2 rfl)
  exact ⟨_, c, rfl, O.rd1 (t := t) fun x hx => (hb x hx).1, O.le, h1.2, heap_lt h1.1⟩

set_option maxRecDepth 20000 in
set_option maxHeartbeats 1000000 in
theorem dwrite_ok {w : World} {bd : Nat} {A : Dev} {F : Nat → Prop} (k : Int) (a : Option Addr) (c n : Nat) (l : Byt) (R : Rd w a 1 B8 l) (hn : l.length = n) (hm : n ≤ 140737488351232) (hFa : l = [] ∨ ¬ F (adr a).block) {mx : Nat} (hfew : Few A mx) (hmx : mx ≤ 1000000000000) (DA : DevAt w bd A F) :
    Ret Tryz.prog 141 #[ptr bd, .int .i64 k, .slice a n c] w fun v w' => v = .int .i64 (writeE A k l) ∧ DevAt w' bd (writeD A k l) (grow F w w') ∧ Turn F w w' := by
  subst hn
  obtain ⟨w0, rfl⟩ : ∃ w0, w0 = w := ⟨_, rfl⟩
  obtain ⟨role, bs, bm, sv, m, o, D, hF⟩ := DA
  have hFr : ∀ x, role x ≠ 0 → F x := hF
  refine ret_of_W (fn := Tryz.f141) Tryz.func141 rfl [.pointer (some ⟨bd, 0, none⟩), .int .i64 k, .slice a l.length c] rfl (by kernel_rfl) ?_
  refine W_rseq ?_
  refine op_assign rfl (.int _ _) rfl ?_
  refine op_nil (at_then ?_)
  refine W_seq ?_
  refine W_rseq ?_
  refine op_move rfl (.pointer _) rfl ?_
  refine op_call rfl ca_82 (don_ok D.hd) rfl ?_
  rintro v w ⟨rfl, rfl⟩
  refine op_assign rfl (.int _ _) rfl ?_
  refine op_nil (at_then ?_)
  refine W_rseq ?_
  refine op_move rfl (.int _ _) rfl ?_
  refine op_neq rfl rfl rfl ?_
  refine op_nil (at_then ?_)
  refine W_cond _ rfl ?_ ?_
  · intro h1
    replace h1 := ndec_t h1
    have ho : A.on = false := by cases h : A.on <;> simp_all
    have he : writeE A k l = 8 := by rw [writeE, ho]; rfl
    have hd : writeD A k l = A := by rw [writeD, ho]; rfl
    refine W_rseq ?_
    refine op_move rfl (.int _ _) rfl ?_
    refine op_assign rfl (.int _ _) rfl ?_
    refine op_nil (at_then ?_)
    refine W_ret (ret_then (leave1 (v := (.int _ _)) rfl rfl rfl ?_))
    exact ⟨by rw [he, ho]; rfl, by rw [hd]; exact ⟨role, bs, bm, sv, m, o, D, fun x h => .inl (hF x h)⟩, .of0 (.refl _ _)⟩
  · intro h1
    replace h1 := ndec_f h1
    have ho : A.on = true := by cases h : A.on <;> simp_all
    refine W_skip (at_then ?_)
    refine W_seq ?_
    refine W_rseq (Wops_join (α := Unit) 8372224 (fun _ => [(22, .bool (!(A.has k && decide (l.length = 512))))]) (fun _ w' => w0 = w') rfl ?_ ?_)
    · refine op_move rfl (.pointer _) rfl ?_
      refine op_move rfl (.int _ _) rfl ?_
      refine op_call rfl ca_165 (dhas_ok k D.hd) rfl ?_
      rintro v w ⟨rfl, rfl⟩
      rw [show (decide (0 ≤ k) && decide (k < (A.B.length : Int))) = A.has k from rfl]
      refine op_not rfl rfl ?_
      refine op_move rfl (.bool _) rfl ?_
      refine Wops_split 18 rfl ?_ ?_
      · intro h1
        replace h1 := nvar_t h1
        refine op_skip rfl ?_
        refine op_skip rfl ?_
        refine op_skip rfl ?_
        refine op_pick1 rfl rfl (.bool _) rfl ?_
        refine op_nil ?_
        exact ⟨rfl, (), rfl, ⟨congrArg Value.bool (by rw [Bool.eq_iff_iff]; simp_all; try omega), trivial⟩, rfl⟩
      · intro h2
        replace h2 := nvar_f h2
        refine op_move rfl (.slice _ _ _) rfl ?_
        refine op_len rfl el_23 rfl ?_
        refine op_neq rfl rfl rfl ?_
        refine op_pick0 rfl rfl (.bool _) rfl ?_
        refine op_nil ?_
        exact ⟨rfl, (), rfl, ⟨congrArg Value.bool (by rw [Bool.eq_iff_iff]; simp_all; try omega), trivial⟩, rfl⟩
    rintro - j22 w rfl
    refine W_cond _ rfl ?_ ?_
    · intro h2
      replace h2 := nvar_t h2
      have he : writeE A k l = 1 := by rw [writeE, ho, h2]; rfl
      have hd : writeD A k l = A := by rw [writeD, h2, Bool.and_false]; rfl
      refine W_rseq ?_
      refine op_assign rfl (.int _ _) rfl ?_
      refine op_nil (at_then ?_)
      refine W_ret (ret_then (leave1 (v := (.int _ _)) rfl rfl rfl ?_))
      exact ⟨by rw [he], by rw [hd]; exact ⟨role, bs, bm, sv, m, o, D, fun x h => .inl (hF x h)⟩, .of0 (.refl _ _)⟩
    · intro h2
      replace h2 := nvar_f h2
      refine W_skip (at_then ?_)
      refine W_rseq ?_
      refine op_move rfl (.pointer _) rfl ?_
      refine op_call rfl ca_83 (dcounts_ok D) rfl ?_
      rintro v w ⟨rfl, D1, hx1⟩
      refine op_assign rfl (.int _ _) rfl ?_
      refine op_nil (at_then ?_)
      refine W_seq ?_
      refine W_rseq ?_
      refine op_move rfl (.int _ _) rfl ?_
      refine op_eql rfl rfl rfl ?_
      refine op_nil (at_then ?_)
      refine W_cond _ rfl ?_ ?_
      · intro h3
        replace h3 := dec_t h3
        have hg : A.goes = false := by cases h : A.goes <;> simp_all
        have he : writeE A k l = 0 := by rw [writeE, ho, h2, hg]; rfl
        have hd : writeD A k l = addW A.less k.toNat l := by rw [writeD, ho, h2, hg]; rfl
        obtain ⟨wS, rfl⟩ : ∃ x, x = w := ⟨_, rfl⟩
        rw [Bool.and_eq_true, decide_eq_true_eq] at h2
        obtain ⟨h2, hl⟩ := h2
        obtain ⟨q, rfl, hq⟩ := has_num h2
        have hq1 : q < A.less.B.length := by rw [less_B]; exact hq
        obtain ⟨p, hp⟩ : ∃ p, A.less.B[q]? = some p := ⟨_, List.getElem?_eq_getElem hq1⟩
        obtain ⟨_, ⟨al, nl, cl, fl, vs, hvl, O, hent, hvs⟩, _⟩ := D1.part q p hp
        have hnl : nl = vs.length := by have := O.llen; omega
        have hll := less_few hfew p (List.mem_of_getElem? hp)
        have hvn := hvs.1
        obtain ⟨arrs, harrs⟩ : ∃ x, x = (ent al 23 fl).map (·.1) := ⟨_, rfl⟩
        have har : ∀ x ∈ arrs, role x = 5 + q := fun x h => by
          rw [harrs] at h
          obtain ⟨y, hy, rfl⟩ := List.mem_map.1 h
          exact (hent y hy).2
        have HT : ∀ x, Ext arrs wS x → Ctx wS (bd :: bm :: arrs) x [(bd, Bl TD (DB A.less.B.length bs bm A.less.left A.less.on)), (bm, o)] := fun x hx => by
          have e1 : ∀ {b : Nat} {o : Obj}, wS.heap[b]? = some o → role b = 1 ∨ role b = 3 → x.heap[b]? = some o := fun {b o} h1 h2 => by
            rw [hx.block b (heap_lt h1) fun h => by have := har b h; omega]; exact h1
          refine ⟨hx.mono (fun y h => by simp [h]), fun y hy => ?_, ?_, fun y hy => .inl ?_⟩
          · simp only [List.mem_cons, List.not_mem_nil, or_false] at hy
            rcases hy with rfl | rfl
            · exact e1 D1.hd (.inl D1.rd)
            · exact e1 D1.hm (.inr D1.rm)
          · have : bd ≠ bm := fun h => by have h1 := D1.rd; have h2 := D1.rm; rw [h] at h1; omega
            simp [this]
          · simp only [List.mem_cons, List.not_mem_nil, or_false] at hy
            rcases hy with rfl | rfl <;> simp
        have Rw : Rd wS a 1 B8 l := by
          rcases hFa with rfl | hFa
          · exact Rd.nil
          · refine R.ext hx1 fun h => hFa ?_
            rw [List.mem_singleton.1 h]
            exact hFr _ (by rw [D.rd]; decide)
        have hM := D1.hM
        refine W_segz [([0, 1, 2, 3, 4, 5, 6, 7, 8, 9, 10, 11], 12), ([], 13), ([], 14), ([], 15)] (fun x => Ext arrs wS x) [15] mixed (by kernel_rfl) (Ext.drew _ wS) ?_
        refine seg_cons rfl rfl ?_
        refine t_move rfl (.pointer _) rfl ?_
        refine t_nilCheck rfl rfl ?_
        refine t_fieldAddr rfl fo_144_1 rfl ?_
        refine t_ldb rfl ag_142 rfl HT (by first | exact at0 | exact at1 | exact at2 | exact at3 | exact at4 | exact at5 | exact at6 | exact at7 | exact at8 | exact at9) rfl ?_
        refine t_move rfl (.int _ _) rfl ?_
        refine t_move rfl (.pointer _) rfl ?_
        refine t_nilCheck rfl rfl ?_
        refine t_fieldAddr rfl fo_144_1 rfl ?_
        refine t_ldb rfl ag_142 rfl HT (by first | exact at0 | exact at1 | exact at2 | exact at3 | exact at4 | exact at5 | exact at6 | exact at7 | exact at8 | exact at9) rfl ?_
        refine t_move rfl (.int _ _) rfl ?_
        refine t_lookup rfl mt_142 un_3 zv_141 rfl rfl HT at1 D1.hM ?_
        rw [show ((mget m (q : Int)).getD (.slice none 0 0)) = .slice al nl cl from hvl]
        refine t_move rfl (.slice _ _ _) rfl ?_
        refine t_nil ?_
        skip
        refine op_call rfl ca_119 (clone_ok a c l.length l _ (Rw.ext0 (Ext.drew [] wS)) rfl hm) rfl ?_
        rintro v w ⟨F39, -⟩
        obtain ⟨a39, c39, rfl, R39, hc39, hn39, hlt39⟩ := Fresh.new512 F39 hl
        have hxC0 := (Ext.drew [] wS).trans F39.ext
        have hxC : Ext arrs wS w := hxC0.mono (by simp)
        obtain ⟨wC, rfl⟩ : ∃ x, x = w := ⟨_, rfl⟩
        have H : Ctx wC arrs wC (ent al 23 fl) := by rw [harrs]; exact Ctx.startL (fun x hx => by rw [hxC0.block x.1 (heap_lt (hent x hx).1) (by simp)]; exact (hent x hx).1) ent_nd
        refine op_nil (at_seg (hxC) ?_)
        refine seg_cons rfl rfl ?_
        refine t_nil ?_
        refine op_build1 _ (.slice _ _ _) rfl el_141 sz_23 zc_23 rfl (by decide) (by decide) rfl rfl rfl H ?_
        rintro b40 w - H
        refine op_nil (at_seg (hxC.trans H.ext) ?_)
        refine seg_cons rfl rfl ?_
        refine t_nil ?_
        refine op_appendb (L := []) rfl el_141 el_141 sz_23 by_23 zc_23 rfl (by decide) rfl rfl H O rfl (by simp [oneCell]) (by omega) ?_
        rintro a9 c9 full9 w H9 O9
        obtain ⟨b9, rfl⟩ := O9.form (by omega)
        have hx14 : Ext arrs wS w := hxC.trans H9.ext
        have hbm : w.heap[bm]? = some o := by rw [hx14.block bm (heap_lt D1.hm) fun h => by have := har bm h; have := D1.rm; omega]; exact D1.hm
        obtain ⟨w14, rfl⟩ : ∃ x, x = w := ⟨_, rfl⟩
        replace H := Ctx.start1 hbm
        refine op_nil (at_seg (hx14) ?_)
        refine seg_cons rfl rfl ?_
        refine t_nil ?_
        refine op_mapUpdate (.slice _ _ _) rfl mt_142 un_3 rfl rfl rfl H (by first | exact at0 | exact at1 | exact at2 | exact at3 | exact at4 | exact at5 | exact at6 | exact at7 | exact at8 | exact at9) hM ?_
        rintro o w hM H
        refine op_nil (at_segz rfl ?_)
        refine seg_nil ?_
        refine at_then ?_
        refine W_rseq ?_
        refine op_move rfl (.int _ _) rfl ?_
        refine op_assign rfl (.int _ _) rfl ?_
        refine op_nil (at_then ?_)
        refine W_ret (leave1 (v := (.int _ _)) rfl rfl rfl ?_)
        have hsz9 : b9 ∈ arrs ∨ wC.heap.size ≤ b9 := H9.own (b9, Bl _ full9) (by rw [mem_ent rfl]; exact List.mem_singleton.2 rfl)
        have hb9w : w14.heap[b9]? = some (Bl 23 full9) := H9.blk (b9, Bl _ full9) (by rw [mem_ent rfl]; exact List.mem_singleton.2 rfl)
        have hsC := hxC.size
        have hs14 := H9.ext.size
        have hs15 := H.ext.size
        have hbm3 := D1.rm
        have hbmlt := D1.lt bm (by omega)
        have harlt : ∀ x ∈ arrs, x < wS.heap.size := fun x h => D1.lt x (by rw [har x h]; omega)
        have hne9 : b9 ≠ bm := fun h => by
          rcases hsz9 with h1 | h1
          · have := har b9 h1; rw [h] at this; omega
          · omega
        have hne39 : (adr a39).block ≠ b9 := fun h => by
          rcases hsz9 with h1 | h1
          · have := harlt b9 h1
            have h5 : wS.heap.size ≤ (adr a39).block := hn39
            omega
          · omega
        have hn39' : wS.heap.size ≤ (adr a39).block := hn39
        have hxE : Ext (bm :: arrs) wS w := (hx14.mono fun x h => List.mem_cons_of_mem _ h).trans (H.ext.mono fun x h => by rw [List.mem_singleton.1 h]; exact List.mem_cons_self ..)
        have R15 : Rd w a39 1 B8 l := (R39.ext H9.ext fun h => by have := harlt _ h; omega).ext H.ext fun h => by rw [List.mem_singleton] at h; omega
        obtain ⟨role', D', hnew⟩ := D1.write hq1 har hxE (H.get at0) hM O9 (by rw [H.ext.block b9 (heap_lt hb9w) (by simpa using hne9)]; exact hb9w) (hsz9.imp id fun h => Nat.le_trans hsC h) hp hvs R15 hl hc39 hn39' hne39 (by omega) (addW_wf (less_wf D.wf) hl)
        refine ⟨by rw [he, hg]; rfl, ?_, ?_⟩
        · rw [hd]
          refine ⟨role', bs, bm, sv, _, _, D', fun x h => ?_⟩
          rcases hnew x h with h | h
          · exact .inl (hF x h)
          · exact .inr ⟨Nat.le_trans hx1.size h.1, h.2⟩
        · refine .of (S := bd :: bm :: arrs) ((hx1.mono (by simp)).trans (hxE.mono fun x h => List.mem_cons_of_mem _ h)) fun x h => hF x ?_
          rcases List.mem_cons.1 h with rfl | h
          · rw [D.rd]; decide
          · rcases List.mem_cons.1 h with rfl | h
            · rw [D.rm]; decide
            · rw [har x h]; omega
      · intro h3
        replace h3 := dec_f h3
        have hg : A.goes = true := by cases h : A.goes <;> simp_all
        have he : writeE A k l = 8 := by rw [writeE, ho, h2, hg]; rfl
        have hd : writeD A k l = A.less := by rw [writeD, ho, h2, hg]; rfl
        refine W_skip (at_then ?_)
        refine W_rseq ?_
        refine op_move rfl (.int _ _) rfl ?_
        refine op_assign rfl (.int _ _) rfl ?_
        refine op_nil (at_then ?_)
        refine W_ret (leave1 (v := (.int _ _)) rfl rfl rfl ?_)
        refine ⟨by rw [he, hg]; rfl, by rw [hd]; exact ⟨role, bs, bm, sv, m, o, D1, fun x h => .inl (hF x h)⟩, .of hx1 fun x h => hF x (by rw [List.mem_singleton.1 h, D.rd]; decide)⟩

end Go.Proofs.YtbkadlngijkmmaaGreatDoor

/- Between our maps and the kit's words for the iterators over them. It holds for every program. -/
namespace Go.GV
open Go Go.Maps Go.WideElems Go.RowKit Go.WideShapes

theorem ext_of_below {w w' : World} (h : Below w.heap.size w w') : Ext [] w w' := ⟨h.os, h.tape, h.output, h.size, fun k hk _ => h.block k hk⟩
def anyR : Value → Option (DataW Unit × List MemPlace) := fun _ => some (.nil, [])

theorem ownsMap_of {P : Program} {k : TypeId} (hk : P.underlying k = some (.int .i64)) {w : World} {b : Nat} {m : List (Int × Value)} {o : Obj} (hb : w.heap[b]? = some o) (hM : MapO .i64 m o) (nd : (m.map (·.1)).Nodup)
    (hsz : m.length ≤ maxLen) (hr : ∀ p ∈ m, -9223372036854775808 ≤ p.1 ∧ p.1 ≤ 9223372036854775807) :
    ∃ D0 : DataW Unit, w.ownsMap P k anyR b m.length D0 ∧ (intKeys D0).Perm (m.map (·.1)) ∧ Maps.size D0 = m.length := by
  obtain ⟨es, clock, rfl, hes, hborn, hnd⟩ := hM
  have hlen : es.toList.length = m.length := by
    have := congrArg List.length hes
    simpa using this
  have hkeys : es.toList.map (·.key) = m.map fun p => Value.int .i64 p.1 := by
    have := congrArg (List.map Prod.fst) hes
    simpa [List.map_map, Function.comp_def] using this
  have hwf : ∀ x ∈ es.toList, ∃ a : Int, x.key = .int .i64 a ∧ (Lit.int .i64 a).wf = true ∧ keyOf P k x.key = some (.int .i64 a) := fun x hx => by
    have h1 : x.key ∈ es.toList.map (·.key) := List.mem_map.2 ⟨x, hx, rfl⟩
    rw [hkeys, List.mem_map] at h1
    obtain ⟨p, hp, h2⟩ := h1
    have hw : (Lit.int .i64 p.1).wf = true := by
      have := hr p hp
      simp only [Lit.wf, Bool.and_eq_true, decide_eq_true_eq]
      exact ⟨this.1, this.2⟩
    exact ⟨p.1, h2.symm, hw, by rw [← h2]; exact keyOf_int_mk hk hw⟩
  have F : Fit P k anyR es clock := by
    refine ⟨by rw [show es.size = es.toList.length by simp, hlen]; exact hsz, ⟨hborn, hnd, ?_⟩, fun x hx => ?_⟩
    · rw [hkeys, List.nodup_iff_pairwise_ne, List.pairwise_map]
      rw [List.nodup_iff_pairwise_ne, List.pairwise_map] at nd
      exact nd.imp fun h he => h (by injection he)
    · obtain ⟨a, _, _, h3⟩ := hwf x hx
      exact ⟨(.int .i64 a, .nil), by simp [rd, h3, anyR]⟩
  have hrg : es.toList.map (rg P k anyR) = (m.map fun p => (Lit.int .i64 p.1, (DataW.nil : DataW Unit))) := by
    have h1 : es.toList.map (rg P k anyR) = (es.toList.map (·.key)).map fun v => match v with | .int _ a => (Lit.int .i64 a, (DataW.nil : DataW Unit)) | _ => (.bool false, .nil) := by
      rw [List.map_map]
      refine List.map_congr_left fun x hx => ?_
      obtain ⟨a, h1, _, h3⟩ := hwf x hx
      rw [rg_of (y := (.int .i64 a, .nil)) (by simp [rd, h3, anyR])]
      simp [h1]
    rw [h1, hkeys, List.map_map]
    rfl
  refine ⟨.map ((es.toList.map (rg P k anyR)).foldr DataW.insert []), ⟨es, clock, hb, F, by rw [show es.size = es.toList.length by simp, hlen]; exact Nat.le_refl _, rfl⟩, ?_, ?_⟩
  · show (((es.toList.map (rg P k anyR)).foldr DataW.insert []).map fun p => intOf p.1).Perm _
    refine ((sorted_perm _).map _).trans ?_
    rw [hrg, List.map_map]
    exact List.Perm.of_eq (List.map_congr_left fun p _ => rfl)
  · show ((es.toList.map (rg P k anyR)).foldr DataW.insert []).length = _
    rw [(sorted_perm _).length_eq, List.length_map, hlen]

theorem rd_of_owns {w : World} {base : Nat} {e : TypeId} {v : Value} {xs : List Int} {n : Nat} (hn : n = xs.length) (h : w.ownsRow base e 1 v n (xs.map (Value.int .i64))) :
    ∃ a c, v = .slice a xs.length c ∧ Rd w a 1 (fun x : Int => [.int .i64 x]) xs ∧ xs.length ≤ c ∧ (xs = [] ∨ base ≤ (adr a).block) := by
  subst hn
  rcases h.2 with ⟨rfl, hz⟩ | ⟨g, cap, cur, rfl, hbase, hg, hcap, _, hsz, hpre⟩
  · have : xs = [] := List.eq_nil_of_length_eq_zero hz
    subst this
    exact ⟨none, 0, rfl, Rd.nil, Nat.le_refl _, .inl rfl⟩
  · refine ⟨_, cap, rfl, ?_, hcap, .inr hbase⟩
    have hO : OS (some ⟨g, 0, none⟩) xs.length cap 1 cur.toList (xs.map (Value.int .i64)) :=
      ⟨fun p hp => (by cases hp; rfl), fun hp => (by cases hp), by simpa using hsz, hcap, hpre⟩
    exact hO.rd1 (t := e) fun x hx => by
      rw [mem_ent rfl, List.mem_singleton] at hx
      subst hx
      show w.heap[g]? = some (.cells cur.toList.toArray e (0, 0))
      rw [Array.toArray_toList]; exact hg
end Go.GV

/- slices.Sorted(maps.Keys(m)) at this program. -/
namespace Go.Proofs
open Go.RowKit Go.Maps Go.Sort Go.Shelf
def Tryz.keysA_ren : Go.Shelf.Ren := ⟨fun | 7 => 144 | 10 => 183 | n => n, fun | 23 => 142 | 26 => 3 | 3 => 141 | 28 => 207 | 0 => 0 | 27 => 206 | 33 => 45 | 4 => 4 | n => n, fun | n => n⟩
theorem Tryz.keysA : Go.Proofs.SlLaysZI.n7 Tryz.prog Tryz.keysA_ren := {
  mixed := by kernel_rfl
  f7 := ⟨Tryz.f144.name, by decide, Tryz.func144.trans (congrArg some (by kernel_rfl))⟩
  f10 := ⟨Tryz.f183.name, by decide, Tryz.func183.trans (congrArg some (by kernel_rfl))⟩
  t0 := Tryz.underlying0
  a0 := Tryz.isAgg0
  z0 := Tryz.sizeOf0
  v0 := Tryz.zeroValue0
  t4 := Tryz.underlying4
  a4 := Tryz.isAgg4
  z4 := Tryz.sizeOf4
  v4 := Tryz.zeroValue4
  t23 := Tryz.underlying142
  a23 := Tryz.isAgg142
  z23 := Tryz.sizeOf142
  v23 := Tryz.zeroValue142
  t26 := Tryz.underlying3
  a26 := Tryz.isAgg3
  z26 := Tryz.sizeOf3
  v26 := Tryz.zeroValue3
  t27 := Tryz.underlying206
  a27 := Tryz.isAgg206
  z27 := Tryz.sizeOf206
  v27 := Tryz.zeroValue206
  t28 := Tryz.underlying207
  a28 := Tryz.isAgg207
  z28 := Tryz.sizeOf207
  v28 := Tryz.zeroValue207
  t33 := Tryz.underlying45
  a33 := Tryz.isAgg45
  z33 := Tryz.sizeOf45
  v33 := Tryz.zeroValue45 }
def Tryz.sortedA_ren : Go.Shelf.Ren := ⟨fun | 6 => 143 | 8 => 182 | 9 => 76 | 11 => 207 | 13 => 135 | 12 => 134 | 23 => 179 | 24 => 180 | 14 => 170 | 15 => 171 | 16 => 172 | 17 => 173 | 18 => 174 | 19 => 175 | 20 => 176 | 21 => 177 | 22 => 178 | 25 => 201 | 26 => 202 | 27 => 203 | 28 => 204 | 29 => 205 | 30 => 206 | 31 => 225 | n => n, fun | 26 => 3 | 28 => 207 | 24 => 57 | 0 => 0 | 3 => 3 | 37 => 100 | 48 => 244 | 50 => 152 | 4 => 4 | 40 => 237 | 39 => 236 | 45 => 122 | 5 => 5 | 9 => 9 | 51 => 258 | 55 => 262 | 57 => 282 | 58 => 283 | 33 => 45 | n => n, fun | n => n⟩
theorem Tryz.sortedA : Go.Proofs.SlLaysZI.n6 Tryz.prog Tryz.sortedA_ren := {
  mixed := by kernel_rfl
  f6 := ⟨Tryz.f143.name, by decide, Tryz.func143.trans (congrArg some (by kernel_rfl))⟩
  f8 := ⟨Tryz.f182.name, by decide, Tryz.func182.trans (congrArg some (by kernel_rfl))⟩
  f11 := ⟨Tryz.f207.name, by decide, Tryz.func207.trans (congrArg some (by kernel_rfl))⟩
  t0 := Tryz.underlying0
  a0 := Tryz.isAgg0
  z0 := Tryz.sizeOf0
  v0 := Tryz.zeroValue0
  t24 := Tryz.underlying57
  a24 := Tryz.isAgg57
  z24 := Tryz.sizeOf57
  v24 := Tryz.zeroValue57
  t26 := Tryz.underlying3
  a26 := Tryz.isAgg3
  z26 := Tryz.sizeOf3
  v26 := Tryz.zeroValue3
  t28 := Tryz.underlying207
  a28 := Tryz.isAgg207
  z28 := Tryz.sizeOf207
  v28 := Tryz.zeroValue207
  i26 := by kernel_rfl }
def Tryz.sortA_ren : Go.Shelf.Ren := ⟨fun | 5 => 76 | 8 => 135 | 7 => 134 | 19 => 179 | 20 => 180 | 10 => 170 | 11 => 171 | 12 => 172 | 13 => 173 | 14 => 174 | 15 => 175 | 16 => 176 | 17 => 177 | 18 => 178 | 30 => 201 | 31 => 202 | 32 => 203 | 33 => 204 | 34 => 205 | 35 => 206 | 40 => 225 | n => n, fun | 23 => 57 | 25 => 3 | 3 => 3 | 32 => 100 | 22 => 57 | 0 => 0 | 44 => 244 | 46 => 152 | 4 => 4 | 36 => 237 | 35 => 236 | 41 => 122 | 5 => 5 | 9 => 9 | 53 => 258 | 57 => 262 | 63 => 282 | 64 => 283 | n => n, fun | n => n⟩
theorem Tryz.sortA : Go.Proofs.SlLaysM.n5 Tryz.prog Tryz.sortA_ren := {
  mixed := by kernel_rfl
  f5 := ⟨Tryz.f76.name, by decide, Tryz.func76.trans (congrArg some (by kernel_rfl))⟩
  f7 := ⟨Tryz.f134.name, by decide, Tryz.func134.trans (congrArg some (by kernel_rfl))⟩
  f8 := Tryz.func135.trans (congrArg some (by kernel_rfl))
  f10 := ⟨Tryz.f170.name, by decide, Tryz.func170.trans (congrArg some (by kernel_rfl))⟩
  f11 := ⟨Tryz.f171.name, by decide, Tryz.func171.trans (congrArg some (by kernel_rfl))⟩
  f12 := ⟨Tryz.f172.name, by decide, Tryz.func172.trans (congrArg some (by kernel_rfl))⟩
  f13 := ⟨Tryz.f173.name, by decide, Tryz.func173.trans (congrArg some (by kernel_rfl))⟩
  f14 := ⟨Tryz.f174.name, by decide, Tryz.func174.trans (congrArg some (by kernel_rfl))⟩
  f15 := ⟨Tryz.f175.name, by decide, Tryz.func175.trans (congrArg some (by kernel_rfl))⟩
  f16 := ⟨Tryz.f176.name, by decide, Tryz.func176.trans (congrArg some (by kernel_rfl))⟩
  f17 := ⟨Tryz.f177.name, by decide, Tryz.func177.trans (congrArg some (by kernel_rfl))⟩
  f18 := ⟨Tryz.f178.name, by decide, Tryz.func178.trans (congrArg some (by kernel_rfl))⟩
  f19 := Tryz.func179.trans (congrArg some (by kernel_rfl))
  f20 := Tryz.func180.trans (congrArg some (by kernel_rfl))
  f30 := ⟨Tryz.f201.name, by decide, Tryz.func201.trans (congrArg some (by kernel_rfl))⟩
  f31 := Tryz.func202.trans (congrArg some (by kernel_rfl))
  f32 := Tryz.func203.trans (congrArg some (by kernel_rfl))
  f33 := ⟨Tryz.f204.name, by decide, Tryz.func204.trans (congrArg some (by kernel_rfl))⟩
  f34 := ⟨Tryz.f205.name, by decide, Tryz.func205.trans (congrArg some (by kernel_rfl))⟩
  f35 := ⟨Tryz.f206.name, by decide, Tryz.func206.trans (congrArg some (by kernel_rfl))⟩
  f40 := ⟨Tryz.f225.name, by decide, Tryz.func225.trans (congrArg some (by kernel_rfl))⟩
  t0 := Tryz.underlying0
  a0 := Tryz.isAgg0
  z0 := Tryz.sizeOf0
  v0 := Tryz.zeroValue0
  t3 := Tryz.underlying3
  a3 := Tryz.isAgg3
  z3 := Tryz.sizeOf3
  v3 := Tryz.zeroValue3
  t4 := Tryz.underlying4
  a4 := Tryz.isAgg4
  z4 := Tryz.sizeOf4
  v4 := Tryz.zeroValue4
  t5 := Tryz.underlying5
  a5 := Tryz.isAgg5
  z5 := Tryz.sizeOf5
  v5 := Tryz.zeroValue5
  t9 := Tryz.underlying9
  a9 := Tryz.isAgg9
  z9 := Tryz.sizeOf9
  v9 := Tryz.zeroValue9
  t22 := Tryz.underlying57
  a22 := Tryz.isAgg57
  z22 := Tryz.sizeOf57
  v22 := Tryz.zeroValue57
  t23 := Tryz.underlying57
  a23 := Tryz.isAgg57
  z23 := Tryz.sizeOf57
  v23 := Tryz.zeroValue57
  t25 := Tryz.underlying3
  a25 := Tryz.isAgg3
  z25 := Tryz.sizeOf3
  v25 := Tryz.zeroValue3
  t32 := Tryz.underlying100
  a32 := Tryz.isAgg100
  z32 := Tryz.sizeOf100
  v32 := Tryz.zeroValue100
  t35 := Tryz.underlying236
  a35 := Tryz.isAgg236
  z35 := Tryz.sizeOf236
  v35 := Tryz.zeroValue236
  t36 := Tryz.underlying237
  a36 := Tryz.isAgg237
  z36 := Tryz.sizeOf237
  v36 := Tryz.zeroValue237
  t41 := Tryz.underlying122
  a41 := Tryz.isAgg122
  z41 := Tryz.sizeOf122
  v41 := Tryz.zeroValue122
  t44 := Tryz.underlying244
  a44 := Tryz.isAgg244
  z44 := Tryz.sizeOf244
  v44 := Tryz.zeroValue244
  t46 := Tryz.underlying152
  a46 := Tryz.isAgg152
  z46 := Tryz.sizeOf152
  v46 := Tryz.zeroValue152
  t53 := Tryz.underlying258
  a53 := Tryz.isAgg258
  z53 := Tryz.sizeOf258
  v53 := Tryz.zeroValue258
  t57 := Tryz.underlying262
  a57 := Tryz.isAgg262
  z57 := Tryz.sizeOf262
  v57 := Tryz.zeroValue262
  t63 := Tryz.underlying282
  a63 := Tryz.isAgg282
  z63 := Tryz.sizeOf282
  v63 := Tryz.zeroValue282
  t64 := Tryz.underlying283
  a64 := Tryz.isAgg283
  z64 := Tryz.sizeOf283
  v64 := Tryz.zeroValue283 }

theorem Tryz.sortsA (m : Nat) : AnyZI.SortsIn Tryz.prog Tryz.sortedA_ren Fence.wide m :=
  ⟨fun blk off cap ss W hH hblk hsz => callsIn_wide.2 (AnyM.slices_Sort_int Tryz.sortA blk off cap ss W hH hblk hsz),
   fun p cap W => callsIn_wide.2 (AnyM.slices_Sort_int_none Tryz.sortA p cap W)⟩
end Go.Proofs

/- Ranges over a function: a round's body, the call of yield, the statement, and how a function leaves that holds one. It holds for every program. -/
namespace Go.GV
open Go

section
variable {P : Program} {r : Option Nat} {ops rest : List Oper} {Q : Exit → Env → World → Prop} {e : Env} {w w0 : World} {S : List Nat} {L : List (Nat × Obj)}
  {dst : Option Tmp} {ty : TypeId} {pos : String} {af : Array Edge} {g : Option (Nat × Bool)} {n : Nat}

/-- A cut ahead of what comes. -/
theorem W_joinK {α : Type} {x : Code} {K : Env → World → Prop} (D : Nat) (live : α → List (Nat × Value)) (I : α → World → Prop) (hD : codeIn D x = true)
    (h : W P r n x (Qthen (fun e' w' => ∃ z, e'.ds = e.ds ∧ agree e' (live z) ∧ I z w') Q) e w)
    (hk : ∀ z j w', I z w' → K (puts (putJ e D j) (live z)) w') : W P r n x (Qthen K Q) e w := by
  refine W_mono x (Qthen_elim (S := Same D e) ?_) (W_frame x _ e w hD (Same.refl _ _) h)
  rintro e' w' hs ⟨z, hd, hl, hI⟩
  have := hk z e'.g w' hI
  rw [← hs.eq hd, env_eq hl] at this
  exact this

/-- What a round hands back, by the way in which its body is left. -/
def Qround (l : Nat) (R : Value → World → Prop) : Exit → Env → World → Prop
  | .normal, _, w => ∃ lo, w.heap[l]? = some (.loop lo) ∧ R (.bool true) (w.putObj l (.loop { lo with state := .ready, pending := none }))
  | .ret, _, w => ∃ lo, w.heap[l]? = some (.loop lo) ∧ R (.bool false) (w.putObj l (.loop { lo with state := .done, pending := some .ret }))
  | .exit id, _, w => ∃ lo, w.heap[l]? = some (.loop lo) ∧ R (.bool false) (w.putObj l (.loop { lo with state := .done, pending := some (.exit id) }))
  | .goto t, _, w => ∃ lo, w.heap[l]? = some (.loop lo) ∧ R (.bool false) (w.putObj l (.loop { lo with state := .done, pending := some (.goto t) }))
  | _, _, _ => False

/-- The left sides, then the body. -/
def Qbegin (P : Program) (l n : Nat) (body : Code) (R : Value → World → Prop) : Exit → Env → World → Prop
  | .normal, e, w => ∃ lo, w.heap[l]? = some (.loop lo) ∧ lo.state = .ready ∧ W P (some l) n body (Qround l R) e (w.putObj l (.loop { lo with state := .busy }))
  | _, _, _ => False

theorem round_of_W {l f : Nat} {tmps : Array Value} {assign body : Code} {R : Value → World → Prop} (e0 : Env) (hs : Sim n e0 { tmps := tmps, defers := [] }) (hfit : (fits n assign && fits n body) = true)
    (h : W P (some l) n assign (Qbegin P l n body R) e0 w) : RoundIn Fence.wide 0 P l f tmps assign body w fun x w' => ∃ v, x = .returned v ∧ R v w' := by
  simp only [Bool.and_eq_true] at hfit
  refine roundIn_of_wpIn trivial ?_
  have h1 := W_sound (r := some l) assign _ e0 w h hfit.1 _ hs
  refine wpIn_mono (F := Fr (some l)) h1 ?_
  rintro x a w1 ⟨e1, hs1, hq⟩
  cases x with
  | normal =>
    obtain ⟨lo, hl, hst, hb⟩ := hq
    refine ⟨_, run_beginRound hl hst, ?_⟩
    refine wpIn_mono (F := Fr (some l)) (W_sound (r := some l) body _ e1 _ hb hfit.2 _ hs1) ?_
    rintro y a2 w2 ⟨e2, _, hq2⟩
    cases y with
    | normal => obtain ⟨lo2, hl2, hR⟩ := hq2; exact ⟨_, _, run_endRound none hl2, _, rfl, hR⟩
    | ret => obtain ⟨lo2, hl2, hR⟩ := hq2; exact ⟨_, _, run_endRound (some .ret) hl2, _, rfl, hR⟩
    | exit id => obtain ⟨lo2, hl2, hR⟩ := hq2; exact ⟨_, _, run_endRound (some (.exit id)) hl2, _, rfl, hR⟩
    | goto t => obtain ⟨lo2, hl2, hR⟩ := hq2; exact ⟨_, _, run_endRound (some (.goto t)) hl2, _, rfl, hR⟩
    | panic c => exact hq2.elim
    | outgrown => exact hq2.elim
  | exit id => exact hq.elim
  | goto t => exact hq.elim
  | ret => exact hq.elim
  | panic c => exact hq.elim
  | outgrown => exact hq.elim

/-- A round with these values. -/
def YieldAt (P : Program) (l : Nat) (vs : List Value) (w : World) (R : Value → World → Prop) : Prop :=
  ∃ fn tmps assign body, (Instr.yield l vs.toArray).run P w = .ok (.round l fn tmps assign body) w ∧ RoundIn Fence.wide 0 P l fn tmps assign body w fun x w' => ∃ v, x = .returned v ∧ R v w'

theorem YieldAt.mono {l : Nat} {vs : List Value} {R R' : Value → World → Prop} (h : YieldAt P l vs w R) (hr : ∀ v w', R v w' → R' v w') : YieldAt P l vs w R' :=
  let ⟨fn, tmps, assign, body, h1, h2⟩ := h
  ⟨fn, tmps, assign, body, h1, RoundIn.mono h2 fun _ _ ⟨v, hx, hR⟩ => ⟨v, hx, hr _ _ hR⟩⟩

/-- yield(..) -/
theorem op_yield {fo : Operand} {l : Nat} {args : Array Operand} {ats : Array TypeId} {vs : List Value} {R : Value → World → Prop} (hg : wants ⟨dst, .call ⟨.value fo, args, ats⟩, ty, pos, af, g⟩ ops e = true)
    (hfo : ev e fo = .func (.yield l) #[] #[]) (hy : YieldAt P l vs w R) (ha : args.toList.map (ev e) = vs) (h : ∀ v w', R v w' → Wops P r ops Q rest (put e dst v) w') :
    Wops P r ops Q (⟨dst, .call ⟨.value fo, args, ats⟩, ty, pos, af, g⟩ :: rest) e w := by
  obtain ⟨fn, tmps, assign, body, hy, hr⟩ := hy
  have hav : args.map (ev e) = vs.toArray := by subst ha; apply Array.ext'; simp only [Array.toList_map]
  unfold Wops
  rw [if_pos hg, Oper.semAt_eq r _ _ (nodef_ne rfl)]
  have hrun : (execOp (ev e) ⟨dst, .call ⟨.value fo, args, ats⟩, ty, pos, af, g⟩).run P w = .ok (.round l fn tmps assign body) w := by
    simp [execOp, resolve, hfo, Deferred.ofValue, invoke, hav, hy]
  rw [hrun]
  exact RoundIn.mono hr fun _ _ ⟨v, hx, hR⟩ => ⟨v, hx, h _ _ hR⟩

/-- A record that is ready answers the values. -/
theorem yield_of {l : Nat} {vs : List Value} {lo : Loop} {R : Value → World → Prop} (hl : w.heap[l]? = some (.loop lo)) (hs : vs.length = lo.params.size)
    (hr : RoundIn Fence.wide 0 P l lo.fn ((lo.params.zip vs.toArray).foldl (fun tmps (t, a) => tmps.setIfInBounds t a) lo.tmps) lo.assign lo.body w fun x w' => ∃ v, x = .returned v ∧ R v w') : YieldAt P l vs w R :=
  ⟨_, _, _, _, run_yield hl (by simpa using hs), hr⟩

/-- The statement, at an outermost one. -/
theorem W_rangeFunc {f : Operand} {ps : Array Tmp} {assign body : Code} {gf : Nat} {ca : Array Value} (hf : ev e f = .func (.func gf) #[] ca) (hc : callable P gf = true)
    (h : ∀ fn tmps, tmps.size = n → (∀ i, tmps.getD i undef = e.g i) → ∀ D l w2, D = w.heap.size → l = w.heap.size + 1 → Ext [] w w2 → w2.heap[D]? = some (.deferred (some [])) →
      w2.heap[l]? = some (.loop { state := .ready, pending := none, fn, tmps, params := ps, assign, body, defers := D }) →
      Ret P gf (#[.func (.yield l) #[] #[]] ++ ca) w2 fun _ w3 => ∃ lo, w3.heap[l]? = some (.loop lo) ∧ lo.state ≠ .busy ∧
        jumped Q ⟨e.g, { target := .collected D, args := #[] } :: e.ds⟩ (w3.putObj l (.loop { lo with state := .exhausted })) lo.pending) : W P none n (.rangeFunc f ps assign body) Q e w := by
  refine ⟨_, rfl, fun fn tmps hn ht => ?_⟩
  have hx1 := Ext.alloc ([] : List Nat) w (.deferred (some []))
  have hx2 := Ext.alloc ([] : List Nat) (w.alloc (.deferred (some []))) (.loop { state := .ready, pending := none, fn, tmps, params := ps, assign, body, defers := w.heap.size })
  have hD : (w.alloc (.deferred (some []))).heap[w.heap.size]? = some (.deferred (some [])) := World.alloc_heap_new w _
  have h1 := h fn tmps hn ht w.heap.size (w.heap.size + 1) _ rfl rfl (hx1.trans hx2) (by rw [hx2.block w.heap.size (by simp) (by simp)]; exact hD)
    (by have := World.alloc_heap_new (w.alloc (.deferred (some []))) (.loop { state := .ready, pending := none, fn, tmps, params := ps, assign, body, defers := w.heap.size }); rwa [World.size_alloc] at this)
  refine ⟨gf, #[], ca, hf, ?_, ?_⟩
  · exact run_callable hc _ _
  · have hsz : (rfWorld none w).heap.size = w.heap.size + 1 := by simp [rfWorld]
    simp only [hsz]
    have harr : #[] ++ #[Value.func (.yield (w.heap.size + 1)) #[] #[]] ++ ca = #[Value.func (.yield (w.heap.size + 1)) #[] #[]] ++ ca := by simp
    rw [harr]
    exact h1

/-! ### Leaving -/
def Marks : List Deferred → World → (World → Prop) → Prop
  | [], w, K => K w
  | d :: ds, w, K => ∃ D, d.target = .collected D ∧ w.heap[D]? = some (.deferred (some [])) ∧ Marks ds (w.putObj D (.deferred none)) K

def QretM (P : Program) (fn : Func) (R : Value → World → Prop) : Exit → Env → World → Prop
  | .normal, e, w | .ret, e, w => Marks e.ds w fun w' => ∀ tmps : Array Value, (∀ i, tmps.getD i undef = e.g i) → ∃ v, (results fn tmps).run P w' = .ok v w' ∧ R v w'
  | _, _, _ => False

theorem marks_leaves {fn : Func} {R : Value → World → Prop} {tmps : Array Value} : ∀ {ds : List Deferred} {w : World}, (Marks ds w fun w' => ∃ v, (results fn tmps).run P w' = .ok v w' ∧ R v w') →
    LeavesInM Fence.wide 0 P fn tmps (fun x w' => ∃ v, x = .returned v ∧ R v w') ds .returning w
  | [], w, ⟨v, h1, h2⟩ => ⟨v, h1, v, rfl, h2⟩
  | d :: ds, w, ⟨D, h1, h2, h3⟩ => ⟨by simp, .inl ⟨D, _, h1, run_takeDeferred h2, marks_leaves h3⟩⟩
theorem Marks.mono : ∀ {ds : List Deferred} {w : World} {K K' : World → Prop}, (∀ w, K w → K' w) → Marks ds w K → Marks ds w K'
  | [], _, _, _, h, hk => h _ hk
  | _ :: _, _, _, _, h, ⟨D, h1, h2, h3⟩ => ⟨D, h1, h2, Marks.mono h h3⟩

theorem ret_of_WM {f : FuncId} {fn : Func} {c : Code} {args : Array Value} {R : Value → World → Prop} (hf : P.funcs[f]? = some fn) (hb : fn.body = some c)
    (l : List Value) (hargs : args = l.toArray) (hfit : (Nat.ble l.length fn.ntmps && fits fn.ntmps c) = true)
    (h : W P none fn.ntmps c (QretM P fn R) ⟨fun i => l.getD i undef, []⟩ w) : Ret P f args w R := by
  simp only [Bool.and_eq_true] at hfit
  refine callsIn_of_wp_marks hf hb trivial ?_
  refine wpIn_mono (W_sound (r := none) c _ _ w h hfit.2 _ ?_) ?_
  · refine ⟨rfl, ?_, fun i => ?_⟩
    · subst hargs
      have := Nat.le_of_ble_eq_true hfit.1
      simp; omega
    · subst hargs
      simp only [Array.getD_eq_getD_getElem?, List.getD_eq_getElem?_getD]
      rw [Array.getElem?_append]
      by_cases hi : i < l.length
      · simp [hi]
      · simp only [List.size_toArray, if_neg hi]
        rw [List.getElem?_eq_none (by omega)]
        rw [Array.getElem?_replicate]
        split <;> rfl
  · rintro x a' w' ⟨e', hs', hq⟩
    have hgo : ∀ w', (Marks e'.ds w' fun w' => ∀ tmps : Array Value, (∀ i, tmps.getD i undef = e'.g i) → ∃ v, (results fn tmps).run P w' = .ok v w' ∧ R v w') →
        LeavesInM Fence.wide 0 P fn a'.tmps (fun x w' => ∃ v, x = .returned v ∧ R v w') a'.defers .returning w' := fun w' hm => by
      rw [hs'.1]
      exact marks_leaves (Marks.mono (fun w hk => hk _ hs'.2.2) hm)
    cases x with
    | normal => exact hgo _ hq
    | ret => exact hgo _ hq
    | exit id => exact hq.elim
    | goto l => exact hq.elim
    | panic c => exact hq.elim
    | outgrown => exact hq.elim

theorem leaveM1 {fn : Func} {R : Value → World → Prop} {t : Tmp} {v : Value} (hr : fn.results = #[.tmp t]) (hv : e.g t = v) (h : Marks e.ds w (R v)) : QretM P fn R .ret e w :=
  Marks.mono (fun w h tmps ht => by
    have h1 := (ht t).trans hv
    rw [Array.getD_eq_getD_getElem?] at h1
    exact ⟨v, by simp [results, hr, h1], h⟩) h
end
end Go.GV

/- The keys of a map, rising; the blocks of a device that have loose things. -/
namespace Go.Proofs.YtbkadlngijkmmaaGreatDoor
open Go.GV Go.Maps Go.Sort Go.Shelf Go.RowKit
attribute [local irreducible] Wops W Wq Wt

def keysOf (m : List (Int × Value)) : List Int := (m.map (·.1)).mergeSort fun x y => decide (x ≤ y)

theorem mkeys_ok (mb : Option Nat) (w : World) : Ret Tryz.prog 144 #[.map mb] w fun v w' => v = .func (.func 183) #[] #[.pointer (some ⟨w.heap.size, 0, none⟩)] ∧ w' = w.alloc (Bl 142 [.map mb]) := by
  have h := AnyZI.keys_in Tryz.keysA Fence.wide 5 trivial rfl mb w
  exact CallsIn.mono (callsIn_wide.2 (callsIn_wide.1 h)) fun e w' ⟨h1, h2⟩ => ⟨_, h1, rfl, h2⟩

theorem msorted_ok {w : World} {bx bm : Nat} {m : List (Int × Value)} {o : Obj} (hx : w.heap[bx]? = some (Bl 142 [.map (some bm)])) (hb : w.heap[bm]? = some o) (hM : MapO .i64 m o) (nd : (m.map (·.1)).Nodup) (hsz : m.length ≤ 4096)
    (hr : ∀ p ∈ m, -9223372036854775808 ≤ p.1 ∧ p.1 ≤ 9223372036854775807) :
    Ret Tryz.prog 143 #[.func (.func 183) #[] #[.pointer (some ⟨bx, 0, none⟩)]] w fun v w' => ∃ a c, v = .slice a (keysOf m).length c ∧ Rd w' a 1 (fun x : Int => [.int .i64 x]) (keysOf m) ∧ (keysOf m).length ≤ c ∧ (keysOf m = [] ∨ w.heap.size ≤ (adr a).block) ∧ Ext [] w w' := by
  obtain ⟨D0, hown, hperm, hsize⟩ := ownsMap_of (P := Tryz.prog) un_3 hb hM nd (Nat.le_trans hsz (by decide)) hr
  have hseq : SeqGives Fence.wide 2 Tryz.prog 183 #[.pointer (some ⟨bx, 0, none⟩)] encZ (fun ss => ss.Perm (intKeys D0)) (Maps.size D0) w :=
    AnyZI.keys_gives (ρ := Tryz.keysA_ren) { Tryz.keysA with } Fence.wide _ trivial rfl (by omega) bx bm m.length D0 w (heap_lt hx) (by rw [cell_bl hx]; rfl) hown
  have cS := AnyZI.sorted_in Tryz.sortedA Fence.wide 5 trivial trivial trivial trivial rfl (by omega) (Tryz.sortsA _) (enters_of Tryz.func76 (by kernel_rfl) rfl) 183 #[.pointer (some ⟨bx, 0, none⟩)] trivial (enters_of Tryz.func183 (by kernel_rfl) rfl) _ (Maps.size D0) (by rw [hsize]; exact Nat.le_trans hsz (by decide)) (by rw [hsize]; omega) _ hseq
  refine CallsIn.mono (callsIn_wide.2 (callsIn_wide.1 cS)) ?_
  rintro e w' ⟨v, ss, rfl, hS, hrow, _, hbel⟩
  have he : ss.mergeSort (fun x y => decide (x ≤ y)) = keysOf m := mergeSort_of_perm_i (hS.trans hperm)
  rw [he] at hrow
  obtain ⟨a, c, rfl, R, hc, hnew⟩ := rd_of_owns (by rw [← he, List.length_mergeSort]) hrow
  exact ⟨_, rfl, a, c, rfl, R, hc, hnew, ext_of_below hbel⟩

theorem keysOf_mem {m : List (Int × Value)} {k : Int} (h : k ∈ keysOf m) : ∃ v, mget m k = some v := by
  have h1 : k ∈ m.map (·.1) := ((List.mergeSort_perm _ _).mem_iff).1 h
  clear h
  induction m with
  | nil => cases h1
  | cons p m ih =>
    by_cases hp : p.1 = k
    · exact ⟨p.2, by simp [mget, hp]⟩
    · have h2 : k ∈ m.map (·.1) := by
        rcases List.mem_cons.1 h1 with h | h
        · exact absurd h.symm hp
        · exact h
      obtain ⟨v, hv⟩ := ih h2
      exact ⟨v, by simpa [mget, hp] using hv⟩
theorem keysOf_len (m : List (Int × Value)) : (keysOf m).length = m.length := by rw [keysOf, List.length_mergeSort, List.length_map]

set_option maxHeartbeats 1000000 in
/-- The blocks with loose things, rising: J tells the world behind the first rounds. -/
theorem rising1_ok {w : World} {l bx bd bs bm n : Nat} {left : Int} {on : Bool} {m : List (Int × Value)} {o : Obj} (hx : w.heap[bx]? = some (Bl 32 [ptr bd])) (hd : w.heap[bd]? = some (Bl TD (DB n bs bm left on))) (hb : w.heap[bm]? = some o)
    (hM : MapO .i64 m o) (nd : (m.map (·.1)).Nodup) (hsz : m.length ≤ 4096) (hr : ∀ p ∈ m, -9223372036854775808 ≤ p.1 ∧ p.1 ≤ 9223372036854775807) (J : World → Nat → World → Prop) (hJ0 : ∀ wK, Ext [] w wK → J wK 0 wK)
    (hJ : ∀ wK i w', Ext [] w wK → J wK i w' → w'.heap[bx]? = some (Bl 32 [ptr bd]) ∧ (∃ bs' left' on', w'.heap[bd]? = some (Bl TD (DB n bs' bm left' on'))) ∧ w'.heap[bm]? = some o ∧ ∃ S, Ext S wK w' ∧ ∀ x ∈ S, x < w.heap.size)
    (hround : ∀ wK i k v w', Ext [] w wK → (keysOf m)[i]? = some k → mget m k = some v → J wK i w' → Go.GV.YieldAt Tryz.prog l [.int .i64 k, v] w' fun u w'' => u = .bool true ∧ J wK (i + 1) w'') :
    Ret Tryz.prog 142 #[.func (.yield l) #[] #[], ptr bx] w fun _ w' => ∃ wK, Ext [] w wK ∧ J wK m.length w' := by
  obtain ⟨w0, rfl⟩ : ∃ w0, w0 = w := ⟨_, rfl⟩
  have H := Ctx.start w0 []
  have hkl := keysOf_len m
  refine ret_of_W (fn := Tryz.f142) Tryz.func142 rfl [.func (.yield l) #[] #[], .pointer (some ⟨bx, 0, none⟩)] rfl (by kernel_rfl) ?_
  refine W_rseq ?_
  first | refine op_ldb rfl ag_32 rfl H (by first | exact at0 | exact at1 | exact at2 | exact at3 | exact at4 | exact at5 | exact at6 | exact at7 | exact at8 | exact at9) rfl ?_ | refine op_ld rfl ag_32 rfl (H.old0 (cell_bl hx _)) ?_ | refine op_ld rfl ag_32 rfl (H.old0 (cell_bl hd _)) ?_
  refine op_nilCheck rfl rfl ?_
  refine op_fieldAddr rfl fo_144_1 rfl ?_
  first | refine op_ldb rfl ag_142 rfl H (by first | exact at0 | exact at1 | exact at2 | exact at3 | exact at4 | exact at5 | exact at6 | exact at7 | exact at8 | exact at9) rfl ?_ | refine op_ld rfl ag_142 rfl (H.old0 (cell_bl hx _)) ?_ | refine op_ld rfl ag_142 rfl (H.old0 (cell_bl hd _)) ?_
  refine op_call rfl ca_144 (mkeys_ok (some bm) _) rfl ?_
  rintro v w ⟨rfl, rfl⟩
  replace H := H.alloc (Bl 142 [.map (some bm)])
  refine op_call rfl ca_143 (msorted_ok (H.get at0) (Ctx.oldb H hb) hM nd hsz hr) rfl ?_
  rintro v w ⟨a, c, rfl, R, hc, hnew, hx10⟩
  replace H := H.call hx10
  refine op_len rfl el_57 rfl ?_
  refine op_move rfl (.int _ _) rfl ?_
  refine op_nil (at_then ?_)
  refine W_block ?_
  obtain ⟨wK, rfl⟩ : ∃ x, x = w := ⟨_, rfl⟩
  refine W_loop 134213648 (α := Nat) (fun i => [(12, .int .i64 i)]) (fun i w' => i ≤ (keysOf m).length ∧ J wK i w') (fun i => (keysOf m).length - i) 0 rfl ?_ ?_ ?_
  · exact ⟨rfl, trivial⟩
  · exact ⟨Nat.zero_le _, hJ0 wK H.ext⟩
  · rintro i j w ⟨hi, hJw⟩
    obtain ⟨hx', ⟨bs', left', on', hd'⟩, hb', S, hS, hSlt⟩ := hJ wK i w H.ext hJw
    have Rw : Rd w a 1 (fun x : Int => [.int .i64 x]) (keysOf m) := by
      rcases hnew with h0 | h0
      · rw [h0]; exact Rd.nil
      · refine R.ext hS fun h => ?_
        have := hSlt _ h
        rw [World.size_alloc] at h0
        omega
    refine W_rseq ?_
    refine op_lss rfl rfl rfl ?_
    refine op_nil (at_then ?_)
    refine W_seq ?_
    refine W_cond _ rfl ?_ ?_
    · intro h1
      replace h1 := dec_t h1
      obtain ⟨k, hk⟩ := get_some (l := keysOf m) (i := i) (by omega)
      obtain ⟨v, hv⟩ := keysOf_mem (List.mem_of_getElem? hk)
      refine W_skip (at_then ?_)
      refine W_seq ?_
      refine W_block ?_
      refine W_rseq ?_
      first | refine op_indexRd Rw rfl el_57 sz_3 rfl rfl (by omega) (by omega) (by first | rfl | omega) ?_ | refine op_indexAddr rfl el_57 sz_3 rfl rfl (by omega) (by omega) ?_
      first | refine op_ldb rfl ag_3 rfl H (by first | exact at0 | exact at1 | exact at2 | exact at3 | exact at4 | exact at5 | exact at6 | exact at7 | exact at8 | exact at9) rfl ?_ | refine op_ld rfl ag_3 rfl (cell_bl hx' _) ?_ | refine op_ld rfl ag_3 rfl (cell_bl hd' _) ?_ | refine op_ld rfl ag_3 rfl (Rw.one (f := fun x => .int .i64 x) hk) ?_
      refine op_assign rfl (.int _ _) rfl ?_
      refine op_nil (at_then ?_)
      refine W_rseq ?_
      refine op_move rfl (.func _ _ _) rfl ?_
      refine op_move rfl (.int _ _) rfl ?_
      first | refine op_ldb rfl ag_32 rfl H (by first | exact at0 | exact at1 | exact at2 | exact at3 | exact at4 | exact at5 | exact at6 | exact at7 | exact at8 | exact at9) rfl ?_ | refine op_ld rfl ag_32 rfl (cell_bl hx' _) ?_ | refine op_ld rfl ag_32 rfl (cell_bl hd' _) ?_ | refine op_ld rfl ag_32 rfl (Rw.one (f := fun x => .int .i64 x) hk) ?_
      refine op_nilCheck rfl rfl ?_
      refine op_fieldAddr rfl fo_144_1 rfl ?_
      first | refine op_ldb rfl ag_142 rfl H (by first | exact at0 | exact at1 | exact at2 | exact at3 | exact at4 | exact at5 | exact at6 | exact at7 | exact at8 | exact at9) rfl ?_ | refine op_ld rfl ag_142 rfl (cell_bl hx' _) ?_ | refine op_ld rfl ag_142 rfl (cell_bl hd' _) ?_ | refine op_ld rfl ag_142 rfl (Rw.one (f := fun x => .int .i64 x) hk) ?_
      refine op_move rfl (.int _ _) rfl ?_
      refine op_lookupH rfl mt_142 un_3 zv_141 rfl rfl hb' hM ?_
      rw [show (mget m k).getD (.slice none 0 0) = v from by rw [hv]; rfl]
      refine op_yield rfl rfl (hround wK i k v w H.ext hk hv hJw) rfl ?_
      rintro _ w ⟨rfl, hJ2⟩
      refine op_not rfl rfl ?_
      refine op_nil (at_then ?_)
      refine W_cond0 rfl ?_
      refine W_skip (at_block (at_then ?_))
      refine W_region ?_
      refine op_add_i64 rfl rfl rfl (by omega) (by omega) ?_
      refine op_move rfl (.int _ _) rfl ?_
      refine op_nil (at_then ?_)
      exact ⟨i + 1, rfl, ⟨rfl, trivial⟩, ⟨by omega, hJ2⟩, by omega⟩
    · intro h1
      replace h1 := dec_f h1
      have hin : i = m.length := by omega
      subst hin
      refine W_exit (exit_then (exit_then (exit_here (leave0n rfl rfl ?_))))
      exact ⟨wK, H.ext, hJw⟩

end Go.Proofs.YtbkadlngijkmmaaGreatDoor

/- A device's flush. -/
namespace Go.Proofs.YtbkadlngijkmmaaGreatDoor
open Go.GV
attribute [local irreducible] Wops W Wq Wt

theorem rising_ok (bd : Nat) (w : World) : Ret Tryz.prog 84 #[ptr bd] w fun v w' => ∃ bx, v = .func (.func 142) #[] #[ptr bx] ∧ w'.heap[bx]? = some (Bl 32 [ptr bd]) ∧ w.heap.size ≤ bx ∧ Ext [] w w' := by
  obtain ⟨w0, rfl⟩ : ∃ w0, w0 = w := ⟨_, rfl⟩
  have H := Ctx.start w0 []
  refine ret_of_W (fn := Tryz.f84) Tryz.func84 rfl [.pointer (some ⟨bd, 0, none⟩)] rfl (by kernel_rfl) ?_
  refine W_rseq ?_
  refine op_box rfl _ (.pointer _) rfl rfl H ?_
  rintro b1 w - H
  refine op_assign rfl .nilFunc rfl ?_
  refine op_nil (at_then ?_)
  refine W_rseq ?_
  refine op_makeFuncL rfl [.pointer _] rfl ?_
  refine op_assign rfl (.func _ _ _) rfl ?_
  refine op_nil (at_then ?_)
  refine W_ret (leave1 (v := (.func _ _ _)) rfl rfl rfl ?_)
  exact ⟨b1, rfl, H.get at0, (H.own _ (List.mem_cons_self ..)).elim (fun h => by cases h) id, H.ext⟩

/-- What the rounds leave in the array. -/
def laid (f : Nat → Value) (sv : List Value) (ks : List Int) : List Value := ks.foldl (fun s k => s.set k.toNat (f k.toNat)) sv
theorem laid_len (f : Nat → Value) (sv : List Value) (ks : List Int) : (laid f sv ks).length = sv.length := by
  unfold laid
  induction ks generalizing sv with
  | nil => rfl
  | cons k ks ih => rw [List.foldl_cons, ih, List.length_set]
theorem laid_snoc (f : Nat → Value) (sv : List Value) (ks : List Int) (k : Int) : laid f sv (ks ++ [k]) = (laid f sv ks).set k.toNat (f k.toNat) := by
  unfold laid; rw [List.foldl_append]; rfl
theorem laid_get (f : Nat → Value) (sv : List Value) (ks : List Int) (hk : ∀ k ∈ ks, 0 ≤ k) {i : Nat} (hi : i < sv.length) : (laid f sv ks)[i]? = if (i : Int) ∈ ks then some (f i) else sv[i]? := by
  unfold laid
  induction ks generalizing sv with
  | nil => simp
  | cons k ks ih =>
    rw [List.foldl_cons, ih (sv := sv.set k.toNat (f k.toNat)) (fun x h => hk x (List.mem_cons_of_mem _ h)) (by rw [List.length_set]; exact hi)]
    have h0 := hk k (List.mem_cons_self ..)
    by_cases h1 : (i : Int) ∈ ks
    · rw [if_pos h1, if_pos (List.mem_cons_of_mem _ h1)]
    · rw [if_neg h1]
      by_cases h2 : k = (i : Int)
      · subst h2
        rw [if_pos (List.mem_cons_self ..), show ((i : Int)).toNat = i from rfl, List.getElem?_set_self hi]
      · rw [if_neg (by simp [h1, Ne.symm h2]), List.getElem?_set_ne (by omega)]

end Go.Proofs.YtbkadlngijkmmaaGreatDoor
