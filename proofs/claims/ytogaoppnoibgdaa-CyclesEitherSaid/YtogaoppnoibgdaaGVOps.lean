/- One rule for each kind of operation. It holds for every program. -/
import Derived.Test.YtogaoppnoibgdaaGVHeap
import Derived.Laws.Bits
namespace Go.GV
open Go

def nodef : Op → Bool
  | .defer _ => false
  | _ => true

theorem nodef_ne {op : Op} (h : nodef op = true) : ∀ c, op ≠ .defer c := by
  intro c hc
  rw [hc] at h
  cases h

/-- The cells of a type's zero value. -/
def zcells (P : Program) (t : TypeId) : Option (List Value) := ((P.info? t).bind (·.zero)).map fun z => z.cells.toList
def tsize (P : Program) (t : TypeId) : Option Nat := (P.info? t).map (·.size)
def tbytes (P : Program) (t : TypeId) : Option Nat := (P.info? t).map (·.bytes)
def aggB (P : Program) (t : TypeId) : Option Bool := (P.underlying t).map fun d => match d with | .struct _ | .array _ _ => true | _ => false
def elemT (P : Program) (t : TypeId) : Option TypeId := match P.underlying t with | some (.slice e) => some e | _ => none
def arrT (P : Program) (t : TypeId) : Option (Nat × TypeId) := match P.underlying t with | some (.array n e) => some (n, e) | _ => none
/-- Where a field lies, if it has cells. -/
def fieldO (P : Program) (t : TypeId) (i : Nat) : Option Nat :=
  match P.underlying t with
  | some (.struct fs) => match fs[i]? with
    | some f => match tsize P f.type with
      | some (_ + 1) => some f.offset
      | _ => none
    | none => none
  | _ => none

section
variable {P : Program} {w : World}
theorem elemT_u {t e : TypeId} (h : elemT P t = some e) : P.underlying t = some (.slice e) := by
  unfold elemT at h
  split at h
  · rename_i hu; injection h with h; subst h; exact hu
  · cases h
theorem arrT_u {t e : TypeId} {k : Nat} (h : arrT P t = some (k, e)) : P.underlying t = some (.array k e) := by
  unfold arrT at h
  split at h
  · rename_i hu; injection h with h; cases h; exact hu
  · cases h
theorem run_under {t : TypeId} {d : TypeDesc} (h : P.underlying t = some d) (w : World) : (underlying t).run P w = .ok d w := by
  simp [underlying, program, Sem.run, h]
theorem run_size {t : TypeId} {s : Nat} (h : tsize P t = some s) (w : World) : (sizeOf t).run P w = .ok s w := by
  unfold tsize at h
  cases hi : P.info? t with
  | none => rw [hi] at h; cases h
  | some i => rw [hi] at h; simp at h; simp [sizeOf, typeInfo, program, Sem.run, hi, h]
theorem run_zero {t : TypeId} {l : List Value} (h : zcells P t = some l) (w : World) : ∃ z, (zeroValue t).run P w = .ok z w ∧ z.cells.toList = l := by
  unfold zcells at h
  cases hi : P.info? t with
  | none => rw [hi] at h; cases h
  | some i =>
    rw [hi] at h
    simp only [Option.bind_some] at h
    cases hz : i.zero with
    | none => rw [hz] at h; cases h
    | some z =>
      rw [hz] at h
      simp only [Option.map_some, Option.some.injEq] at h
      exact ⟨z, by simp [zeroValue, typeInfo, program, Sem.run, hi, hz], h⟩
theorem run_isAgg {t : TypeId} {b : Bool} (h : aggB P t = some b) (w : World) : (isAgg t).run P w = .ok b w := by
  unfold aggB at h
  cases hu : P.underlying t with
  | none => rw [hu] at h; cases h
  | some d =>
    rw [hu] at h
    simp only [Option.map_some, Option.some.injEq] at h
    subst h
    simp only [isAgg, Sem.run_bind, run_under hu, Result.andThen_ok]
    cases d <;> rfl
theorem run_load1 {t : TypeId} (ha : aggB P t = some false) {p : Addr} {v : Value} (hc : w.cell? p = some v) : (loadVar t p).run P w = .ok v w := by
  simp [loadVar, run_isAgg ha, load, Sem.run, hc]
theorem run_cells {p : Addr} : ∀ (l : List Value) (i : Nat) (acc : Array Value), (∀ j v, l[j]? = some v → w.cell? (p.add (i + j)) = some v) →
    (loadCellsFrom p i l.length acc).run P w = .ok (acc ++ l.toArray) w
  | [], _, acc, _ => by simp [loadCellsFrom]
  | v :: l, i, acc, h => by
    have h0 := h 0 v rfl
    have ih := run_cells l (i + 1) (acc.push v) (fun j u hu => by have := h (j + 1) u (by simpa using hu); rwa [show i + 1 + j = i + (j + 1) from by omega])
    simp only [List.length_cons, loadCellsFrom, Sem.run_bind, load, Sem.run]
    simp only [Nat.add_zero] at h0
    rw [h0]
    simp only [Result.andThen_ok]
    rw [ih]
    simp
theorem add_none {b o i : Nat} : (Addr.add ⟨b, o, none⟩ i) = ⟨b, o + i, none⟩ := by
  unfold Addr.add
  split
  · subst_vars; rfl
  · rfl
theorem run_loadN {t : TypeId} {s : Nat} (ha : aggB P t = some true) (hs : tsize P t = some s) {b o : Nat} {l : List Value} (hl : l.length = s)
    (hc : ∀ j v, l[j]? = some v → w.cell? ⟨b, o + j, none⟩ = some v) : (loadVar t ⟨b, o, none⟩).run P w = .ok (.agg l.toArray) w := by
  have h := run_cells (P := P) (w := w) (p := ⟨b, o, none⟩) l 0 #[] (fun j v hv => by rw [add_none, Nat.zero_add]; exact hc j v hv)
  rw [hl] at h
  simp only [loadVar, Sem.run_bind, run_isAgg ha, Result.andThen_ok, if_true, run_size hs, loadCells, h]
  simp

def oneCell : Value → Bool
  | .agg _ | .tuple _ => false
  | _ => true
theorem cells_one {v : Value} (h : oneCell v = true) : v.cells = #[v] := by
  cases v <;> first | rfl | cases h
theorem run_store1 {p : Addr} {v u : Value} (hv : oneCell v = true) (hc : w.cell? p = some u) (hf : w.frozen? p = false) : (store p v).run P w = .ok () (w.setCell p v) := by
  cases v <;> first | (simp [store, Sem.run, hc, hf]; done) | cases hv
theorem run_storeVar1 {t : TypeId} {p : Addr} {v u : Value} (hs : tsize P t = some 1) (hv : oneCell v = true) (hc : w.cell? p = some u) (hf : w.frozen? p = false) :
    (storeVar t p v).run P w = .ok () (w.setCell p v) := by
  have h0 : p.add 0 = p := by unfold Addr.add; simp
  simp [storeVar, cells_one hv, run_size hs, storeCells, h0, run_store1 hv hc hf]

/-- vs written over l from i on. -/
def over (l : List Value) (i : Nat) : List Value → List Value
  | [] => l
  | v :: vs => over (l.set i v) (i + 1) vs

theorem over_length : ∀ (vs l : List Value) (i : Nat), (over l i vs).length = l.length
  | [], _, _ => rfl
  | v :: vs, l, i => by simp [over, over_length vs]

theorem over_full : ∀ (vs a l : List Value), l.length = vs.length → over (a ++ l) a.length vs = a ++ vs
  | [], a, l, h => by
    have : l = [] := List.eq_nil_of_length_eq_zero (by simpa using h)
    subst this; rfl
  | v :: vs, a, [], h => by simp at h
  | v :: vs, a, x :: l, h => by
    have ih := over_full vs (a ++ [v]) l (by simpa using h)
    simp only [over]
    have hset : (a ++ x :: l).set a.length v = (a ++ [v]) ++ l := by simp
    rw [hset]
    have hlen : a.length + 1 = (a ++ [v]).length := by simp
    rw [hlen, ih]
    simp

theorem over_all {l vs : List Value} (h : l.length = vs.length) : over l 0 vs = vs := by
  have := over_full vs [] l h
  simpa using this

theorem run_storeCells {b : Nat} {t : TypeId} {o : Nat} : ∀ (vs : List Value) (l : List Value) (w : World) (i : Nat), (∀ v ∈ vs, oneCell v = true) → w.heap[b]? = some (Bl t l) → o + i + vs.length ≤ l.length →
    ∃ w', (storeCells ⟨b, o, none⟩ vs i).run P w = .ok () w' ∧ Ext [b] w w' ∧ w'.heap[b]? = some (Bl t (over l (o + i) vs))
  | [], l, w, i, _, hb, _ => ⟨w, rfl, Ext.refl _ _, hb⟩
  | v :: vs, l, w, i, h1, hb, hl => by
    simp only [List.length_cons] at hl
    have hc : w.cell? ⟨b, o + i, none⟩ = some (l[o + i]'(by omega)) := by rw [cell_bl hb]; exact List.getElem?_eq_getElem (by omega)
    have hs := run_store1 (P := P) (h1 v (by simp)) hc (frozen_bl hb _)
    rw [setCell_bl hb] at hs
    obtain ⟨w', hr, he, hb'⟩ := run_storeCells (o := o) vs (l.set (o + i) v) _ (i + 1) (fun u hu => h1 u (by simp [hu])) (setB_same hb (o' := Bl t (l.set (o + i) v))) (by simp; omega)
    refine ⟨w', ?_, (Ext.setB w b _).trans he, ?_⟩
    · simp only [storeCells, Sem.run_bind, add_none, hs, Result.andThen_ok, hr]
    · simpa [over, Nat.add_assoc] using hb'
end

section
variable {P : Program} {r : Option Nat} {ops rest : List Oper} {Q : Exit → Env → World → Prop} {e : Env} {w w0 : World} {S : List Nat} {L : List (Nat × Obj)}
  {dst : Option Tmp} {ty : TypeId} {pos : String} {af : Array Edge} {g : Option (Nat × Bool)}

theorem op_val {o : Oper} {v : Value} {w' : World} (hg : wants o ops e = true) (hd : nodef o.op = true) (hrun : (execOp (ev e) o).run P w = .ok (.value v) w')
    (h : Wops P r ops Q rest (put e o.dst v) w') : Wops P r ops Q (o :: rest) e w := by
  unfold Wops
  rw [if_pos hg, Oper.semAt_eq r _ _ (nodef_ne hd), hrun]
  exact h
theorem op_unit {o : Oper} {w' : World} (hg : wants o ops e = true) (hd : nodef o.op = true) (hrun : (execOp (ev e) o).run P w = .ok .skip w')
    (h : Wops P r ops Q rest (put e o.dst undef) w') : Wops P r ops Q (o :: rest) e w := by
  unfold Wops
  rw [if_pos hg, Oper.semAt_eq r _ _ (nodef_ne hd), hrun]
  exact h
theorem op_skip {o : Oper} (hg : wants o ops e = false) (h : Wops P r ops Q rest (put e o.dst undef) w) : Wops P r ops Q (o :: rest) e w := by
  unfold Wops
  rw [if_neg (by rw [hg]; simp)]
  exact h
theorem op_nil (h : Q .normal e w) : Wops P r ops Q [] e w := h

theorem op_move {x : Operand} (hg : wants ⟨dst, .move x, ty, pos, af, g⟩ ops e = true) (v : Value) (hx : ev e x = v) (h : Wops P r ops Q rest (put e dst v) w) :
    Wops P r ops Q (⟨dst, .move x, ty, pos, af, g⟩ :: rest) e w := op_val hg rfl (by simp [execOp, hx]) h
theorem op_assign {x : Operand} (hg : wants ⟨dst, .assign x, ty, pos, af, g⟩ ops e = true) (v : Value) (hx : ev e x = v) (h : Wops P r ops Q rest (put e dst v) w) :
    Wops P r ops Q (⟨dst, .assign x, ty, pos, af, g⟩ :: rest) e w := op_val hg rfl (by simp [execOp, hx]) h
theorem op_pick1 {c a b : Operand} (hg : wants ⟨dst, .pick c a b, ty, pos, af, g⟩ ops e = true) (hc : ev e c = .bool true) (v : Value) (hx : ev e a = v) (h : Wops P r ops Q rest (put e dst v) w) :
    Wops P r ops Q (⟨dst, .pick c a b, ty, pos, af, g⟩ :: rest) e w := op_val hg rfl (by simp [execOp, hc, hx, asBool]) h
theorem op_pick0 {c a b : Operand} (hg : wants ⟨dst, .pick c a b, ty, pos, af, g⟩ ops e = true) (hc : ev e c = .bool false) (v : Value) (hx : ev e b = v) (h : Wops P r ops Q rest (put e dst v) w) :
    Wops P r ops Q (⟨dst, .pick c a b, ty, pos, af, g⟩ :: rest) e w := op_val hg rfl (by simp [execOp, hc, hx, asBool]) h

/-! ### Numbers -/
theorem run_bin {op : BinOp} {t t2 : TypeId} {x y : Operand} {k k2 : IntKind} {a b : Int} {v : Value} {w : World} (hx : ev e x = .int k a) (hy : ev e y = .int k2 b) (h : (binOp op t (.int k a) (.int k2 b)).run P w = .ok v w) :
    (execOp (ev e) ⟨dst, .binOp op t x y t2, ty, pos, af, g⟩).run P w = .ok (.value v) w := by
  have hq : eqGuard op t x y (.int k a) (.int k2 b) = pure () := by cases op <;> rfl
  simp [execOp, hx, hy, hq, h]

section
variable {t t2 : TypeId} {x y : Operand} {k : IntKind} {a b : Int}
theorem op_lss (hg : wants ⟨dst, .binOp .lss t x y t2, ty, pos, af, g⟩ ops e = true) (hx : ev e x = .int k a) (hy : ev e y = .int k b) (h : Wops P r ops Q rest (put e dst (.bool (decide (a < b)))) w) :
    Wops P r ops Q (⟨dst, .binOp .lss t x y t2, ty, pos, af, g⟩ :: rest) e w := op_val hg rfl (run_bin hx hy (by simp [binOp, Op.intCmp])) h
theorem op_leq (hg : wants ⟨dst, .binOp .leq t x y t2, ty, pos, af, g⟩ ops e = true) (hx : ev e x = .int k a) (hy : ev e y = .int k b) (h : Wops P r ops Q rest (put e dst (.bool (decide (a ≤ b)))) w) :
    Wops P r ops Q (⟨dst, .binOp .leq t x y t2, ty, pos, af, g⟩ :: rest) e w := op_val hg rfl (run_bin hx hy (by simp [binOp, Op.intCmp])) h
theorem op_gtr (hg : wants ⟨dst, .binOp .gtr t x y t2, ty, pos, af, g⟩ ops e = true) (hx : ev e x = .int k a) (hy : ev e y = .int k b) (h : Wops P r ops Q rest (put e dst (.bool (decide (b < a)))) w) :
    Wops P r ops Q (⟨dst, .binOp .gtr t x y t2, ty, pos, af, g⟩ :: rest) e w := op_val hg rfl (run_bin hx hy (by simp [binOp, Op.intCmp])) h
theorem op_geq (hg : wants ⟨dst, .binOp .geq t x y t2, ty, pos, af, g⟩ ops e = true) (hx : ev e x = .int k a) (hy : ev e y = .int k b) (h : Wops P r ops Q rest (put e dst (.bool (decide (b ≤ a)))) w) :
    Wops P r ops Q (⟨dst, .binOp .geq t x y t2, ty, pos, af, g⟩ :: rest) e w := op_val hg rfl (run_bin hx hy (by simp [binOp, Op.intCmp])) h
theorem op_eql (hg : wants ⟨dst, .binOp .eql t x y t2, ty, pos, af, g⟩ ops e = true) (hx : ev e x = .int k a) (hy : ev e y = .int k b) (h : Wops P r ops Q rest (put e dst (.bool (decide (a = b)))) w) :
    Wops P r ops Q (⟨dst, .binOp .eql t x y t2, ty, pos, af, g⟩ :: rest) e w :=
  op_val hg rfl (run_bin hx hy (v := .bool (decide (a = b))) (by simp [binOp, Op.intCmp]; rfl)) h
theorem op_neq (hg : wants ⟨dst, .binOp .neq t x y t2, ty, pos, af, g⟩ ops e = true) (hx : ev e x = .int k a) (hy : ev e y = .int k b) (h : Wops P r ops Q rest (put e dst (.bool (!decide (a = b)))) w) :
    Wops P r ops Q (⟨dst, .binOp .neq t x y t2, ty, pos, af, g⟩ :: rest) e w :=
  op_val hg rfl (run_bin hx hy (v := .bool (!decide (a = b))) (by simp [binOp, Op.intCmp]; rfl)) h

theorem wrap_in {k : IntKind} {n : Int} (h : k.min ≤ n) (h2 : n ≤ k.max) : k.wrap n = n := by
  cases k <;> simp [IntKind.min, IntKind.max, IntKind.wrap, IntKind.signed, IntKind.bits] at * <;> omega

theorem op_add (hg : wants ⟨dst, .binOp .add t x y t2, ty, pos, af, g⟩ ops e = true) (hx : ev e x = .int k a) (hy : ev e y = .int k b) (h1 : k.min ≤ a + b) (h2 : a + b ≤ k.max)
    (h : Wops P r ops Q rest (put e dst (.int k (a + b))) w) :
    Wops P r ops Q (⟨dst, .binOp .add t x y t2, ty, pos, af, g⟩ :: rest) e w := op_val hg rfl (run_bin hx hy (by simp [binOp, Op.intArith, wrap_in h1 h2])) h
theorem op_sub (hg : wants ⟨dst, .binOp .sub t x y t2, ty, pos, af, g⟩ ops e = true) (hx : ev e x = .int k a) (hy : ev e y = .int k b) (h1 : k.min ≤ a - b) (h2 : a - b ≤ k.max)
    (h : Wops P r ops Q rest (put e dst (.int k (a - b))) w) :
    Wops P r ops Q (⟨dst, .binOp .sub t x y t2, ty, pos, af, g⟩ :: rest) e w := op_val hg rfl (run_bin hx hy (by simp [binOp, Op.intArith, wrap_in h1 h2])) h
theorem op_mul (hg : wants ⟨dst, .binOp .mul t x y t2, ty, pos, af, g⟩ ops e = true) (hx : ev e x = .int k a) (hy : ev e y = .int k b) (h1 : k.min ≤ a * b) (h2 : a * b ≤ k.max)
    (h : Wops P r ops Q rest (put e dst (.int k (a * b))) w) :
    Wops P r ops Q (⟨dst, .binOp .mul t x y t2, ty, pos, af, g⟩ :: rest) e w := op_val hg rfl (run_bin hx hy (by simp [binOp, Op.intArith, wrap_in h1 h2])) h
theorem op_addw (hg : wants ⟨dst, .binOp .add t x y t2, ty, pos, af, g⟩ ops e = true) (hx : ev e x = .int k a) (hy : ev e y = .int k b)
    (h : Wops P r ops Q rest (put e dst (.int k (k.wrap (a + b)))) w) :
    Wops P r ops Q (⟨dst, .binOp .add t x y t2, ty, pos, af, g⟩ :: rest) e w := op_val hg rfl (run_bin hx hy (by simp [binOp, Op.intArith])) h
theorem op_subw (hg : wants ⟨dst, .binOp .sub t x y t2, ty, pos, af, g⟩ ops e = true) (hx : ev e x = .int k a) (hy : ev e y = .int k b)
    (h : Wops P r ops Q rest (put e dst (.int k (k.wrap (a - b)))) w) :
    Wops P r ops Q (⟨dst, .binOp .sub t x y t2, ty, pos, af, g⟩ :: rest) e w := op_val hg rfl (run_bin hx hy (by simp [binOp, Op.intArith])) h
theorem op_mulw (hg : wants ⟨dst, .binOp .mul t x y t2, ty, pos, af, g⟩ ops e = true) (hx : ev e x = .int k a) (hy : ev e y = .int k b)
    (h : Wops P r ops Q rest (put e dst (.int k (k.wrap (a * b)))) w) :
    Wops P r ops Q (⟨dst, .binOp .mul t x y t2, ty, pos, af, g⟩ :: rest) e w := op_val hg rfl (run_bin hx hy (by simp [binOp, Op.intArith])) h
/-- '/' and '%' of numbers that are not below 0, by one above it. -/
theorem op_quo (hg : wants ⟨dst, .binOp .quo t x y t2, ty, pos, af, g⟩ ops e = true) (hx : ev e x = .int k a) (hy : ev e y = .int k b) (h0 : 0 ≤ a) (hb : 0 < b) (h2 : a ≤ k.max)
    (h : Wops P r ops Q rest (put e dst (.int k (a / b))) w) : Wops P r ops Q (⟨dst, .binOp .quo t x y t2, ty, pos, af, g⟩ :: rest) e w := by
  refine op_val hg rfl (run_bin hx hy (v := .int k (a / b)) ?_) h
  have h3 : a.tdiv b = a / b := Int.tdiv_eq_ediv_of_nonneg h0
  have h4 : 0 ≤ a / b := Int.ediv_nonneg h0 (by omega)
  have h5 : a / b ≤ a := Int.ediv_le_self _ h0
  have h6 : k.min ≤ 0 := by cases k <;> decide
  simp [binOp, Op.intDiv, h3, show ¬ b = 0 from by omega, wrap_in (k := k) (n := a / b) (by omega) (by omega)]
theorem op_rem (hg : wants ⟨dst, .binOp .rem t x y t2, ty, pos, af, g⟩ ops e = true) (hx : ev e x = .int k a) (hy : ev e y = .int k b) (h0 : 0 ≤ a) (hb : 0 < b)
    (h : Wops P r ops Q rest (put e dst (.int k (a % b))) w) : Wops P r ops Q (⟨dst, .binOp .rem t x y t2, ty, pos, af, g⟩ :: rest) e w := by
  refine op_val hg rfl (run_bin hx hy (v := .int k (a % b)) ?_) h
  have h3 : a.tmod b = a % b := Int.tmod_eq_emod_of_nonneg h0
  simp [binOp, Op.intDiv, h3, show ¬ b = 0 from by omega]
end

theorem op_not {t : TypeId} {x : Operand} {b : Bool} (hg : wants ⟨dst, .unOp .not t x, ty, pos, af, g⟩ ops e = true) (hx : ev e x = .bool b) (h : Wops P r ops Q rest (put e dst (.bool (!b))) w) :
    Wops P r ops Q (⟨dst, .unOp .not t x, ty, pos, af, g⟩ :: rest) e w := op_val hg rfl (by simp [execOp, hx, Op.unary]) h
theorem op_neg {t : TypeId} {x : Operand} {k : IntKind} {a : Int} (hg : wants ⟨dst, .unOp .neg t x, ty, pos, af, g⟩ ops e = true) (hx : ev e x = .int k a) (h1 : k.min ≤ - a) (h2 : - a ≤ k.max)
    (h : Wops P r ops Q rest (put e dst (.int k (- a))) w) :
    Wops P r ops Q (⟨dst, .unOp .neg t x, ty, pos, af, g⟩ :: rest) e w := op_val hg rfl (by simp [execOp, hx, Op.unary, Op.intArith, wrap_in h1 h2]) h
/-- From one kind of integers to another, the number fits. -/
theorem op_conv {s d : TypeId} {x : Operand} {k k2 : IntKind} {a : Int} {ds : TypeDesc} (hg : wants ⟨dst, .convert s d x, ty, pos, af, g⟩ ops e = true) (hx : ev e x = .int k a)
    (hs : P.underlying s = some ds) (hd : P.underlying d = some (.int k2)) (h1 : k2.min ≤ a) (h2 : a ≤ k2.max)
    (h : Wops P r ops Q rest (put e dst (.int k2 a)) w) :
    Wops P r ops Q (⟨dst, .convert s d x, ty, pos, af, g⟩ :: rest) e w :=
  op_val hg rfl (by simp [execOp, hx, convert, run_under hs, run_under hd, Conv.intToInt, wrap_in h1 h2]) h
theorem op_convw {s d : TypeId} {x : Operand} {k k2 : IntKind} {a : Int} {ds : TypeDesc} (hg : wants ⟨dst, .convert s d x, ty, pos, af, g⟩ ops e = true) (hx : ev e x = .int k a)
    (hs : P.underlying s = some ds) (hd : P.underlying d = some (.int k2))
    (h : Wops P r ops Q rest (put e dst (.int k2 (k2.wrap a))) w) :
    Wops P r ops Q (⟨dst, .convert s d x, ty, pos, af, g⟩ :: rest) e w :=
  op_val hg rfl (by simp [execOp, hx, convert, run_under hs, run_under hd, Conv.intToInt]) h

/-! ### Memory -/
theorem op_alloc {t : TypeId} {l : List Value} (hg : wants ⟨dst, .alloc t, ty, pos, af, g⟩ ops e = true) (hz : zcells P t = some l) (H : Ctx w0 S w L)
    (h : ∀ b w', w.heap.size = b → Ctx w0 S w' ((b, Bl t l) :: L) → Wops P r ops Q rest (put e dst (.pointer (some ⟨b, 0, none⟩))) w') :
    Wops P r ops Q (⟨dst, .alloc t, ty, pos, af, g⟩ :: rest) e w := by
  obtain ⟨z, hz1, hz2⟩ := run_zero hz w
  refine op_val (w' := w.alloc (Bl t l)) (v := .pointer (some ⟨w.heap.size, 0, none⟩)) hg rfl ?_ (h _ _ rfl (H.alloc _))
  simp only [execOp, Instr.alloc, Sem.run_bind, hz1, Result.andThen_ok, newVar, newRow, newObj, Sem.run]
  have : z.cells = l.toArray := by rw [← hz2]
  rw [this]
  rfl
theorem op_box {t : TypeId} {x : Operand} (hg : wants ⟨dst, .box t x, ty, pos, af, g⟩ ops e = true) (l : List Value) (v : Value) (hx : ev e x = v) (hl : v.cells = l.toArray) (H : Ctx w0 S w L)
    (h : ∀ b w', w.heap.size = b → Ctx w0 S w' ((b, Bl t l) :: L) → Wops P r ops Q rest (put e dst (.pointer (some ⟨b, 0, none⟩))) w') :
    Wops P r ops Q (⟨dst, .box t x, ty, pos, af, g⟩ :: rest) e w := by
  refine op_val (w' := w.alloc (Bl t l)) (v := .pointer (some ⟨w.heap.size, 0, none⟩)) hg rfl ?_ (h _ _ rfl (H.alloc _))
  simp only [execOp, Instr.box, hx, hl, newVar, newRow, newObj, Sem.run_bind, Sem.run, Result.andThen_ok]
  rfl
/-- A load of one cell: what lies there is known. -/
theorem op_ld {t : TypeId} {x : Operand} {p : Addr} {v : Value} (hg : wants ⟨dst, .load t x, ty, pos, af, g⟩ ops e = true) (ha : aggB P t = some false) (hx : ev e x = .pointer (some p)) (hc : w.cell? p = some v)
    (h : Wops P r ops Q rest (put e dst v) w) : Wops P r ops Q (⟨dst, .load t x, ty, pos, af, g⟩ :: rest) e w :=
  op_val hg rfl (by simp [execOp, hx, Instr.loadAt, Instr.sureAddr, run_load1 ha hc]) h
/-- .. out of a block that is known. -/
theorem op_ldb {t t2 : TypeId} {x : Operand} {b i k : Nat} {l : List Value} {v : Value} (hg : wants ⟨dst, .load t x, ty, pos, af, g⟩ ops e = true) (ha : aggB P t = some false) (hx : ev e x = .pointer (some ⟨b, i, none⟩))
    (H : Ctx w0 S w L) (hk : L[k]? = some (b, Bl t2 l)) (hc : l[i]? = some v)
    (h : Wops P r ops Q rest (put e dst v) w) : Wops P r ops Q (⟨dst, .load t x, ty, pos, af, g⟩ :: rest) e w :=
  op_ld hg ha hx (by rw [cell_bl (H.get hk)]; exact hc) h
/-- A load of a struct or an array. -/
theorem op_ldN {t : TypeId} {x : Operand} {b o s : Nat} (l : List Value) (hg : wants ⟨dst, .load t x, ty, pos, af, g⟩ ops e = true) (ha : aggB P t = some true) (hs : tsize P t = some s) (hx : ev e x = .pointer (some ⟨b, o, none⟩))
    (hl : l.length = s) (hc : ∀ j v, l[j]? = some v → w.cell? ⟨b, o + j, none⟩ = some v)
    (h : Wops P r ops Q rest (put e dst (.agg l.toArray)) w) : Wops P r ops Q (⟨dst, .load t x, ty, pos, af, g⟩ :: rest) e w :=
  op_val hg rfl (by simp [execOp, hx, Instr.loadAt, Instr.sureAddr, run_loadN ha hs hl hc]) h
/-- .. a whole block. -/
theorem op_ldbN {t t2 : TypeId} {x : Operand} {b s k : Nat} {l : List Value} (hg : wants ⟨dst, .load t x, ty, pos, af, g⟩ ops e = true) (ha : aggB P t = some true) (hs : tsize P t = some s) (hx : ev e x = .pointer (some ⟨b, 0, none⟩))
    (H : Ctx w0 S w L) (hk : L[k]? = some (b, Bl t2 l)) (hl : l.length = s)
    (h : Wops P r ops Q rest (put e dst (.agg l.toArray)) w) : Wops P r ops Q (⟨dst, .load t x, ty, pos, af, g⟩ :: rest) e w :=
  op_ldN l hg ha hs hx hl (fun j v hv => by rw [cell_bl (H.get hk), Nat.zero_add]; exact hv) h
/-- A store of one cell into a block that is known. -/
theorem op_stb {t t2 : TypeId} {x y : Operand} {b i k : Nat} {l : List Value} (v : Value) (hg : wants ⟨dst, .store t x y, ty, pos, af, g⟩ ops e = true) (hs : tsize P t = some 1) (hx : ev e x = .pointer (some ⟨b, i, none⟩)) (hy : ev e y = v)
    (hv : oneCell v = true) (H : Ctx w0 S w L) (hk : L[k]? = some (b, Bl t2 l)) (hi : i < l.length)
    (h : ∀ w', Ctx w0 S w' (L.set k (b, Bl t2 (l.set i v))) → Wops P r ops Q rest (put e dst undef) w') : Wops P r ops Q (⟨dst, .store t x y, ty, pos, af, g⟩ :: rest) e w := by
  have hb := H.get hk
  have hc : w.cell? ⟨b, i, none⟩ = some l[i] := by rw [cell_bl hb]; exact List.getElem?_eq_getElem hi
  refine op_unit (w' := w.setCell ⟨b, i, none⟩ v) hg rfl ?_ (h _ ?_)
  · simp [execOp, hx, hy, Instr.storeAt, Instr.sureAddr, run_storeVar1 hs hv hc (frozen_bl hb _)]
  · rw [setCell_bl hb]; exact H.setB hk _
/-- A store of a struct or an array. -/
theorem op_stbN {t t2 : TypeId} {x y : Operand} {b o k s : Nat} {l vs : List Value} (hg : wants ⟨dst, .store t x y, ty, pos, af, g⟩ ops e = true) (hs : tsize P t = some s) (hx : ev e x = .pointer (some ⟨b, o, none⟩)) (hy : ev e y = .agg vs.toArray)
    (hlen : vs.length = s) (hv : ∀ v ∈ vs, oneCell v = true) (H : Ctx w0 S w L) (hk : L[k]? = some (b, Bl t2 l)) (hi : o + s ≤ l.length)
    (h : ∀ w', Ctx w0 S w' (L.set k (b, Bl t2 (over l o vs))) → Wops P r ops Q rest (put e dst undef) w') : Wops P r ops Q (⟨dst, .store t x y, ty, pos, af, g⟩ :: rest) e w := by
  obtain ⟨w', hr, he, hb⟩ := run_storeCells (P := P) (o := o) vs l w 0 hv (H.get hk) (by omega)
  refine op_unit (w' := w') hg rfl ?_ (h _ (H.turn hk _ he (by simpa using hb)))
  simp [execOp, hx, hy, Instr.storeAt, Instr.sureAddr, storeVar, Value.cells, run_size hs, hlen, hr]
/-- .. a whole block. -/
theorem op_stb0 {t t2 : TypeId} {x y : Operand} {b k s : Nat} {l vs : List Value} (hg : wants ⟨dst, .store t x y, ty, pos, af, g⟩ ops e = true) (hs : tsize P t = some s) (hx : ev e x = .pointer (some ⟨b, 0, none⟩)) (hy : ev e y = .agg vs.toArray)
    (hlen : vs.length = s) (hv : ∀ v ∈ vs, oneCell v = true) (H : Ctx w0 S w L) (hk : L[k]? = some (b, Bl t2 l)) (hi : l.length = s)
    (h : ∀ w', Ctx w0 S w' (L.set k (b, Bl t2 vs)) → Wops P r ops Q rest (put e dst undef) w') : Wops P r ops Q (⟨dst, .store t x y, ty, pos, af, g⟩ :: rest) e w :=
  op_stbN hg hs hx hy hlen hv H hk (by omega) (fun w' H' => h w' (by rw [over_all (by omega)] at H'; exact H'))
theorem op_nilCheck {x : Operand} {p : Addr} (hg : wants ⟨dst, .nilCheck x, ty, pos, af, g⟩ ops e = true) (hx : ev e x = .pointer (some p)) (h : Wops P r ops Q rest (put e dst (.pointer (some p))) w) :
    Wops P r ops Q (⟨dst, .nilCheck x, ty, pos, af, g⟩ :: rest) e w := op_val hg rfl (by simp [execOp, hx]) h
theorem op_fieldAddr {t : TypeId} {x : Operand} {i b o off : Nat} (hg : wants ⟨dst, .fieldAddr t x i, ty, pos, af, g⟩ ops e = true) (hf : fieldO P t i = some off) (hx : ev e x = .pointer (some ⟨b, o, none⟩))
    (h : Wops P r ops Q rest (put e dst (.pointer (some ⟨b, o + off, none⟩))) w) :
    Wops P r ops Q (⟨dst, .fieldAddr t x i, ty, pos, af, g⟩ :: rest) e w := by
  unfold fieldO at hf
  split at hf
  · rename_i fs hu
    split at hf
    · rename_i f hf1
      split at hf
      · rename_i s hs
        injection hf with hf
        subst hf
        exact op_val hg rfl (by simp [execOp, hx, Instr.fieldAt, run_under hu, hf1, Instr.sureAddr, fieldPlace, run_size hs, add_none]) h
      · cases hf
    · cases hf
  · cases hf
theorem op_indexAddr {t el : TypeId} {x y : Operand} {b o n c s : Nat} {k : IntKind} {i : Int} (hg : wants ⟨dst, .indexAddr t x y, ty, pos, af, g⟩ ops e = true) (hu : elemT P t = some el) (hs : tsize P el = some s)
    (hx : ev e x = .slice (some ⟨b, o, none⟩) n c) (hy : ev e y = .int k i) (h0 : 0 ≤ i) (h1 : i < n)
    (h : Wops P r ops Q rest (put e dst (.pointer (some ⟨b, o + i.toNat * s, none⟩))) w) :
    Wops P r ops Q (⟨dst, .indexAddr t x y, ty, pos, af, g⟩ :: rest) e w :=
  op_val hg rfl (by simp [execOp, hx, hy, Instr.indexAt, asIntOf, run_under (elemT_u hu), h0, h1, run_size hs, add_none]) h
/-- .. of a slice whose address is a letter. -/
theorem op_indexRd {t el : TypeId} {x y : Operand} {a : Option Addr} {n c s : Nat} {k : IntKind} {i : Int} {α : Type} {enc : α → List Value} {xs : List α} {w1 : World} (R : Rd w1 a s enc xs)
    (hg : wants ⟨dst, .indexAddr t x y, ty, pos, af, g⟩ ops e = true) (hu : elemT P t = some el) (hs : tsize P el = some s)
    (hx : ev e x = .slice a n c) (hy : ev e y = .int k i) (h0 : 0 ≤ i) (h1 : i < n) (hn : n = xs.length)
    (h : Wops P r ops Q rest (put e dst (.pointer (some ⟨(adr a).block, (adr a).off + i.toNat * s, none⟩))) w) :
    Wops P r ops Q (⟨dst, .indexAddr t x y, ty, pos, af, g⟩ :: rest) e w := by
  obtain ⟨b, o, rfl⟩ := R.some' (by rintro rfl; simp at hn; omega)
  exact op_indexAddr hg hu hs hx hy h0 h1 h
/-- .. of an array behind a pointer. -/
theorem op_indexArr {t el : TypeId} {x y : Operand} {b o n s : Nat} {k : IntKind} {i : Int} (hg : wants ⟨dst, .indexAddr t x y, ty, pos, af, g⟩ ops e = true) (hu : arrT P t = some (n, el)) (hs : tsize P el = some s)
    (hx : ev e x = .pointer (some ⟨b, o, none⟩)) (hy : ev e y = .int k i) (h0 : 0 ≤ i) (h1 : i < n)
    (h : Wops P r ops Q rest (put e dst (.pointer (some ⟨b, o + i.toNat * s, none⟩))) w) :
    Wops P r ops Q (⟨dst, .indexAddr t x y, ty, pos, af, g⟩ :: rest) e w :=
  op_val hg rfl (by simp [execOp, hx, hy, Instr.indexAt, asIntOf, run_under (arrT_u hu), Instr.sureAddr, h0, h1, run_size hs, add_none]) h
theorem op_len {t : TypeId} {x : Operand} {a : Option Addr} {n c : Nat} {el : TypeId} (hg : wants ⟨dst, .call ⟨.builtin .len, #[x], #[t]⟩, ty, pos, af, g⟩ ops e = true) (hu : elemT P t = some el) (hx : ev e x = .slice a n c)
    (h : Wops P r ops Q rest (put e dst (.int .i64 n)) w) :
    Wops P r ops Q (⟨dst, .call ⟨.builtin .len, #[x], #[t]⟩, ty, pos, af, g⟩ :: rest) e w :=
  op_val hg rfl (by simp [execOp, resolve, invoke, builtin, hx, Builtin.len_, run_under (elemT_u hu), goInt]) h
theorem op_cap {t : TypeId} {x : Operand} {a : Option Addr} {n c : Nat} {el : TypeId} (hg : wants ⟨dst, .call ⟨.builtin .cap, #[x], #[t]⟩, ty, pos, af, g⟩ ops e = true) (hu : elemT P t = some el) (hx : ev e x = .slice a n c)
    (h : Wops P r ops Q rest (put e dst (.int .i64 c)) w) :
    Wops P r ops Q (⟨dst, .call ⟨.builtin .cap, #[x], #[t]⟩, ty, pos, af, g⟩ :: rest) e w :=
  op_val hg rfl (by simp [execOp, resolve, invoke, builtin, hx, Builtin.cap_, run_under (elemT_u hu), goInt]) h
theorem op_min2 {t1 t2 : TypeId} {x y : Operand} {k : IntKind} {a b : Int} (hg : wants ⟨dst, .call ⟨.builtin .min, #[x, y], #[t1, t2]⟩, ty, pos, af, g⟩ ops e = true) (hx : ev e x = .int k a) (hy : ev e y = .int k b)
    (h : Wops P r ops Q rest (put e dst (.int k (min a b))) w) :
    Wops P r ops Q (⟨dst, .call ⟨.builtin .min, #[x, y], #[t1, t2]⟩, ty, pos, af, g⟩ :: rest) e w :=
  op_val hg rfl (by
    have : (if b < a then b else a) = min a b := by rw [Int.min_def]; split <;> split <;> omega
    simp [execOp, resolve, invoke, builtin, hx, hy, Builtin.min_, Builtin.min2, this]) h
theorem op_max2 {t1 t2 : TypeId} {x y : Operand} {k : IntKind} {a b : Int} (hg : wants ⟨dst, .call ⟨.builtin .max, #[x, y], #[t1, t2]⟩, ty, pos, af, g⟩ ops e = true) (hx : ev e x = .int k a) (hy : ev e y = .int k b)
    (h : Wops P r ops Q rest (put e dst (.int k (max a b))) w) :
    Wops P r ops Q (⟨dst, .call ⟨.builtin .max, #[x, y], #[t1, t2]⟩, ty, pos, af, g⟩ :: rest) e w :=
  op_val hg rfl (by
    have : (if a < b then b else a) = max a b := by rw [Int.max_def]; split <;> split <;> omega
    simp [execOp, resolve, invoke, builtin, hx, hy, Builtin.max_, Builtin.max2, this]) h
theorem op_makeFunc {fn : Fn} {first cap : Array Operand} (hg : wants ⟨dst, .makeFunc fn first cap, ty, pos, af, g⟩ ops e = true) (h : Wops P r ops Q rest (put e dst (.func fn (first.map (ev e)) (cap.map (ev e)))) w) :
    Wops P r ops Q (⟨dst, .makeFunc fn first cap, ty, pos, af, g⟩ :: rest) e w :=
  op_val hg rfl (by simp [execOp, Instr.makeFunc]) h
theorem op_extract {x : Operand} {i : Nat} {vs : Array Value} {v : Value} (hg : wants ⟨dst, .extract x i, ty, pos, af, g⟩ ops e = true) (hx : ev e x = .tuple vs) (hv : vs[i]? = some v) (h : Wops P r ops Q rest (put e dst v) w) :
    Wops P r ops Q (⟨dst, .extract x i, ty, pos, af, g⟩ :: rest) e w :=
  op_val hg rfl (by simp [execOp, hx, Instr.extract, hv]) h
end
end Go.GV
