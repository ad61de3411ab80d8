/- Part 2 of the proof. -/
import Derived.Test.YtbkadlngijkmmaaGreatDoorPart1
import Derived.Laws.Bits
import Derived.Laws.Tables
/- One rule for each kind of operation. It holds for every program. -/
namespace Go.GV
open Go

/-- The cells of a type's zero value. -/
def zcells (P : Program) (t : TypeId) : Option (List Value) := ((P.info? t).bind (·.zero)).map fun z => z.cells.toList
def tsize (P : Program) (t : TypeId) : Option Nat := (P.info? t).map (·.size)
def tbytes (P : Program) (t : TypeId) : Option Nat := (P.info? t).map (·.bytes)
def aggB (P : Program) (t : TypeId) : Option Bool := (P.underlying t).map fun d => match d with | .struct _ | .array _ _ => true | _ => false
def elemT (P : Program) (t : TypeId) : Option TypeId := match P.underlying t with | some (.slice e) => some e | _ => none
def arrT (P : Program) (t : TypeId) : Option (Nat × TypeId) := match P.underlying t with | some (.array n e) => some (n, e) | _ => none
/-- Where a field lies, if it has cells. -/
def fieldO (P : Program) (t : TypeId) (i : Nat) : Option Nat :=
  match P.underlying t with
  | some (.struct fs) => match fs[i]? with
    | some f => match tsize P f.type with
      | some (_ + 1) => some f.offset
      | _ => none
    | none => none
  | _ => none

section
variable {P : Program} {w : World}
theorem elemT_u {t e : TypeId} (h : elemT P t = some e) : P.underlying t = some (.slice e) := by
  unfold elemT at h
  split at h
  · rename_i hu; injection h with h; subst h; exact hu
  · cases h
theorem arrT_u {t e : TypeId} {k : Nat} (h : arrT P t = some (k, e)) : P.underlying t = some (.array k e) := by
  unfold arrT at h
  split at h
  · rename_i hu; injection h with h; cases h; exact hu
  · cases h
theorem run_under {t : TypeId} {d : TypeDesc} (h : P.underlying t = some d) (w : World) : (underlying t).run P w = .ok d w := by
  simp [underlying, program, Sem.run, h]
theorem run_size {t : TypeId} {s : Nat} (h : tsize P t = some s) (w : World) : (sizeOf t).run P w = .ok s w := by
  unfold tsize at h
  cases hi : P.info? t with
  | none => rw [hi] at h; cases h
  | some i => rw [hi] at h; simp at h; simp [sizeOf, typeInfo, program, Sem.run, hi, h]
theorem run_zero {t : TypeId} {l : List Value} (h : zcells P t = some l) (w : World) : ∃ z, (zeroValue t).run P w = .ok z w ∧ z.cells.toList = l := by
  unfold zcells at h
  cases hi : P.info? t with
  | none => rw [hi] at h; cases h
  | some i =>
    rw [hi] at h
    simp only [Option.bind_some] at h
    cases hz : i.zero with
    | none => rw [hz] at h; cases h
    | some z =>
      rw [hz] at h
      simp only [Option.map_some, Option.some.injEq] at h
      exact ⟨z, by simp [zeroValue, typeInfo, program, Sem.run, hi, hz], h⟩
theorem run_isAgg {t : TypeId} {b : Bool} (h : aggB P t = some b) (w : World) : (isAgg t).run P w = .ok b w := by
  unfold aggB at h
  cases hu : P.underlying t with
  | none => rw [hu] at h; cases h
  | some d =>
    rw [hu] at h
    simp only [Option.map_some, Option.some.injEq] at h
    subst h
    simp only [isAgg, Sem.run_bind, run_under hu, Result.andThen_ok]
    cases d <;> rfl
theorem run_load1 {t : TypeId} (ha : aggB P t = some false) {p : Addr} {v : Value} (hc : w.cell? p = some v) : (loadVar t p).run P w = .ok v w := by
  simp [loadVar, run_isAgg ha, load, Sem.run, hc]
theorem run_cells {p : Addr} : ∀ (l : List Value) (i : Nat) (acc : Array Value), (∀ j v, l[j]? = some v → w.cell? (p.add (i + j)) = some v) →
    (loadCellsFrom p i l.length acc).run P w = .ok (acc ++ l.toArray) w
  | [], _, acc, _ => by simp [loadCellsFrom]
  | v :: l, i, acc, h => by
    have h0 := h 0 v rfl
    have ih := run_cells l (i + 1) (acc.push v) (fun j u hu => by have := h (j + 1) u (by simpa using hu); rwa [show i + 1 + j = i + (j + 1) from by omega])
    simp only [List.length_cons, loadCellsFrom, Sem.run_bind, load, Sem.run]
    simp only [Nat.add_zero] at h0
    rw [h0]
    simp only [Result.andThen_ok]
    rw [ih]
    simp
theorem add_none {b o i : Nat} : (Addr.add ⟨b, o, none⟩ i) = ⟨b, o + i, none⟩ := by
  unfold Addr.add
  split
  · subst_vars; rfl
  · rfl
theorem run_loadN {t : TypeId} {s : Nat} (ha : aggB P t = some true) (hs : tsize P t = some s) {b o : Nat} {l : List Value} (hl : l.length = s)
    (hc : ∀ j v, l[j]? = some v → w.cell? ⟨b, o + j, none⟩ = some v) : (loadVar t ⟨b, o, none⟩).run P w = .ok (.agg l.toArray) w := by
  have h := run_cells (P := P) (w := w) (p := ⟨b, o, none⟩) l 0 #[] (fun j v hv => by rw [add_none, Nat.zero_add]; exact hc j v hv)
  rw [hl] at h
  simp only [loadVar, Sem.run_bind, run_isAgg ha, Result.andThen_ok, if_true, run_size hs, loadCells, h]
  simp

def oneCell : Value → Bool
  | .agg _ | .tuple _ => false
  | _ => true
theorem cells_one {v : Value} (h : oneCell v = true) : v.cells = #[v] := by
  cases v <;> first | rfl | cases h
theorem run_store1 {p : Addr} {v u : Value} (hv : oneCell v = true) (hc : w.cell? p = some u) (hf : w.frozen? p = false) : (store p v).run P w = .ok () (w.setCell p v) := by
  cases v <;> first | (simp [store, Sem.run, hc, hf]; done) | cases hv
theorem run_storeVar1 {t : TypeId} {p : Addr} {v u : Value} (hs : tsize P t = some 1) (hv : oneCell v = true) (hc : w.cell? p = some u) (hf : w.frozen? p = false) :
    (storeVar t p v).run P w = .ok () (w.setCell p v) := by
  have h0 : p.add 0 = p := by unfold Addr.add; simp
  simp [storeVar, cells_one hv, run_size hs, storeCells, h0, run_store1 hv hc hf]

/-- vs written over l from i on. -/
def over (l : List Value) (i : Nat) : List Value → List Value
  | [] => l
  | v :: vs => over (l.set i v) (i + 1) vs

theorem over_length : ∀ (vs l : List Value) (i : Nat), (over l i vs).length = l.length
  | [], _, _ => rfl
  | v :: vs, l, i => by simp [over, over_length vs]

theorem over_full : ∀ (vs a l : List Value), l.length = vs.length → over (a ++ l) a.length vs = a ++ vs
  | [], a, l, h => by
    have : l = [] := List.eq_nil_of_length_eq_zero (by simpa using h)
    subst this; rfl
  | v :: vs, a, [], h => by simp at h
  | v :: vs, a, x :: l, h => by
    have ih := over_full vs (a ++ [v]) l (by simpa using h)
    simp only [over]
    have hset : (a ++ x :: l).set a.length v = (a ++ [v]) ++ l := by simp
    rw [hset]
    have hlen : a.length + 1 = (a ++ [v]).length := by simp
    rw [hlen, ih]
    simp

theorem over_all {l vs : List Value} (h : l.length = vs.length) : over l 0 vs = vs := by
  have := over_full vs [] l h
  simpa using this

theorem run_storeCells {b : Nat} {t : TypeId} {o : Nat} : ∀ (vs : List Value) (l : List Value) (w : World) (i : Nat), (∀ v ∈ vs, oneCell v = true) → w.heap[b]? = some (Bl t l) → o + i + vs.length ≤ l.length →
    ∃ w', (storeCells ⟨b, o, none⟩ vs i).run P w = .ok () w' ∧ Ext [b] w w' ∧ w'.heap[b]? = some (Bl t (over l (o + i) vs))
  | [], l, w, i, _, hb, _ => ⟨w, rfl, Ext.refl _ _, hb⟩
  | v :: vs, l, w, i, h1, hb, hl => by
    simp only [List.length_cons] at hl
    have hc : w.cell? ⟨b, o + i, none⟩ = some (l[o + i]'(by omega)) := by rw [cell_bl hb]; exact List.getElem?_eq_getElem (by omega)
    have hs := run_store1 (P := P) (h1 v (by simp)) hc (frozen_bl hb _)
    rw [setCell_bl hb] at hs
    obtain ⟨w', hr, he, hb'⟩ := run_storeCells (o := o) vs (l.set (o + i) v) _ (i + 1) (fun u hu => h1 u (by simp [hu])) (setB_same hb (o' := Bl t (l.set (o + i) v))) (by simp; omega)
    refine ⟨w', ?_, (Ext.setB w b _).trans he, ?_⟩
    · simp only [storeCells, Sem.run_bind, add_none, hs, Result.andThen_ok, hr]
    · simpa [over, Nat.add_assoc] using hb'
end

section
variable {P : Program} {r : Option Nat} {ops rest : List Oper} {Q : Exit → Env → World → Prop} {e : Env} {w w0 : World} {S : List Nat} {L : List (Nat × Obj)}
  {dst : Option Tmp} {ty : TypeId} {pos : String} {af : Array Edge} {g : Option (Nat × Bool)}

theorem op_val {o : Oper} {v : Value} {w' : World} (hg : wants o ops e = true) (hd : nodef o.op = true) (hrun : (execOp (ev e) o).run P w = .ok (.value v) w')
    (h : Wops P r ops Q rest (put e o.dst v) w') : Wops P r ops Q (o :: rest) e w := by
  unfold Wops
  rw [if_pos hg, Oper.semAt_eq r _ _ (nodef_ne hd), hrun]
  exact h
theorem op_unit {o : Oper} {w' : World} (hg : wants o ops e = true) (hd : nodef o.op = true) (hrun : (execOp (ev e) o).run P w = .ok .skip w')
    (h : Wops P r ops Q rest (put e o.dst undef) w') : Wops P r ops Q (o :: rest) e w := by
  unfold Wops
  rw [if_pos hg, Oper.semAt_eq r _ _ (nodef_ne hd), hrun]
  exact h
theorem op_skip {o : Oper} (hg : wants o ops e = false) (h : Wops P r ops Q rest (put e o.dst undef) w) : Wops P r ops Q (o :: rest) e w := by
  unfold Wops
  rw [if_neg (by rw [hg]; simp)]
  exact h
theorem op_nil (h : Q .normal e w) : Wops P r ops Q [] e w := h

theorem op_move {x : Operand} (hg : wants ⟨dst, .move x, ty, pos, af, g⟩ ops e = true) (v : Value) (hx : ev e x = v) (h : Wops P r ops Q rest (put e dst v) w) :
    Wops P r ops Q (⟨dst, .move x, ty, pos, af, g⟩ :: rest) e w := op_val hg rfl (by simp [execOp, hx]) h
theorem op_assign {x : Operand} (hg : wants ⟨dst, .assign x, ty, pos, af, g⟩ ops e = true) (v : Value) (hx : ev e x = v) (h : Wops P r ops Q rest (put e dst v) w) :
    Wops P r ops Q (⟨dst, .assign x, ty, pos, af, g⟩ :: rest) e w := op_val hg rfl (by simp [execOp, hx]) h
theorem op_pick1 {c a b : Operand} (hg : wants ⟨dst, .pick c a b, ty, pos, af, g⟩ ops e = true) (hc : ev e c = .bool true) (v : Value) (hx : ev e a = v) (h : Wops P r ops Q rest (put e dst v) w) :
    Wops P r ops Q (⟨dst, .pick c a b, ty, pos, af, g⟩ :: rest) e w := op_val hg rfl (by simp [execOp, hc, hx, asBool]) h
theorem op_pick0 {c a b : Operand} (hg : wants ⟨dst, .pick c a b, ty, pos, af, g⟩ ops e = true) (hc : ev e c = .bool false) (v : Value) (hx : ev e b = v) (h : Wops P r ops Q rest (put e dst v) w) :
    Wops P r ops Q (⟨dst, .pick c a b, ty, pos, af, g⟩ :: rest) e w := op_val hg rfl (by simp [execOp, hc, hx, asBool]) h

/-! ### Numbers -/
theorem run_bin {op : BinOp} {t t2 : TypeId} {x y : Operand} {k k2 : IntKind} {a b : Int} {v : Value} {w : World} (hx : ev e x = .int k a) (hy : ev e y = .int k2 b) (h : (binOp op t (.int k a) (.int k2 b)).run P w = .ok v w) :
    (execOp (ev e) ⟨dst, .binOp op t x y t2, ty, pos, af, g⟩).run P w = .ok (.value v) w := by
  have hq : eqGuard op t x y (.int k a) (.int k2 b) = pure () := by cases op <;> rfl
  simp [execOp, hx, hy, hq, h]

section
variable {t t2 : TypeId} {x y : Operand} {k : IntKind} {a b : Int}
theorem op_lss (hg : wants ⟨dst, .binOp .lss t x y t2, ty, pos, af, g⟩ ops e = true) (hx : ev e x = .int k a) (hy : ev e y = .int k b) (h : Wops P r ops Q rest (put e dst (.bool (decide (a < b)))) w) :
    Wops P r ops Q (⟨dst, .binOp .lss t x y t2, ty, pos, af, g⟩ :: rest) e w := op_val hg rfl (run_bin hx hy (by simp [binOp, Op.intCmp])) h
theorem op_leq (hg : wants ⟨dst, .binOp .leq t x y t2, ty, pos, af, g⟩ ops e = true) (hx : ev e x = .int k a) (hy : ev e y = .int k b) (h : Wops P r ops Q rest (put e dst (.bool (decide (a ≤ b)))) w) :
    Wops P r ops Q (⟨dst, .binOp .leq t x y t2, ty, pos, af, g⟩ :: rest) e w := op_val hg rfl (run_bin hx hy (by simp [binOp, Op.intCmp])) h
theorem op_gtr (hg : wants ⟨dst, .binOp .gtr t x y t2, ty, pos, af, g⟩ ops e = true) (hx : ev e x = .int k a) (hy : ev e y = .int k b) (h : Wops P r ops Q rest (put e dst (.bool (decide (b < a)))) w) :
    Wops P r ops Q (⟨dst, .binOp .gtr t x y t2, ty, pos, af, g⟩ :: rest) e w := op_val hg rfl (run_bin hx hy (by simp [binOp, Op.intCmp])) h
theorem op_geq (hg : wants ⟨dst, .binOp .geq t x y t2, ty, pos, af, g⟩ ops e = true) (hx : ev e x = .int k a) (hy : ev e y = .int k b) (h : Wops P r ops Q rest (put e dst (.bool (decide (b ≤ a)))) w) :
    Wops P r ops Q (⟨dst, .binOp .geq t x y t2, ty, pos, af, g⟩ :: rest) e w := op_val hg rfl (run_bin hx hy (by simp [binOp, Op.intCmp])) h
theorem op_eql (hg : wants ⟨dst, .binOp .eql t x y t2, ty, pos, af, g⟩ ops e = true) (hx : ev e x = .int k a) (hy : ev e y = .int k b) (h : Wops P r ops Q rest (put e dst (.bool (decide (a = b)))) w) :
    Wops P r ops Q (⟨dst, .binOp .eql t x y t2, ty, pos, af, g⟩ :: rest) e w :=
  op_val hg rfl (run_bin hx hy (v := .bool (decide (a = b))) (by simp [binOp, Op.intCmp]; rfl)) h
theorem op_neq (hg : wants ⟨dst, .binOp .neq t x y t2, ty, pos, af, g⟩ ops e = true) (hx : ev e x = .int k a) (hy : ev e y = .int k b) (h : Wops P r ops Q rest (put e dst (.bool (!decide (a = b)))) w) :
    Wops P r ops Q (⟨dst, .binOp .neq t x y t2, ty, pos, af, g⟩ :: rest) e w :=
  op_val hg rfl (run_bin hx hy (v := .bool (!decide (a = b))) (by simp [binOp, Op.intCmp]; rfl)) h

theorem wrap_in {k : IntKind} {n : Int} (h : k.min ≤ n) (h2 : n ≤ k.max) : k.wrap n = n := by
  cases k <;> simp [IntKind.min, IntKind.max, IntKind.wrap, IntKind.signed, IntKind.bits] at * <;> omega

/-- '/' and '%' of numbers that are not below 0, by one above it. -/
theorem op_quo (hg : wants ⟨dst, .binOp .quo t x y t2, ty, pos, af, g⟩ ops e = true) (hx : ev e x = .int k a) (hy : ev e y = .int k b) (h0 : 0 ≤ a) (hb : 0 < b) (h2 : a ≤ k.max)
    (h : Wops P r ops Q rest (put e dst (.int k (a / b))) w) : Wops P r ops Q (⟨dst, .binOp .quo t x y t2, ty, pos, af, g⟩ :: rest) e w := by
  refine op_val hg rfl (run_bin hx hy (v := .int k (a / b)) ?_) h
  have h3 : a.tdiv b = a / b := Int.tdiv_eq_ediv_of_nonneg h0
  have h4 : 0 ≤ a / b := Int.ediv_nonneg h0 (by omega)
  have h5 : a / b ≤ a := Int.ediv_le_self _ h0
  have h6 : k.min ≤ 0 := by cases k <;> decide
  simp [binOp, Op.intDiv, h3, show ¬ b = 0 from by omega, wrap_in (k := k) (n := a / b) (by omega) (by omega)]
end

theorem op_not {t : TypeId} {x : Operand} {b : Bool} (hg : wants ⟨dst, .unOp .not t x, ty, pos, af, g⟩ ops e = true) (hx : ev e x = .bool b) (h : Wops P r ops Q rest (put e dst (.bool (!b))) w) :
    Wops P r ops Q (⟨dst, .unOp .not t x, ty, pos, af, g⟩ :: rest) e w := op_val hg rfl (by simp [execOp, hx, Op.unary]) h
/-- From one kind of integers to another, the number fits. -/
theorem op_conv {s d : TypeId} {x : Operand} {k k2 : IntKind} {a : Int} {ds : TypeDesc} (hg : wants ⟨dst, .convert s d x, ty, pos, af, g⟩ ops e = true) (hx : ev e x = .int k a)
    (hs : P.underlying s = some ds) (hd : P.underlying d = some (.int k2)) (h1 : k2.min ≤ a) (h2 : a ≤ k2.max)
    (h : Wops P r ops Q rest (put e dst (.int k2 a)) w) :
    Wops P r ops Q (⟨dst, .convert s d x, ty, pos, af, g⟩ :: rest) e w :=
  op_val hg rfl (by simp [execOp, hx, convert, run_under hs, run_under hd, Conv.intToInt, wrap_in h1 h2]) h
/-! ### Memory -/
theorem op_alloc {t : TypeId} {l : List Value} (hg : wants ⟨dst, .alloc t, ty, pos, af, g⟩ ops e = true) (hz : zcells P t = some l) (H : Ctx w0 S w L)
    (h : ∀ b w', w.heap.size = b → Ctx w0 S w' ((b, Bl t l) :: L) → Wops P r ops Q rest (put e dst (.pointer (some ⟨b, 0, none⟩))) w') :
    Wops P r ops Q (⟨dst, .alloc t, ty, pos, af, g⟩ :: rest) e w := by
  obtain ⟨z, hz1, hz2⟩ := run_zero hz w
  refine op_val (w' := w.alloc (Bl t l)) (v := .pointer (some ⟨w.heap.size, 0, none⟩)) hg rfl ?_ (h _ _ rfl (H.alloc _))
  simp only [execOp, Instr.alloc, Sem.run_bind, hz1, Result.andThen_ok, newVar, newRow, newObj, Sem.run]
  have : z.cells = l.toArray := by rw [← hz2]
  rw [this]
  rfl
theorem op_box {t : TypeId} {x : Operand} (hg : wants ⟨dst, .box t x, ty, pos, af, g⟩ ops e = true) (l : List Value) (v : Value) (hx : ev e x = v) (hl : v.cells = l.toArray) (H : Ctx w0 S w L)
    (h : ∀ b w', w.heap.size = b → Ctx w0 S w' ((b, Bl t l) :: L) → Wops P r ops Q rest (put e dst (.pointer (some ⟨b, 0, none⟩))) w') :
    Wops P r ops Q (⟨dst, .box t x, ty, pos, af, g⟩ :: rest) e w := by
  refine op_val (w' := w.alloc (Bl t l)) (v := .pointer (some ⟨w.heap.size, 0, none⟩)) hg rfl ?_ (h _ _ rfl (H.alloc _))
  simp only [execOp, Instr.box, hx, hl, newVar, newRow, newObj, Sem.run_bind, Sem.run, Result.andThen_ok]
  rfl
/-- A load of one cell: what lies there is known. -/
theorem op_ld {t : TypeId} {x : Operand} {p : Addr} {v : Value} (hg : wants ⟨dst, .load t x, ty, pos, af, g⟩ ops e = true) (ha : aggB P t = some false) (hx : ev e x = .pointer (some p)) (hc : w.cell? p = some v)
    (h : Wops P r ops Q rest (put e dst v) w) : Wops P r ops Q (⟨dst, .load t x, ty, pos, af, g⟩ :: rest) e w :=
  op_val hg rfl (by simp [execOp, hx, Instr.loadAt, Instr.sureAddr, run_load1 ha hc]) h
/-- .. out of a block that is known. -/
theorem op_ldb {t t2 : TypeId} {x : Operand} {b i k : Nat} {l : List Value} {v : Value} (hg : wants ⟨dst, .load t x, ty, pos, af, g⟩ ops e = true) (ha : aggB P t = some false) (hx : ev e x = .pointer (some ⟨b, i, none⟩))
    (H : Ctx w0 S w L) (hk : L[k]? = some (b, Bl t2 l)) (hc : l[i]? = some v)
    (h : Wops P r ops Q rest (put e dst v) w) : Wops P r ops Q (⟨dst, .load t x, ty, pos, af, g⟩ :: rest) e w :=
  op_ld hg ha hx (by rw [cell_bl (H.get hk)]; exact hc) h
/-- A load of a struct or an array. -/
theorem op_ldN {t : TypeId} {x : Operand} {b o s : Nat} (l : List Value) (hg : wants ⟨dst, .load t x, ty, pos, af, g⟩ ops e = true) (ha : aggB P t = some true) (hs : tsize P t = some s) (hx : ev e x = .pointer (some ⟨b, o, none⟩))
    (hl : l.length = s) (hc : ∀ j v, l[j]? = some v → w.cell? ⟨b, o + j, none⟩ = some v)
    (h : Wops P r ops Q rest (put e dst (.agg l.toArray)) w) : Wops P r ops Q (⟨dst, .load t x, ty, pos, af, g⟩ :: rest) e w :=
  op_val hg rfl (by simp [execOp, hx, Instr.loadAt, Instr.sureAddr, run_loadN ha hs hl hc]) h
/-- .. a whole block. -/
theorem op_ldbN {t t2 : TypeId} {x : Operand} {b s k : Nat} {l : List Value} (hg : wants ⟨dst, .load t x, ty, pos, af, g⟩ ops e = true) (ha : aggB P t = some true) (hs : tsize P t = some s) (hx : ev e x = .pointer (some ⟨b, 0, none⟩))
    (H : Ctx w0 S w L) (hk : L[k]? = some (b, Bl t2 l)) (hl : l.length = s)
    (h : Wops P r ops Q rest (put e dst (.agg l.toArray)) w) : Wops P r ops Q (⟨dst, .load t x, ty, pos, af, g⟩ :: rest) e w :=
  op_ldN l hg ha hs hx hl (fun j v hv => by rw [cell_bl (H.get hk), Nat.zero_add]; exact hv) h
/-- A store of one cell into a block that is known. -/
theorem op_stb {t t2 : TypeId} {x y : Operand} {b i k : Nat} {l : List Value} (v : Value) (hg : wants ⟨dst, .store t x y, ty, pos, af, g⟩ ops e = true) (hs : tsize P t = some 1) (hx : ev e x = .pointer (some ⟨b, i, none⟩)) (hy : ev e y = v)
    (hv : oneCell v = true) (H : Ctx w0 S w L) (hk : L[k]? = some (b, Bl t2 l)) (hi : i < l.length)
    (h : ∀ w', Ctx w0 S w' (L.set k (b, Bl t2 (l.set i v))) → Wops P r ops Q rest (put e dst undef) w') : Wops P r ops Q (⟨dst, .store t x y, ty, pos, af, g⟩ :: rest) e w := by
  have hb := H.get hk
  have hc : w.cell? ⟨b, i, none⟩ = some l[i] := by rw [cell_bl hb]; exact List.getElem?_eq_getElem hi
  refine op_unit (w' := w.setCell ⟨b, i, none⟩ v) hg rfl ?_ (h _ ?_)
  · simp [execOp, hx, hy, Instr.storeAt, Instr.sureAddr, run_storeVar1 hs hv hc (frozen_bl hb _)]
  · rw [setCell_bl hb]; exact H.setB hk _
/-- A store of a struct or an array. -/
theorem op_stbN {t t2 : TypeId} {x y : Operand} {b o k s : Nat} {l vs : List Value} (hg : wants ⟨dst, .store t x y, ty, pos, af, g⟩ ops e = true) (hs : tsize P t = some s) (hx : ev e x = .pointer (some ⟨b, o, none⟩)) (hy : ev e y = .agg vs.toArray)
    (hlen : vs.length = s) (hv : ∀ v ∈ vs, oneCell v = true) (H : Ctx w0 S w L) (hk : L[k]? = some (b, Bl t2 l)) (hi : o + s ≤ l.length)
    (h : ∀ w', Ctx w0 S w' (L.set k (b, Bl t2 (over l o vs))) → Wops P r ops Q rest (put e dst undef) w') : Wops P r ops Q (⟨dst, .store t x y, ty, pos, af, g⟩ :: rest) e w := by
  obtain ⟨w', hr, he, hb⟩ := run_storeCells (P := P) (o := o) vs l w 0 hv (H.get hk) (by omega)
  refine op_unit (w' := w') hg rfl ?_ (h _ (H.turn hk _ he (by simpa using hb)))
  simp [execOp, hx, hy, Instr.storeAt, Instr.sureAddr, storeVar, Value.cells, run_size hs, hlen, hr]
/-- .. a whole block. -/
theorem op_stb0 {t t2 : TypeId} {x y : Operand} {b k s : Nat} {l vs : List Value} (hg : wants ⟨dst, .store t x y, ty, pos, af, g⟩ ops e = true) (hs : tsize P t = some s) (hx : ev e x = .pointer (some ⟨b, 0, none⟩)) (hy : ev e y = .agg vs.toArray)
    (hlen : vs.length = s) (hv : ∀ v ∈ vs, oneCell v = true) (H : Ctx w0 S w L) (hk : L[k]? = some (b, Bl t2 l)) (hi : l.length = s)
    (h : ∀ w', Ctx w0 S w' (L.set k (b, Bl t2 vs)) → Wops P r ops Q rest (put e dst undef) w') : Wops P r ops Q (⟨dst, .store t x y, ty, pos, af, g⟩ :: rest) e w :=
  op_stbN hg hs hx hy hlen hv H hk (by omega) (fun w' H' => h w' (by rw [over_all (by omega)] at H'; exact H'))
theorem op_nilCheck {x : Operand} {p : Addr} (hg : wants ⟨dst, .nilCheck x, ty, pos, af, g⟩ ops e = true) (hx : ev e x = .pointer (some p)) (h : Wops P r ops Q rest (put e dst (.pointer (some p))) w) :
    Wops P r ops Q (⟨dst, .nilCheck x, ty, pos, af, g⟩ :: rest) e w := op_val hg rfl (by simp [execOp, hx]) h
theorem op_fieldAddr {t : TypeId} {x : Operand} {i b o off : Nat} (hg : wants ⟨dst, .fieldAddr t x i, ty, pos, af, g⟩ ops e = true) (hf : fieldO P t i = some off) (hx : ev e x = .pointer (some ⟨b, o, none⟩))
    (h : Wops P r ops Q rest (put e dst (.pointer (some ⟨b, o + off, none⟩))) w) :
    Wops P r ops Q (⟨dst, .fieldAddr t x i, ty, pos, af, g⟩ :: rest) e w := by
  unfold fieldO at hf
  split at hf
  · rename_i fs hu
    split at hf
    · rename_i f hf1
      split at hf
      · rename_i s hs
        injection hf with hf
        subst hf
        exact op_val hg rfl (by simp [execOp, hx, Instr.fieldAt, run_under hu, hf1, Instr.sureAddr, fieldPlace, run_size hs, add_none]) h
      · cases hf
    · cases hf
  · cases hf
theorem op_indexAddr {t el : TypeId} {x y : Operand} {b o n c s : Nat} {k : IntKind} {i : Int} (hg : wants ⟨dst, .indexAddr t x y, ty, pos, af, g⟩ ops e = true) (hu : elemT P t = some el) (hs : tsize P el = some s)
    (hx : ev e x = .slice (some ⟨b, o, none⟩) n c) (hy : ev e y = .int k i) (h0 : 0 ≤ i) (h1 : i < n)
    (h : Wops P r ops Q rest (put e dst (.pointer (some ⟨b, o + i.toNat * s, none⟩))) w) :
    Wops P r ops Q (⟨dst, .indexAddr t x y, ty, pos, af, g⟩ :: rest) e w :=
  op_val hg rfl (by simp [execOp, hx, hy, Instr.indexAt, asIntOf, run_under (elemT_u hu), h0, h1, run_size hs, add_none]) h
/-- .. of a slice whose address is a letter. -/
theorem op_indexRd {t el : TypeId} {x y : Operand} {a : Option Addr} {n c s : Nat} {k : IntKind} {i : Int} {α : Type} {enc : α → List Value} {xs : List α} {w1 : World} (R : Rd w1 a s enc xs)
    (hg : wants ⟨dst, .indexAddr t x y, ty, pos, af, g⟩ ops e = true) (hu : elemT P t = some el) (hs : tsize P el = some s)
    (hx : ev e x = .slice a n c) (hy : ev e y = .int k i) (h0 : 0 ≤ i) (h1 : i < n) (hn : n = xs.length)
    (h : Wops P r ops Q rest (put e dst (.pointer (some ⟨(adr a).block, (adr a).off + i.toNat * s, none⟩))) w) :
    Wops P r ops Q (⟨dst, .indexAddr t x y, ty, pos, af, g⟩ :: rest) e w := by
  obtain ⟨b, o, rfl⟩ := R.some' (by rintro rfl; simp at hn; omega)
  exact op_indexAddr hg hu hs hx hy h0 h1 h
/-- .. of an array behind a pointer. -/
theorem op_indexArr {t el : TypeId} {x y : Operand} {b o n s : Nat} {k : IntKind} {i : Int} (hg : wants ⟨dst, .indexAddr t x y, ty, pos, af, g⟩ ops e = true) (hu : arrT P t = some (n, el)) (hs : tsize P el = some s)
    (hx : ev e x = .pointer (some ⟨b, o, none⟩)) (hy : ev e y = .int k i) (h0 : 0 ≤ i) (h1 : i < n)
    (h : Wops P r ops Q rest (put e dst (.pointer (some ⟨b, o + i.toNat * s, none⟩))) w) :
    Wops P r ops Q (⟨dst, .indexAddr t x y, ty, pos, af, g⟩ :: rest) e w :=
  op_val hg rfl (by simp [execOp, hx, hy, Instr.indexAt, asIntOf, run_under (arrT_u hu), Instr.sureAddr, h0, h1, run_size hs, add_none]) h
theorem op_len {t : TypeId} {x : Operand} {a : Option Addr} {n c : Nat} {el : TypeId} (hg : wants ⟨dst, .call ⟨.builtin .len, #[x], #[t]⟩, ty, pos, af, g⟩ ops e = true) (hu : elemT P t = some el) (hx : ev e x = .slice a n c)
    (h : Wops P r ops Q rest (put e dst (.int .i64 n)) w) :
    Wops P r ops Q (⟨dst, .call ⟨.builtin .len, #[x], #[t]⟩, ty, pos, af, g⟩ :: rest) e w :=
  op_val hg rfl (by simp [execOp, resolve, invoke, builtin, hx, Builtin.len_, run_under (elemT_u hu), goInt]) h
theorem op_cap {t : TypeId} {x : Operand} {a : Option Addr} {n c : Nat} {el : TypeId} (hg : wants ⟨dst, .call ⟨.builtin .cap, #[x], #[t]⟩, ty, pos, af, g⟩ ops e = true) (hu : elemT P t = some el) (hx : ev e x = .slice a n c)
    (h : Wops P r ops Q rest (put e dst (.int .i64 c)) w) :
    Wops P r ops Q (⟨dst, .call ⟨.builtin .cap, #[x], #[t]⟩, ty, pos, af, g⟩ :: rest) e w :=
  op_val hg rfl (by simp [execOp, resolve, invoke, builtin, hx, Builtin.cap_, run_under (elemT_u hu), goInt]) h
theorem op_max2 {t1 t2 : TypeId} {x y : Operand} {k : IntKind} {a b : Int} (hg : wants ⟨dst, .call ⟨.builtin .max, #[x, y], #[t1, t2]⟩, ty, pos, af, g⟩ ops e = true) (hx : ev e x = .int k a) (hy : ev e y = .int k b)
    (h : Wops P r ops Q rest (put e dst (.int k (max a b))) w) :
    Wops P r ops Q (⟨dst, .call ⟨.builtin .max, #[x, y], #[t1, t2]⟩, ty, pos, af, g⟩ :: rest) e w :=
  op_val hg rfl (by
    have : (if a < b then b else a) = max a b := by rw [Int.max_def]; split <;> split <;> omega
    simp [execOp, resolve, invoke, builtin, hx, hy, Builtin.max_, Builtin.max2, this]) h
theorem op_makeFunc {fn : Fn} {first cap : Array Operand} (hg : wants ⟨dst, .makeFunc fn first cap, ty, pos, af, g⟩ ops e = true) (h : Wops P r ops Q rest (put e dst (.func fn (first.map (ev e)) (cap.map (ev e)))) w) :
    Wops P r ops Q (⟨dst, .makeFunc fn first cap, ty, pos, af, g⟩ :: rest) e w :=
  op_val hg rfl (by simp [execOp, Instr.makeFunc]) h
theorem op_extract {x : Operand} {i : Nat} {vs : Array Value} {v : Value} (hg : wants ⟨dst, .extract x i, ty, pos, af, g⟩ ops e = true) (hx : ev e x = .tuple vs) (hv : vs[i]? = some v) (h : Wops P r ops Q rest (put e dst v) w) :
    Wops P r ops Q (⟨dst, .extract x i, ty, pos, af, g⟩ :: rest) e w :=
  op_val hg rfl (by simp [execOp, hx, Instr.extract, hv]) h
end
end Go.GV

/- Calls; slices that a call makes, cuts, appends to. It holds for every program. -/
namespace Go.GV
open Go

section
variable {P : Program} {r : Option Nat} {ops rest : List Oper} {Q : Exit → Env → World → Prop} {e : Env} {w w0 : World} {S : List Nat} {L : List (Nat × Obj)}
  {dst : Option Tmp} {ty : TypeId} {pos : String} {af : Array Edge} {g : Option (Nat × Bool)}

theorem op_enter {o : Oper} {f : FuncId} {args : Array Value} {w' : World} {R : Value → World → Prop} (hg : wants o ops e = true) (hd : nodef o.op = true) (hrun : (execOp (ev e) o).run P w = .ok (.enter f args) w')
    (hc : Ret P f args w' R) (h : ∀ v w'', R v w'' → Wops P r ops Q rest (put e o.dst v) w'') : Wops P r ops Q (o :: rest) e w := by
  unfold Wops
  rw [if_pos hg, Oper.semAt_eq r _ _ (nodef_ne hd), hrun]
  exact Ret.mono hc h

/-- A call of a function by its name. -/
theorem op_call {f : FuncId} {args : Array Operand} {ats : Array TypeId} {l : List Value} {R : Value → World → Prop} (hg : wants ⟨dst, .call ⟨.value (.func f), args, ats⟩, ty, pos, af, g⟩ ops e = true) (hf : callable P f = true)
    (hc : Ret P f l.toArray w R) (ha : args.toList.map (ev e) = l) (h : ∀ v w', R v w' → Wops P r ops Q rest (put e dst v) w') :
    Wops P r ops Q (⟨dst, .call ⟨.value (.func f), args, ats⟩, ty, pos, af, g⟩ :: rest) e w := by
  refine op_enter (R := R) hg rfl ?_ hc h
  have : args.map (ev e) = l.toArray := by subst ha; apply Array.ext'; simp only [Array.toList_map]
  simp [execOp, resolve, ev, Deferred.ofValue, invoke, this, run_callable hf]
/-- A call of a function value. -/
theorem op_calld {f : FuncId} {fo : Operand} {fi ca : Array Value} {args : Array Operand} {ats : Array TypeId} {l : List Value} {R : Value → World → Prop} (hg : wants ⟨dst, .call ⟨.value fo, args, ats⟩, ty, pos, af, g⟩ ops e = true)
    (hfo : ev e fo = .func (.func f) fi ca) (hf : callable P f = true) (hc : Ret P f l.toArray w R) (ha : fi.toList ++ (args.toList.map (ev e) ++ ca.toList) = l) (h : ∀ v w', R v w' → Wops P r ops Q rest (put e dst v) w') :
    Wops P r ops Q (⟨dst, .call ⟨.value fo, args, ats⟩, ty, pos, af, g⟩ :: rest) e w := by
  refine op_enter (R := R) hg rfl ?_ hc h
  have : fi ++ args.map (ev e) ++ ca = l.toArray := by rw [← ha]; apply Array.ext'; simp
  simp [execOp, resolve, hfo, Deferred.ofValue, invoke, this, run_callable hf]
end

/-! ### A slice that a call owns: nil, or at the head of a block -/

def ent (a : Option Addr) (t : TypeId) (full : List Value) : List (Nat × Obj) :=
  match a with
  | none => []
  | some p => [(p.block, Bl t full)]

/-- The slice (a, n, c), of elements of s cells: its block's cells are full, its own l. -/
structure OS (a : Option Addr) (n c s : Nat) (full l : List Value) : Prop where
  zero : ∀ p, a = some p → p = ⟨p.block, 0, none⟩
  none' : a = none → c = 0
  len : full.length = c * s
  le : n ≤ c
  pre : full.take (n * s) = l

theorem OS.nil {s : Nat} : OS none 0 0 s [] [] := ⟨(fun _ h => by cases h), fun _ => rfl, by simp, Nat.le_refl _, by simp⟩
theorem OS.llen {a : Option Addr} {n c s : Nat} {full l : List Value} (h : OS a n c s full l) : l.length = n * s := by
  rw [← h.pre, List.length_take, h.len]
  exact Nat.min_eq_left (Nat.mul_le_mul_right _ h.le)
theorem OS.form {a : Option Addr} {n c s : Nat} {full l : List Value} (h : OS a n c s full l) (hn : 0 < n) : ∃ b, a = some ⟨b, 0, none⟩ := by
  cases a with
  | none => have := h.none' rfl; have := h.le; omega
  | some p => exact ⟨p.block, by rw [← h.zero p rfl]⟩
theorem OS.split {a : Option Addr} {n c s : Nat} {full l : List Value} (h : OS a n c s full l) : full = l ++ full.drop (n * s) := by
  rw [← h.pre, List.take_append_drop]

theorem mem_ent {a : Option Addr} {t : TypeId} {full : List Value} {b : Nat} (h : a = some ⟨b, 0, none⟩) : ent a t full = [(b, Bl t full)] := by subst h; rfl

/-- Such a slice reads as its elements. -/
theorem OS.rd {α : Type} {w : World} {a : Option Addr} {n c s : Nat} {t : TypeId} {full : List Value} {enc : α → List Value} {xs : List α} (h : OS a n c s full (xs.flatMap enc)) (hb : ∀ x ∈ ent a t full, w.heap[x.1]? = some x.2)
    (hs : ∀ x ∈ xs, (enc x).length = s) (h0 : 0 < s) : Rd w a s enc xs := by
  cases a with
  | none =>
    cases xs with
    | nil => exact Rd.nil
    | cons x xs =>
      exfalso
      have h1 := h.llen
      have h2 := h.none' rfl
      have h3 := h.le
      have h4 : n = 0 := by omega
      have h5 := hs x (by simp)
      subst h4
      simp only [List.flatMap_cons, List.length_append, Nat.zero_mul] at h1
      omega
  | some p =>
    have hz := h.zero p rfl
    obtain ⟨b, o, sp⟩ := p
    simp only [Addr.mk.injEq, true_and] at hz
    obtain ⟨rfl, rfl⟩ := hz
    exact Rd.of_bl (r := full.drop (n * s)) (hb (b, Bl t full) (by simp [ent])) h.split hs

theorem Ctx.perm {w0 w : World} {S : List Nat} {L L' : List (Nat × Obj)} (H : Ctx w0 S w L) (hp : L.Perm L') : Ctx w0 S w L' :=
  H.sub (fun _ hx => hp.mem_iff.2 hx) (hp.pairwise H.nd (fun h => Ne.symm h))

theorem Ctx.comm {w0 w : World} {S : List Nat} {L L' : List (Nat × Obj)} (H : Ctx w0 S w (L ++ L')) : Ctx w0 S w (L' ++ L) := H.perm List.perm_append_comm

theorem Ctx.left {w0 w : World} {S : List Nat} {L L' : List (Nat × Obj)} (H : Ctx w0 S w (L ++ L')) : Ctx w0 S w L :=
  H.sub (fun _ hx => List.mem_append_left _ hx) (List.pairwise_append.1 H.nd).1
theorem Ctx.right {w0 w : World} {S : List Nat} {L L' : List (Nat × Obj)} (H : Ctx w0 S w (L ++ L')) : Ctx w0 S w L' :=
  H.sub (fun _ hx => List.mem_append_right _ hx) (List.pairwise_append.1 H.nd).2.1

theorem growBy_le (need : Nat) : ∀ (k c : Nat), c ≤ 2 * need + 768 → Builtin.growBy need k c ≤ 2 * need + 768
  | 0, c, h => h
  | k + 1, c, h => by
    unfold Builtin.growBy
    split
    · exact h
    · exact growBy_le need k _ (by omega)

theorem nextcap_le (need c : Nat) (h : c < need) : Builtin.nextslicecap need c ≤ 2 * need + 768 := by
  unfold Builtin.nextslicecap
  split
  · omega
  · split
    · omega
    · exact growBy_le need 4 c (by omega)

theorem zeroCells_length (z : Array Value) (n : Nat) : (Builtin.zeroCells z n).size = n * z.size := by simp [Builtin.zeroCells]

section
variable {P : Program} {w w0 : World} {S : List Nat} {L : List (Nat × Obj)}

theorem run_firstCells {s m : Nat} {a : Option Addr} {c k : Nat} {l : List Value} (hl : l.length = m * s) (hc : ∀ j v, l[j]? = some v → ∃ p, a = some p ∧ w.cell? (p.add j) = some v) :
    (Builtin.firstCells s m (.slice a c k)).run P w = .ok l.toArray w := by
  cases a with
  | none =>
    have h0 : l = [] := by
      cases l with
      | nil => rfl
      | cons v l => obtain ⟨p, hp, _⟩ := hc 0 v rfl; cases hp
    subst h0
    simp [Builtin.firstCells]
  | some p =>
    have h := run_cells (P := P) (w := w) (p := p) l 0 #[] (fun j v hv => by
      obtain ⟨q, hq, hv⟩ := hc j v hv
      injection hq with hq
      subst hq
      rwa [Nat.zero_add])
    rw [hl] at h
    simp [Builtin.firstCells, loadCells, h]

/-- append onto a slice that the call owns; the source's cells are known. -/
theorem run_append {t t2 el el2 ty : TypeId} {s by' : Nat} {zl : List Value} (hu : elemT P t = some el) (hu2 : elemT P t2 = some el2) (hs : tsize P el = some s) (hby : tbytes P el = some by') (hz : zcells P el = some zl) (hzl : zl.length = s) (hpos : 0 < by')
    {a a2 : Option Addr} {n c m c2 : Nat} {full l new : List Value} (H : Ctx w0 S w (L ++ ent a el full)) (O : OS a n c s full l)
    (hn : new.length = m * s) (h1 : ∀ v ∈ new, oneCell v = true) (hc : ∀ j v, new[j]? = some v → ∃ p, a2 = some p ∧ w.cell? (p.add j) = some v) (hbound : (2 * (n + m) + 768) * by' ≤ 281474976710656) :
    ∃ a' c' full' w', (Builtin.append_ #[t, t2] ty #[.slice a n c, .slice a2 m c2]).run P w = .ok (.slice a' (n + m) c') w' ∧ Ctx w0 S w' (L ++ ent a' el full') ∧ OS a' (n + m) c' s full' (l ++ new) := by
  have hfc := run_firstCells (P := P) (w := w) (s := s) (m := m) (a := a2) (c := m) (k := c2) hn hc
  by_cases hfit : n + m ≤ c
  · -- in place
    cases a with
    | none =>
      have h0 := O.none' rfl
      have hm : m = 0 := by omega
      have hn0 : n = 0 := by omega
      subst hm hn0 h0
      have hnew : new = [] := List.eq_nil_of_length_eq_zero (by omega)
      have hl : l = [] := List.eq_nil_of_length_eq_zero (by have := O.llen; omega)
      have hfull : full = [] := List.eq_nil_of_length_eq_zero (by have := O.len; omega)
      subst hnew hl hfull
      refine ⟨none, 0, [], w, ?_, H, OS.nil⟩
      simp [Builtin.append_, run_under (elemT_u hu), run_under (elemT_u hu2), run_size hs, Builtin.lenOf, hfc]
    | some p =>
      have hp := O.zero p rfl
      obtain ⟨b, o, sp⟩ := p
      simp only [Addr.mk.injEq, true_and] at hp
      obtain ⟨rfl, rfl⟩ := hp
      have hk : (L ++ ent (some ⟨b, 0, none⟩) el full)[L.length]? = some (b, Bl el full) := by simp [ent]
      have hb := H.get hk
      have hmul : (n + m) * s ≤ c * s := Nat.mul_le_mul_right _ hfit
      have hadd : (n + m) * s = n * s + m * s := Nat.add_mul _ _ _
      obtain ⟨w', hr, he, hb'⟩ := run_storeCells (P := P) (o := n * s) new full w 0 h1 hb (by rw [O.len]; omega)
      have hwr := H.turn hk _ he hb'
      rw [show (L ++ ent (some ⟨b, 0, none⟩) el full).set L.length (b, Bl el (over full (n * s + 0) new)) = L ++ ent (some ⟨b, 0, none⟩) el (over full (n * s) new) from by simp [ent]] at hwr
      refine ⟨some ⟨b, 0, none⟩, c, over full (n * s) new, w', ?_, hwr, ?_⟩
      · have hst : (storeCells (Addr.add ⟨b, 0, none⟩ (n * s)) new).run P w = .ok () w' := by
          rw [add_none, Nat.zero_add]; exact hr
        simp [Builtin.append_, run_under (elemT_u hu), run_under (elemT_u hu2), run_size hs, Builtin.lenOf, hfc, hfit, hst]
      · refine ⟨fun q hq => by injection hq with hq; subst hq; rfl, (fun h => by cases h), by rw [over_length]; exact O.len, hfit, ?_⟩
        have hsp := O.split
        have hll := O.llen
        have htl : (full.drop (n * s)).length = c * s - n * s := by rw [List.length_drop, O.len]
        have hcut : full.drop (n * s) = (full.drop (n * s)).take (m * s) ++ (full.drop (n * s)).drop (m * s) := by rw [List.take_append_drop]
        have hover : ∀ (vs a b c : List Value), b.length = vs.length → over (a ++ b ++ c) a.length vs = a ++ vs ++ c := by
          intro vs
          induction vs with
          | nil => intro a b c hb; have : b = [] := List.eq_nil_of_length_eq_zero (by simpa using hb); subst this; simp [over]
          | cons v vs ih =>
            intro a b c hb
            cases b with
            | nil => simp at hb
            | cons x b =>
              have := ih (a ++ [v]) b c (by simpa using hb)
              simp only [over]
              rw [show (a ++ x :: b ++ c).set a.length v = a ++ [v] ++ b ++ c from by simp]
              rw [show a.length + 1 = (a ++ [v]).length from by simp, this]
              simp
        have hgoal : over full (n * s) new = l ++ new ++ (full.drop (n * s)).drop (m * s) := by
          have h4 := hover new l ((full.drop (n * s)).take (m * s)) ((full.drop (n * s)).drop (m * s)) (by rw [List.length_take, htl, hn]; omega)
          rw [List.append_assoc, ← hcut, ← hsp, hll] at h4
          exact h4
        rw [hgoal, List.take_left' (by rw [List.length_append, hll, hn]; omega)]
  · -- a new block
    have hfit' : c < n + m := by omega
    have hncap := nextcap_le (n + m) c hfit'
    have hbig : ¬ (281474976710656 : Int) < ((Builtin.nextslicecap (n + m) c * by' : Nat) : Int) := by
      have : Builtin.nextslicecap (n + m) c * by' ≤ (2 * (n + m) + 768) * by' := Nat.mul_le_mul_right _ hncap
      omega
    have hnm : n + m ≤ 281474976710656 := by
      have h1 : (2 * (n + m) + 768) * 1 ≤ (2 * (n + m) + 768) * by' := Nat.mul_le_mul_left _ hpos
      omega
    -- the capacity that is drawn
    generalize hq : (Question.appendCap (n + m) c el).cut (w.tape w.drawn (Question.appendCap (n + m) c el)) = cap
    have hcap : n + m ≤ cap := by rw [← hq]; unfold Question.cut; exact Nat.le_add_right _ _
    obtain ⟨zv, hzr, hzc⟩ := run_zero (P := P) hz w.drew
    have hzs : zv.cells.size = s := by rw [← hzl, ← hzc]; simp
    let full' := l ++ new ++ (Builtin.zeroCells zv.cells (cap - (n + m))).toList
    have hH : Ctx w0 S (w.drew.alloc (Bl el full')) ((w.drew.heap.size, Bl el full') :: L) := by
      have := (H.left.drew).alloc (Bl el full')
      exact this
    refine ⟨some ⟨w.drew.heap.size, 0, none⟩, cap, full', w.drew.alloc (Bl el full'), ?_, ?_, ?_⟩
    · have hforced : (Question.appendCap (n + m) c el).forced = false := rfl
      have hby2 : ∃ i, P.info? el = some i ∧ i.bytes = by' := by
        unfold tbytes at hby
        cases hi : P.info? el with
        | none => rw [hi] at hby; cases hby
        | some i => rw [hi] at hby; simp at hby; exact ⟨i, rfl, hby⟩
      obtain ⟨i, hi, hib⟩ := hby2
      have hti : ∀ w, (typeInfo el).run P w = .ok i w := fun w => by simp [typeInfo, program, Sem.run, hi]
      have hold' : (Builtin.firstCells s n (.slice a n c)).run P w.drew = .ok l.toArray w.drew := by
        refine run_firstCells (O.llen) (fun j v hv => ?_)
        have hjl : j < l.length := (List.getElem?_eq_some_iff.1 hv).1
        have hn0 : 0 < n := by
          rcases Nat.eq_zero_or_pos n with h | h
          · have h5 := O.llen; rw [h, Nat.zero_mul] at h5; omega
          · exact h
        obtain ⟨b, rfl⟩ := O.form hn0
        refine ⟨_, rfl, ?_⟩
        have hk : (L ++ ent (some ⟨b, 0, none⟩) el full)[L.length]? = some (b, Bl el full) := by simp [ent]
        show w.cell? _ = _
        rw [add_none, Nat.zero_add, cell_bl (H.get hk), O.split, List.getElem?_append_left hjl]
        exact hv
      have hfc' : (Builtin.firstCells s m (.slice a2 m c2)).run P w.drew = .ok new.toArray w.drew := run_firstCells hn hc
      have hroom : ∀ k w, (askRoom k).run P w = .ok () w := fun k w => by unfold askRoom; split <;> rfl
      have hby0 : ¬ by' = 0 := by omega
      have hnn : (Builtin.append_ #[t, t2] ty #[.slice a n c, .slice a2 m c2]).run P w = .ok (.slice (some ⟨w.drew.heap.size, 0, none⟩) (n + m) cap) (w.drew.alloc (.cells (l.toArray ++ (new.toArray ++ Builtin.zeroCells zv.cells (cap - (n + m)))) el)) := by
        have hb3 : ¬ 281474976710656 < Builtin.nextslicecap (n + m) c * by' := by omega
        simp [Builtin.append_, run_under (elemT_u hu), run_under (elemT_u hu2), run_size hs, Builtin.lenOf, hfc', hold', hfit, hti, hib, hb3, hby0, hforced, hq, hroom, hzr, newRow, newObj, Sem.run]
      rw [hnn]
      have harr : l.toArray ++ (new.toArray ++ Builtin.zeroCells zv.cells (cap - (n + m))) = full'.toArray := by
        apply Array.ext'; simp [full']
      rw [harr]
      rfl
    · exact hH.perm (List.perm_append_comm (l₁ := [(w.drew.heap.size, Bl el full')]) (l₂ := L))
    · refine ⟨(fun q hq => by injection hq with hq; subst hq; rfl), (fun h => by cases h), ?_, hcap, ?_⟩
      · show (l ++ new ++ (Builtin.zeroCells zv.cells (cap - (n + m))).toList).length = cap * s
        rw [List.length_append, List.length_append, O.llen, hn, Array.length_toList, zeroCells_length, hzs, ← Nat.add_mul, ← Nat.add_mul]
        congr 1
        omega
      · show (l ++ new ++ (Builtin.zeroCells zv.cells (cap - (n + m))).toList).take ((n + m) * s) = l ++ new
        rw [List.take_left' (by rw [List.length_append, O.llen, hn, Nat.add_mul])]

end

section
variable {P : Program} {r : Option Nat} {ops rest : List Oper} {Q : Exit → Env → World → Prop} {e : Env} {w w0 : World} {S : List Nat} {L : List (Nat × Obj)}
  {dst : Option Tmp} {ty : TypeId} {pos : String} {af : Array Edge} {g : Option (Nat × Bool)}

/-- append(s, x..): s is the call's own; x's cells are known. -/
theorem op_append {t t2 el el2 : TypeId} {x y : Operand} {s by' : Nat} {zl : List Value} (hg : wants ⟨dst, .call ⟨.builtin .append, #[x, y], #[t, t2]⟩, ty, pos, af, g⟩ ops e = true)
    (hu : elemT P t = some el) (hu2 : elemT P t2 = some el2) (hs : tsize P el = some s) (hby : tbytes P el = some by') (hz : zcells P el = some zl) (hzl : zl.length = s) (hpos : 0 < by')
    {a a2 : Option Addr} {n c m c2 : Nat} {full l : List Value} (new : List Value) (hx : ev e x = .slice a n c) (hy : ev e y = .slice a2 m c2) (H : Ctx w0 S w (L ++ ent a el full)) (O : OS a n c s full l)
    (hn : new.length = m * s) (h1 : ∀ v ∈ new, oneCell v = true) (hc : ∀ j v, new[j]? = some v → ∃ p, a2 = some p ∧ w.cell? (p.add j) = some v) (hbound : (2 * (n + m) + 768) * by' ≤ 281474976710656)
    (h : ∀ a' c' full' w', Ctx w0 S w' (L ++ ent a' el full') → OS a' (n + m) c' s full' (l ++ new) → Wops P r ops Q rest (put e dst (.slice a' (n + m) c')) w') :
    Wops P r ops Q (⟨dst, .call ⟨.builtin .append, #[x, y], #[t, t2]⟩, ty, pos, af, g⟩ :: rest) e w := by
  obtain ⟨a', c', full', w', hr, H', O'⟩ := run_append (ty := ty) hu hu2 hs hby hz hzl hpos H O hn h1 hc hbound (c2 := c2)
  exact op_val hg rfl (by simp [execOp, resolve, invoke, builtin, hx, hy, hr]) (h a' c' full' w' H' O')

/-- The slice of one element that append(s, x) lays. -/
theorem op_build1 {t el : TypeId} {x : Operand} {s : Nat} {zl : List Value} (l : List Value) (v : Value) (hg : wants ⟨dst, .buildSlice t 1 #[(0, x)], ty, pos, af, g⟩ ops e = true)
    (hu : elemT P t = some el) (hs : tsize P el = some s) (hz : zcells P el = some zl) (hzl : zl.length = s) (hs0 : 0 < s) (hs1 : s ≤ 16777216) (hx : ev e x = v) (hl : v.cells = l.toArray) (hll : l.length = s) (H : Ctx w0 S w L)
    (h : ∀ b w', w.heap.size = b → Ctx w0 S w' ((b, Bl el l) :: L) → Wops P r ops Q rest (put e dst (.slice (some ⟨b, 0, none⟩) 1 1)) w') :
    Wops P r ops Q (⟨dst, .buildSlice t 1 #[(0, x)], ty, pos, af, g⟩ :: rest) e w := by
  obtain ⟨z, hz1, hz2⟩ := run_zero hz w
  have hzs : z.cells.size = s := by rw [← hzl, ← hz2]; simp
  refine op_val (w' := w.alloc (Bl el l)) (v := .slice (some ⟨w.heap.size, 0, none⟩) 1 1) hg rfl ?_ (h _ _ rfl (H.alloc _))
  have hfill : ∀ cs : Array Value, cs.size = s → Instr.fill (fun i => some (i * s, s)) cs [(0, v)] = some l.toArray := by
    intro cs hcs
    have hfold : ∀ (vs : List Value) (k : Nat) (c0 : Array Value), c0.size = k + vs.length → (vs.zipIdx k).foldl (fun cs (x : Value × Nat) => cs.setIfInBounds (0 + x.2) x.1) c0 = ((c0.toList.take k) ++ vs).toArray := by
      intro vs
      induction vs with
      | nil => intro k c0 h; simp only [List.zipIdx_nil, List.foldl_nil, List.append_nil]; apply Array.ext'; simp only [List.length_nil] at h; simp; rw [List.take_of_length_le (by simp; omega)]
      | cons u vs ih =>
        intro k c0 h
        simp only [List.zipIdx_cons, List.foldl_cons]
        rw [ih (k + 1) _ (by simp at h ⊢; omega)]
        congr 1
        simp only [Nat.zero_add, Array.toList_setIfInBounds]
        have hk : k < c0.toList.length := by simp at h ⊢; omega
        rw [List.take_set, List.take_succ_eq_append_getElem hk]
        simp [List.set_append]
        rw [if_neg (by simp at h; omega)]
        have : k - min k c0.size = 0 := by simp at h; omega
        rw [this]; simp
    have h2 := hfold l 0 cs (by omega)
    simp only [Instr.fill, hl, List.size_toArray, hll, Nat.zero_mul, Nat.zero_add, hcs]
    rw [if_neg (by simp)]
    have h3 : Array.foldl (fun cs (x : Value × Nat) => cs.setIfInBounds (0 + x.2) x.1) cs l.toArray.zipIdx = (l.zipIdx 0).foldl (fun cs (x : Value × Nat) => cs.setIfInBounds (0 + x.2) x.1) cs := by
      rw [← Array.foldl_toList]; simp
    simp only [Nat.zero_add] at h2 h3
    rw [h3, h2]
    simp
  have hne : ¬ s = 0 := by omega
  have hbig : ¬ 16777216 < s := by omega
  simp [execOp, Instr.buildSlice, run_under (elemT_u hu), run_size hs, hne, hbig, hz1, hx, hfill, newRow, newObj, Sem.run]
  rfl

/-- make([]T, n, c), an element one cell. -/
theorem op_make {t el : TypeId} {x y : Operand} {by' : Nat} {z : Value} {k k2 : IntKind} {i j : Int} (hg : wants ⟨dst, .makeSlice t x y, ty, pos, af, g⟩ ops e = true)
    (hu : elemT P t = some el) (hs : tsize P el = some 1) (hby : tbytes P el = some by') (hz : zcells P el = some [z]) (hx : ev e x = .int k i) (hy : ev e y = .int k2 j) (h0 : 0 ≤ i) (h1 : i ≤ j) (h2 : by' * j ≤ 281474976710656) (h3 : j ≤ 9223372036854775807)
    (H : Ctx w0 S w L)
    (h : ∀ b w', w.heap.size = b → Ctx w0 S w' ((b, Bl el (List.replicate j.toNat z)) :: L) → Wops P r ops Q rest (put e dst (.slice (some ⟨b, 0, none⟩) i.toNat j.toNat)) w') :
    Wops P r ops Q (⟨dst, .makeSlice t x y, ty, pos, af, g⟩ :: rest) e w := by
  obtain ⟨zv, hz1, hz2⟩ := run_zero hz w
  have hzs : zv.cells.size = 1 := by
    have : zv.cells.toList.length = 1 := by rw [hz2]; rfl
    simpa using this
  have hby2 : ∃ i, P.info? el = some i ∧ i.bytes = by' := by
    unfold tbytes at hby
    cases hi : P.info? el with
    | none => rw [hi] at hby; cases hby
    | some i => rw [hi] at hby; simp at hby; exact ⟨i, rfl, hby⟩
  obtain ⟨inf, hi, hib⟩ := hby2
  have hti : ∀ w, (typeInfo el).run P w = .ok inf w := fun w => by simp [typeInfo, program, Sem.run, hi]
  have hw1 : IntKind.i64.wrap i = i := wrap_in (k := .i64) (by simp [IntKind.min, IntKind.signed, IntKind.bits]; omega) (by simp [IntKind.max, IntKind.signed, IntKind.bits]; omega)
  have hw2 : IntKind.i64.wrap j = j := wrap_in (k := .i64) (by simp [IntKind.min, IntKind.signed, IntKind.bits]; omega) (by simp [IntKind.max, IntKind.signed, IntKind.bits]; omega)
  have hroom : ∀ k w, (askRoom k).run P w = .ok () w := fun k w => by unfold askRoom; split <;> rfl
  refine op_val (w' := w.alloc (Bl el (List.replicate j.toNat z))) (v := .slice (some ⟨w.heap.size, 0, none⟩) i.toNat j.toNat) hg rfl ?_ (h _ _ rfl (H.alloc _))
  have hn1 : ¬ j < 0 := by omega
  have hn2 : ¬ (281474976710656 < (by' : Int) * j) := by omega
  have hn3 : ¬ i < 0 := by omega
  have hn4 : ¬ j < i := by omega
  have hcells : (Array.range j.toNat).map (fun q => zv.cells[q % zv.cells.size]!) = (List.replicate j.toNat z).toArray := by
    apply Array.ext
    · simp
    · intro q h1 h2
      simp only [hzs, Nat.mod_one, Array.getElem_map, List.getElem_toArray, List.getElem_replicate]
      have : zv.cells = #[z] := by apply Array.ext'; rw [hz2]
      rw [this]; rfl
  by_cases hj : j.toNat = 0
  · have hj0 : j = 0 := by omega
    have hi0 : i = 0 := by omega
    subst hj0 hi0
    simp [execOp, Instr.makeSlice, run_under (elemT_u hu), hx, hy, asInt, asIntOf, hti, hw2, hroom, run_size hs, newRow, newObj, Sem.run]
    have hr0 : (Array.range 0) = (#[] : Array Nat) := by apply Array.ext'; simp
    rw [hr0, Array.map_empty]
    rfl
  · simp [execOp, Instr.makeSlice, run_under (elemT_u hu), hx, hy, asInt, asIntOf, hti, hib, hw1, hw2, hn1, hn2, hn3, hn4, hroom, run_size hs, hj, hz1, newRow, newObj, Sem.run]
    rw [hcells]
    rfl

theorem sliceB {P : Program} {w : World} {k : IntKind} {i : Int} {y : Nat} {code : BoundsCode} (h0 : 0 ≤ i) (h1 : i ≤ y) : (Instr.sliceBound (.int k i) y code).run P w = .ok i.toNat w := by
  simp [Instr.sliceBound, asIntOf, h0, h1]

def cutA (a : Option Addr) (c i s : Nat) : Option Addr := if c = i then a else a.map (·.add (i * s))

/-- s[i:] -/
theorem op_slice_lo {t el : TypeId} {x y : Operand} {s : Nat} {a : Option Addr} {n c : Nat} {k : IntKind} {i : Int} (hg : wants ⟨dst, .slice t x (some y) none none, ty, pos, af, g⟩ ops e = true)
    (hu : elemT P t = some el) (hs : tsize P el = some s) (hx : ev e x = .slice a n c) (hy : ev e y = .int k i) (h0 : 0 ≤ i) (h1 : i ≤ n)
    (h : Wops P r ops Q rest (put e dst (.slice (cutA a c i.toNat s) (n - i.toNat) (c - i.toNat))) w) :
    Wops P r ops Q (⟨dst, .slice t x (some y) none none, ty, pos, af, g⟩ :: rest) e w :=
  op_val hg rfl (by simp [execOp, Instr.sliceAt, Instr.slice, Instr.sliceBounds, run_under (elemT_u hu), hx, hy, sliceB h0 h1, run_size hs, cutA]) h
/-- s[:j] -/
theorem op_slice_hi {t el : TypeId} {x y : Operand} {s : Nat} {a : Option Addr} {n c : Nat} {k : IntKind} {j : Int} (hg : wants ⟨dst, .slice t x none (some y) none, ty, pos, af, g⟩ ops e = true)
    (hu : elemT P t = some el) (hs : tsize P el = some s) (hx : ev e x = .slice a n c) (hy : ev e y = .int k j) (h0 : 0 ≤ j) (h1 : j ≤ c)
    (h : Wops P r ops Q rest (put e dst (.slice a j.toNat c)) w) :
    Wops P r ops Q (⟨dst, .slice t x none (some y) none, ty, pos, af, g⟩ :: rest) e w :=
  op_val hg rfl (by
    have : ∀ a : Option Addr, (if c = 0 then a else a.map (·.add (0 * s))) = a := by
      intro a; split
      · rfl
      · cases a with
        | none => rfl
        | some p => simp [Addr.add]
    simp [execOp, Instr.sliceAt, Instr.slice, Instr.sliceBounds, run_under (elemT_u hu), hx, hy, sliceB h0 h1, run_size hs]
    simpa using this a) h
/-- s[i:j] -/
theorem op_slice_lohi {t el : TypeId} {x y z : Operand} {s : Nat} {a : Option Addr} {n c : Nat} {k k2 : IntKind} {i j : Int} (hg : wants ⟨dst, .slice t x (some y) (some z) none, ty, pos, af, g⟩ ops e = true)
    (hu : elemT P t = some el) (hs : tsize P el = some s) (hx : ev e x = .slice a n c) (hy : ev e y = .int k i) (hz : ev e z = .int k2 j) (h0 : 0 ≤ i) (h1 : i ≤ j) (h2 : j ≤ c)
    (h : Wops P r ops Q rest (put e dst (.slice (cutA a c i.toNat s) (j.toNat - i.toNat) (c - i.toNat))) w) :
    Wops P r ops Q (⟨dst, .slice t x (some y) (some z) none, ty, pos, af, g⟩ :: rest) e w :=
  op_val hg rfl (by
    have h3 : i ≤ (j.toNat : Nat) := by omega
    simp [execOp, Instr.sliceAt, Instr.slice, Instr.sliceBounds, run_under (elemT_u hu), hx, hy, hz, sliceB (show 0 ≤ j from by omega) h2, sliceB h0 h3, run_size hs, cutA]) h

theorem run_eqnil {P : Program} {t el : TypeId} (hu : elemT P t = some el) (d : Nat) (a : Option Addr) (n c c2 : Nat) (w : World) :
    (Op.equalIn (d + 1) t (.slice a n c) (.slice none 0 c2)).run P w = .ok a.isNone w := by
  cases a <;> simp [Op.equalIn, run_under (elemT_u hu)]
theorem run_eqlnil {P : Program} {t el : TypeId} (hu : elemT P t = some el) (a : Option Addr) (n c c2 : Nat) (w : World) : (binOp .eql t (.slice a n c) (.slice none 0 c2)).run P w = .ok (.bool a.isNone) w := by
  simp only [binOp, Sem.run_bind, Op.equal, Op.maxDepth, run_eqnil hu 9999]
  cases a <;> rfl

theorem op_eqlnil {t t2 : TypeId} {x : Operand} {a : Option Addr} {n c c2 : Nat} {el : TypeId} (hg : wants ⟨dst, .binOp .eql t x (.const (.slice none 0 c2)) t2, ty, pos, af, g⟩ ops e = true) (hu : elemT P t = some el) (hx : ev e x = .slice a n c)
    (h : Wops P r ops Q rest (put e dst (.bool a.isNone)) w) : Wops P r ops Q (⟨dst, .binOp .eql t x (.const (.slice none 0 c2)) t2, ty, pos, af, g⟩ :: rest) e w :=
  op_val hg rfl (by
    have hq : eqGuard .eql t x (.const (.slice none 0 c2)) (.slice a n c) (.slice none 0 c2) = pure () := rfl
    have he : ev e (.const (.slice none 0 c2)) = .slice none 0 c2 := rfl
    simp only [execOp, hx, he, hq, Sem.run_bind, Sem.run_pure, Result.andThen_ok, run_eqlnil hu]) h
end
end Go.GV

/- The rules with their bounds as numerals, and the rules for regions that draw their order and whose operations are quiet; printed by mkmore.py. They hold for every program. -/
namespace Go.GV
open Go
section
variable {P : Program} {r : Option Nat} {ops rest : List Oper} {Q : Exit → Env → World → Prop} {e : Env} {w w0 : World} {S : List Nat} {L : List (Nat × Obj)}
  {dst : Option Tmp} {ty : TypeId} {pos : String} {af : Array Edge} {g : Option (Nat × Bool)} {C : World → Prop} {K : Env → Prop}

theorem q_val {o : Oper} {v : Value} (hg : wants o ops e = true) (hrun : ∀ w, C w → (execOp (ev e) o).run P w = .ok (.value v) w) (h : Wq P ops C K rest (put e o.dst v)) : Wq P ops C K (o :: rest) e := by
  unfold Wq
  rw [if_pos hg]
  exact ⟨v, fun w hw => by rw [hrun w hw]; exact ⟨rfl, rfl⟩, h⟩
theorem q_skip {o : Oper} (hg : wants o ops e = false) (h : Wq P ops C K rest (put e o.dst undef)) : Wq P ops C K (o :: rest) e := by
  unfold Wq
  rw [if_neg (by rw [hg]; simp)]
  exact h
theorem q_nil (h : K e) : Wq P ops C K [] e := h
theorem Wq_known {l : List Oper} (d : Tmp) {b : Bool} (c : Bool) (hd : e.g d = .bool b) (hb : b = c) (h : Wq P ops C K l (put e (some d) (.bool c))) : Wq P ops C K l e := by
  subst hb
  rw [put_same_val hd] at h
  exact h
theorem Wq_split {l : List Oper} (d : Tmp) {b : Bool} (hd : e.g d = .bool b) (h1 : b = true → Wq P ops C K l (put e (some d) (.bool true)))
    (h2 : b = false → Wq P ops C K l (put e (some d) (.bool false))) : Wq P ops C K l e := by
  cases b with
  | true => exact Wq_known d true hd rfl (h1 rfl)
  | false => exact Wq_known d false hd rfl (h2 rfl)
theorem q_call {f : FuncId} {args : Array Operand} {ats : Array TypeId} {l : List Value} {v : Value} (hg : wants ⟨dst, .call ⟨.value (.func f), args, ats⟩, ty, pos, af, g⟩ ops e = true) (hf : callable P f = true)
    (hc : ∀ w, C w → Ret P f l.toArray w fun u w' => u = v ∧ C w') (ha : args.toList.map (ev e) = l) (h : Wq P ops C K rest (put e dst v)) :
    Wq P ops C K (⟨dst, .call ⟨.value (.func f), args, ats⟩, ty, pos, af, g⟩ :: rest) e := by
  unfold Wq
  rw [if_pos hg]
  have : args.map (ev e) = l.toArray := by subst ha; apply Array.ext'; simp only [Array.toList_map]
  refine ⟨v, fun w hw => ?_, h⟩
  have hrun : (execOp (ev e) ⟨dst, .call ⟨.value (.func f), args, ats⟩, ty, pos, af, g⟩).run P w = .ok (.enter f l.toArray) w := by
    simp [execOp, resolve, ev, Deferred.ofValue, invoke, this, run_callable hf]
  rw [hrun]
  exact ⟨rfl, hc w hw⟩
theorem q_ld {t : TypeId} {x : Operand} {p : Addr} {v : Value} (hg : wants ⟨dst, .load t x, ty, pos, af, g⟩ ops e = true) (ha : aggB P t = some false) (hx : ev e x = .pointer (some p)) (hc : ∀ w, C w → w.cell? p = some v)
    (h : Wq P ops C K rest (put e dst v)) : Wq P ops C K (⟨dst, .load t x, ty, pos, af, g⟩ :: rest) e :=
  q_val hg (fun w hw => by simp [execOp, hx, Instr.loadAt, Instr.sureAddr, run_load1 ha (hc w hw)]) h
theorem q_ldb {t t2 : TypeId} {x : Operand} {b i k : Nat} {l : List Value} {v : Value} (hg : wants ⟨dst, .load t x, ty, pos, af, g⟩ ops e = true) (ha : aggB P t = some false) (hx : ev e x = .pointer (some ⟨b, i, none⟩))
    (H : ∀ w, C w → Ctx w0 S w L) (hk : L[k]? = some (b, Bl t2 l)) (hc : l[i]? = some v)
    (h : Wq P ops C K rest (put e dst v)) : Wq P ops C K (⟨dst, .load t x, ty, pos, af, g⟩ :: rest) e :=
  q_ld hg ha hx (fun w hw => by rw [cell_bl ((H w hw).get hk)]; exact hc) h
section
variable {t t2 : TypeId} {x y : Operand} {k : IntKind} {a b : Int}
theorem q_gtr (hg : wants ⟨dst, .binOp .gtr t x y t2, ty, pos, af, g⟩ ops e = true) (hx : ev e x = .int k a) (hy : ev e y = .int k b) (h : Wq P ops C K rest (put e dst (.bool (decide (b < a))))) :
    Wq P ops C K (⟨dst, .binOp .gtr t x y t2, ty, pos, af, g⟩ :: rest) e := q_val hg (fun w _ => run_bin hx hy (by simp [binOp, Op.intCmp])) h
theorem op_neqb {x y : Operand} {a b : Bool} {t t2 : TypeId} (ht : P.underlying t = some .bool) (hg : wants ⟨dst, .binOp .neq t x y t2, ty, pos, af, g⟩ ops e = true) (hx : ev e x = .bool a) (hy : ev e y = .bool b) (h : Wops P r ops Q rest (put e dst (.bool (!(a == b)))) w) :
    Wops P r ops Q (⟨dst, .binOp .neq t x y t2, ty, pos, af, g⟩ :: rest) e w := by
  refine op_val hg rfl ?_ h
  have hq : eqGuard .neq t x y (.bool a) (.bool b) = pure () := rfl
  have he : ∀ d w, (Op.equalIn (d + 1) t (.bool a) (.bool b)).run P w = .ok (a == b) w := fun d w => by simp [Op.equalIn, run_under ht]
  simp only [execOp, hx, hy, hq, Sem.run_bind, Sem.run_pure, Result.andThen_ok, binOp, Op.equal, Op.maxDepth, he 9999]
theorem op_add_i64 (hg : wants ⟨dst, .binOp .add t x y t2, ty, pos, af, g⟩ ops e = true) (hx : ev e x = .int .i64 a) (hy : ev e y = .int .i64 b) (h1 : -9223372036854775808 ≤ a + b) (h2 : a + b ≤ 9223372036854775807)
    (h : Wops P r ops Q rest (put e dst (.int .i64 (a + b))) w) : Wops P r ops Q (⟨dst, .binOp .add t x y t2, ty, pos, af, g⟩ :: rest) e w := op_val hg rfl (run_bin hx hy (by simp [binOp, Op.intArith, wrap_in (k := .i64) (n := a + b) h1 h2])) h
theorem q_add_i64 (hg : wants ⟨dst, .binOp .add t x y t2, ty, pos, af, g⟩ ops e = true) (hx : ev e x = .int .i64 a) (hy : ev e y = .int .i64 b) (h1 : -9223372036854775808 ≤ a + b) (h2 : a + b ≤ 9223372036854775807)
    (h : Wq P ops C K rest (put e dst (.int .i64 (a + b)))) : Wq P ops C K (⟨dst, .binOp .add t x y t2, ty, pos, af, g⟩ :: rest) e := q_val hg (fun w _ => run_bin hx hy (by simp [binOp, Op.intArith, wrap_in (k := .i64) (n := a + b) h1 h2])) h
theorem op_sub_i64 (hg : wants ⟨dst, .binOp .sub t x y t2, ty, pos, af, g⟩ ops e = true) (hx : ev e x = .int .i64 a) (hy : ev e y = .int .i64 b) (h1 : -9223372036854775808 ≤ a - b) (h2 : a - b ≤ 9223372036854775807)
    (h : Wops P r ops Q rest (put e dst (.int .i64 (a - b))) w) : Wops P r ops Q (⟨dst, .binOp .sub t x y t2, ty, pos, af, g⟩ :: rest) e w := op_val hg rfl (run_bin hx hy (by simp [binOp, Op.intArith, wrap_in (k := .i64) (n := a - b) h1 h2])) h
theorem q_sub_i64 (hg : wants ⟨dst, .binOp .sub t x y t2, ty, pos, af, g⟩ ops e = true) (hx : ev e x = .int .i64 a) (hy : ev e y = .int .i64 b) (h1 : -9223372036854775808 ≤ a - b) (h2 : a - b ≤ 9223372036854775807)
    (h : Wq P ops C K rest (put e dst (.int .i64 (a - b)))) : Wq P ops C K (⟨dst, .binOp .sub t x y t2, ty, pos, af, g⟩ :: rest) e := q_val hg (fun w _ => run_bin hx hy (by simp [binOp, Op.intArith, wrap_in (k := .i64) (n := a - b) h1 h2])) h
theorem op_mul_i64 (hg : wants ⟨dst, .binOp .mul t x y t2, ty, pos, af, g⟩ ops e = true) (hx : ev e x = .int .i64 a) (hy : ev e y = .int .i64 b) (h1 : -9223372036854775808 ≤ a * b) (h2 : a * b ≤ 9223372036854775807)
    (h : Wops P r ops Q rest (put e dst (.int .i64 (a * b))) w) : Wops P r ops Q (⟨dst, .binOp .mul t x y t2, ty, pos, af, g⟩ :: rest) e w := op_val hg rfl (run_bin hx hy (by simp [binOp, Op.intArith, wrap_in (k := .i64) (n := a * b) h1 h2])) h
theorem op_conv_i64 {s d : TypeId} {ds : TypeDesc} (hg : wants ⟨dst, .convert s d x, ty, pos, af, g⟩ ops e = true) (hx : ev e x = .int k a) (hs : P.underlying s = some ds) (hd : P.underlying d = some (.int .i64)) (h1 : -9223372036854775808 ≤ a) (h2 : a ≤ 9223372036854775807) (h : Wops P r ops Q rest (put e dst (.int .i64 a)) w) : Wops P r ops Q (⟨dst, .convert s d x, ty, pos, af, g⟩ :: rest) e w := op_conv hg hx hs hd h1 h2 h
theorem op_conv_u32 {s d : TypeId} {ds : TypeDesc} (hg : wants ⟨dst, .convert s d x, ty, pos, af, g⟩ ops e = true) (hx : ev e x = .int k a) (hs : P.underlying s = some ds) (hd : P.underlying d = some (.int .u32)) (h1 : 0 ≤ a) (h2 : a ≤ 4294967295) (h : Wops P r ops Q rest (put e dst (.int .u32 a)) w) : Wops P r ops Q (⟨dst, .convert s d x, ty, pos, af, g⟩ :: rest) e w := op_conv hg hx hs hd h1 h2 h
theorem op_add_u64 (hg : wants ⟨dst, .binOp .add t x y t2, ty, pos, af, g⟩ ops e = true) (hx : ev e x = .int .u64 a) (hy : ev e y = .int .u64 b) (h1 : 0 ≤ a + b) (h2 : a + b ≤ 18446744073709551615)
    (h : Wops P r ops Q rest (put e dst (.int .u64 (a + b))) w) : Wops P r ops Q (⟨dst, .binOp .add t x y t2, ty, pos, af, g⟩ :: rest) e w := op_val hg rfl (run_bin hx hy (by simp [binOp, Op.intArith, wrap_in (k := .u64) (n := a + b) h1 h2])) h
theorem op_conv_u64 {s d : TypeId} {ds : TypeDesc} (hg : wants ⟨dst, .convert s d x, ty, pos, af, g⟩ ops e = true) (hx : ev e x = .int k a) (hs : P.underlying s = some ds) (hd : P.underlying d = some (.int .u64)) (h1 : 0 ≤ a) (h2 : a ≤ 18446744073709551615) (h : Wops P r ops Q rest (put e dst (.int .u64 a)) w) : Wops P r ops Q (⟨dst, .convert s d x, ty, pos, af, g⟩ :: rest) e w := op_conv hg hx hs hd h1 h2 h
end
theorem q_move {x : Operand} (hg : wants ⟨dst, .move x, ty, pos, af, g⟩ ops e = true) (v : Value) (hx : ev e x = v) (h : Wq P ops C K rest (put e dst v)) :
    Wq P ops C K (⟨dst, .move x, ty, pos, af, g⟩ :: rest) e := q_val hg (fun w _ => by simp [execOp, hx]) h
theorem q_assign {x : Operand} (hg : wants ⟨dst, .assign x, ty, pos, af, g⟩ ops e = true) (v : Value) (hx : ev e x = v) (h : Wq P ops C K rest (put e dst v)) :
    Wq P ops C K (⟨dst, .assign x, ty, pos, af, g⟩ :: rest) e := q_val hg (fun w _ => by simp [execOp, hx]) h
theorem q_pick1 {c a b : Operand} (hg : wants ⟨dst, .pick c a b, ty, pos, af, g⟩ ops e = true) (hc : ev e c = .bool true) (v : Value) (hx : ev e a = v) (h : Wq P ops C K rest (put e dst v)) :
    Wq P ops C K (⟨dst, .pick c a b, ty, pos, af, g⟩ :: rest) e := q_val hg (fun w _ => by simp [execOp, hc, hx, asBool]) h
theorem q_pick0 {c a b : Operand} (hg : wants ⟨dst, .pick c a b, ty, pos, af, g⟩ ops e = true) (hc : ev e c = .bool false) (v : Value) (hx : ev e b = v) (h : Wq P ops C K rest (put e dst v)) :
    Wq P ops C K (⟨dst, .pick c a b, ty, pos, af, g⟩ :: rest) e := q_val hg (fun w _ => by simp [execOp, hc, hx, asBool]) h

theorem q_not {t : TypeId} {x : Operand} {b : Bool} (hg : wants ⟨dst, .unOp .not t x, ty, pos, af, g⟩ ops e = true) (hx : ev e x = .bool b) (h : Wq P ops C K rest (put e dst (.bool (!b)))) :
    Wq P ops C K (⟨dst, .unOp .not t x, ty, pos, af, g⟩ :: rest) e := q_val hg (fun w _ => by simp [execOp, hx, Op.unary]) h
theorem q_indexAddr {t el : TypeId} {x y : Operand} {b o n c s : Nat} {k : IntKind} {i : Int} (hg : wants ⟨dst, .indexAddr t x y, ty, pos, af, g⟩ ops e = true) (hu : elemT P t = some el) (hs : tsize P el = some s)
    (hx : ev e x = .slice (some ⟨b, o, none⟩) n c) (hy : ev e y = .int k i) (h0 : 0 ≤ i) (h1 : i < n)
    (h : Wq P ops C K rest (put e dst (.pointer (some ⟨b, o + i.toNat * s, none⟩)))) :
    Wq P ops C K (⟨dst, .indexAddr t x y, ty, pos, af, g⟩ :: rest) e :=
  q_val hg (fun w _ => by simp [execOp, hx, hy, Instr.indexAt, asIntOf, run_under (elemT_u hu), h0, h1, run_size hs, add_none]) h
theorem q_indexRd {t el : TypeId} {x y : Operand} {a : Option Addr} {n c s : Nat} {k : IntKind} {i : Int} {α : Type} {enc : α → List Value} {xs : List α} {w1 : World} (R : Rd w1 a s enc xs)
    (hg : wants ⟨dst, .indexAddr t x y, ty, pos, af, g⟩ ops e = true) (hu : elemT P t = some el) (hs : tsize P el = some s)
    (hx : ev e x = .slice a n c) (hy : ev e y = .int k i) (h0 : 0 ≤ i) (h1 : i < n) (hn : n = xs.length)
    (h : Wq P ops C K rest (put e dst (.pointer (some ⟨(adr a).block, (adr a).off + i.toNat * s, none⟩)))) :
    Wq P ops C K (⟨dst, .indexAddr t x y, ty, pos, af, g⟩ :: rest) e := by
  obtain ⟨b, o, rfl⟩ := R.some' (by rintro rfl; simp at hn; omega)
  exact q_indexAddr hg hu hs hx hy h0 h1 h
theorem q_len {t : TypeId} {x : Operand} {a : Option Addr} {n c : Nat} {el : TypeId} (hg : wants ⟨dst, .call ⟨.builtin .len, #[x], #[t]⟩, ty, pos, af, g⟩ ops e = true) (hu : elemT P t = some el) (hx : ev e x = .slice a n c)
    (h : Wq P ops C K rest (put e dst (.int .i64 n))) :
    Wq P ops C K (⟨dst, .call ⟨.builtin .len, #[x], #[t]⟩, ty, pos, af, g⟩ :: rest) e :=
  q_val hg (fun w _ => by simp [execOp, resolve, invoke, builtin, hx, Builtin.len_, run_under (elemT_u hu), goInt]) h
theorem q_fieldAddr {t : TypeId} {x : Operand} {i b o off : Nat} (hg : wants ⟨dst, .fieldAddr t x i, ty, pos, af, g⟩ ops e = true) (hf : fieldO P t i = some off) (hx : ev e x = .pointer (some ⟨b, o, none⟩))
    (h : Wq P ops C K rest (put e dst (.pointer (some ⟨b, o + off, none⟩)))) :
    Wq P ops C K (⟨dst, .fieldAddr t x i, ty, pos, af, g⟩ :: rest) e := by
  unfold fieldO at hf
  split at hf
  · rename_i fs hu
    split at hf
    · rename_i f hf1
      split at hf
      · rename_i s hs
        injection hf with hf
        subst hf
        exact q_val hg (fun w _ => by simp [execOp, hx, Instr.fieldAt, run_under hu, hf1, Instr.sureAddr, fieldPlace, run_size hs, add_none]) h
      · cases hf
    · cases hf
  · cases hf
theorem op_makeFuncL {fn : Fn} {cap : Array Operand} (hg : wants ⟨dst, .makeFunc fn #[] cap, ty, pos, af, g⟩ ops e = true) (l : List Value) (hl : cap.toList.map (ev e) = l) (h : Wops P r ops Q rest (put e dst (.func fn #[] l.toArray)) w) :
    Wops P r ops Q (⟨dst, .makeFunc fn #[] cap, ty, pos, af, g⟩ :: rest) e w := by
  refine op_makeFunc hg ?_
  have : cap.map (ev e) = l.toArray := by subst hl; apply Array.ext'; simp only [Array.toList_map]
  rw [this, Array.map_empty]
  exact h
/-- append(s, x): the block of the one element at the head. -/
theorem op_appendb {t t2 el el2 : TypeId} {x y : Operand} {s by' : Nat} {zl : List Value} (hg : wants ⟨dst, .call ⟨.builtin .append, #[x, y], #[t, t2]⟩, ty, pos, af, g⟩ ops e = true)
    (hu : elemT P t = some el) (hu2 : elemT P t2 = some el2) (hs : tsize P el = some s) (hby : tbytes P el = some by') (hz : zcells P el = some zl) (hzl : zl.length = s) (hpos : 0 < by')
    {a : Option Addr} {n c m c2 b2 : Nat} {t3 : TypeId} {full l new : List Value} (hx : ev e x = .slice a n c) (hy : ev e y = .slice (some ⟨b2, 0, none⟩) m c2) (H : Ctx w0 S w ((b2, Bl t3 new) :: (L ++ ent a el full))) (O : OS a n c s full l)
    (hn : new.length = m * s) (h1 : ∀ v ∈ new, oneCell v = true) (hbound : (2 * (n + m) + 768) * by' ≤ 281474976710656)
    (h : ∀ a' c' full' w', Ctx w0 S w' (L ++ ent a' el full') → OS a' (n + m) c' s full' (l ++ new) → Wops P r ops Q rest (put e dst (.slice a' (n + m) c')) w') :
    Wops P r ops Q (⟨dst, .call ⟨.builtin .append, #[x, y], #[t, t2]⟩, ty, pos, af, g⟩ :: rest) e w :=
  op_append hg hu hu2 hs hby hz hzl hpos new hx hy H.tail O hn h1 (fun j v hv => ⟨_, rfl, by rw [add_none, Nat.zero_add, cell_bl (H.get at0)]; exact hv⟩) hbound h
end


end Go.GV

/- More on blocks and slices: what a call is lent and hands back; rows of a slice; lists under a map. It holds for every program. -/
namespace Go.GV
open Go

section
variable {w0 w w' : World} {S : List Nat} {L L1 L2 L1' : List (Nat × Obj)}

/-- .. and hands them back. -/
theorem Ctx.back (H : Ctx w0 S w (L1 ++ L2)) (H' : Ctx w (L1.map (·.1)) w' L1') : Ctx w0 S w' (L1' ++ L2) := by
  have hd := List.pairwise_append.1 H.nd
  have hk : ∀ x ∈ L1', (∃ y ∈ L1, y.1 = x.1) ∨ w.heap.size ≤ x.1 := fun x hx => by
    rcases H'.own x hx with h | h
    · rw [List.mem_map] at h; exact .inl h
    · exact .inr h
  have hn2 : ∀ y ∈ L2, y.1 ∉ L1.map (·.1) := fun y hy hm => by
    rw [List.mem_map] at hm
    obtain ⟨x, hx, he⟩ := hm
    exact hd.2.2 x hx y hy he
  refine ⟨H.ext.then H'.ext ?_, ?_, ?_, ?_⟩
  · intro x hx
    rw [List.mem_map] at hx
    obtain ⟨y, hy, rfl⟩ := hx
    exact H.own y (List.mem_append_left _ hy)
  · intro x hx
    rcases List.mem_append.1 hx with hx | hx
    · exact H'.blk x hx
    · have hb := H.blk x (List.mem_append_right _ hx)
      rw [H'.ext.block x.1 (heap_lt hb) (hn2 x hx)]
      exact hb
  · rw [List.pairwise_append]
    refine ⟨H'.nd, hd.2.1, fun x hx y hy => ?_⟩
    have hly := heap_lt (H.blk y (List.mem_append_right _ hy))
    rcases hk x hx with ⟨z, hz, he⟩ | h
    · rw [← he]; exact hd.2.2 z hz y hy
    · omega
  · intro x hx
    rcases List.mem_append.1 hx with hx | hx
    · rcases hk x hx with ⟨z, hz, he⟩ | h
      · rw [← he]; exact H.own z (List.mem_append_left _ hz)
      · exact .inr (Nat.le_trans H.size h)
    · exact H.own x (List.mem_append_right _ hx)

theorem Ctx.app_nil (H : Ctx w0 S w L) : Ctx w0 S w (L ++ []) := by simpa using H
theorem Ctx.nil_app (H : Ctx w0 S w (L ++ [])) : Ctx w0 S w L := by simpa using H
end

section
variable {w : World} {α : Type} {a : Option Addr} {s : Nat} {enc : α → List Value} {xs : List α}
theorem Rd.row (R : Rd w a s enc xs) {i : Nat} {x : α} (hx : xs[i]? = some x) (hs : (enc x).length = s) : ∀ j v, (enc x)[j]? = some v → w.cell? ⟨(adr a).block, (adr a).off + i * s + j, none⟩ = some v :=
  fun j v hv => R.cell i x hx j v hv (by rw [← hs]; exact (List.getElem?_eq_some_iff.1 hv).1)
theorem Rd.fld (R : Rd w a s enc xs) {i j : Nat} {x : α} {v : Value} (hx : xs[i]? = some x) (hs : (enc x).length = s) (hv : (enc x)[j]? = some v) : w.cell? ⟨(adr a).block, (adr a).off + i * s + j, none⟩ = some v := R.row hx hs j v hv
/-- One cell each. -/
theorem Rd.one {f : α → Value} (R : Rd w a 1 (fun x => [f x]) xs) {i : Nat} {x : α} (hx : xs[i]? = some x) : w.cell? ⟨(adr a).block, (adr a).off + i * 1, none⟩ = some (f x) := by
  have := R.cell i x hx 0 (f x) rfl (by omega)
  simpa using this
/-- What append asks of its source. -/
theorem Rd.app1 {f : α → Value} (R : Rd w a 1 (fun x => [f x]) xs) : ∀ j v, (xs.map f)[j]? = some v → ∃ p, a = some p ∧ w.cell? (p.add j) = some v := by
  intro j v hv
  rw [List.getElem?_map] at hv
  cases hx : xs[j]? with
  | none => rw [hx] at hv; cases hv
  | some x =>
    rw [hx] at hv
    injection hv with hv
    subst hv
    obtain ⟨b, o, rfl⟩ := R.some' (by rintro rfl; simp at hx)
    refine ⟨_, rfl, ?_⟩
    rw [add_none]
    have := R.one hx
    simpa [adr] using this
theorem flat_get (hs : ∀ x ∈ xs, (enc x).length = s) (h0 : 0 < s) : ∀ j, (xs.flatMap enc)[j]? = (xs[j / s]?).bind fun x => (enc x)[j % s]? := by
  induction xs with
  | nil => intro j; simp
  | cons x xs ih =>
    intro j
    have hx := hs x (by simp)
    have ih := ih (fun y hy => hs y (by simp [hy]))
    simp only [List.flatMap_cons]
    by_cases hj : j < s
    · rw [List.getElem?_append_left (by omega), Nat.div_eq_of_lt hj, Nat.mod_eq_of_lt hj]
      rfl
    · rw [List.getElem?_append_right (by omega), hx, ih]
      have h1 : j / s = (j - s) / s + 1 := by rw [Nat.div_eq_sub_div h0 (by omega)]
      have h2 : j % s = (j - s) % s := by rw [Nat.mod_eq_sub_mod (by omega)]
      rw [h1, h2]
      rfl
theorem Rd.app (R : Rd w a s enc xs) (hs : ∀ x ∈ xs, (enc x).length = s) (h0 : 0 < s) : ∀ j v, (xs.flatMap enc)[j]? = some v → ∃ p, a = some p ∧ w.cell? (p.add j) = some v := by
  intro j v hv
  rw [flat_get hs h0] at hv
  cases hx : xs[j / s]? with
  | none => rw [hx] at hv; cases hv
  | some x =>
    rw [hx] at hv
    have hc := R.cell _ x hx _ v hv (Nat.mod_lt _ h0)
    obtain ⟨b, o, rfl⟩ := R.some' (by rintro rfl; simp at hx)
    refine ⟨_, rfl, ?_⟩
    rw [add_none]
    simp only [adr] at hc
    rw [← hc]
    congr 2
    have := Nat.div_add_mod j s
    rw [Nat.mul_comm] at this
    omega
/-- A slice's beginning. -/
theorem Rd.take (R : Rd w a s enc xs) (n : Nat) : Rd w a s enc (xs.take n) :=
  ⟨fun h => R.some' (by rintro rfl; simp at h), fun i x hx j v hv hj => R.cell i x (by
    rw [List.getElem?_take] at hx
    split at hx
    · exact hx
    · cases hx) j v hv hj⟩
/-- A slice's end: s[n:]. -/
theorem Rd.cut (R : Rd w a s enc xs) (n c : Nat) (hc : xs.length ≤ c) : Rd w (cutA a c n s) s enc (xs.drop n) := by
  unfold cutA
  by_cases hn : c = n
  · subst hn
    rw [List.drop_of_length_le hc]
    exact Rd.nil
  · rw [if_neg hn]
    refine ⟨fun h => ?_, fun i x hx j v hv hj => ?_⟩
    · obtain ⟨b, o, rfl⟩ := R.some' (by rintro rfl; simp at h)
      exact ⟨b, o + n * s, by simp [add_none]⟩
    · rw [List.getElem?_drop] at hx
      obtain ⟨b, o, rfl⟩ := R.some' (by rintro rfl; simp at hx)
      have := R.cell (n + i) x hx j v hv hj
      simp only [adr, Option.map_some, add_none] at this ⊢
      rw [← this]
      congr 2
      rw [Nat.add_mul]; omega
end

section
variable {P : Program} {r : Option Nat} {ops rest : List Oper} {Q : Exit → Env → World → Prop} {e : Env} {w w0 : World} {S : List Nat} {L : List (Nat × Obj)}
  {dst : Option Tmp} {ty : TypeId} {pos : String} {af : Array Edge} {g : Option (Nat × Bool)}
/-- []T{} -/
theorem op_build0 {t el : TypeId} {s : Nat} (hg : wants ⟨dst, .buildSlice t 0 #[], ty, pos, af, g⟩ ops e = true)
    (hu : elemT P t = some el) (hs : tsize P el = some s) (H : Ctx w0 S w L)
    (h : ∀ b w', Ctx w0 S w' (L ++ ent (some ⟨b, 0, none⟩) el []) → OS (some ⟨b, 0, none⟩) 0 0 s [] [] → Wops P r ops Q rest (put e dst (.slice (some ⟨b, 0, none⟩) 0 0)) w') :
    Wops P r ops Q (⟨dst, .buildSlice t 0 #[], ty, pos, af, g⟩ :: rest) e w := by
  refine op_val (w' := w.alloc (Bl el [])) (v := .slice (some ⟨w.heap.size, 0, none⟩) 0 0) hg rfl ?_ (h _ _ (Ctx.comm (L := [(w.heap.size, Bl el [])]) (H.alloc _)) ⟨(fun p hp => by injection hp with hp; subst hp; rfl), (fun hp => by cases hp), by simp, Nat.le_refl _, by simp⟩)
  have hr0 : (Array.range 0) = (#[] : Array Nat) := by apply Array.ext'; simp
  simp [execOp, Instr.buildSlice, run_under (elemT_u hu), run_size hs, hr0, Instr.fill, newRow, newObj, Sem.run]
  rfl
end

theorem range_get {α : Type} {n i : Nat} {f : Nat → α} (h : i < n) : ((List.range n).map f)[i]? = some (f i) := by
  rw [List.getElem?_map, List.getElem?_range h]; rfl
section
variable {P : Program} {r : Option Nat} {ops rest : List Oper} {Q : Exit → Env → World → Prop} {e : Env} {w w0 : World} {S : List Nat} {L : List (Nat × Obj)}
  {dst : Option Tmp} {ty : TypeId} {pos : String} {af : Array Edge} {g : Option (Nat × Bool)} {C : World → Prop} {K : Env → Prop}
end

theorem get_some {α : Type} {l : List α} {i : Nat} (h : i < l.length) : ∃ x, l[i]? = some x := ⟨l[i], List.getElem?_eq_getElem h⟩
theorem get_lt {α : Type} {l : List α} {i : Nat} {x : α} (h : l[i]? = some x) : i < l.length := (List.getElem?_eq_some_iff.1 h).1
theorem take_snoc {α : Type} {l : List α} {i : Nat} {x : α} (h : l[i]? = some x) : l.take (i + 1) = l.take i ++ [x] := by
  rw [List.take_add_one, h]; rfl
/-! ### A slice that a call has made and hands back -/
structure Fresh (w w' : World) (el : TypeId) (s : Nat) (v : Value) (l : List Value) : Prop where
  ex : ∃ a n c full, v = .slice a n c ∧ OS a n c s full l ∧ ∀ x ∈ ent a el full, w'.heap[x.1]? = some x.2 ∧ w.heap.size ≤ x.1
  ext : Ext [] w w'

theorem ent_nd {a : Option Addr} {t : TypeId} {full : List Value} : (ent a t full).Pairwise fun x y => x.1 ≠ y.1 := by
  cases a <;> simp [ent]

theorem Ctx.fresh {w0 w : World} {L : List (Nat × Obj)} {a : Option Addr} {el : TypeId} {full l : List Value} {n c s : Nat} (H : Ctx w0 [] w (L ++ ent a el full)) (O : OS a n c s full l) : Fresh w0 w el s (.slice a n c) l :=
  ⟨⟨a, n, c, full, rfl, O, fun x hx => ⟨H.blk x (List.mem_append_right _ hx), by
    rcases H.own x (List.mem_append_right _ hx) with h | h
    · cases h
    · exact h⟩⟩, H.ext⟩
theorem Fresh.nil {w0 w : World} {L : List (Nat × Obj)} (H : Ctx w0 [] w L) (el : TypeId) (s : Nat) : Fresh w0 w el s (.slice none 0 0) [] :=
  ⟨⟨none, 0, 0, [], rfl, OS.nil, by simp [ent]⟩, H.ext⟩
theorem flat1 {α : Type} {f : α → Value} (xs : List α) : xs.flatMap (fun x => [f x]) = xs.map f := by
  induction xs with
  | nil => rfl
  | cons x xs ih => simp [ih]
theorem OS.rd1 {α : Type} {w : World} {a : Option Addr} {n c : Nat} {t : TypeId} {full : List Value} {f : α → Value} {xs : List α} (h : OS a n c 1 full (xs.map f)) (hb : ∀ x ∈ ent a t full, w.heap[x.1]? = some x.2) :
    Rd w a 1 (fun x => [f x]) xs := OS.rd (by rw [flat1]; exact h) hb (by simp) (by omega)
theorem OS.num {α : Type} {a : Option Addr} {n c : Nat} {full : List Value} {f : α → Value} {xs : List α} (h : OS a n c 1 full (xs.map f)) : n = xs.length := by
  have := h.llen; simpa using this.symm
theorem OS.numN {α : Type} {a : Option Addr} {n c s : Nat} {full : List Value} {enc : α → List Value} {xs : List α} (h : OS a n c s full (xs.flatMap enc)) (hs : ∀ x ∈ xs, (enc x).length = s) (h0 : 0 < s) : n = xs.length := by
  have h1 := h.llen
  have h2 : ∀ xs : List α, (∀ x ∈ xs, (enc x).length = s) → (xs.flatMap enc).length = xs.length * s := by
    intro xs
    induction xs with
    | nil => simp
    | cons x xs ih =>
      intro hs
      simp only [List.flatMap_cons, List.length_append, List.length_cons, Nat.add_mul, Nat.one_mul]
      rw [ih (fun y hy => hs y (by simp [hy])), hs x (by simp)]
      omega
  rw [h2 xs hs] at h1
  exact (Nat.eq_of_mul_eq_mul_right h0 h1).symm
end Go.GV

/- The plain law of the sum of 32 bits: what is turned within 32 bits in a row is seen. -/
namespace Go.Proofs.YtbkadlngijkmmaaGreatDoor

def polyW : BitVec 32 := 0xedb88320#32
def stepW (w : BitVec 32) : BitVec 32 := (w >>> 1) ^^^ (if w.getLsbD 0 then polyW else 0#32)
def unstepW (x : BitVec 32) : BitVec 32 := if x.getLsbD 31 then ((x ^^^ polyW) <<< 1) ||| 1#32 else x <<< 1
def stepsW : Nat → BitVec 32 → BitVec 32
  | 0, w => w
  | n + 1, w => stepsW n (stepW w)
def unstepsW : Nat → BitVec 32 → BitVec 32
  | 0, w => w
  | n + 1, w => unstepW (unstepsW n w)
def byteW (c : UInt8) : BitVec 32 := BitVec.ofNat 32 c.toNat
def takeW (w : BitVec 32) (c : UInt8) : BitVec 32 := stepsW 8 (w ^^^ byteW c)
def moreW (s : BitVec 32) (l : List UInt8) : BitVec 32 := ~~~ (l.foldl takeW (~~~ s))
def sumW (l : List UInt8) : BitVec 32 := moreW 0#32 l

theorem step_xor (a b : BitVec 32) : stepW (a ^^^ b) = stepW a ^^^ stepW b := by
  unfold stepW
  rw [BitVec.getLsbD_xor, BitVec.ushiftRight_xor_distrib]
  cases a.getLsbD 0 <;> cases b.getLsbD 0 <;> simp only [Bool.xor_false, Bool.xor_true, Bool.not_true, Bool.not_false, if_true, Bool.false_eq_true, if_false, BitVec.xor_zero]
  · ac_rfl
  · ac_rfl
  · rw [show a >>> 1 ^^^ polyW ^^^ (b >>> 1 ^^^ polyW) = a >>> 1 ^^^ b >>> 1 ^^^ (polyW ^^^ polyW) by ac_rfl, BitVec.xor_self, BitVec.xor_zero]
theorem steps_xor : ∀ (n : Nat) (a b : BitVec 32), stepsW n (a ^^^ b) = stepsW n a ^^^ stepsW n b
  | 0, _, _ => rfl
  | n + 1, a, b => by simp only [stepsW]; rw [step_xor, steps_xor n]
theorem steps_add : ∀ (m n : Nat) (w : BitVec 32), stepsW n (stepsW m w) = stepsW (m + n) w
  | 0, n, w => by simp [stepsW]
  | m + 1, n, w => by rw [Nat.succ_add]; simp only [stepsW]; exact steps_add m n _
theorem byte_zero : byteW 0 = 0#32 := rfl
def xorL : List UInt8 → List UInt8 → List UInt8
  | a :: l, b :: m => (a ^^^ b) :: xorL l m
  | _, _ => []
theorem take_zero (w : BitVec 32) : takeW w 0 = stepsW 8 w := by rw [takeW, byte_zero, BitVec.xor_zero]
theorem steps_low : ∀ (n : Nat) (w : BitVec 32), (∀ i, i < n → w.getLsbD i = false) → stepsW n w = w >>> n
  | 0, w, _ => by simp [stepsW]
  | n + 1, w, h => by
    have h0 : stepW w = w >>> 1 := by
      unfold stepW; rw [h 0 (by omega)]; simp
    simp only [stepsW]
    rw [h0, steps_low n (w >>> 1) (fun i hi => by rw [BitVec.getLsbD_ushiftRight]; exact h _ (by omega)), ← BitVec.shiftRight_add, Nat.add_comm 1 n]
theorem byte_up (c : UInt8) (n : Nat) (hn : n ≤ 24) : stepsW n (byteW c <<< n) = byteW c := by
  rw [steps_low n _ (fun i hi => by simp [BitVec.getLsbD_shiftLeft, hi])]
  have hc : c.toNat < 256 := c.toNat_lt
  apply BitVec.eq_of_toNat_eq
  unfold byteW
  rw [BitVec.toNat_ushiftRight, BitVec.toNat_shiftLeft, BitVec.toNat_ofNat, Nat.mod_eq_of_lt (by omega : c.toNat < 2 ^ 32), Nat.shiftLeft_eq]
  have h1 : c.toNat * 2 ^ n < 2 ^ 32 := by
    have h2 : 2 ^ n ≤ 2 ^ 24 := Nat.pow_le_pow_right (by omega) hn
    calc c.toNat * 2 ^ n ≤ 255 * 2 ^ 24 := Nat.mul_le_mul (by omega) h2
      _ < 2 ^ 32 := by decide
  rw [Nat.mod_eq_of_lt h1, Nat.shiftRight_eq_div_pow, Nat.mul_div_cancel _ (Nat.two_pow_pos n)]

/-- A word's four bytes. -/
def wordW (a b c d : UInt8) : BitVec 32 := byteW a ^^^ (byteW b <<< 8) ^^^ (byteW c <<< 16) ^^^ (byteW d <<< 24)
theorem four (w : BitVec 32) (a b c d : UInt8) : [a, b, c, d].foldl takeW w = stepsW 32 (w ^^^ wordW a b c d) := by
  have ha : stepsW 32 (byteW a) = stepsW 32 (byteW a) := rfl
  have hb : stepsW 24 (byteW b) = stepsW 32 (byteW b <<< 8) := by
    rw [← steps_add 8 24, byte_up b 8 (by omega)]
  have hc : stepsW 16 (byteW c) = stepsW 32 (byteW c <<< 16) := by
    rw [← steps_add 16 16, byte_up c 16 (by omega)]
  have hd : stepsW 8 (byteW d) = stepsW 32 (byteW d <<< 24) := by
    rw [← steps_add 24 8, byte_up d 24 (by omega)]
  simp only [List.foldl_cons, List.foldl_nil, takeW, steps_xor, steps_add]
  rw [hb, hc, hd, show 8 + (8 + (8 + 8)) = 32 from rfl]
  simp only [wordW, steps_xor]
  ac_rfl
def burstB (o v : Nat) : Bool := (unstepsW 32 (BitVec.ofNat 32 v)).toNat % 2 ^ o == 0
end Go.Proofs.YtbkadlngijkmmaaGreatDoor

/- Maps whose keys are integers, as association lists. It holds for every program. -/
namespace Go.GV
open Go

/-- The entries in their order. -/
def mget {α : Type} (m : List (Int × α)) (k : Int) : Option α := (m.find? fun p => p.1 == k).map (·.2)
def mset {α : Type} : List (Int × α) → Int → α → List (Int × α)
  | [], k, v => [(k, v)]
  | p :: m, k, v => if p.1 = k then (k, v) :: m else p :: mset m k v
def mdel {α : Type} : List (Int × α) → Int → List (Int × α)
  | [], _ => []
  | p :: m, k => if p.1 = k then m else p :: mdel m k

theorem mget_nil {α : Type} (k : Int) : mget ([] : List (Int × α)) k = none := rfl
theorem mget_mset {α : Type} (m : List (Int × α)) (k : Int) (v : α) (k' : Int) : mget (mset m k v) k' = if k' = k then some v else mget m k' := by
  induction m with
  | nil =>
    unfold mset mget
    by_cases h : k' = k
    · subst h; simp
    · simp [h, Ne.symm h]
  | cons p m ih =>
    unfold mset
    by_cases hp : p.1 = k
    · rw [if_pos hp]
      unfold mget
      by_cases h : k' = k
      · subst h; simp
      · have h1 : (k == k') = false := by simpa using Ne.symm h
        have h2 : (p.1 == k') = false := by rw [hp]; exact h1
        simp [h1, h2, h]
    · rw [if_neg hp]
      unfold mget at ih ⊢
      by_cases h : p.1 = k'
      · have h2 : ¬ k' = k := fun e => hp (h.trans e)
        simp [h, h2]
      · have h1 : (p.1 == k') = false := by simpa using h
        simp only [List.find?_cons, h1]
        exact ih
theorem mset_keys {α : Type} (m : List (Int × α)) (k : Int) (v : α) : ∀ x, x ∈ (mset m k v).map (·.1) ↔ x = k ∨ x ∈ m.map (·.1) := by
  induction m with
  | nil => intro x; simp [mset]
  | cons p m ih =>
    intro x
    unfold mset
    by_cases hp : p.1 = k
    · rw [if_pos hp]; simp [hp]
    · rw [if_neg hp]
      simp only [List.map_cons, List.mem_cons, ih]
      constructor
      · rintro (h | h | h)
        · exact .inr (.inl h)
        · exact .inl h
        · exact .inr (.inr h)
      · rintro (h | h | h)
        · exact .inr (.inl h)
        · exact .inl h
        · exact .inr (.inr h)

/-- The object is a map that reads as m. -/
def MapO (kk : IntKind) (m : List (Int × Value)) (o : Obj) : Prop :=
  ∃ es clock, o = .map es clock ∧ es.toList.map (fun e => (e.key, e.val)) = m.map (fun p => (Value.int kk p.1, p.2)) ∧ (∀ e ∈ es.toList, e.born < clock) ∧ (es.toList.map (·.born)).Nodup

theorem findNow_at (kk : IntKind) (n : Int) : ∀ (es : List MapEntry) (m : List (Int × Value)) (i : Nat), es.map (fun e => (e.key, e.val)) = m.map (fun p => (Value.int kk p.1, p.2)) →
    (mget m n = none → Instr.findNow (.int kk) (.int kk n) es i = some none) ∧
    (∀ v, mget m n = some v → ∃ j, Instr.findNow (.int kk) (.int kk n) es i = some (some (i + j, v)) ∧ j < es.length ∧ ∀ (v' : Value), (es.modify j fun e => { e with key := .int kk n, val := v' }).map (fun e => (e.key, e.val)) = (mset m n v').map (fun p => (Value.int kk p.1, p.2)) ∧ ((es[j]?).map (·.key)) = some (.int kk n) ∧
      (es.eraseIdx j).map (fun e => (e.key, e.val)) = (mdel m n).map (fun p => (Value.int kk p.1, p.2)))
  | [], m, i, h => by
    cases m with
    | nil => exact ⟨fun _ => rfl, fun v hv => by cases hv⟩
    | cons p m => cases h
  | e :: es, m, i, h => by
    cases m with
    | nil => cases h
    | cons p m =>
      simp only [List.map_cons, List.cons.injEq, Prod.mk.injEq] at h
      obtain ⟨⟨hk, hv⟩, ht⟩ := h
      have ih := findNow_at kk n es m (i + 1) ht
      have hs : Instr.sameNow (.int kk) (.int kk n) e.key = some (n == p.1) := by rw [hk]; simp [Instr.sameNow]
      by_cases hn : p.1 = n
      · have hb : (n == p.1) = true := by simp [hn]
        have hg : mget (p :: m) n = some p.2 := by simp [mget, hn]
        refine ⟨(fun h => by rw [hg] at h; cases h), fun v hv' => ?_⟩
        rw [hg] at hv'
        injection hv' with hv'
        subst hv'
        refine ⟨0, by simp [Instr.findNow, hs, hb, hv], by simp, fun v' => ⟨?_, by simp [hk, hn], ?_⟩⟩
        · simp [mset, hn, ht, List.modify]
        · simp [mdel, hn, ht]
      · have hb : (n == p.1) = false := by simpa using Ne.symm hn
        have hb2 : (p.1 == n) = false := by simpa using hn
        have hg : mget (p :: m) n = mget m n := by simp [mget, hb2]
        rw [hg]
        refine ⟨fun h => by simp [Instr.findNow, hs, hb, ih.1 h], fun v hv' => ?_⟩
        obtain ⟨j, h1, h2, h3⟩ := ih.2 v hv'
        refine ⟨j + 1, by simp [Instr.findNow, hs, hb, h1]; omega, by simp; omega, fun v' => ?_⟩
        obtain ⟨a1, a2, a3⟩ := h3 v'
        refine ⟨?_, by simpa using a2, ?_⟩
        · simp only [List.modify_succ_cons, List.map_cons, mset, if_neg hn, a1, hk, hv]
        · simp only [List.eraseIdx_cons_succ, List.map_cons, mdel, if_neg hn, a3, hk, hv]

def mapT (P : Program) (t : TypeId) : Option (TypeId × TypeId) := match P.underlying t with | some (.map k e) => some (k, e) | _ => none
theorem mapT_u {P : Program} {t k e : TypeId} (h : mapT P t = some (k, e)) : P.underlying t = some (.map k e) := by
  unfold mapT at h
  split at h
  · rename_i hu; injection h with h; cases h; exact hu
  · cases h

section
variable {P : Program} {r : Option Nat} {ops rest : List Oper} {Q : Exit → Env → World → Prop} {e : Env} {w w0 : World} {S : List Nat} {L : List (Nat × Obj)}
  {dst : Option Tmp} {ty : TypeId} {pos : String} {af : Array Edge} {g : Option (Nat × Bool)}

theorem run_checkKey {b : Bool} {k : TypeId} {kk : IntKind} (hk : P.underlying k = some (.int kk)) (v : Value) (w : World) (d : Nat) : (Instr.checkKey b (d + 1) k v).run P w = .ok () w := by
  simp [Instr.checkKey, run_under hk]

theorem op_makeMap {t : TypeId} (kk : IntKind) (hg : wants ⟨dst, .makeMap t none, ty, pos, af, g⟩ ops e = true) (H : Ctx w0 S w L)
    (h : ∀ b o w', MapO kk [] o → Ctx w0 S w' ((b, o) :: L) → Wops P r ops Q rest (put e dst (.map (some b))) w') :
    Wops P r ops Q (⟨dst, .makeMap t none, ty, pos, af, g⟩ :: rest) e w := by
  refine op_val (w' := w.alloc (.map #[] 0)) (v := .map (some w.heap.size)) hg rfl ?_ (h _ _ _ ⟨#[], 0, rfl, rfl, by simp, by simp⟩ (H.alloc _))
  simp [execOp, Instr.makeMap, newObj, Sem.run]

theorem op_lookup {t k el : TypeId} {kk : IntKind} {x y : Operand} {b j : Nat} {o : Obj} {m : List (Int × Value)} {n : Int} {z : Value} (hg : wants ⟨dst, .lookup t x y false, ty, pos, af, g⟩ ops e = true)
    (ht : mapT P t = some (k, el)) (hk : P.underlying k = some (.int kk)) (hz : (P.info? el).bind (·.zero) = some z) (hx : ev e x = .map (some b)) (hy : ev e y = .int kk n) (H : Ctx w0 S w L) (hl : L[j]? = some (b, o)) (hM : MapO kk m o)
    (h : Wops P r ops Q rest (put e dst ((mget m n).getD z)) w) : Wops P r ops Q (⟨dst, .lookup t x y false, ty, pos, af, g⟩ :: rest) e w := by
  obtain ⟨es, clock, rfl, hes, _⟩ := hM
  have hb := H.get hl
  have hf := findNow_at kk n es.toList m 0 hes
  have hgo : (getObj b).run P w = .ok (.map es clock) w := by simp [getObj, Sem.run, hb]
  have hzr : (zeroValue el).run P w = .ok z w := by
    cases hi : P.info? el with
    | none => rw [hi] at hz; cases hz
    | some i => rw [hi] at hz; simp at hz; simp [zeroValue, typeInfo, program, Sem.run, hi, hz]
  refine op_val hg rfl ?_ h
  cases hm : mget m n with
  | none => simp [execOp, Instr.lookup, run_under (mapT_u ht), hx, hy, hgo, run_checkKey hk, Instr.findKey, run_under hk, hf.1 hm, hzr]
  | some v =>
    obtain ⟨i, hi, _⟩ := hf.2 v hm
    simp [execOp, Instr.lookup, run_under (mapT_u ht), hx, hy, hgo, run_checkKey hk, Instr.findKey, run_under hk, hi]

theorem run_mapUpdate {t k el : TypeId} {kk : IntKind} {b j : Nat} {o : Obj} {m : List (Int × Value)} {n : Int} (v : Value) (ht : mapT P t = some (k, el)) (hk : P.underlying k = some (.int kk)) (H : Ctx w0 S w L) (hl : L[j]? = some (b, o)) (hM : MapO kk m o) :
    ∃ o' w', (Instr.mapUpdate t (.map (some b)) (.int kk n) v).run P w = .ok () w' ∧ MapO kk (mset m n v) o' ∧ Ctx w0 S w' (L.set j (b, o')) := by
  obtain ⟨es, clock, rfl, hes, hbn, hnd⟩ := hM
  have hb := H.get hl
  have hf := findNow_at kk n es.toList m 0 hes
  have hgo : (getObj b).run P w = .ok (.map es clock) w := by simp [getObj, Sem.run, hb]
  have hso : ∀ o', (setObj b o').run P w = .ok () (w.putObj b o') := fun o' => by simp [setObj, Sem.run, hb, World.putObj]
  cases hm : mget m n with
  | none =>
    refine ⟨.map (es.push { key := .int kk n, val := v, born := clock }) (clock + 1), w.putObj b _, ?_, ⟨_, _, rfl, ?_, ?_, ?_⟩, H.setB hl _⟩
    · simp [Instr.mapUpdate, run_under (mapT_u ht), hgo, run_checkKey hk, Instr.findKey, run_under hk, hf.1 hm, hso]
    · have hms : mset m n v = m ++ [(n, v)] := by
        clear hes hf
        induction m with
        | nil => rfl
        | cons p m ih =>
          have hp : ¬ p.1 = n := by
            intro hp
            simp [mget, hp] at hm
          have hb2 : (p.1 == n) = false := by simpa using hp
          have hm2 : mget m n = none := by rw [← hm]; simp [mget, hb2]
          simp [mset, hp, ih hm2]
      rw [hms]
      simp [hes]
    · intro x hx
      simp only [Array.toList_push, List.mem_append, List.mem_singleton] at hx
      rcases hx with hx | rfl
      · have := hbn x hx; omega
      · simp
    · simp only [Array.toList_push, List.map_append, List.map_cons, List.map_nil]
      rw [List.nodup_append]
      refine ⟨hnd, by simp, ?_⟩
      intro x hx y hy
      simp only [List.mem_singleton] at hy
      subst hy
      rw [List.mem_map] at hx
      obtain ⟨e', he', rfl⟩ := hx
      have := hbn e' he'
      omega
  | some v0 =>
    obtain ⟨i, hi, hil, h3⟩ := hf.2 v0 hm
    obtain ⟨a1, a2, _⟩ := h3 v
    have hkts : (Instr.keyThatStays (.int kk n) (.int kk n)).run P w = .ok (.int kk n) w := by simp [Instr.keyThatStays, Instr.sameBits]
    have hold : ((es[i]?).map (·.key)).getD (.int kk n) = .int kk n := by
      have : es[i]? = es.toList[i]? := by rw [Array.getElem?_toList]
      rw [this, a2]; rfl
    refine ⟨.map (es.modify i fun e => { e with key := .int kk n, val := v }) clock, w.putObj b _, ?_, ⟨_, _, rfl, ?_, ?_, ?_⟩, H.setB hl _⟩
    · simp [Instr.mapUpdate, run_under (mapT_u ht), hgo, run_checkKey hk, Instr.findKey, run_under hk, hi, hold, hkts, hso]
    · rw [Array.toList_modify]; exact a1
    · intro x hx
      rw [Array.toList_modify, List.mem_iff_getElem?] at hx
      obtain ⟨q, hq⟩ := hx
      rw [List.getElem?_modify] at hq
      cases hq2 : es.toList[q]? with
      | none => rw [hq2] at hq; simp at hq
      | some y =>
        rw [hq2] at hq
        have hy := hbn y (List.mem_of_getElem? hq2)
        injection hq with hq
        subst hq
        dsimp only
        split <;> exact hy
    · rw [Array.toList_modify]
      have : (es.toList.modify i fun e => { e with key := .int kk n, val := v }).map (·.born) = es.toList.map (·.born) := by
        apply List.ext_getElem?
        intro q
        rw [List.getElem?_map, List.getElem?_map, List.getElem?_modify]
        cases es.toList[q]? with
        | none => rfl
        | some y => show some (Value.map none, (if i = q then _ else y).born).2 = some y.born; split <;> rfl
      rw [this]; exact hnd

theorem op_mapUpdate {t k el : TypeId} {kk : IntKind} {x y z : Operand} {b j : Nat} {o : Obj} {m : List (Int × Value)} {n : Int} (v : Value) (hg : wants ⟨dst, .mapUpdate t x y z, ty, pos, af, g⟩ ops e = true)
    (ht : mapT P t = some (k, el)) (hk : P.underlying k = some (.int kk)) (hx : ev e x = .map (some b)) (hy : ev e y = .int kk n) (hv : ev e z = v) (H : Ctx w0 S w L) (hl : L[j]? = some (b, o)) (hM : MapO kk m o)
    (h : ∀ o' w', MapO kk (mset m n v) o' → Ctx w0 S w' (L.set j (b, o')) → Wops P r ops Q rest (put e dst undef) w') : Wops P r ops Q (⟨dst, .mapUpdate t x y z, ty, pos, af, g⟩ :: rest) e w := by
  obtain ⟨o', w', hr, hM', H'⟩ := run_mapUpdate (n := n) v ht hk H hl hM
  exact op_unit hg rfl (by simp [execOp, hx, hy, hv, hr]) (h o' w' hM' H')
end
section
variable {P : Program} {r : Option Nat} {n : Nat} {Q : Exit → Env → World → Prop} {e : Env} {w : World}
/-- A test of a slot that is tested again further on. -/
theorem W_csplit {x y : Code} (d : Tmp) {b : Bool} (hd : e.g d = .bool b) (h1 : b = true → W P r n x Q (put e (some d) (.bool true)) w) (h2 : b = false → W P r n y Q (put e (some d) (.bool false)) w) :
    W P r n (.cond (.tmp d) x y) Q e w := by
  refine W_cond b hd (fun h => ?_) (fun h => ?_)
  · have h3 := h1 h; rw [put_same_val (by rw [hd, h])] at h3; exact h3
  · have h3 := h2 h; rw [put_same_val (by rw [hd, h])] at h3; exact h3
end
end Go.GV

/- Joins and slices that are built of more than one part. It holds for every program. -/
namespace Go.GV
open Go

def placesB (P : Program) (t : TypeId) : Option (List (Nat × Nat)) :=
  match P.underlying t with
  | some (.struct fs) => fs.toList.mapM (fun f => (P.info? f.type).map fun i => (f.offset, i.size))
  | _ => none

section
variable {P : Program} {r : Option Nat} {ops rest : List Oper} {Q : Exit → Env → World → Prop} {e : Env} {w w0 : World} {S : List Nat} {L : List (Nat × Obj)}
  {dst : Option Tmp} {ty : TypeId} {pos : String} {af : Array Edge} {g : Option (Nat × Bool)}

theorem built_of {t : TypeId} {pl : List (Nat × Nat)} {zl : List Value} {ps : List (Nat × Value)} {l : Array Value} (hp : placesB P t = some pl) (hz : zcells P t = some zl)
    (hl : Instr.fill (fun i => pl.toArray[i]?) zl.toArray ps = some l) : P.built t ps = some l := by
  unfold placesB at hp
  unfold zcells at hz
  unfold Program.built
  cases hu : P.underlying t with
  | none => rw [hu] at hp; cases hp
  | some d =>
    rw [hu] at hp
    cases hi : P.info? t with
    | none => rw [hi] at hz; cases hz
    | some it =>
      rw [hi] at hz
      cases hzz : it.zero with
      | none => simp [hzz] at hz
      | some z =>
        simp only [Option.bind_some, hzz, Option.map_some, Option.some.injEq] at hz
        subst hz
        cases d <;> first | (cases hp; done) | skip
        rename_i fields
        have hp' : fields.toList.mapM (fun f => (P.info? f.type).map fun i => (f.offset, i.size)) = some pl := hp
        simp only [hzz, hp']
        simpa using hl

theorem op_buildS {t : TypeId} {parts : Array (Nat × Operand)} {pl : List (Nat × Nat)} {zl : List Value} (l : List Value) (hg : wants ⟨dst, .build t parts, ty, pos, af, g⟩ ops e = true) (hp : placesB P t = some pl) (hz : zcells P t = some zl)
    (hl : Instr.fill (fun i => pl.toArray[i]?) zl.toArray (parts.toList.map fun p => (p.1, ev e p.2)) = some l.toArray) (h : Wops P r ops Q rest (put e dst (.agg l.toArray)) w) :
    Wops P r ops Q (⟨dst, .build t parts, ty, pos, af, g⟩ :: rest) e w := by
  refine op_val hg rfl ?_ h
  have hb : P.built t (parts.map fun (i, x) => (i, ev e x)).toList = some l.toArray := built_of hp hz (by rw [Array.toList_map]; exact hl)
  simp [execOp, run_build w t _ _ hb]

theorem op_buildL {t el : TypeId} {n : Nat} {parts : Array (Nat × Operand)} {s : Nat} {zl : List Value} (l : List Value) (hg : wants ⟨dst, .buildSlice t n parts, ty, pos, af, g⟩ ops e = true)
    (hu : elemT P t = some el) (hs : tsize P el = some s) (hz : zcells P el = some zl) (hn : ¬ n * s = 0) (hbig : ¬ 16777216 < n * s)
    (hl : Instr.fill (fun i => some (i * s, s)) ((Array.range (n * s)).map fun k => zl.toArray[k % zl.toArray.size]!) (parts.toList.map fun p => (p.1, ev e p.2)) = some l.toArray) (H : Ctx w0 S w L)
    (h : ∀ b w', w.heap.size = b → Ctx w0 S w' ((b, Bl el l) :: L) → Wops P r ops Q rest (put e dst (.slice (some ⟨b, 0, none⟩) n n)) w') :
    Wops P r ops Q (⟨dst, .buildSlice t n parts, ty, pos, af, g⟩ :: rest) e w := by
  obtain ⟨z, hz1, hz2⟩ := run_zero hz w
  have hzc : z.cells = zl.toArray := by apply Array.ext'; rw [hz2]
  refine op_val (w' := w.alloc (Bl el l)) (v := .slice (some ⟨w.heap.size, 0, none⟩) n n) hg rfl ?_ (h _ _ rfl (H.alloc _))
  have hf : Instr.fill (fun i => some (i * s, s)) ((Array.range (n * s)).map fun k => zl.toArray[k % zl.toArray.size]!) (parts.map fun (i, x) => (i, ev e x)).toList = some l.toArray := by rw [Array.toList_map]; exact hl
  simp only [execOp, Instr.buildSlice, Sem.run_bind, run_under (elemT_u hu), run_size hs, Result.andThen_ok, if_neg hbig, if_neg hn, hz1, Sem.run_pure, hzc]
  rw [hf]
  simp [newRow, newObj, Sem.run]
  rfl

end
end Go.GV

/- Rules for unsigned numbers that are written as naturals: bits, shifts, sums that wrap, conversions; rules for strings; printed by mkbits.py. They hold for every program. -/
namespace Go.GV
open Go

theorem wrap_nat {k : IntKind} (hk : k.signed = false) (a : Nat) : k.wrap (a : Int) = ((a % 2 ^ k.bits : Nat) : Int) := by
  unfold IntKind.wrap
  rw [hk]
  simp
theorem ofInt_nat (n a : Nat) : BitVec.ofInt n (a : Int) = BitVec.ofNat n a := by
  apply BitVec.eq_of_toNat_eq
  rw [BitVec.toNat_ofInt, BitVec.toNat_ofNat]
  norm_cast
theorem bits_and {k : IntKind} (hk : k.signed = false) {a b : Nat} (ha : a < 2 ^ k.bits) (hb : b < 2 ^ k.bits) : Op.intBits .and k a b = pure (.int k ((a &&& b : Nat) : Int)) := by
  have hx : a &&& b < 2 ^ k.bits := Nat.lt_of_le_of_lt Nat.and_le_left ha
  simp only [Op.intBits, ofInt_nat]
  rw [wrap_nat hk, BitVec.toNat_and, BitVec.toNat_ofNat, BitVec.toNat_ofNat, Nat.mod_eq_of_lt ha, Nat.mod_eq_of_lt hb, Nat.mod_eq_of_lt hx]
theorem bits_or {k : IntKind} (hk : k.signed = false) {a b : Nat} (ha : a < 2 ^ k.bits) (hb : b < 2 ^ k.bits) : Op.intBits .or k a b = pure (.int k ((a ||| b : Nat) : Int)) := by
  have hx : a ||| b < 2 ^ k.bits := Nat.or_lt_two_pow ha hb
  simp only [Op.intBits, ofInt_nat]
  rw [wrap_nat hk, BitVec.toNat_or, BitVec.toNat_ofNat, BitVec.toNat_ofNat, Nat.mod_eq_of_lt ha, Nat.mod_eq_of_lt hb, Nat.mod_eq_of_lt hx]
theorem bits_xor {k : IntKind} (hk : k.signed = false) {a b : Nat} (ha : a < 2 ^ k.bits) (hb : b < 2 ^ k.bits) : Op.intBits .xor k a b = pure (.int k ((a ^^^ b : Nat) : Int)) := by
  have hx : a ^^^ b < 2 ^ k.bits := Nat.xor_lt_two_pow ha hb
  simp only [Op.intBits, ofInt_nat]
  rw [wrap_nat hk, BitVec.toNat_xor, BitVec.toNat_ofNat, BitVec.toNat_ofNat, Nat.mod_eq_of_lt ha, Nat.mod_eq_of_lt hb, Nat.mod_eq_of_lt hx]
theorem run_shr {k k2 : IntKind} {a n : Nat} (hn : n ≤ k.bits) : Op.shift .shr k (a : Int) k2 (n : Int) = pure (.int k ((a / 2 ^ n : Nat) : Int)) := by
  unfold Op.shift
  rw [if_neg (by omega)]
  have hm : min ((n : Int)).toNat k.bits = n := by rw [Int.toNat_natCast]; exact Nat.min_eq_left hn
  simp only [hm]
  congr 2
  have : ((2 : Int) ^ n) = ((2 ^ n : Nat) : Int) := by norm_cast
  rw [this, Int.fdiv_eq_ediv_of_nonneg _ (Int.natCast_nonneg _)]
  norm_cast
theorem run_shl {k k2 : IntKind} (hk : k.signed = false) {a n : Nat} (hn : n ≤ k.bits) : Op.shift .shl k (a : Int) k2 (n : Int) = pure (.int k ((a * 2 ^ n % 2 ^ k.bits : Nat) : Int)) := by
  unfold Op.shift
  rw [if_neg (by omega)]
  have hm : min ((n : Int)).toNat k.bits = n := by rw [Int.toNat_natCast]; exact Nat.min_eq_left hn
  simp only [hm]
  congr 2
  have : (a : Int) * (2 : Int) ^ n = ((a * 2 ^ n : Nat) : Int) := by norm_cast
  rw [this, wrap_nat hk]
theorem run_mulw {P : Program} {k : IntKind} (hk : k.signed = false) (t : TypeId) (a b : Nat) (w : World) : (binOp .mul t (.int k (a : Int)) (.int k (b : Int))).run P w = .ok (.int k (((a * b) % 2 ^ k.bits : Nat) : Int)) w := by
  have h1 : (a : Int) * (b : Int) = ((a * b : Nat) : Int) := by norm_cast
  simp only [binOp, ne_eq, not_true_eq_false, if_false, Op.intArith, h1, wrap_nat hk]; rfl

section
variable {P : Program} {r : Option Nat} {ops rest : List Oper} {Q : Exit → Env → World → Prop} {e : Env} {w w0 : World} {S : List Nat} {L : List (Nat × Obj)}
  {dst : Option Tmp} {ty : TypeId} {pos : String} {af : Array Edge} {g : Option (Nat × Bool)} {C : World → Prop} {K : Env → Prop} {t t2 : TypeId} {x y : Operand} {a b n : Nat} {s d : TypeId}
theorem run_comw {k : IntKind} (hk : k.signed = false) (hx : ev e x = .int k a) (ha : a < 2 ^ k.bits) :
    (execOp (ev e) ⟨dst, .unOp .xor t x, ty, pos, af, g⟩).run P w = .ok (.value (.int k (((2 ^ k.bits - 1) ^^^ a : Nat) : Int))) w := by
  have hp := Nat.two_pow_pos k.bits
  have h1 := bits_xor hk (a := 2 ^ k.bits - 1) (b := a) (by omega) ha
  have h2 : (if k.signed then (-1 : Int) else k.max) = ((2 ^ k.bits - 1 : Nat) : Int) := by
    rw [hk]
    simp only [Bool.false_eq_true, if_false, IntKind.max, hk]
    rw [Int.natCast_sub hp]
    norm_cast
  simp [execOp, hx, Op.unary, h2, h1]
theorem run_convn {k k1 : IntKind} {ds : TypeDesc} (hk : k.signed = false) (hx : ev e x = .int k1 a) (hs : P.underlying s = some ds) (hd : P.underlying d = some (.int k)) :
    (execOp (ev e) ⟨dst, .convert s d x, ty, pos, af, g⟩).run P w = .ok (.value (.int k ((a % 2 ^ k.bits : Nat) : Int))) w := by
  simp [execOp, hx, convert, run_under hs, run_under hd, Conv.intToInt, wrap_nat hk]
theorem op_convn_u8 (hg : wants ⟨dst, .convert s d x, ty, pos, af, g⟩ ops e = true) {k1 : IntKind} {ds : TypeDesc} (hx : ev e x = .int k1 a) (hs : P.underlying s = some ds) (hd : P.underlying d = some (.int .u8))
    (h : Wops P r ops Q rest (put e dst (.int .u8 ((a % 256 : Nat) : Int))) w) : Wops P r ops Q (⟨dst, .convert s d x, ty, pos, af, g⟩ :: rest) e w :=
  op_val hg rfl (run_convn (k := .u8) rfl hx hs hd) h
theorem op_and_u32 (hg : wants ⟨dst, .binOp .and t x y t2, ty, pos, af, g⟩ ops e = true) (hx : ev e x = .int .u32 a) (hy : ev e y = .int .u32 b) (ha : a < 4294967296) (hb : b < 4294967296)
    (h : Wops P r ops Q rest (put e dst (.int .u32 ((a &&& b : Nat) : Int))) w) : Wops P r ops Q (⟨dst, .binOp .and t x y t2, ty, pos, af, g⟩ :: rest) e w :=
  op_val hg rfl (run_bin hx hy (by show (Op.intBits .and .u32 (a : Int) (b : Int)).run P w = _; rw [bits_and rfl (by exact ha) (by exact hb)]; rfl)) h
theorem op_or_u32 (hg : wants ⟨dst, .binOp .or t x y t2, ty, pos, af, g⟩ ops e = true) (hx : ev e x = .int .u32 a) (hy : ev e y = .int .u32 b) (ha : a < 4294967296) (hb : b < 4294967296)
    (h : Wops P r ops Q rest (put e dst (.int .u32 ((a ||| b : Nat) : Int))) w) : Wops P r ops Q (⟨dst, .binOp .or t x y t2, ty, pos, af, g⟩ :: rest) e w :=
  op_val hg rfl (run_bin hx hy (by show (Op.intBits .or .u32 (a : Int) (b : Int)).run P w = _; rw [bits_or rfl (by exact ha) (by exact hb)]; rfl)) h
theorem op_xor_u32 (hg : wants ⟨dst, .binOp .xor t x y t2, ty, pos, af, g⟩ ops e = true) (hx : ev e x = .int .u32 a) (hy : ev e y = .int .u32 b) (ha : a < 4294967296) (hb : b < 4294967296)
    (h : Wops P r ops Q rest (put e dst (.int .u32 ((a ^^^ b : Nat) : Int))) w) : Wops P r ops Q (⟨dst, .binOp .xor t x y t2, ty, pos, af, g⟩ :: rest) e w :=
  op_val hg rfl (run_bin hx hy (by show (Op.intBits .xor .u32 (a : Int) (b : Int)).run P w = _; rw [bits_xor rfl (by exact ha) (by exact hb)]; rfl)) h
theorem op_shr_u32 (hg : wants ⟨dst, .binOp .shr t x y t2, ty, pos, af, g⟩ ops e = true) {k2 : IntKind} (hx : ev e x = .int .u32 a) (hy : ev e y = .int k2 n) (hn : n ≤ 32)
    (h : Wops P r ops Q rest (put e dst (.int .u32 ((a / 2 ^ n : Nat) : Int))) w) : Wops P r ops Q (⟨dst, .binOp .shr t x y t2, ty, pos, af, g⟩ :: rest) e w :=
  op_val hg rfl (run_bin hx hy (by show (Op.shift .shr .u32 (a : Int) k2 (n : Int)).run P w = _; rw [run_shr (by exact hn)]; rfl)) h
theorem op_shl_u32 (hg : wants ⟨dst, .binOp .shl t x y t2, ty, pos, af, g⟩ ops e = true) {k2 : IntKind} (hx : ev e x = .int .u32 a) (hy : ev e y = .int k2 n) (hn : n ≤ 32)
    (h : Wops P r ops Q rest (put e dst (.int .u32 ((a * 2 ^ n % 4294967296 : Nat) : Int))) w) : Wops P r ops Q (⟨dst, .binOp .shl t x y t2, ty, pos, af, g⟩ :: rest) e w :=
  op_val hg rfl (run_bin hx hy (by show (Op.shift .shl .u32 (a : Int) k2 (n : Int)).run P w = _; rw [run_shl rfl (by exact hn)]; rfl)) h
theorem op_mulw_u32 (hg : wants ⟨dst, .binOp .mul t x y t2, ty, pos, af, g⟩ ops e = true) (hx : ev e x = .int .u32 a) (hy : ev e y = .int .u32 b)
    (h : Wops P r ops Q rest (put e dst (.int .u32 (((a * b) % 4294967296 : Nat) : Int))) w) : Wops P r ops Q (⟨dst, .binOp .mul t x y t2, ty, pos, af, g⟩ :: rest) e w :=
  op_val hg rfl (run_bin hx hy (run_mulw (k := .u32) rfl t a b _)) h
theorem op_com_u32 (hg : wants ⟨dst, .unOp .xor t x, ty, pos, af, g⟩ ops e = true) (hx : ev e x = .int .u32 a) (ha : a < 4294967296)
    (h : Wops P r ops Q rest (put e dst (.int .u32 ((4294967295 ^^^ a : Nat) : Int))) w) : Wops P r ops Q (⟨dst, .unOp .xor t x, ty, pos, af, g⟩ :: rest) e w :=
  op_val hg rfl (run_comw (k := .u32) rfl hx (by exact ha)) h
theorem op_or_u64 (hg : wants ⟨dst, .binOp .or t x y t2, ty, pos, af, g⟩ ops e = true) (hx : ev e x = .int .u64 a) (hy : ev e y = .int .u64 b) (ha : a < 18446744073709551616) (hb : b < 18446744073709551616)
    (h : Wops P r ops Q rest (put e dst (.int .u64 ((a ||| b : Nat) : Int))) w) : Wops P r ops Q (⟨dst, .binOp .or t x y t2, ty, pos, af, g⟩ :: rest) e w :=
  op_val hg rfl (run_bin hx hy (by show (Op.intBits .or .u64 (a : Int) (b : Int)).run P w = _; rw [bits_or rfl (by exact ha) (by exact hb)]; rfl)) h
theorem op_shr_u64 (hg : wants ⟨dst, .binOp .shr t x y t2, ty, pos, af, g⟩ ops e = true) {k2 : IntKind} (hx : ev e x = .int .u64 a) (hy : ev e y = .int k2 n) (hn : n ≤ 64)
    (h : Wops P r ops Q rest (put e dst (.int .u64 ((a / 2 ^ n : Nat) : Int))) w) : Wops P r ops Q (⟨dst, .binOp .shr t x y t2, ty, pos, af, g⟩ :: rest) e w :=
  op_val hg rfl (run_bin hx hy (by show (Op.shift .shr .u64 (a : Int) k2 (n : Int)).run P w = _; rw [run_shr (by exact hn)]; rfl)) h
theorem op_shl_u64 (hg : wants ⟨dst, .binOp .shl t x y t2, ty, pos, af, g⟩ ops e = true) {k2 : IntKind} (hx : ev e x = .int .u64 a) (hy : ev e y = .int k2 n) (hn : n ≤ 64)
    (h : Wops P r ops Q rest (put e dst (.int .u64 ((a * 2 ^ n % 18446744073709551616 : Nat) : Int))) w) : Wops P r ops Q (⟨dst, .binOp .shl t x y t2, ty, pos, af, g⟩ :: rest) e w :=
  op_val hg rfl (run_bin hx hy (by show (Op.shift .shl .u64 (a : Int) k2 (n : Int)).run P w = _; rw [run_shl rfl (by exact hn)]; rfl)) h
end
end Go.GV

/- The rules for operations that are carried out ahead within a region that draws its order; printed by mkmore.py. They hold for every program. -/
namespace Go.GV
open Go
section
variable {P : Program} {r : Option Nat} {ops rest : List Oper} {Q : Exit → Env → World → Prop} {e : Env} {w w0 : World} {S : List Nat} {L : List (Nat × Obj)}
  {dst : Option Tmp} {ty : TypeId} {pos : String} {af : Array Edge} {g : Option (Nat × Bool)} {C : World → Prop} {K : Env → Prop}

theorem t_val {o : Oper} {v : Value} (hg : wants o ops e = true) (hrun : ∀ w, lax o = true ∨ C w → (execOp (ev e) o).run P w = .ok (.value v) w) (h : Wt P ops C K rest (put e o.dst v)) : Wt P ops C K (o :: rest) e := by
  unfold Wt
  rw [if_pos hg]
  exact ⟨v, hrun, h⟩
theorem t_valC {o : Oper} {v : Value} (hl : lax o = false) (hg : wants o ops e = true) (hrun : ∀ w, C w → (execOp (ev e) o).run P w = .ok (.value v) w) (h : Wt P ops C K rest (put e o.dst v)) : Wt P ops C K (o :: rest) e :=
  t_val hg (fun w hw => hrun w (hw.resolve_left (by rw [hl]; simp))) h
theorem t_skip {o : Oper} (hg : wants o ops e = false) (h : Wt P ops C K rest (put e o.dst undef)) : Wt P ops C K (o :: rest) e := by
  unfold Wt
  rw [if_neg (by rw [hg]; simp)]
  exact h
theorem t_nil (h : K e) : Wt P ops C K [] e := h
theorem Wt_known {l : List Oper} (d : Tmp) {b : Bool} (c : Bool) (hd : e.g d = .bool b) (hb : b = c) (h : Wt P ops C K l (put e (some d) (.bool c))) : Wt P ops C K l e := by
  subst hb
  rw [put_same_val hd] at h
  exact h
theorem Wt_split {l : List Oper} (d : Tmp) {b : Bool} (hd : e.g d = .bool b) (h1 : b = true → Wt P ops C K l (put e (some d) (.bool true)))
    (h2 : b = false → Wt P ops C K l (put e (some d) (.bool false))) : Wt P ops C K l e := by
  cases b with
  | true => exact Wt_known d true hd rfl (h1 rfl)
  | false => exact Wt_known d false hd rfl (h2 rfl)
section
variable {t t2 : TypeId} {x y : Operand} {k : IntKind} {a b : Int}
theorem t_ld {t : TypeId} {x : Operand} {p : Addr} {v : Value} (hg : wants ⟨dst, .load t x, ty, pos, af, g⟩ ops e = true) (ha : aggB P t = some false) (hx : ev e x = .pointer (some p)) (hc : ∀ w, C w → w.cell? p = some v)
    (h : Wt P ops C K rest (put e dst v)) : Wt P ops C K (⟨dst, .load t x, ty, pos, af, g⟩ :: rest) e :=
  t_valC rfl hg (fun w hw => by simp [execOp, hx, Instr.loadAt, Instr.sureAddr, run_load1 ha (hc w hw)]) h
theorem t_ldb {t t2 : TypeId} {x : Operand} {b i k : Nat} {l : List Value} {v : Value} (hg : wants ⟨dst, .load t x, ty, pos, af, g⟩ ops e = true) (ha : aggB P t = some false) (hx : ev e x = .pointer (some ⟨b, i, none⟩))
    (H : ∀ w, C w → Ctx w0 S w L) (hk : L[k]? = some (b, Bl t2 l)) (hc : l[i]? = some v)
    (h : Wt P ops C K rest (put e dst v)) : Wt P ops C K (⟨dst, .load t x, ty, pos, af, g⟩ :: rest) e :=
  t_ld hg ha hx (fun w hw => by rw [cell_bl ((H w hw).get hk)]; exact hc) h
theorem t_ldN {t : TypeId} {x : Operand} {b o s : Nat} (l : List Value) (hg : wants ⟨dst, .load t x, ty, pos, af, g⟩ ops e = true) (ha : aggB P t = some true) (hs : tsize P t = some s) (hx : ev e x = .pointer (some ⟨b, o, none⟩))
    (hl : l.length = s) (hc : ∀ w, C w → ∀ j v, l[j]? = some v → w.cell? ⟨b, o + j, none⟩ = some v)
    (h : Wt P ops C K rest (put e dst (.agg l.toArray))) : Wt P ops C K (⟨dst, .load t x, ty, pos, af, g⟩ :: rest) e :=
  t_valC rfl hg (fun w hw => by simp [execOp, hx, Instr.loadAt, Instr.sureAddr, run_loadN ha hs hl (hc w hw)]) h
theorem t_ldbN {t t2 : TypeId} {x : Operand} {b s k : Nat} {l : List Value} (hg : wants ⟨dst, .load t x, ty, pos, af, g⟩ ops e = true) (ha : aggB P t = some true) (hs : tsize P t = some s) (hx : ev e x = .pointer (some ⟨b, 0, none⟩))
    (H : ∀ w, C w → Ctx w0 S w L) (hk : L[k]? = some (b, Bl t2 l)) (hl : l.length = s)
    (h : Wt P ops C K rest (put e dst (.agg l.toArray))) : Wt P ops C K (⟨dst, .load t x, ty, pos, af, g⟩ :: rest) e :=
  t_ldN l hg ha hs hx hl (fun w hw j v hv => by rw [cell_bl ((H w hw).get hk), Nat.zero_add]; exact hv) h
theorem t_gtr (hg : wants ⟨dst, .binOp .gtr t x y t2, ty, pos, af, g⟩ ops e = true) (hx : ev e x = .int k a) (hy : ev e y = .int k b) (h : Wt P ops C K rest (put e dst (.bool (decide (b < a))))) :
    Wt P ops C K (⟨dst, .binOp .gtr t x y t2, ty, pos, af, g⟩ :: rest) e := t_val hg (fun w _ => run_bin hx hy (by simp [binOp, Op.intCmp])) h
theorem t_geq (hg : wants ⟨dst, .binOp .geq t x y t2, ty, pos, af, g⟩ ops e = true) (hx : ev e x = .int k a) (hy : ev e y = .int k b) (h : Wt P ops C K rest (put e dst (.bool (decide (b ≤ a))))) :
    Wt P ops C K (⟨dst, .binOp .geq t x y t2, ty, pos, af, g⟩ :: rest) e := t_val hg (fun w _ => run_bin hx hy (by simp [binOp, Op.intCmp])) h
theorem t_eql (hg : wants ⟨dst, .binOp .eql t x y t2, ty, pos, af, g⟩ ops e = true) (hx : ev e x = .int k a) (hy : ev e y = .int k b) (h : Wt P ops C K rest (put e dst (.bool (decide (a = b))))) :
    Wt P ops C K (⟨dst, .binOp .eql t x y t2, ty, pos, af, g⟩ :: rest) e :=
  t_val hg (fun w _ => run_bin hx hy (v := .bool (decide (a = b))) (by simp [binOp, Op.intCmp]; rfl)) h
theorem t_add_i64 (hg : wants ⟨dst, .binOp .add t x y t2, ty, pos, af, g⟩ ops e = true) (hx : ev e x = .int .i64 a) (hy : ev e y = .int .i64 b) (h1 : -9223372036854775808 ≤ a + b) (h2 : a + b ≤ 9223372036854775807)
    (h : Wt P ops C K rest (put e dst (.int .i64 (a + b)))) : Wt P ops C K (⟨dst, .binOp .add t x y t2, ty, pos, af, g⟩ :: rest) e := t_val hg (fun w _ => run_bin hx hy (by simp [binOp, Op.intArith, wrap_in (k := .i64) (n := a + b) h1 h2])) h
theorem t_sub_i64 (hg : wants ⟨dst, .binOp .sub t x y t2, ty, pos, af, g⟩ ops e = true) (hx : ev e x = .int .i64 a) (hy : ev e y = .int .i64 b) (h1 : -9223372036854775808 ≤ a - b) (h2 : a - b ≤ 9223372036854775807)
    (h : Wt P ops C K rest (put e dst (.int .i64 (a - b)))) : Wt P ops C K (⟨dst, .binOp .sub t x y t2, ty, pos, af, g⟩ :: rest) e := t_val hg (fun w _ => run_bin hx hy (by simp [binOp, Op.intArith, wrap_in (k := .i64) (n := a - b) h1 h2])) h
theorem t_conv_u64 {s d : TypeId} {ds : TypeDesc} (hg : wants ⟨dst, .convert s d x, ty, pos, af, g⟩ ops e = true) (hx : ev e x = .int k a) (hs : P.underlying s = some ds) (hd : P.underlying d = some (.int .u64)) (h1 : 0 ≤ a) (h2 : a ≤ 18446744073709551615) (h : Wt P ops C K rest (put e dst (.int .u64 a))) : Wt P ops C K (⟨dst, .convert s d x, ty, pos, af, g⟩ :: rest) e :=
  t_val hg (fun w _ => by simp [execOp, hx, convert, run_under hs, run_under hd, Conv.intToInt, wrap_in (k := .u64) (n := a) h1 h2]) h
theorem t_move {x : Operand} (hg : wants ⟨dst, .move x, ty, pos, af, g⟩ ops e = true) (v : Value) (hx : ev e x = v) (h : Wt P ops C K rest (put e dst v)) :
    Wt P ops C K (⟨dst, .move x, ty, pos, af, g⟩ :: rest) e := t_val hg (fun w _ => by simp [execOp, hx]) h
theorem t_assign {x : Operand} (hg : wants ⟨dst, .assign x, ty, pos, af, g⟩ ops e = true) (v : Value) (hx : ev e x = v) (h : Wt P ops C K rest (put e dst v)) :
    Wt P ops C K (⟨dst, .assign x, ty, pos, af, g⟩ :: rest) e := t_val hg (fun w _ => by simp [execOp, hx]) h
theorem t_pick1 {c a b : Operand} (hg : wants ⟨dst, .pick c a b, ty, pos, af, g⟩ ops e = true) (hc : ev e c = .bool true) (v : Value) (hx : ev e a = v) (h : Wt P ops C K rest (put e dst v)) :
    Wt P ops C K (⟨dst, .pick c a b, ty, pos, af, g⟩ :: rest) e := t_val hg (fun w _ => by simp [execOp, hc, hx, asBool]) h
theorem t_pick0 {c a b : Operand} (hg : wants ⟨dst, .pick c a b, ty, pos, af, g⟩ ops e = true) (hc : ev e c = .bool false) (v : Value) (hx : ev e b = v) (h : Wt P ops C K rest (put e dst v)) :
    Wt P ops C K (⟨dst, .pick c a b, ty, pos, af, g⟩ :: rest) e := t_val hg (fun w _ => by simp [execOp, hc, hx, asBool]) h

theorem t_nilCheck {x : Operand} {p : Addr} (hg : wants ⟨dst, .nilCheck x, ty, pos, af, g⟩ ops e = true) (hx : ev e x = .pointer (some p)) (h : Wt P ops C K rest (put e dst (.pointer (some p)))) :
    Wt P ops C K (⟨dst, .nilCheck x, ty, pos, af, g⟩ :: rest) e := t_val hg (fun w _ => by simp [execOp, hx]) h
theorem t_indexAddr {t el : TypeId} {x y : Operand} {b o n c s : Nat} {k : IntKind} {i : Int} (hg : wants ⟨dst, .indexAddr t x y, ty, pos, af, g⟩ ops e = true) (hu : elemT P t = some el) (hs : tsize P el = some s)
    (hx : ev e x = .slice (some ⟨b, o, none⟩) n c) (hy : ev e y = .int k i) (h0 : 0 ≤ i) (h1 : i < n)
    (h : Wt P ops C K rest (put e dst (.pointer (some ⟨b, o + i.toNat * s, none⟩)))) :
    Wt P ops C K (⟨dst, .indexAddr t x y, ty, pos, af, g⟩ :: rest) e :=
  t_val hg (fun w _ => by simp [execOp, hx, hy, Instr.indexAt, asIntOf, run_under (elemT_u hu), h0, h1, run_size hs, add_none]) h
theorem t_indexRd {t el : TypeId} {x y : Operand} {a : Option Addr} {n c s : Nat} {k : IntKind} {i : Int} {α : Type} {enc : α → List Value} {xs : List α} {w1 : World} (R : Rd w1 a s enc xs)
    (hg : wants ⟨dst, .indexAddr t x y, ty, pos, af, g⟩ ops e = true) (hu : elemT P t = some el) (hs : tsize P el = some s)
    (hx : ev e x = .slice a n c) (hy : ev e y = .int k i) (h0 : 0 ≤ i) (h1 : i < n) (hn : n = xs.length)
    (h : Wt P ops C K rest (put e dst (.pointer (some ⟨(adr a).block, (adr a).off + i.toNat * s, none⟩)))) :
    Wt P ops C K (⟨dst, .indexAddr t x y, ty, pos, af, g⟩ :: rest) e := by
  obtain ⟨b, o, rfl⟩ := R.some' (by rintro rfl; simp at hn; omega)
  exact t_indexAddr hg hu hs hx hy h0 h1 h
theorem t_len {t : TypeId} {x : Operand} {a : Option Addr} {n c : Nat} {el : TypeId} (hg : wants ⟨dst, .call ⟨.builtin .len, #[x], #[t]⟩, ty, pos, af, g⟩ ops e = true) (hu : elemT P t = some el) (hx : ev e x = .slice a n c)
    (h : Wt P ops C K rest (put e dst (.int .i64 n))) :
    Wt P ops C K (⟨dst, .call ⟨.builtin .len, #[x], #[t]⟩, ty, pos, af, g⟩ :: rest) e :=
  t_val hg (fun w _ => by simp [execOp, resolve, invoke, builtin, hx, Builtin.len_, run_under (elemT_u hu), goInt]) h
theorem t_extract {x : Operand} {i : Nat} {vs : Array Value} {v : Value} (hg : wants ⟨dst, .extract x i, ty, pos, af, g⟩ ops e = true) (hx : ev e x = .tuple vs) (hv : vs[i]? = some v) (h : Wt P ops C K rest (put e dst v)) :
    Wt P ops C K (⟨dst, .extract x i, ty, pos, af, g⟩ :: rest) e :=
  t_val hg (fun w _ => by simp [execOp, hx, Instr.extract, hv]) h
theorem t_slice_lo {t el : TypeId} {x y : Operand} {s : Nat} {a : Option Addr} {n c : Nat} {k : IntKind} {i : Int} (hg : wants ⟨dst, .slice t x (some y) none none, ty, pos, af, g⟩ ops e = true)
    (hu : elemT P t = some el) (hs : tsize P el = some s) (hx : ev e x = .slice a n c) (hy : ev e y = .int k i) (h0 : 0 ≤ i) (h1 : i ≤ n)
    (h : Wt P ops C K rest (put e dst (.slice (cutA a c i.toNat s) (n - i.toNat) (c - i.toNat)))) :
    Wt P ops C K (⟨dst, .slice t x (some y) none none, ty, pos, af, g⟩ :: rest) e :=
  t_val hg (fun w _ => by simp [execOp, Instr.sliceAt, Instr.slice, Instr.sliceBounds, run_under (elemT_u hu), hx, hy, sliceB h0 h1, run_size hs, cutA]) h
theorem t_slice_hi {t el : TypeId} {x y : Operand} {s : Nat} {a : Option Addr} {n c : Nat} {k : IntKind} {j : Int} (hg : wants ⟨dst, .slice t x none (some y) none, ty, pos, af, g⟩ ops e = true)
    (hu : elemT P t = some el) (hs : tsize P el = some s) (hx : ev e x = .slice a n c) (hy : ev e y = .int k j) (h0 : 0 ≤ j) (h1 : j ≤ c)
    (h : Wt P ops C K rest (put e dst (.slice a j.toNat c))) :
    Wt P ops C K (⟨dst, .slice t x none (some y) none, ty, pos, af, g⟩ :: rest) e :=
  t_val hg (fun w _ => by
    have : ∀ a : Option Addr, (if c = 0 then a else a.map (·.add (0 * s))) = a := by
      intro a; split
      · rfl
      · cases a with
        | none => rfl
        | some p => simp [Addr.add]
    simp [execOp, Instr.sliceAt, Instr.slice, Instr.sliceBounds, run_under (elemT_u hu), hx, hy, sliceB h0 h1, run_size hs]
    simpa using this a) h
theorem t_fieldAddr {t : TypeId} {x : Operand} {i b o off : Nat} (hg : wants ⟨dst, .fieldAddr t x i, ty, pos, af, g⟩ ops e = true) (hf : fieldO P t i = some off) (hx : ev e x = .pointer (some ⟨b, o, none⟩))
    (h : Wt P ops C K rest (put e dst (.pointer (some ⟨b, o + off, none⟩)))) :
    Wt P ops C K (⟨dst, .fieldAddr t x i, ty, pos, af, g⟩ :: rest) e := by
  unfold fieldO at hf
  split at hf
  · rename_i fs hu
    split at hf
    · rename_i f hf1
      split at hf
      · rename_i s hs
        injection hf with hf
        subst hf
        exact t_val hg (fun w _ => by simp [execOp, hx, Instr.fieldAt, run_under hu, hf1, Instr.sureAddr, fieldPlace, run_size hs, add_none]) h
      · cases hf
    · cases hf
  · cases hf
end
section
variable {t t2 : TypeId} {x y : Operand} {a b n : Nat} {s d : TypeId}
end
end
end Go.GV
