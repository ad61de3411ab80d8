/- Part 3 of the proof. -/
import Derived.Test.YtapphbmlkdhnmaaGreatPart2
import Derived.Laws.Tables
import Derived.Laws.AppendOwn
import Derived.Laws.IdiomStrings
import Derived.Laws.Strings
import Derived.Test.YtapphbmlkdhnmaaGreatProg
import Derived.KernelRfl
import Derived.RangeFuncLeaves
import Derived.DefersIn
/- The rules with their bounds as numerals, and the rules for regions that draw their order and whose operations are quiet; printed by mkmore.py. They hold for every program. -/
namespace Go.GV
open Go
section
variable {P : Program} {r : Option Nat} {ops rest : List Oper} {Q : Exit → Env → World → Prop} {e : Env} {w w0 : World} {S : List Nat} {L : List (Nat × Obj)}
  {dst : Option Tmp} {ty : TypeId} {pos : String} {af : Array Edge} {g : Option (Nat × Bool)} {C : World → Prop} {K : Env → Prop}

theorem q_val {o : Oper} {v : Value} (hg : wants o ops e = true) (hrun : ∀ w, C w → (execOp (ev e) o).run P w = .ok (.value v) w) (h : Wq P ops C K rest (put e o.dst v)) : Wq P ops C K (o :: rest) e := by
  unfold Wq
  rw [if_pos hg]
  exact ⟨v, fun w hw => by rw [hrun w hw]; exact ⟨rfl, rfl⟩, h⟩
theorem q_skip {o : Oper} (hg : wants o ops e = false) (h : Wq P ops C K rest (put e o.dst undef)) : Wq P ops C K (o :: rest) e := by
  unfold Wq
  rw [if_neg (by rw [hg]; simp)]
  exact h
theorem q_nil (h : K e) : Wq P ops C K [] e := h
theorem Wq_known {l : List Oper} (d : Tmp) {b : Bool} (c : Bool) (hd : e.g d = .bool b) (hb : b = c) (h : Wq P ops C K l (put e (some d) (.bool c))) : Wq P ops C K l e := by
  subst hb
  rw [put_same_val hd] at h
  exact h
theorem Wq_split {l : List Oper} (d : Tmp) {b : Bool} (hd : e.g d = .bool b) (h1 : b = true → Wq P ops C K l (put e (some d) (.bool true)))
    (h2 : b = false → Wq P ops C K l (put e (some d) (.bool false))) : Wq P ops C K l e := by
  cases b with
  | true => exact Wq_known d true hd rfl (h1 rfl)
  | false => exact Wq_known d false hd rfl (h2 rfl)
theorem q_ld {t : TypeId} {x : Operand} {p : Addr} {v : Value} (hg : wants ⟨dst, .load t x, ty, pos, af, g⟩ ops e = true) (ha : aggB P t = some false) (hx : ev e x = .pointer (some p)) (hc : ∀ w, C w → w.cell? p = some v)
    (h : Wq P ops C K rest (put e dst v)) : Wq P ops C K (⟨dst, .load t x, ty, pos, af, g⟩ :: rest) e :=
  q_val hg (fun w hw => by simp [execOp, hx, Instr.loadAt, Instr.sureAddr, run_load1 ha (hc w hw)]) h
theorem q_ldb {t t2 : TypeId} {x : Operand} {b i k : Nat} {l : List Value} {v : Value} (hg : wants ⟨dst, .load t x, ty, pos, af, g⟩ ops e = true) (ha : aggB P t = some false) (hx : ev e x = .pointer (some ⟨b, i, none⟩))
    (H : ∀ w, C w → Ctx w0 S w L) (hk : L[k]? = some (b, Bl t2 l)) (hc : l[i]? = some v)
    (h : Wq P ops C K rest (put e dst v)) : Wq P ops C K (⟨dst, .load t x, ty, pos, af, g⟩ :: rest) e :=
  q_ld hg ha hx (fun w hw => by rw [cell_bl ((H w hw).get hk)]; exact hc) h
theorem q_ldN {t : TypeId} {x : Operand} {b o s : Nat} (l : List Value) (hg : wants ⟨dst, .load t x, ty, pos, af, g⟩ ops e = true) (ha : aggB P t = some true) (hs : tsize P t = some s) (hx : ev e x = .pointer (some ⟨b, o, none⟩))
    (hl : l.length = s) (hc : ∀ w, C w → ∀ j v, l[j]? = some v → w.cell? ⟨b, o + j, none⟩ = some v)
    (h : Wq P ops C K rest (put e dst (.agg l.toArray))) : Wq P ops C K (⟨dst, .load t x, ty, pos, af, g⟩ :: rest) e :=
  q_val hg (fun w hw => by simp [execOp, hx, Instr.loadAt, Instr.sureAddr, run_loadN ha hs hl (hc w hw)]) h
theorem q_ldbN {t t2 : TypeId} {x : Operand} {b s k : Nat} {l : List Value} (hg : wants ⟨dst, .load t x, ty, pos, af, g⟩ ops e = true) (ha : aggB P t = some true) (hs : tsize P t = some s) (hx : ev e x = .pointer (some ⟨b, 0, none⟩))
    (H : ∀ w, C w → Ctx w0 S w L) (hk : L[k]? = some (b, Bl t2 l)) (hl : l.length = s)
    (h : Wq P ops C K rest (put e dst (.agg l.toArray))) : Wq P ops C K (⟨dst, .load t x, ty, pos, af, g⟩ :: rest) e :=
  q_ldN l hg ha hs hx hl (fun w hw j v hv => by rw [cell_bl ((H w hw).get hk), Nat.zero_add]; exact hv) h
section
variable {t t2 : TypeId} {x y : Operand} {k : IntKind} {a b : Int}
theorem q_lss (hg : wants ⟨dst, .binOp .lss t x y t2, ty, pos, af, g⟩ ops e = true) (hx : ev e x = .int k a) (hy : ev e y = .int k b) (h : Wq P ops C K rest (put e dst (.bool (decide (a < b))))) :
    Wq P ops C K (⟨dst, .binOp .lss t x y t2, ty, pos, af, g⟩ :: rest) e := q_val hg (fun w _ => run_bin hx hy (by simp [binOp, Op.intCmp])) h
theorem q_leq (hg : wants ⟨dst, .binOp .leq t x y t2, ty, pos, af, g⟩ ops e = true) (hx : ev e x = .int k a) (hy : ev e y = .int k b) (h : Wq P ops C K rest (put e dst (.bool (decide (a ≤ b))))) :
    Wq P ops C K (⟨dst, .binOp .leq t x y t2, ty, pos, af, g⟩ :: rest) e := q_val hg (fun w _ => run_bin hx hy (by simp [binOp, Op.intCmp])) h
theorem q_gtr (hg : wants ⟨dst, .binOp .gtr t x y t2, ty, pos, af, g⟩ ops e = true) (hx : ev e x = .int k a) (hy : ev e y = .int k b) (h : Wq P ops C K rest (put e dst (.bool (decide (b < a))))) :
    Wq P ops C K (⟨dst, .binOp .gtr t x y t2, ty, pos, af, g⟩ :: rest) e := q_val hg (fun w _ => run_bin hx hy (by simp [binOp, Op.intCmp])) h
theorem q_eql (hg : wants ⟨dst, .binOp .eql t x y t2, ty, pos, af, g⟩ ops e = true) (hx : ev e x = .int k a) (hy : ev e y = .int k b) (h : Wq P ops C K rest (put e dst (.bool (decide (a = b))))) :
    Wq P ops C K (⟨dst, .binOp .eql t x y t2, ty, pos, af, g⟩ :: rest) e :=
  q_val hg (fun w _ => run_bin hx hy (v := .bool (decide (a = b))) (by simp [binOp, Op.intCmp]; rfl)) h
theorem q_neq (hg : wants ⟨dst, .binOp .neq t x y t2, ty, pos, af, g⟩ ops e = true) (hx : ev e x = .int k a) (hy : ev e y = .int k b) (h : Wq P ops C K rest (put e dst (.bool (!decide (a = b))))) :
    Wq P ops C K (⟨dst, .binOp .neq t x y t2, ty, pos, af, g⟩ :: rest) e :=
  q_val hg (fun w _ => run_bin hx hy (v := .bool (!decide (a = b))) (by simp [binOp, Op.intCmp]; rfl)) h

theorem q_quo (hg : wants ⟨dst, .binOp .quo t x y t2, ty, pos, af, g⟩ ops e = true) (hx : ev e x = .int k a) (hy : ev e y = .int k b) (h0 : 0 ≤ a) (hb : 0 < b) (h2 : a ≤ k.max)
    (h : Wq P ops C K rest (put e dst (.int k (a / b)))) : Wq P ops C K (⟨dst, .binOp .quo t x y t2, ty, pos, af, g⟩ :: rest) e := by
  refine q_val hg (fun w _ => run_bin hx hy (v := .int k (a / b)) ?_) h
  have h3 : a.tdiv b = a / b := Int.tdiv_eq_ediv_of_nonneg h0
  have h4 : 0 ≤ a / b := Int.ediv_nonneg h0 (by omega)
  have h5 : a / b ≤ a := Int.ediv_le_self _ h0
  have h6 : k.min ≤ 0 := by cases k <;> decide
  simp [binOp, Op.intDiv, h3, show ¬ b = 0 from by omega, wrap_in (k := k) (n := a / b) (by omega) (by omega)]
theorem op_neqb {x y : Operand} {a b : Bool} {t t2 : TypeId} (ht : P.underlying t = some .bool) (hg : wants ⟨dst, .binOp .neq t x y t2, ty, pos, af, g⟩ ops e = true) (hx : ev e x = .bool a) (hy : ev e y = .bool b) (h : Wops P r ops Q rest (put e dst (.bool (!(a == b)))) w) :
    Wops P r ops Q (⟨dst, .binOp .neq t x y t2, ty, pos, af, g⟩ :: rest) e w := by
  refine op_val hg rfl ?_ h
  have hq : eqGuard .neq t x y (.bool a) (.bool b) = pure () := rfl
  have he : ∀ d w, (Op.equalIn (d + 1) t (.bool a) (.bool b)).run P w = .ok (a == b) w := fun d w => by simp [Op.equalIn, run_under ht]
  simp only [execOp, hx, hy, hq, Sem.run_bind, Sem.run_pure, Result.andThen_ok, binOp, Op.equal, Op.maxDepth, he 9999]
theorem op_add_i64 (hg : wants ⟨dst, .binOp .add t x y t2, ty, pos, af, g⟩ ops e = true) (hx : ev e x = .int .i64 a) (hy : ev e y = .int .i64 b) (h1 : -9223372036854775808 ≤ a + b) (h2 : a + b ≤ 9223372036854775807)
    (h : Wops P r ops Q rest (put e dst (.int .i64 (a + b))) w) : Wops P r ops Q (⟨dst, .binOp .add t x y t2, ty, pos, af, g⟩ :: rest) e w := op_val hg rfl (run_bin hx hy (by simp [binOp, Op.intArith, wrap_in (k := .i64) (n := a + b) h1 h2])) h
theorem q_add_i64 (hg : wants ⟨dst, .binOp .add t x y t2, ty, pos, af, g⟩ ops e = true) (hx : ev e x = .int .i64 a) (hy : ev e y = .int .i64 b) (h1 : -9223372036854775808 ≤ a + b) (h2 : a + b ≤ 9223372036854775807)
    (h : Wq P ops C K rest (put e dst (.int .i64 (a + b)))) : Wq P ops C K (⟨dst, .binOp .add t x y t2, ty, pos, af, g⟩ :: rest) e := q_val hg (fun w _ => run_bin hx hy (by simp [binOp, Op.intArith, wrap_in (k := .i64) (n := a + b) h1 h2])) h
theorem op_sub_i64 (hg : wants ⟨dst, .binOp .sub t x y t2, ty, pos, af, g⟩ ops e = true) (hx : ev e x = .int .i64 a) (hy : ev e y = .int .i64 b) (h1 : -9223372036854775808 ≤ a - b) (h2 : a - b ≤ 9223372036854775807)
    (h : Wops P r ops Q rest (put e dst (.int .i64 (a - b))) w) : Wops P r ops Q (⟨dst, .binOp .sub t x y t2, ty, pos, af, g⟩ :: rest) e w := op_val hg rfl (run_bin hx hy (by simp [binOp, Op.intArith, wrap_in (k := .i64) (n := a - b) h1 h2])) h
theorem q_sub_i64 (hg : wants ⟨dst, .binOp .sub t x y t2, ty, pos, af, g⟩ ops e = true) (hx : ev e x = .int .i64 a) (hy : ev e y = .int .i64 b) (h1 : -9223372036854775808 ≤ a - b) (h2 : a - b ≤ 9223372036854775807)
    (h : Wq P ops C K rest (put e dst (.int .i64 (a - b)))) : Wq P ops C K (⟨dst, .binOp .sub t x y t2, ty, pos, af, g⟩ :: rest) e := q_val hg (fun w _ => run_bin hx hy (by simp [binOp, Op.intArith, wrap_in (k := .i64) (n := a - b) h1 h2])) h
theorem op_mul_i64 (hg : wants ⟨dst, .binOp .mul t x y t2, ty, pos, af, g⟩ ops e = true) (hx : ev e x = .int .i64 a) (hy : ev e y = .int .i64 b) (h1 : -9223372036854775808 ≤ a * b) (h2 : a * b ≤ 9223372036854775807)
    (h : Wops P r ops Q rest (put e dst (.int .i64 (a * b))) w) : Wops P r ops Q (⟨dst, .binOp .mul t x y t2, ty, pos, af, g⟩ :: rest) e w := op_val hg rfl (run_bin hx hy (by simp [binOp, Op.intArith, wrap_in (k := .i64) (n := a * b) h1 h2])) h
theorem q_mul_i64 (hg : wants ⟨dst, .binOp .mul t x y t2, ty, pos, af, g⟩ ops e = true) (hx : ev e x = .int .i64 a) (hy : ev e y = .int .i64 b) (h1 : -9223372036854775808 ≤ a * b) (h2 : a * b ≤ 9223372036854775807)
    (h : Wq P ops C K rest (put e dst (.int .i64 (a * b)))) : Wq P ops C K (⟨dst, .binOp .mul t x y t2, ty, pos, af, g⟩ :: rest) e := q_val hg (fun w _ => run_bin hx hy (by simp [binOp, Op.intArith, wrap_in (k := .i64) (n := a * b) h1 h2])) h
theorem op_neg_i64 (hg : wants ⟨dst, .unOp .neg t x, ty, pos, af, g⟩ ops e = true) (hx : ev e x = .int .i64 a) (h1 : -9223372036854775808 ≤ - a) (h2 : - a ≤ 9223372036854775807) (h : Wops P r ops Q rest (put e dst (.int .i64 (- a))) w) : Wops P r ops Q (⟨dst, .unOp .neg t x, ty, pos, af, g⟩ :: rest) e w := op_neg hg hx h1 h2 h
theorem op_conv_i64 {s d : TypeId} {ds : TypeDesc} (hg : wants ⟨dst, .convert s d x, ty, pos, af, g⟩ ops e = true) (hx : ev e x = .int k a) (hs : P.underlying s = some ds) (hd : P.underlying d = some (.int .i64)) (h1 : -9223372036854775808 ≤ a) (h2 : a ≤ 9223372036854775807) (h : Wops P r ops Q rest (put e dst (.int .i64 a)) w) : Wops P r ops Q (⟨dst, .convert s d x, ty, pos, af, g⟩ :: rest) e w := op_conv hg hx hs hd h1 h2 h
theorem q_neg_i64 (hg : wants ⟨dst, .unOp .neg t x, ty, pos, af, g⟩ ops e = true) (hx : ev e x = .int .i64 a) (h1 : -9223372036854775808 ≤ - a) (h2 : - a ≤ 9223372036854775807) (h : Wq P ops C K rest (put e dst (.int .i64 (- a)))) : Wq P ops C K (⟨dst, .unOp .neg t x, ty, pos, af, g⟩ :: rest) e := q_val hg (fun w _ => by simp [execOp, hx, Op.unary, Op.intArith, wrap_in (k := .i64) h1 h2]) h
theorem op_conv_u8 {s d : TypeId} {ds : TypeDesc} (hg : wants ⟨dst, .convert s d x, ty, pos, af, g⟩ ops e = true) (hx : ev e x = .int k a) (hs : P.underlying s = some ds) (hd : P.underlying d = some (.int .u8)) (h1 : 0 ≤ a) (h2 : a ≤ 255) (h : Wops P r ops Q rest (put e dst (.int .u8 a)) w) : Wops P r ops Q (⟨dst, .convert s d x, ty, pos, af, g⟩ :: rest) e w := op_conv hg hx hs hd h1 h2 h
theorem op_add_u64 (hg : wants ⟨dst, .binOp .add t x y t2, ty, pos, af, g⟩ ops e = true) (hx : ev e x = .int .u64 a) (hy : ev e y = .int .u64 b) (h1 : 0 ≤ a + b) (h2 : a + b ≤ 18446744073709551615)
    (h : Wops P r ops Q rest (put e dst (.int .u64 (a + b))) w) : Wops P r ops Q (⟨dst, .binOp .add t x y t2, ty, pos, af, g⟩ :: rest) e w := op_val hg rfl (run_bin hx hy (by simp [binOp, Op.intArith, wrap_in (k := .u64) (n := a + b) h1 h2])) h
theorem op_sub_u64 (hg : wants ⟨dst, .binOp .sub t x y t2, ty, pos, af, g⟩ ops e = true) (hx : ev e x = .int .u64 a) (hy : ev e y = .int .u64 b) (h1 : 0 ≤ a - b) (h2 : a - b ≤ 18446744073709551615)
    (h : Wops P r ops Q rest (put e dst (.int .u64 (a - b))) w) : Wops P r ops Q (⟨dst, .binOp .sub t x y t2, ty, pos, af, g⟩ :: rest) e w := op_val hg rfl (run_bin hx hy (by simp [binOp, Op.intArith, wrap_in (k := .u64) (n := a - b) h1 h2])) h
theorem op_mul_u64 (hg : wants ⟨dst, .binOp .mul t x y t2, ty, pos, af, g⟩ ops e = true) (hx : ev e x = .int .u64 a) (hy : ev e y = .int .u64 b) (h1 : 0 ≤ a * b) (h2 : a * b ≤ 18446744073709551615)
    (h : Wops P r ops Q rest (put e dst (.int .u64 (a * b))) w) : Wops P r ops Q (⟨dst, .binOp .mul t x y t2, ty, pos, af, g⟩ :: rest) e w := op_val hg rfl (run_bin hx hy (by simp [binOp, Op.intArith, wrap_in (k := .u64) (n := a * b) h1 h2])) h
theorem op_conv_u64 {s d : TypeId} {ds : TypeDesc} (hg : wants ⟨dst, .convert s d x, ty, pos, af, g⟩ ops e = true) (hx : ev e x = .int k a) (hs : P.underlying s = some ds) (hd : P.underlying d = some (.int .u64)) (h1 : 0 ≤ a) (h2 : a ≤ 18446744073709551615) (h : Wops P r ops Q rest (put e dst (.int .u64 a)) w) : Wops P r ops Q (⟨dst, .convert s d x, ty, pos, af, g⟩ :: rest) e w := op_conv hg hx hs hd h1 h2 h
end
theorem q_move {x : Operand} (hg : wants ⟨dst, .move x, ty, pos, af, g⟩ ops e = true) (v : Value) (hx : ev e x = v) (h : Wq P ops C K rest (put e dst v)) :
    Wq P ops C K (⟨dst, .move x, ty, pos, af, g⟩ :: rest) e := q_val hg (fun w _ => by simp [execOp, hx]) h
theorem q_assign {x : Operand} (hg : wants ⟨dst, .assign x, ty, pos, af, g⟩ ops e = true) (v : Value) (hx : ev e x = v) (h : Wq P ops C K rest (put e dst v)) :
    Wq P ops C K (⟨dst, .assign x, ty, pos, af, g⟩ :: rest) e := q_val hg (fun w _ => by simp [execOp, hx]) h
theorem q_pick1 {c a b : Operand} (hg : wants ⟨dst, .pick c a b, ty, pos, af, g⟩ ops e = true) (hc : ev e c = .bool true) (v : Value) (hx : ev e a = v) (h : Wq P ops C K rest (put e dst v)) :
    Wq P ops C K (⟨dst, .pick c a b, ty, pos, af, g⟩ :: rest) e := q_val hg (fun w _ => by simp [execOp, hc, hx, asBool]) h
theorem q_pick0 {c a b : Operand} (hg : wants ⟨dst, .pick c a b, ty, pos, af, g⟩ ops e = true) (hc : ev e c = .bool false) (v : Value) (hx : ev e b = v) (h : Wq P ops C K rest (put e dst v)) :
    Wq P ops C K (⟨dst, .pick c a b, ty, pos, af, g⟩ :: rest) e := q_val hg (fun w _ => by simp [execOp, hc, hx, asBool]) h

theorem q_nilCheck {x : Operand} {p : Addr} (hg : wants ⟨dst, .nilCheck x, ty, pos, af, g⟩ ops e = true) (hx : ev e x = .pointer (some p)) (h : Wq P ops C K rest (put e dst (.pointer (some p)))) :
    Wq P ops C K (⟨dst, .nilCheck x, ty, pos, af, g⟩ :: rest) e := q_val hg (fun w _ => by simp [execOp, hx]) h
theorem q_indexAddr {t el : TypeId} {x y : Operand} {b o n c s : Nat} {k : IntKind} {i : Int} (hg : wants ⟨dst, .indexAddr t x y, ty, pos, af, g⟩ ops e = true) (hu : elemT P t = some el) (hs : tsize P el = some s)
    (hx : ev e x = .slice (some ⟨b, o, none⟩) n c) (hy : ev e y = .int k i) (h0 : 0 ≤ i) (h1 : i < n)
    (h : Wq P ops C K rest (put e dst (.pointer (some ⟨b, o + i.toNat * s, none⟩)))) :
    Wq P ops C K (⟨dst, .indexAddr t x y, ty, pos, af, g⟩ :: rest) e :=
  q_val hg (fun w _ => by simp [execOp, hx, hy, Instr.indexAt, asIntOf, run_under (elemT_u hu), h0, h1, run_size hs, add_none]) h
theorem q_indexRd {t el : TypeId} {x y : Operand} {a : Option Addr} {n c s : Nat} {k : IntKind} {i : Int} {α : Type} {enc : α → List Value} {xs : List α} {w1 : World} (R : Rd w1 a s enc xs)
    (hg : wants ⟨dst, .indexAddr t x y, ty, pos, af, g⟩ ops e = true) (hu : elemT P t = some el) (hs : tsize P el = some s)
    (hx : ev e x = .slice a n c) (hy : ev e y = .int k i) (h0 : 0 ≤ i) (h1 : i < n) (hn : n = xs.length)
    (h : Wq P ops C K rest (put e dst (.pointer (some ⟨(adr a).block, (adr a).off + i.toNat * s, none⟩)))) :
    Wq P ops C K (⟨dst, .indexAddr t x y, ty, pos, af, g⟩ :: rest) e := by
  obtain ⟨b, o, rfl⟩ := R.some' (by rintro rfl; simp at hn; omega)
  exact q_indexAddr hg hu hs hx hy h0 h1 h
theorem q_len {t : TypeId} {x : Operand} {a : Option Addr} {n c : Nat} {el : TypeId} (hg : wants ⟨dst, .call ⟨.builtin .len, #[x], #[t]⟩, ty, pos, af, g⟩ ops e = true) (hu : elemT P t = some el) (hx : ev e x = .slice a n c)
    (h : Wq P ops C K rest (put e dst (.int .i64 n))) :
    Wq P ops C K (⟨dst, .call ⟨.builtin .len, #[x], #[t]⟩, ty, pos, af, g⟩ :: rest) e :=
  q_val hg (fun w _ => by simp [execOp, resolve, invoke, builtin, hx, Builtin.len_, run_under (elemT_u hu), goInt]) h
theorem q_min2 {t1 t2 : TypeId} {x y : Operand} {k : IntKind} {a b : Int} (hg : wants ⟨dst, .call ⟨.builtin .min, #[x, y], #[t1, t2]⟩, ty, pos, af, g⟩ ops e = true) (hx : ev e x = .int k a) (hy : ev e y = .int k b)
    (h : Wq P ops C K rest (put e dst (.int k (min a b)))) :
    Wq P ops C K (⟨dst, .call ⟨.builtin .min, #[x, y], #[t1, t2]⟩, ty, pos, af, g⟩ :: rest) e :=
  q_val hg (fun w _ => by
    have : (if b < a then b else a) = min a b := by rw [Int.min_def]; split <;> split <;> omega
    simp [execOp, resolve, invoke, builtin, hx, hy, Builtin.min_, Builtin.min2, this]) h
theorem q_fieldAddr {t : TypeId} {x : Operand} {i b o off : Nat} (hg : wants ⟨dst, .fieldAddr t x i, ty, pos, af, g⟩ ops e = true) (hf : fieldO P t i = some off) (hx : ev e x = .pointer (some ⟨b, o, none⟩))
    (h : Wq P ops C K rest (put e dst (.pointer (some ⟨b, o + off, none⟩)))) :
    Wq P ops C K (⟨dst, .fieldAddr t x i, ty, pos, af, g⟩ :: rest) e := by
  unfold fieldO at hf
  split at hf
  · rename_i fs hu
    split at hf
    · rename_i f hf1
      split at hf
      · rename_i s hs
        injection hf with hf
        subst hf
        exact q_val hg (fun w _ => by simp [execOp, hx, Instr.fieldAt, run_under hu, hf1, Instr.sureAddr, fieldPlace, run_size hs, add_none]) h
      · cases hf
    · cases hf
  · cases hf
theorem op_makeFuncL {fn : Fn} {cap : Array Operand} (hg : wants ⟨dst, .makeFunc fn #[] cap, ty, pos, af, g⟩ ops e = true) (l : List Value) (hl : cap.toList.map (ev e) = l) (h : Wops P r ops Q rest (put e dst (.func fn #[] l.toArray)) w) :
    Wops P r ops Q (⟨dst, .makeFunc fn #[] cap, ty, pos, af, g⟩ :: rest) e w := by
  refine op_makeFunc hg ?_
  have : cap.map (ev e) = l.toArray := by subst hl; apply Array.ext'; simp only [Array.toList_map]
  rw [this, Array.map_empty]
  exact h
/-- append(s, x): the block of the one element at the head. -/
theorem op_appendb {t t2 el el2 : TypeId} {x y : Operand} {s by' : Nat} {zl : List Value} (hg : wants ⟨dst, .call ⟨.builtin .append, #[x, y], #[t, t2]⟩, ty, pos, af, g⟩ ops e = true)
    (hu : elemT P t = some el) (hu2 : elemT P t2 = some el2) (hs : tsize P el = some s) (hby : tbytes P el = some by') (hz : zcells P el = some zl) (hzl : zl.length = s) (hpos : 0 < by')
    {a : Option Addr} {n c m c2 b2 : Nat} {t3 : TypeId} {full l new : List Value} (hx : ev e x = .slice a n c) (hy : ev e y = .slice (some ⟨b2, 0, none⟩) m c2) (H : Ctx w0 S w ((b2, Bl t3 new) :: (L ++ ent a el full))) (O : OS a n c s full l)
    (hn : new.length = m * s) (h1 : ∀ v ∈ new, oneCell v = true) (hbound : (2 * (n + m) + 768) * by' ≤ 281474976710656)
    (h : ∀ a' c' full' w', Ctx w0 S w' (L ++ ent a' el full') → OS a' (n + m) c' s full' (l ++ new) → Wops P r ops Q rest (put e dst (.slice a' (n + m) c')) w') :
    Wops P r ops Q (⟨dst, .call ⟨.builtin .append, #[x, y], #[t, t2]⟩, ty, pos, af, g⟩ :: rest) e w :=
  op_append hg hu hu2 hs hby hz hzl hpos new hx hy H.tail O hn h1 (fun j v hv => ⟨_, rfl, by rw [add_none, Nat.zero_add, cell_bl (H.get at0)]; exact hv⟩) hbound h
end


end Go.GV

/- More on blocks and slices: what a call is lent and hands back; rows of a slice; lists under a map. It holds for every program. -/
namespace Go.GV
open Go

section
variable {w0 w w' : World} {S : List Nat} {L L1 L2 L1' : List (Nat × Obj)}

/-- A call is lent the first blocks. -/
theorem Ctx.lend (H : Ctx w0 S w (L1 ++ L2)) : Ctx w (L1.map (·.1)) w L1 :=
  ⟨Ext.refl _ _, fun x hx => H.blk x (List.mem_append_left _ hx), (List.pairwise_append.1 H.nd).1, fun _ hx => .inl (List.mem_map_of_mem hx)⟩

/-- .. and hands them back. -/
theorem Ctx.back (H : Ctx w0 S w (L1 ++ L2)) (H' : Ctx w (L1.map (·.1)) w' L1') : Ctx w0 S w' (L1' ++ L2) := by
  have hd := List.pairwise_append.1 H.nd
  have hk : ∀ x ∈ L1', (∃ y ∈ L1, y.1 = x.1) ∨ w.heap.size ≤ x.1 := fun x hx => by
    rcases H'.own x hx with h | h
    · rw [List.mem_map] at h; exact .inl h
    · exact .inr h
  have hn2 : ∀ y ∈ L2, y.1 ∉ L1.map (·.1) := fun y hy hm => by
    rw [List.mem_map] at hm
    obtain ⟨x, hx, he⟩ := hm
    exact hd.2.2 x hx y hy he
  refine ⟨H.ext.then H'.ext ?_, ?_, ?_, ?_⟩
  · intro x hx
    rw [List.mem_map] at hx
    obtain ⟨y, hy, rfl⟩ := hx
    exact H.own y (List.mem_append_left _ hy)
  · intro x hx
    rcases List.mem_append.1 hx with hx | hx
    · exact H'.blk x hx
    · have hb := H.blk x (List.mem_append_right _ hx)
      rw [H'.ext.block x.1 (heap_lt hb) (hn2 x hx)]
      exact hb
  · rw [List.pairwise_append]
    refine ⟨H'.nd, hd.2.1, fun x hx y hy => ?_⟩
    have hly := heap_lt (H.blk y (List.mem_append_right _ hy))
    rcases hk x hx with ⟨z, hz, he⟩ | h
    · rw [← he]; exact hd.2.2 z hz y hy
    · omega
  · intro x hx
    rcases List.mem_append.1 hx with hx | hx
    · rcases hk x hx with ⟨z, hz, he⟩ | h
      · rw [← he]; exact H.own z (List.mem_append_left _ hz)
      · exact .inr (Nat.le_trans H.size h)
    · exact H.own x (List.mem_append_right _ hx)

theorem Ctx.app_nil (H : Ctx w0 S w L) : Ctx w0 S w (L ++ []) := by simpa using H
theorem Ctx.nil_app (H : Ctx w0 S w (L ++ [])) : Ctx w0 S w L := by simpa using H
end

section
variable {w : World} {α : Type} {a : Option Addr} {s : Nat} {enc : α → List Value} {xs : List α}
theorem Rd.row (R : Rd w a s enc xs) {i : Nat} {x : α} (hx : xs[i]? = some x) (hs : (enc x).length = s) : ∀ j v, (enc x)[j]? = some v → w.cell? ⟨(adr a).block, (adr a).off + i * s + j, none⟩ = some v :=
  fun j v hv => R.cell i x hx j v hv (by rw [← hs]; exact (List.getElem?_eq_some_iff.1 hv).1)
theorem Rd.fld (R : Rd w a s enc xs) {i j : Nat} {x : α} {v : Value} (hx : xs[i]? = some x) (hs : (enc x).length = s) (hv : (enc x)[j]? = some v) : w.cell? ⟨(adr a).block, (adr a).off + i * s + j, none⟩ = some v := R.row hx hs j v hv
/-- One cell each. -/
theorem Rd.one {f : α → Value} (R : Rd w a 1 (fun x => [f x]) xs) {i : Nat} {x : α} (hx : xs[i]? = some x) : w.cell? ⟨(adr a).block, (adr a).off + i * 1, none⟩ = some (f x) := by
  have := R.cell i x hx 0 (f x) rfl (by omega)
  simpa using this
/-- What append asks of its source. -/
theorem Rd.app1 {f : α → Value} (R : Rd w a 1 (fun x => [f x]) xs) : ∀ j v, (xs.map f)[j]? = some v → ∃ p, a = some p ∧ w.cell? (p.add j) = some v := by
  intro j v hv
  rw [List.getElem?_map] at hv
  cases hx : xs[j]? with
  | none => rw [hx] at hv; cases hv
  | some x =>
    rw [hx] at hv
    injection hv with hv
    subst hv
    obtain ⟨b, o, rfl⟩ := R.some' (by rintro rfl; simp at hx)
    refine ⟨_, rfl, ?_⟩
    rw [add_none]
    have := R.one hx
    simpa [adr] using this
theorem flat_get (hs : ∀ x ∈ xs, (enc x).length = s) (h0 : 0 < s) : ∀ j, (xs.flatMap enc)[j]? = (xs[j / s]?).bind fun x => (enc x)[j % s]? := by
  induction xs with
  | nil => intro j; simp
  | cons x xs ih =>
    intro j
    have hx := hs x (by simp)
    have ih := ih (fun y hy => hs y (by simp [hy]))
    simp only [List.flatMap_cons]
    by_cases hj : j < s
    · rw [List.getElem?_append_left (by omega), Nat.div_eq_of_lt hj, Nat.mod_eq_of_lt hj]
      rfl
    · rw [List.getElem?_append_right (by omega), hx, ih]
      have h1 : j / s = (j - s) / s + 1 := by rw [Nat.div_eq_sub_div h0 (by omega)]
      have h2 : j % s = (j - s) % s := by rw [Nat.mod_eq_sub_mod (by omega)]
      rw [h1, h2]
      rfl
theorem Rd.app (R : Rd w a s enc xs) (hs : ∀ x ∈ xs, (enc x).length = s) (h0 : 0 < s) : ∀ j v, (xs.flatMap enc)[j]? = some v → ∃ p, a = some p ∧ w.cell? (p.add j) = some v := by
  intro j v hv
  rw [flat_get hs h0] at hv
  cases hx : xs[j / s]? with
  | none => rw [hx] at hv; cases hv
  | some x =>
    rw [hx] at hv
    have hc := R.cell _ x hx _ v hv (Nat.mod_lt _ h0)
    obtain ⟨b, o, rfl⟩ := R.some' (by rintro rfl; simp at hx)
    refine ⟨_, rfl, ?_⟩
    rw [add_none]
    simp only [adr] at hc
    rw [← hc]
    congr 2
    have := Nat.div_add_mod j s
    rw [Nat.mul_comm] at this
    omega
/-- A slice's beginning. -/
theorem Rd.take (R : Rd w a s enc xs) (n : Nat) : Rd w a s enc (xs.take n) :=
  ⟨fun h => R.some' (by rintro rfl; simp at h), fun i x hx j v hv hj => R.cell i x (by
    rw [List.getElem?_take] at hx
    split at hx
    · exact hx
    · cases hx) j v hv hj⟩
/-- A slice's end: s[n:]. -/
theorem Rd.cut (R : Rd w a s enc xs) (n c : Nat) (hc : xs.length ≤ c) : Rd w (cutA a c n s) s enc (xs.drop n) := by
  unfold cutA
  by_cases hn : c = n
  · subst hn
    rw [List.drop_of_length_le hc]
    exact Rd.nil
  · rw [if_neg hn]
    refine ⟨fun h => ?_, fun i x hx j v hv hj => ?_⟩
    · obtain ⟨b, o, rfl⟩ := R.some' (by rintro rfl; simp at h)
      exact ⟨b, o + n * s, by simp [add_none]⟩
    · rw [List.getElem?_drop] at hx
      obtain ⟨b, o, rfl⟩ := R.some' (by rintro rfl; simp at hx)
      have := R.cell (n + i) x hx j v hv hj
      simp only [adr, Option.map_some, add_none] at this ⊢
      rw [← this]
      congr 2
      rw [Nat.add_mul]; omega
end

section
variable {P : Program} {r : Option Nat} {ops rest : List Oper} {Q : Exit → Env → World → Prop} {e : Env} {w w0 : World} {S : List Nat} {L : List (Nat × Obj)}
  {dst : Option Tmp} {ty : TypeId} {pos : String} {af : Array Edge} {g : Option (Nat × Bool)}
/-- []T{} -/
theorem op_build0 {t el : TypeId} {s : Nat} (hg : wants ⟨dst, .buildSlice t 0 #[], ty, pos, af, g⟩ ops e = true)
    (hu : elemT P t = some el) (hs : tsize P el = some s) (H : Ctx w0 S w L)
    (h : ∀ b w', Ctx w0 S w' (L ++ ent (some ⟨b, 0, none⟩) el []) → OS (some ⟨b, 0, none⟩) 0 0 s [] [] → Wops P r ops Q rest (put e dst (.slice (some ⟨b, 0, none⟩) 0 0)) w') :
    Wops P r ops Q (⟨dst, .buildSlice t 0 #[], ty, pos, af, g⟩ :: rest) e w := by
  refine op_val (w' := w.alloc (Bl el [])) (v := .slice (some ⟨w.heap.size, 0, none⟩) 0 0) hg rfl ?_ (h _ _ (Ctx.comm (L := [(w.heap.size, Bl el [])]) (H.alloc _)) ⟨(fun p hp => by injection hp with hp; subst hp; rfl), (fun hp => by cases hp), by simp, Nat.le_refl _, by simp⟩)
  have hr0 : (Array.range 0) = (#[] : Array Nat) := by apply Array.ext'; simp
  simp [execOp, Instr.buildSlice, run_under (elemT_u hu), run_size hs, hr0, Instr.fill, newRow, newObj, Sem.run]
  rfl
end

theorem range_get {α : Type} {n i : Nat} {f : Nat → α} (h : i < n) : ((List.range n).map f)[i]? = some (f i) := by
  rw [List.getElem?_map, List.getElem?_range h]; rfl
theorem range_set {α : Type} {n i : Nat} {f g : Nat → α} {v : α} (hv : g i = v) (h : ∀ j, j < n → j ≠ i → g j = f j) : ((List.range n).map f).set i v = (List.range n).map g := by
  apply List.ext_getElem?
  intro j
  rw [List.getElem?_set]
  by_cases hj : j < n
  · by_cases he : i = j
    · subst he
      rw [if_pos rfl, if_pos (by simpa using hj), range_get hj, hv]
    · rw [if_neg he, range_get hj, range_get hj, h j hj (Ne.symm he)]
  · rw [List.getElem?_eq_none (l := (List.range n).map g) (by simp; omega)]
    split
    · rw [if_neg (by simp; omega)]
    · rw [List.getElem?_eq_none (by simp; omega)]
section
variable {P : Program} {r : Option Nat} {ops rest : List Oper} {Q : Exit → Env → World → Prop} {e : Env} {w w0 : World} {S : List Nat} {L : List (Nat × Obj)}
  {dst : Option Tmp} {ty : TypeId} {pos : String} {af : Array Edge} {g : Option (Nat × Bool)} {C : World → Prop} {K : Env → Prop}
/-- A load out of a block of one cell each. -/
theorem op_ldr {t t2 : TypeId} {x : Operand} {b i j n : Nat} {f : Nat → Value} (k : Nat) (v : Value) (hg : wants ⟨dst, .load t x, ty, pos, af, g⟩ ops e = true) (ha : aggB P t = some false) (hx : ev e x = .pointer (some ⟨b, i, none⟩))
    (H : Ctx w0 S w L) (hj : L[j]? = some (b, Bl t2 ((List.range n).map f))) (hi : i = k) (hk : k < n) (hv : f k = v)
    (h : Wops P r ops Q rest (put e dst v) w) : Wops P r ops Q (⟨dst, .load t x, ty, pos, af, g⟩ :: rest) e w := by
  subst hi hv
  exact op_ldb hg ha hx H hj (range_get hk) h
theorem q_ldr {t t2 : TypeId} {x : Operand} {b i j n : Nat} {f : Nat → Value} (k : Nat) (v : Value) (hg : wants ⟨dst, .load t x, ty, pos, af, g⟩ ops e = true) (ha : aggB P t = some false) (hx : ev e x = .pointer (some ⟨b, i, none⟩))
    (H : ∀ w, C w → Ctx w0 S w L) (hj : L[j]? = some (b, Bl t2 ((List.range n).map f))) (hi : i = k) (hk : k < n) (hv : f k = v)
    (h : Wq P ops C K rest (put e dst v)) : Wq P ops C K (⟨dst, .load t x, ty, pos, af, g⟩ :: rest) e := by
  subst hi hv
  exact q_ldb hg ha hx H hj (range_get hk) h
/-- A store into such a block. -/
theorem op_str {t t2 : TypeId} {x y : Operand} {b i j n : Nat} {f : Nat → Value} (k : Nat) (f' : Nat → Value) (v : Value) (hg : wants ⟨dst, .store t x y, ty, pos, af, g⟩ ops e = true) (hs : tsize P t = some 1) (hx : ev e x = .pointer (some ⟨b, i, none⟩)) (hy : ev e y = v)
    (hv : oneCell v = true) (H : Ctx w0 S w L) (hj : L[j]? = some (b, Bl t2 ((List.range n).map f))) (hi : i = k) (hk : k < n) (h1 : f' k = v) (h2 : ∀ q, q < n → q ≠ k → f' q = f q)
    (h : ∀ w', Ctx w0 S w' (L.set j (b, Bl t2 ((List.range n).map f'))) → Wops P r ops Q rest (put e dst undef) w') : Wops P r ops Q (⟨dst, .store t x y, ty, pos, af, g⟩ :: rest) e w := by
  subst hi
  refine op_stb v hg hs hx hy hv H hj (by simpa using hk) (fun w' H' => h w' ?_)
  rw [range_set h1 h2] at H'
  exact H'
end

theorem get_some {α : Type} {l : List α} {i : Nat} (h : i < l.length) : ∃ x, l[i]? = some x := ⟨l[i], List.getElem?_eq_getElem h⟩
theorem get_lt {α : Type} {l : List α} {i : Nat} {x : α} (h : l[i]? = some x) : i < l.length := (List.getElem?_eq_some_iff.1 h).1
theorem take_snoc {α : Type} {l : List α} {i : Nat} {x : α} (h : l[i]? = some x) : l.take (i + 1) = l.take i ++ [x] := by
  rw [List.take_add_one, h]; rfl
theorem rep_range {α : Type} (n : Nat) (v : α) : List.replicate n v = (List.range n).map fun _ => v := by
  apply List.ext_getElem?
  intro j
  by_cases hj : j < n
  · rw [range_get hj, List.getElem?_replicate, if_pos hj]
  · rw [List.getElem?_eq_none (by simp; omega), List.getElem?_eq_none (by simp; omega)]

/-! ### A slice that a call has made and hands back -/
structure Fresh (w w' : World) (el : TypeId) (s : Nat) (v : Value) (l : List Value) : Prop where
  ex : ∃ a n c full, v = .slice a n c ∧ OS a n c s full l ∧ ∀ x ∈ ent a el full, w'.heap[x.1]? = some x.2 ∧ w.heap.size ≤ x.1
  ext : Ext [] w w'

theorem ent_nd {a : Option Addr} {t : TypeId} {full : List Value} : (ent a t full).Pairwise fun x y => x.1 ≠ y.1 := by
  cases a <;> simp [ent]

theorem Ctx.fresh {w0 w : World} {L : List (Nat × Obj)} {a : Option Addr} {el : TypeId} {full l : List Value} {n c s : Nat} (H : Ctx w0 [] w (L ++ ent a el full)) (O : OS a n c s full l) : Fresh w0 w el s (.slice a n c) l :=
  ⟨⟨a, n, c, full, rfl, O, fun x hx => ⟨H.blk x (List.mem_append_right _ hx), by
    rcases H.own x (List.mem_append_right _ hx) with h | h
    · cases h
    · exact h⟩⟩, H.ext⟩
theorem Fresh.nil {w0 w : World} {L : List (Nat × Obj)} (H : Ctx w0 [] w L) (el : TypeId) (s : Nat) : Fresh w0 w el s (.slice none 0 0) [] :=
  ⟨⟨none, 0, 0, [], rfl, OS.nil, by simp [ent]⟩, H.ext⟩
theorem flat1 {α : Type} {f : α → Value} (xs : List α) : xs.flatMap (fun x => [f x]) = xs.map f := by
  induction xs with
  | nil => rfl
  | cons x xs ih => simp [ih]
theorem OS.rd1 {α : Type} {w : World} {a : Option Addr} {n c : Nat} {t : TypeId} {full : List Value} {f : α → Value} {xs : List α} (h : OS a n c 1 full (xs.map f)) (hb : ∀ x ∈ ent a t full, w.heap[x.1]? = some x.2) :
    Rd w a 1 (fun x => [f x]) xs := OS.rd (by rw [flat1]; exact h) hb (by simp) (by omega)
theorem OS.num {α : Type} {a : Option Addr} {n c : Nat} {full : List Value} {f : α → Value} {xs : List α} (h : OS a n c 1 full (xs.map f)) : n = xs.length := by
  have := h.llen; simpa using this.symm
theorem OS.numN {α : Type} {a : Option Addr} {n c s : Nat} {full : List Value} {enc : α → List Value} {xs : List α} (h : OS a n c s full (xs.flatMap enc)) (hs : ∀ x ∈ xs, (enc x).length = s) (h0 : 0 < s) : n = xs.length := by
  have h1 := h.llen
  have h2 : ∀ xs : List α, (∀ x ∈ xs, (enc x).length = s) → (xs.flatMap enc).length = xs.length * s := by
    intro xs
    induction xs with
    | nil => simp
    | cons x xs ih =>
      intro hs
      simp only [List.flatMap_cons, List.length_append, List.length_cons, Nat.add_mul, Nat.one_mul]
      rw [ih (fun y hy => hs y (by simp [hy])), hs x (by simp)]
      omega
  rw [h2 xs hs] at h1
  exact (Nat.eq_of_mul_eq_mul_right h0 h1).symm
end Go.GV

/- Maps whose keys are integers, as association lists. It holds for every program. -/
namespace Go.GV
open Go

/-- The entries in their order. -/
def mget {α : Type} (m : List (Int × α)) (k : Int) : Option α := (m.find? fun p => p.1 == k).map (·.2)
def mset {α : Type} : List (Int × α) → Int → α → List (Int × α)
  | [], k, v => [(k, v)]
  | p :: m, k, v => if p.1 = k then (k, v) :: m else p :: mset m k v
def mdel {α : Type} : List (Int × α) → Int → List (Int × α)
  | [], _ => []
  | p :: m, k => if p.1 = k then m else p :: mdel m k

/-- The object is a map that reads as m. -/
def MapO (kk : IntKind) (m : List (Int × Value)) (o : Obj) : Prop :=
  ∃ es clock, o = .map es clock ∧ es.toList.map (fun e => (e.key, e.val)) = m.map (fun p => (Value.int kk p.1, p.2)) ∧ (∀ e ∈ es.toList, e.born < clock) ∧ (es.toList.map (·.born)).Nodup

theorem findNow_at (kk : IntKind) (n : Int) : ∀ (es : List MapEntry) (m : List (Int × Value)) (i : Nat), es.map (fun e => (e.key, e.val)) = m.map (fun p => (Value.int kk p.1, p.2)) →
    (mget m n = none → Instr.findNow (.int kk) (.int kk n) es i = some none) ∧
    (∀ v, mget m n = some v → ∃ j, Instr.findNow (.int kk) (.int kk n) es i = some (some (i + j, v)) ∧ j < es.length ∧ ∀ (v' : Value), (es.modify j fun e => { e with key := .int kk n, val := v' }).map (fun e => (e.key, e.val)) = (mset m n v').map (fun p => (Value.int kk p.1, p.2)) ∧ ((es[j]?).map (·.key)) = some (.int kk n) ∧
      (es.eraseIdx j).map (fun e => (e.key, e.val)) = (mdel m n).map (fun p => (Value.int kk p.1, p.2)))
  | [], m, i, h => by
    cases m with
    | nil => exact ⟨fun _ => rfl, fun v hv => by cases hv⟩
    | cons p m => cases h
  | e :: es, m, i, h => by
    cases m with
    | nil => cases h
    | cons p m =>
      simp only [List.map_cons, List.cons.injEq, Prod.mk.injEq] at h
      obtain ⟨⟨hk, hv⟩, ht⟩ := h
      have ih := findNow_at kk n es m (i + 1) ht
      have hs : Instr.sameNow (.int kk) (.int kk n) e.key = some (n == p.1) := by rw [hk]; simp [Instr.sameNow]
      by_cases hn : p.1 = n
      · have hb : (n == p.1) = true := by simp [hn]
        have hg : mget (p :: m) n = some p.2 := by simp [mget, hn]
        refine ⟨(fun h => by rw [hg] at h; cases h), fun v hv' => ?_⟩
        rw [hg] at hv'
        injection hv' with hv'
        subst hv'
        refine ⟨0, by simp [Instr.findNow, hs, hb, hv], by simp, fun v' => ⟨?_, by simp [hk, hn], ?_⟩⟩
        · simp [mset, hn, ht, List.modify]
        · simp [mdel, hn, ht]
      · have hb : (n == p.1) = false := by simpa using Ne.symm hn
        have hb2 : (p.1 == n) = false := by simpa using hn
        have hg : mget (p :: m) n = mget m n := by simp [mget, hb2]
        rw [hg]
        refine ⟨fun h => by simp [Instr.findNow, hs, hb, ih.1 h], fun v hv' => ?_⟩
        obtain ⟨j, h1, h2, h3⟩ := ih.2 v hv'
        refine ⟨j + 1, by simp [Instr.findNow, hs, hb, h1]; omega, by simp; omega, fun v' => ?_⟩
        obtain ⟨a1, a2, a3⟩ := h3 v'
        refine ⟨?_, by simpa using a2, ?_⟩
        · simp only [List.modify_succ_cons, List.map_cons, mset, if_neg hn, a1, hk, hv]
        · simp only [List.eraseIdx_cons_succ, List.map_cons, mdel, if_neg hn, a3, hk, hv]

def mapT (P : Program) (t : TypeId) : Option (TypeId × TypeId) := match P.underlying t with | some (.map k e) => some (k, e) | _ => none
theorem mapT_u {P : Program} {t k e : TypeId} (h : mapT P t = some (k, e)) : P.underlying t = some (.map k e) := by
  unfold mapT at h
  split at h
  · rename_i hu; injection h with h; cases h; exact hu
  · cases h

section
variable {P : Program} {r : Option Nat} {ops rest : List Oper} {Q : Exit → Env → World → Prop} {e : Env} {w w0 : World} {S : List Nat} {L : List (Nat × Obj)}
  {dst : Option Tmp} {ty : TypeId} {pos : String} {af : Array Edge} {g : Option (Nat × Bool)}

theorem run_checkKey {b : Bool} {k : TypeId} {kk : IntKind} (hk : P.underlying k = some (.int kk)) (v : Value) (w : World) (d : Nat) : (Instr.checkKey b (d + 1) k v).run P w = .ok () w := by
  simp [Instr.checkKey, run_under hk]

theorem op_makeMap {t : TypeId} (kk : IntKind) (hg : wants ⟨dst, .makeMap t none, ty, pos, af, g⟩ ops e = true) (H : Ctx w0 S w L)
    (h : ∀ b o w', MapO kk [] o → Ctx w0 S w' ((b, o) :: L) → Wops P r ops Q rest (put e dst (.map (some b))) w') :
    Wops P r ops Q (⟨dst, .makeMap t none, ty, pos, af, g⟩ :: rest) e w := by
  refine op_val (w' := w.alloc (.map #[] 0)) (v := .map (some w.heap.size)) hg rfl ?_ (h _ _ _ ⟨#[], 0, rfl, rfl, by simp, by simp⟩ (H.alloc _))
  simp [execOp, Instr.makeMap, newObj, Sem.run]

theorem op_lookupOk {t k el : TypeId} {kk : IntKind} {x y : Operand} {b j : Nat} {o : Obj} {m : List (Int × Value)} {n : Int} {z : Value} (hg : wants ⟨dst, .lookup t x y true, ty, pos, af, g⟩ ops e = true)
    (ht : mapT P t = some (k, el)) (hk : P.underlying k = some (.int kk)) (hz : (P.info? el).bind (·.zero) = some z) (hx : ev e x = .map (some b)) (hy : ev e y = .int kk n) (H : Ctx w0 S w L) (hl : L[j]? = some (b, o)) (hM : MapO kk m o)
    (h : Wops P r ops Q rest (put e dst (.tuple #[(mget m n).getD z, .bool (mget m n).isSome])) w) : Wops P r ops Q (⟨dst, .lookup t x y true, ty, pos, af, g⟩ :: rest) e w := by
  obtain ⟨es, clock, rfl, hes, _⟩ := hM
  have hb := H.get hl
  have hf := findNow_at kk n es.toList m 0 hes
  have hgo : (getObj b).run P w = .ok (.map es clock) w := by simp [getObj, Sem.run, hb]
  have hzr : (zeroValue el).run P w = .ok z w := by
    cases hi : P.info? el with
    | none => rw [hi] at hz; cases hz
    | some i => rw [hi] at hz; simp at hz; simp [zeroValue, typeInfo, program, Sem.run, hi, hz]
  refine op_val hg rfl ?_ h
  cases hm : mget m n with
  | none => simp [execOp, Instr.lookup, run_under (mapT_u ht), hx, hy, hgo, run_checkKey hk, Instr.findKey, run_under hk, hf.1 hm, hzr]
  | some v =>
    obtain ⟨i, hi, _⟩ := hf.2 v hm
    simp [execOp, Instr.lookup, run_under (mapT_u ht), hx, hy, hgo, run_checkKey hk, Instr.findKey, run_under hk, hi]

theorem run_mapUpdate {t k el : TypeId} {kk : IntKind} {b j : Nat} {o : Obj} {m : List (Int × Value)} {n : Int} (v : Value) (ht : mapT P t = some (k, el)) (hk : P.underlying k = some (.int kk)) (H : Ctx w0 S w L) (hl : L[j]? = some (b, o)) (hM : MapO kk m o) :
    ∃ o' w', (Instr.mapUpdate t (.map (some b)) (.int kk n) v).run P w = .ok () w' ∧ MapO kk (mset m n v) o' ∧ Ctx w0 S w' (L.set j (b, o')) := by
  obtain ⟨es, clock, rfl, hes, hbn, hnd⟩ := hM
  have hb := H.get hl
  have hf := findNow_at kk n es.toList m 0 hes
  have hgo : (getObj b).run P w = .ok (.map es clock) w := by simp [getObj, Sem.run, hb]
  have hso : ∀ o', (setObj b o').run P w = .ok () (w.putObj b o') := fun o' => by simp [setObj, Sem.run, hb, World.putObj]
  cases hm : mget m n with
  | none =>
    refine ⟨.map (es.push { key := .int kk n, val := v, born := clock }) (clock + 1), w.putObj b _, ?_, ⟨_, _, rfl, ?_, ?_, ?_⟩, H.setB hl _⟩
    · simp [Instr.mapUpdate, run_under (mapT_u ht), hgo, run_checkKey hk, Instr.findKey, run_under hk, hf.1 hm, hso]
    · have hms : mset m n v = m ++ [(n, v)] := by
        clear hes hf
        induction m with
        | nil => rfl
        | cons p m ih =>
          have hp : ¬ p.1 = n := by
            intro hp
            simp [mget, hp] at hm
          have hb2 : (p.1 == n) = false := by simpa using hp
          have hm2 : mget m n = none := by rw [← hm]; simp [mget, hb2]
          simp [mset, hp, ih hm2]
      rw [hms]
      simp [hes]
    · intro x hx
      simp only [Array.toList_push, List.mem_append, List.mem_singleton] at hx
      rcases hx with hx | rfl
      · have := hbn x hx; omega
      · simp
    · simp only [Array.toList_push, List.map_append, List.map_cons, List.map_nil]
      rw [List.nodup_append]
      refine ⟨hnd, by simp, ?_⟩
      intro x hx y hy
      simp only [List.mem_singleton] at hy
      subst hy
      rw [List.mem_map] at hx
      obtain ⟨e', he', rfl⟩ := hx
      have := hbn e' he'
      omega
  | some v0 =>
    obtain ⟨i, hi, hil, h3⟩ := hf.2 v0 hm
    obtain ⟨a1, a2, _⟩ := h3 v
    have hkts : (Instr.keyThatStays (.int kk n) (.int kk n)).run P w = .ok (.int kk n) w := by simp [Instr.keyThatStays, Instr.sameBits]
    have hold : ((es[i]?).map (·.key)).getD (.int kk n) = .int kk n := by
      have : es[i]? = es.toList[i]? := by rw [Array.getElem?_toList]
      rw [this, a2]; rfl
    refine ⟨.map (es.modify i fun e => { e with key := .int kk n, val := v }) clock, w.putObj b _, ?_, ⟨_, _, rfl, ?_, ?_, ?_⟩, H.setB hl _⟩
    · simp [Instr.mapUpdate, run_under (mapT_u ht), hgo, run_checkKey hk, Instr.findKey, run_under hk, hi, hold, hkts, hso]
    · rw [Array.toList_modify]; exact a1
    · intro x hx
      rw [Array.toList_modify, List.mem_iff_getElem?] at hx
      obtain ⟨q, hq⟩ := hx
      rw [List.getElem?_modify] at hq
      cases hq2 : es.toList[q]? with
      | none => rw [hq2] at hq; simp at hq
      | some y =>
        rw [hq2] at hq
        have hy := hbn y (List.mem_of_getElem? hq2)
        injection hq with hq
        subst hq
        dsimp only
        split <;> exact hy
    · rw [Array.toList_modify]
      have : (es.toList.modify i fun e => { e with key := .int kk n, val := v }).map (·.born) = es.toList.map (·.born) := by
        apply List.ext_getElem?
        intro q
        rw [List.getElem?_map, List.getElem?_map, List.getElem?_modify]
        cases es.toList[q]? with
        | none => rfl
        | some y => show some (Value.map none, (if i = q then _ else y).born).2 = some y.born; split <;> rfl
      rw [this]; exact hnd

theorem op_mapUpdate {t k el : TypeId} {kk : IntKind} {x y z : Operand} {b j : Nat} {o : Obj} {m : List (Int × Value)} {n : Int} (v : Value) (hg : wants ⟨dst, .mapUpdate t x y z, ty, pos, af, g⟩ ops e = true)
    (ht : mapT P t = some (k, el)) (hk : P.underlying k = some (.int kk)) (hx : ev e x = .map (some b)) (hy : ev e y = .int kk n) (hv : ev e z = v) (H : Ctx w0 S w L) (hl : L[j]? = some (b, o)) (hM : MapO kk m o)
    (h : ∀ o' w', MapO kk (mset m n v) o' → Ctx w0 S w' (L.set j (b, o')) → Wops P r ops Q rest (put e dst undef) w') : Wops P r ops Q (⟨dst, .mapUpdate t x y z, ty, pos, af, g⟩ :: rest) e w := by
  obtain ⟨o', w', hr, hM', H'⟩ := run_mapUpdate (n := n) v ht hk H hl hM
  exact op_unit hg rfl (by simp [execOp, hx, hy, hv, hr]) (h o' w' hM' H')
end
section
variable {P : Program} {r : Option Nat} {n : Nat} {Q : Exit → Env → World → Prop} {e : Env} {w : World}
/-- A test of a slot that is tested again further on. -/
theorem W_csplit {x y : Code} (d : Tmp) {b : Bool} (hd : e.g d = .bool b) (h1 : b = true → W P r n x Q (put e (some d) (.bool true)) w) (h2 : b = false → W P r n y Q (put e (some d) (.bool false)) w) :
    W P r n (.cond (.tmp d) x y) Q e w := by
  refine W_cond b hd (fun h => ?_) (fun h => ?_)
  · have h3 := h1 h; rw [put_same_val (by rw [hd, h])] at h3; exact h3
  · have h3 := h2 h; rw [put_same_val (by rw [hd, h])] at h3; exact h3
end
end Go.GV

/- Joins and slices that are built of more than one part. It holds for every program. -/
namespace Go.GV
open Go

def placesB (P : Program) (t : TypeId) : Option (List (Nat × Nat)) :=
  match P.underlying t with
  | some (.struct fs) => fs.toList.mapM (fun f => (P.info? f.type).map fun i => (f.offset, i.size))
  | _ => none

section
variable {P : Program} {r : Option Nat} {ops rest : List Oper} {Q : Exit → Env → World → Prop} {e : Env} {w w0 : World} {S : List Nat} {L : List (Nat × Obj)}
  {dst : Option Tmp} {ty : TypeId} {pos : String} {af : Array Edge} {g : Option (Nat × Bool)}

theorem built_of {t : TypeId} {pl : List (Nat × Nat)} {zl : List Value} {ps : List (Nat × Value)} {l : Array Value} (hp : placesB P t = some pl) (hz : zcells P t = some zl)
    (hl : Instr.fill (fun i => pl.toArray[i]?) zl.toArray ps = some l) : P.built t ps = some l := by
  unfold placesB at hp
  unfold zcells at hz
  unfold Program.built
  cases hu : P.underlying t with
  | none => rw [hu] at hp; cases hp
  | some d =>
    rw [hu] at hp
    cases hi : P.info? t with
    | none => rw [hi] at hz; cases hz
    | some it =>
      rw [hi] at hz
      cases hzz : it.zero with
      | none => simp [hzz] at hz
      | some z =>
        simp only [Option.bind_some, hzz, Option.map_some, Option.some.injEq] at hz
        subst hz
        cases d <;> first | (cases hp; done) | skip
        rename_i fields
        have hp' : fields.toList.mapM (fun f => (P.info? f.type).map fun i => (f.offset, i.size)) = some pl := hp
        simp only [hzz, hp']
        simpa using hl

theorem op_buildS {t : TypeId} {parts : Array (Nat × Operand)} {pl : List (Nat × Nat)} {zl : List Value} (l : List Value) (hg : wants ⟨dst, .build t parts, ty, pos, af, g⟩ ops e = true) (hp : placesB P t = some pl) (hz : zcells P t = some zl)
    (hl : Instr.fill (fun i => pl.toArray[i]?) zl.toArray (parts.toList.map fun p => (p.1, ev e p.2)) = some l.toArray) (h : Wops P r ops Q rest (put e dst (.agg l.toArray)) w) :
    Wops P r ops Q (⟨dst, .build t parts, ty, pos, af, g⟩ :: rest) e w := by
  refine op_val hg rfl ?_ h
  have hb : P.built t (parts.map fun (i, x) => (i, ev e x)).toList = some l.toArray := built_of hp hz (by rw [Array.toList_map]; exact hl)
  simp [execOp, run_build w t _ _ hb]

theorem op_buildL {t el : TypeId} {n : Nat} {parts : Array (Nat × Operand)} {s : Nat} {zl : List Value} (l : List Value) (hg : wants ⟨dst, .buildSlice t n parts, ty, pos, af, g⟩ ops e = true)
    (hu : elemT P t = some el) (hs : tsize P el = some s) (hz : zcells P el = some zl) (hn : ¬ n * s = 0) (hbig : ¬ 16777216 < n * s)
    (hl : Instr.fill (fun i => some (i * s, s)) ((Array.range (n * s)).map fun k => zl.toArray[k % zl.toArray.size]!) (parts.toList.map fun p => (p.1, ev e p.2)) = some l.toArray) (H : Ctx w0 S w L)
    (h : ∀ b w', w.heap.size = b → Ctx w0 S w' ((b, Bl el l) :: L) → Wops P r ops Q rest (put e dst (.slice (some ⟨b, 0, none⟩) n n)) w') :
    Wops P r ops Q (⟨dst, .buildSlice t n parts, ty, pos, af, g⟩ :: rest) e w := by
  obtain ⟨z, hz1, hz2⟩ := run_zero hz w
  have hzc : z.cells = zl.toArray := by apply Array.ext'; rw [hz2]
  refine op_val (w' := w.alloc (Bl el l)) (v := .slice (some ⟨w.heap.size, 0, none⟩) n n) hg rfl ?_ (h _ _ rfl (H.alloc _))
  have hf : Instr.fill (fun i => some (i * s, s)) ((Array.range (n * s)).map fun k => zl.toArray[k % zl.toArray.size]!) (parts.map fun (i, x) => (i, ev e x)).toList = some l.toArray := by rw [Array.toList_map]; exact hl
  simp only [execOp, Instr.buildSlice, Sem.run_bind, run_under (elemT_u hu), run_size hs, Result.andThen_ok, if_neg hbig, if_neg hn, hz1, Sem.run_pure, hzc]
  rw [hf]
  simp [newRow, newObj, Sem.run]
  rfl

end
end Go.GV

/- Rules for unsigned numbers that are written as naturals: bits, shifts, sums that wrap, conversions; rules for strings; printed by mkbits.py. They hold for every program. -/
namespace Go.GV
open Go

theorem wrap_nat {k : IntKind} (hk : k.signed = false) (a : Nat) : k.wrap (a : Int) = ((a % 2 ^ k.bits : Nat) : Int) := by
  unfold IntKind.wrap
  rw [hk]
  simp
theorem ofInt_nat (n a : Nat) : BitVec.ofInt n (a : Int) = BitVec.ofNat n a := by
  apply BitVec.eq_of_toNat_eq
  rw [BitVec.toNat_ofInt, BitVec.toNat_ofNat]
  norm_cast
theorem bits_and {k : IntKind} (hk : k.signed = false) {a b : Nat} (ha : a < 2 ^ k.bits) (hb : b < 2 ^ k.bits) : Op.intBits .and k a b = pure (.int k ((a &&& b : Nat) : Int)) := by
  have hx : a &&& b < 2 ^ k.bits := Nat.lt_of_le_of_lt Nat.and_le_left ha
  simp only [Op.intBits, ofInt_nat]
  rw [wrap_nat hk, BitVec.toNat_and, BitVec.toNat_ofNat, BitVec.toNat_ofNat, Nat.mod_eq_of_lt ha, Nat.mod_eq_of_lt hb, Nat.mod_eq_of_lt hx]
theorem bits_xor {k : IntKind} (hk : k.signed = false) {a b : Nat} (ha : a < 2 ^ k.bits) (hb : b < 2 ^ k.bits) : Op.intBits .xor k a b = pure (.int k ((a ^^^ b : Nat) : Int)) := by
  have hx : a ^^^ b < 2 ^ k.bits := Nat.xor_lt_two_pow ha hb
  simp only [Op.intBits, ofInt_nat]
  rw [wrap_nat hk, BitVec.toNat_xor, BitVec.toNat_ofNat, BitVec.toNat_ofNat, Nat.mod_eq_of_lt ha, Nat.mod_eq_of_lt hb, Nat.mod_eq_of_lt hx]
theorem run_shr {k k2 : IntKind} {a n : Nat} (hn : n ≤ k.bits) : Op.shift .shr k (a : Int) k2 (n : Int) = pure (.int k ((a / 2 ^ n : Nat) : Int)) := by
  unfold Op.shift
  rw [if_neg (by omega)]
  have hm : min ((n : Int)).toNat k.bits = n := by rw [Int.toNat_natCast]; exact Nat.min_eq_left hn
  simp only [hm]
  congr 2
  have : ((2 : Int) ^ n) = ((2 ^ n : Nat) : Int) := by norm_cast
  rw [this, Int.fdiv_eq_ediv_of_nonneg _ (Int.natCast_nonneg _)]
  norm_cast
theorem run_shl {k k2 : IntKind} (hk : k.signed = false) {a n : Nat} (hn : n ≤ k.bits) : Op.shift .shl k (a : Int) k2 (n : Int) = pure (.int k ((a * 2 ^ n % 2 ^ k.bits : Nat) : Int)) := by
  unfold Op.shift
  rw [if_neg (by omega)]
  have hm : min ((n : Int)).toNat k.bits = n := by rw [Int.toNat_natCast]; exact Nat.min_eq_left hn
  simp only [hm]
  congr 2
  have : (a : Int) * (2 : Int) ^ n = ((a * 2 ^ n : Nat) : Int) := by norm_cast
  rw [this, wrap_nat hk]
section
variable {P : Program} {r : Option Nat} {ops rest : List Oper} {Q : Exit → Env → World → Prop} {e : Env} {w w0 : World} {S : List Nat} {L : List (Nat × Obj)}
  {dst : Option Tmp} {ty : TypeId} {pos : String} {af : Array Edge} {g : Option (Nat × Bool)} {C : World → Prop} {K : Env → Prop} {t t2 : TypeId} {x y : Operand} {a b n : Nat} {s d : TypeId}
theorem op_and_u64 (hg : wants ⟨dst, .binOp .and t x y t2, ty, pos, af, g⟩ ops e = true) (hx : ev e x = .int .u64 a) (hy : ev e y = .int .u64 b) (ha : a < 18446744073709551616) (hb : b < 18446744073709551616)
    (h : Wops P r ops Q rest (put e dst (.int .u64 ((a &&& b : Nat) : Int))) w) : Wops P r ops Q (⟨dst, .binOp .and t x y t2, ty, pos, af, g⟩ :: rest) e w :=
  op_val hg rfl (run_bin hx hy (by show (Op.intBits .and .u64 (a : Int) (b : Int)).run P w = _; rw [bits_and rfl (by exact ha) (by exact hb)]; rfl)) h
theorem q_xor_u64 (hg : wants ⟨dst, .binOp .xor t x y t2, ty, pos, af, g⟩ ops e = true) (hx : ev e x = .int .u64 a) (hy : ev e y = .int .u64 b) (ha : a < 18446744073709551616) (hb : b < 18446744073709551616)
    (h : Wq P ops C K rest (put e dst (.int .u64 ((a ^^^ b : Nat) : Int)))) : Wq P ops C K (⟨dst, .binOp .xor t x y t2, ty, pos, af, g⟩ :: rest) e :=
  q_val hg (fun w _ => run_bin hx hy (by show (Op.intBits .xor .u64 (a : Int) (b : Int)).run P w = _; rw [bits_xor rfl (by exact ha) (by exact hb)]; rfl)) h
theorem op_shr_u64 (hg : wants ⟨dst, .binOp .shr t x y t2, ty, pos, af, g⟩ ops e = true) {k2 : IntKind} (hx : ev e x = .int .u64 a) (hy : ev e y = .int k2 n) (hn : n ≤ 64)
    (h : Wops P r ops Q rest (put e dst (.int .u64 ((a / 2 ^ n : Nat) : Int))) w) : Wops P r ops Q (⟨dst, .binOp .shr t x y t2, ty, pos, af, g⟩ :: rest) e w :=
  op_val hg rfl (run_bin hx hy (by show (Op.shift .shr .u64 (a : Int) k2 (n : Int)).run P w = _; rw [run_shr (by exact hn)]; rfl)) h
theorem q_shr_u64 (hg : wants ⟨dst, .binOp .shr t x y t2, ty, pos, af, g⟩ ops e = true) {k2 : IntKind} (hx : ev e x = .int .u64 a) (hy : ev e y = .int k2 n) (hn : n ≤ 64)
    (h : Wq P ops C K rest (put e dst (.int .u64 ((a / 2 ^ n : Nat) : Int)))) : Wq P ops C K (⟨dst, .binOp .shr t x y t2, ty, pos, af, g⟩ :: rest) e :=
  q_val hg (fun w _ => run_bin hx hy (by show (Op.shift .shr .u64 (a : Int) k2 (n : Int)).run P w = _; rw [run_shr (by exact hn)]; rfl)) h
theorem op_shl_u64 (hg : wants ⟨dst, .binOp .shl t x y t2, ty, pos, af, g⟩ ops e = true) {k2 : IntKind} (hx : ev e x = .int .u64 a) (hy : ev e y = .int k2 n) (hn : n ≤ 64)
    (h : Wops P r ops Q rest (put e dst (.int .u64 ((a * 2 ^ n % 18446744073709551616 : Nat) : Int))) w) : Wops P r ops Q (⟨dst, .binOp .shl t x y t2, ty, pos, af, g⟩ :: rest) e w :=
  op_val hg rfl (run_bin hx hy (by show (Op.shift .shl .u64 (a : Int) k2 (n : Int)).run P w = _; rw [run_shl rfl (by exact hn)]; rfl)) h
theorem q_shl_u64 (hg : wants ⟨dst, .binOp .shl t x y t2, ty, pos, af, g⟩ ops e = true) {k2 : IntKind} (hx : ev e x = .int .u64 a) (hy : ev e y = .int k2 n) (hn : n ≤ 64)
    (h : Wq P ops C K rest (put e dst (.int .u64 ((a * 2 ^ n % 18446744073709551616 : Nat) : Int)))) : Wq P ops C K (⟨dst, .binOp .shl t x y t2, ty, pos, af, g⟩ :: rest) e :=
  q_val hg (fun w _ => run_bin hx hy (by show (Op.shift .shl .u64 (a : Int) k2 (n : Int)).run P w = _; rw [run_shl rfl (by exact hn)]; rfl)) h
end
end Go.GV

/- The rules for operations that are carried out ahead within a region that draws its order; printed by mkmore.py. They hold for every program. -/
namespace Go.GV
open Go
section
variable {P : Program} {r : Option Nat} {ops rest : List Oper} {Q : Exit → Env → World → Prop} {e : Env} {w w0 : World} {S : List Nat} {L : List (Nat × Obj)}
  {dst : Option Tmp} {ty : TypeId} {pos : String} {af : Array Edge} {g : Option (Nat × Bool)} {C : World → Prop} {K : Env → Prop}

theorem t_val {o : Oper} {v : Value} (hg : wants o ops e = true) (hrun : ∀ w, lax o = true ∨ C w → (execOp (ev e) o).run P w = .ok (.value v) w) (h : Wt P ops C K rest (put e o.dst v)) : Wt P ops C K (o :: rest) e := by
  unfold Wt
  rw [if_pos hg]
  exact ⟨v, hrun, h⟩
theorem t_valC {o : Oper} {v : Value} (hl : lax o = false) (hg : wants o ops e = true) (hrun : ∀ w, C w → (execOp (ev e) o).run P w = .ok (.value v) w) (h : Wt P ops C K rest (put e o.dst v)) : Wt P ops C K (o :: rest) e :=
  t_val hg (fun w hw => hrun w (hw.resolve_left (by rw [hl]; simp))) h
theorem t_skip {o : Oper} (hg : wants o ops e = false) (h : Wt P ops C K rest (put e o.dst undef)) : Wt P ops C K (o :: rest) e := by
  unfold Wt
  rw [if_neg (by rw [hg]; simp)]
  exact h
theorem t_nil (h : K e) : Wt P ops C K [] e := h
theorem Wt_known {l : List Oper} (d : Tmp) {b : Bool} (c : Bool) (hd : e.g d = .bool b) (hb : b = c) (h : Wt P ops C K l (put e (some d) (.bool c))) : Wt P ops C K l e := by
  subst hb
  rw [put_same_val hd] at h
  exact h
theorem Wt_split {l : List Oper} (d : Tmp) {b : Bool} (hd : e.g d = .bool b) (h1 : b = true → Wt P ops C K l (put e (some d) (.bool true)))
    (h2 : b = false → Wt P ops C K l (put e (some d) (.bool false))) : Wt P ops C K l e := by
  cases b with
  | true => exact Wt_known d true hd rfl (h1 rfl)
  | false => exact Wt_known d false hd rfl (h2 rfl)
section
variable {t t2 : TypeId} {x y : Operand} {k : IntKind} {a b : Int}
theorem t_ld {t : TypeId} {x : Operand} {p : Addr} {v : Value} (hg : wants ⟨dst, .load t x, ty, pos, af, g⟩ ops e = true) (ha : aggB P t = some false) (hx : ev e x = .pointer (some p)) (hc : ∀ w, C w → w.cell? p = some v)
    (h : Wt P ops C K rest (put e dst v)) : Wt P ops C K (⟨dst, .load t x, ty, pos, af, g⟩ :: rest) e :=
  t_valC rfl hg (fun w hw => by simp [execOp, hx, Instr.loadAt, Instr.sureAddr, run_load1 ha (hc w hw)]) h
theorem t_ldb {t t2 : TypeId} {x : Operand} {b i k : Nat} {l : List Value} {v : Value} (hg : wants ⟨dst, .load t x, ty, pos, af, g⟩ ops e = true) (ha : aggB P t = some false) (hx : ev e x = .pointer (some ⟨b, i, none⟩))
    (H : ∀ w, C w → Ctx w0 S w L) (hk : L[k]? = some (b, Bl t2 l)) (hc : l[i]? = some v)
    (h : Wt P ops C K rest (put e dst v)) : Wt P ops C K (⟨dst, .load t x, ty, pos, af, g⟩ :: rest) e :=
  t_ld hg ha hx (fun w hw => by rw [cell_bl ((H w hw).get hk)]; exact hc) h
theorem t_ldN {t : TypeId} {x : Operand} {b o s : Nat} (l : List Value) (hg : wants ⟨dst, .load t x, ty, pos, af, g⟩ ops e = true) (ha : aggB P t = some true) (hs : tsize P t = some s) (hx : ev e x = .pointer (some ⟨b, o, none⟩))
    (hl : l.length = s) (hc : ∀ w, C w → ∀ j v, l[j]? = some v → w.cell? ⟨b, o + j, none⟩ = some v)
    (h : Wt P ops C K rest (put e dst (.agg l.toArray))) : Wt P ops C K (⟨dst, .load t x, ty, pos, af, g⟩ :: rest) e :=
  t_valC rfl hg (fun w hw => by simp [execOp, hx, Instr.loadAt, Instr.sureAddr, run_loadN ha hs hl (hc w hw)]) h
theorem t_ldbN {t t2 : TypeId} {x : Operand} {b s k : Nat} {l : List Value} (hg : wants ⟨dst, .load t x, ty, pos, af, g⟩ ops e = true) (ha : aggB P t = some true) (hs : tsize P t = some s) (hx : ev e x = .pointer (some ⟨b, 0, none⟩))
    (H : ∀ w, C w → Ctx w0 S w L) (hk : L[k]? = some (b, Bl t2 l)) (hl : l.length = s)
    (h : Wt P ops C K rest (put e dst (.agg l.toArray))) : Wt P ops C K (⟨dst, .load t x, ty, pos, af, g⟩ :: rest) e :=
  t_ldN l hg ha hs hx hl (fun w hw j v hv => by rw [cell_bl ((H w hw).get hk), Nat.zero_add]; exact hv) h
theorem t_lss (hg : wants ⟨dst, .binOp .lss t x y t2, ty, pos, af, g⟩ ops e = true) (hx : ev e x = .int k a) (hy : ev e y = .int k b) (h : Wt P ops C K rest (put e dst (.bool (decide (a < b))))) :
    Wt P ops C K (⟨dst, .binOp .lss t x y t2, ty, pos, af, g⟩ :: rest) e := t_val hg (fun w _ => run_bin hx hy (by simp [binOp, Op.intCmp])) h
theorem t_gtr (hg : wants ⟨dst, .binOp .gtr t x y t2, ty, pos, af, g⟩ ops e = true) (hx : ev e x = .int k a) (hy : ev e y = .int k b) (h : Wt P ops C K rest (put e dst (.bool (decide (b < a))))) :
    Wt P ops C K (⟨dst, .binOp .gtr t x y t2, ty, pos, af, g⟩ :: rest) e := t_val hg (fun w _ => run_bin hx hy (by simp [binOp, Op.intCmp])) h
theorem t_geq (hg : wants ⟨dst, .binOp .geq t x y t2, ty, pos, af, g⟩ ops e = true) (hx : ev e x = .int k a) (hy : ev e y = .int k b) (h : Wt P ops C K rest (put e dst (.bool (decide (b ≤ a))))) :
    Wt P ops C K (⟨dst, .binOp .geq t x y t2, ty, pos, af, g⟩ :: rest) e := t_val hg (fun w _ => run_bin hx hy (by simp [binOp, Op.intCmp])) h
theorem t_neq (hg : wants ⟨dst, .binOp .neq t x y t2, ty, pos, af, g⟩ ops e = true) (hx : ev e x = .int k a) (hy : ev e y = .int k b) (h : Wt P ops C K rest (put e dst (.bool (!decide (a = b))))) :
    Wt P ops C K (⟨dst, .binOp .neq t x y t2, ty, pos, af, g⟩ :: rest) e :=
  t_val hg (fun w _ => run_bin hx hy (v := .bool (!decide (a = b))) (by simp [binOp, Op.intCmp]; rfl)) h

theorem t_add_i64 (hg : wants ⟨dst, .binOp .add t x y t2, ty, pos, af, g⟩ ops e = true) (hx : ev e x = .int .i64 a) (hy : ev e y = .int .i64 b) (h1 : -9223372036854775808 ≤ a + b) (h2 : a + b ≤ 9223372036854775807)
    (h : Wt P ops C K rest (put e dst (.int .i64 (a + b)))) : Wt P ops C K (⟨dst, .binOp .add t x y t2, ty, pos, af, g⟩ :: rest) e := t_val hg (fun w _ => run_bin hx hy (by simp [binOp, Op.intArith, wrap_in (k := .i64) (n := a + b) h1 h2])) h
theorem t_sub_i64 (hg : wants ⟨dst, .binOp .sub t x y t2, ty, pos, af, g⟩ ops e = true) (hx : ev e x = .int .i64 a) (hy : ev e y = .int .i64 b) (h1 : -9223372036854775808 ≤ a - b) (h2 : a - b ≤ 9223372036854775807)
    (h : Wt P ops C K rest (put e dst (.int .i64 (a - b)))) : Wt P ops C K (⟨dst, .binOp .sub t x y t2, ty, pos, af, g⟩ :: rest) e := t_val hg (fun w _ => run_bin hx hy (by simp [binOp, Op.intArith, wrap_in (k := .i64) (n := a - b) h1 h2])) h
theorem t_neg_i64 (hg : wants ⟨dst, .unOp .neg t x, ty, pos, af, g⟩ ops e = true) (hx : ev e x = .int .i64 a) (h1 : -9223372036854775808 ≤ - a) (h2 : - a ≤ 9223372036854775807) (h : Wt P ops C K rest (put e dst (.int .i64 (- a)))) : Wt P ops C K (⟨dst, .unOp .neg t x, ty, pos, af, g⟩ :: rest) e := t_val hg (fun w _ => by simp [execOp, hx, Op.unary, Op.intArith, wrap_in (k := .i64) h1 h2]) h
theorem t_conv_u64 {s d : TypeId} {ds : TypeDesc} (hg : wants ⟨dst, .convert s d x, ty, pos, af, g⟩ ops e = true) (hx : ev e x = .int k a) (hs : P.underlying s = some ds) (hd : P.underlying d = some (.int .u64)) (h1 : 0 ≤ a) (h2 : a ≤ 18446744073709551615) (h : Wt P ops C K rest (put e dst (.int .u64 a))) : Wt P ops C K (⟨dst, .convert s d x, ty, pos, af, g⟩ :: rest) e :=
  t_val hg (fun w _ => by simp [execOp, hx, convert, run_under hs, run_under hd, Conv.intToInt, wrap_in (k := .u64) (n := a) h1 h2]) h
theorem t_move {x : Operand} (hg : wants ⟨dst, .move x, ty, pos, af, g⟩ ops e = true) (v : Value) (hx : ev e x = v) (h : Wt P ops C K rest (put e dst v)) :
    Wt P ops C K (⟨dst, .move x, ty, pos, af, g⟩ :: rest) e := t_val hg (fun w _ => by simp [execOp, hx]) h
theorem t_assign {x : Operand} (hg : wants ⟨dst, .assign x, ty, pos, af, g⟩ ops e = true) (v : Value) (hx : ev e x = v) (h : Wt P ops C K rest (put e dst v)) :
    Wt P ops C K (⟨dst, .assign x, ty, pos, af, g⟩ :: rest) e := t_val hg (fun w _ => by simp [execOp, hx]) h
theorem t_pick1 {c a b : Operand} (hg : wants ⟨dst, .pick c a b, ty, pos, af, g⟩ ops e = true) (hc : ev e c = .bool true) (v : Value) (hx : ev e a = v) (h : Wt P ops C K rest (put e dst v)) :
    Wt P ops C K (⟨dst, .pick c a b, ty, pos, af, g⟩ :: rest) e := t_val hg (fun w _ => by simp [execOp, hc, hx, asBool]) h
theorem t_pick0 {c a b : Operand} (hg : wants ⟨dst, .pick c a b, ty, pos, af, g⟩ ops e = true) (hc : ev e c = .bool false) (v : Value) (hx : ev e b = v) (h : Wt P ops C K rest (put e dst v)) :
    Wt P ops C K (⟨dst, .pick c a b, ty, pos, af, g⟩ :: rest) e := t_val hg (fun w _ => by simp [execOp, hc, hx, asBool]) h

theorem t_not {t : TypeId} {x : Operand} {b : Bool} (hg : wants ⟨dst, .unOp .not t x, ty, pos, af, g⟩ ops e = true) (hx : ev e x = .bool b) (h : Wt P ops C K rest (put e dst (.bool (!b)))) :
    Wt P ops C K (⟨dst, .unOp .not t x, ty, pos, af, g⟩ :: rest) e := t_val hg (fun w _ => by simp [execOp, hx, Op.unary]) h
theorem t_nilCheck {x : Operand} {p : Addr} (hg : wants ⟨dst, .nilCheck x, ty, pos, af, g⟩ ops e = true) (hx : ev e x = .pointer (some p)) (h : Wt P ops C K rest (put e dst (.pointer (some p)))) :
    Wt P ops C K (⟨dst, .nilCheck x, ty, pos, af, g⟩ :: rest) e := t_val hg (fun w _ => by simp [execOp, hx]) h
theorem t_indexAddr {t el : TypeId} {x y : Operand} {b o n c s : Nat} {k : IntKind} {i : Int} (hg : wants ⟨dst, .indexAddr t x y, ty, pos, af, g⟩ ops e = true) (hu : elemT P t = some el) (hs : tsize P el = some s)
    (hx : ev e x = .slice (some ⟨b, o, none⟩) n c) (hy : ev e y = .int k i) (h0 : 0 ≤ i) (h1 : i < n)
    (h : Wt P ops C K rest (put e dst (.pointer (some ⟨b, o + i.toNat * s, none⟩)))) :
    Wt P ops C K (⟨dst, .indexAddr t x y, ty, pos, af, g⟩ :: rest) e :=
  t_val hg (fun w _ => by simp [execOp, hx, hy, Instr.indexAt, asIntOf, run_under (elemT_u hu), h0, h1, run_size hs, add_none]) h
theorem t_indexRd {t el : TypeId} {x y : Operand} {a : Option Addr} {n c s : Nat} {k : IntKind} {i : Int} {α : Type} {enc : α → List Value} {xs : List α} {w1 : World} (R : Rd w1 a s enc xs)
    (hg : wants ⟨dst, .indexAddr t x y, ty, pos, af, g⟩ ops e = true) (hu : elemT P t = some el) (hs : tsize P el = some s)
    (hx : ev e x = .slice a n c) (hy : ev e y = .int k i) (h0 : 0 ≤ i) (h1 : i < n) (hn : n = xs.length)
    (h : Wt P ops C K rest (put e dst (.pointer (some ⟨(adr a).block, (adr a).off + i.toNat * s, none⟩)))) :
    Wt P ops C K (⟨dst, .indexAddr t x y, ty, pos, af, g⟩ :: rest) e := by
  obtain ⟨b, o, rfl⟩ := R.some' (by rintro rfl; simp at hn; omega)
  exact t_indexAddr hg hu hs hx hy h0 h1 h
theorem t_min2 {t1 t2 : TypeId} {x y : Operand} {k : IntKind} {a b : Int} (hg : wants ⟨dst, .call ⟨.builtin .min, #[x, y], #[t1, t2]⟩, ty, pos, af, g⟩ ops e = true) (hx : ev e x = .int k a) (hy : ev e y = .int k b)
    (h : Wt P ops C K rest (put e dst (.int k (min a b)))) :
    Wt P ops C K (⟨dst, .call ⟨.builtin .min, #[x, y], #[t1, t2]⟩, ty, pos, af, g⟩ :: rest) e :=
  t_val hg (fun w _ => by
    have : (if b < a then b else a) = min a b := by rw [Int.min_def]; split <;> split <;> omega
    simp [execOp, resolve, invoke, builtin, hx, hy, Builtin.min_, Builtin.min2, this]) h
theorem t_max2 {t1 t2 : TypeId} {x y : Operand} {k : IntKind} {a b : Int} (hg : wants ⟨dst, .call ⟨.builtin .max, #[x, y], #[t1, t2]⟩, ty, pos, af, g⟩ ops e = true) (hx : ev e x = .int k a) (hy : ev e y = .int k b)
    (h : Wt P ops C K rest (put e dst (.int k (max a b)))) :
    Wt P ops C K (⟨dst, .call ⟨.builtin .max, #[x, y], #[t1, t2]⟩, ty, pos, af, g⟩ :: rest) e :=
  t_val hg (fun w _ => by
    have : (if a < b then b else a) = max a b := by rw [Int.max_def]; split <;> split <;> omega
    simp [execOp, resolve, invoke, builtin, hx, hy, Builtin.max_, Builtin.max2, this]) h
theorem t_extract {x : Operand} {i : Nat} {vs : Array Value} {v : Value} (hg : wants ⟨dst, .extract x i, ty, pos, af, g⟩ ops e = true) (hx : ev e x = .tuple vs) (hv : vs[i]? = some v) (h : Wt P ops C K rest (put e dst v)) :
    Wt P ops C K (⟨dst, .extract x i, ty, pos, af, g⟩ :: rest) e :=
  t_val hg (fun w _ => by simp [execOp, hx, Instr.extract, hv]) h
theorem t_fieldAddr {t : TypeId} {x : Operand} {i b o off : Nat} (hg : wants ⟨dst, .fieldAddr t x i, ty, pos, af, g⟩ ops e = true) (hf : fieldO P t i = some off) (hx : ev e x = .pointer (some ⟨b, o, none⟩))
    (h : Wt P ops C K rest (put e dst (.pointer (some ⟨b, o + off, none⟩)))) :
    Wt P ops C K (⟨dst, .fieldAddr t x i, ty, pos, af, g⟩ :: rest) e := by
  unfold fieldO at hf
  split at hf
  · rename_i fs hu
    split at hf
    · rename_i f hf1
      split at hf
      · rename_i s hs
        injection hf with hf
        subst hf
        exact t_val hg (fun w _ => by simp [execOp, hx, Instr.fieldAt, run_under hu, hf1, Instr.sureAddr, fieldPlace, run_size hs, add_none]) h
      · cases hf
    · cases hf
  · cases hf
end
section
variable {t t2 : TypeId} {x y : Operand} {a b n : Nat} {s d : TypeId}
end
end
end Go.GV

/- Bytes, strings, arrays behind a pointer, copy. It holds for every program. -/
namespace Go.GV
open Go

def bv (b : UInt8) : Value := .int .u8 (b.toNat : Int)
def B8 (b : UInt8) : List Value := [bv b]
def str (l : List UInt8) : Value := .string ⟨l.toArray⟩
section
variable {P : Program} {r : Option Nat} {ops rest : List Oper} {Q : Exit → Env → World → Prop} {e : Env} {w w0 : World} {S : List Nat} {L : List (Nat × Obj)}
  {dst : Option Tmp} {ty : TypeId} {pos : String} {af : Array Edge} {g : Option (Nat × Bool)} {C : World → Prop} {K : Env → Prop}

/-! ### Slices of an array behind a pointer -/
/-! ### Strings -/
/-! ### Maps, more -/
theorem ba_get (l : List UInt8) (n : Nat) : (⟨l.toArray⟩ : ByteArray)[n]? = l[n]? := by
  by_cases h : n < l.length
  · rw [List.getElem?_eq_getElem h, getElem?_pos (⟨l.toArray⟩ : ByteArray) n (by simpa [ByteArray.size] using h)]
    rfl
  · rw [List.getElem?_eq_none (by omega), getElem?_neg (⟨l.toArray⟩ : ByteArray) n (by simpa [ByteArray.size] using h)]
theorem op_sindex {t : TypeId} {x y : Operand} {k : IntKind} {i : Int} {l : List UInt8} (b : UInt8) (hg : wants ⟨dst, .index t x y, ty, pos, af, g⟩ ops e = true) (hu : P.underlying t = some .string) (hx : ev e x = str l) (hy : ev e y = .int k i)
    (h0 : 0 ≤ i) (hb : l[i.toNat]? = some b) (h : Wops P r ops Q rest (put e dst (bv b)) w) : Wops P r ops Q (⟨dst, .index t x y, ty, pos, af, g⟩ :: rest) e w :=
  op_val hg rfl (by simp [execOp, Instr.index, hx, hy, str, asIntOf, run_under hu, h0, ba_get, hb, bv]) h
theorem over_mid : ∀ (A B C M : List Value), B.length = M.length → over (A ++ (B ++ C)) A.length M = A ++ (M ++ C) := by
  intro A B C M
  induction M generalizing A B with
  | nil => intro h; have : B = [] := List.eq_nil_of_length_eq_zero (by simpa using h); subst this; simp [over]
  | cons v M ih =>
    intro h
    cases B with
    | nil => simp at h
    | cons x B =>
      have := ih (A ++ [v]) B (by simpa using h)
      simp only [over]
      rw [show (A ++ (x :: B ++ C)).set A.length v = A ++ [v] ++ (B ++ C) from by simp]
      rw [show A.length + 1 = (A ++ [v]).length from by simp, this]
      simp
end
end Go.GV

/- Closed facts on the translation of this seat: sizes, zero values, fields; printed by program. -/
namespace Go.Proofs.YtapphbmlkdhnmaaGreat
open Go.GV
end Go.Proofs.YtapphbmlkdhnmaaGreat

/- []byte of a constant. It holds for every program. -/
namespace Go.GV
open Go

section
variable {P : Program} {r : Option Nat} {ops rest : List Oper} {Q : Exit → Env → World → Prop} {e : Env} {w w0 : World} {S : List Nat} {L : List (Nat × Obj)}
  {dst : Option Tmp} {ty : TypeId} {pos : String} {af : Array Edge} {g : Option (Nat × Bool)}

/-- Go's remainder. -/
theorem op_remt {t t2 : TypeId} {x y : Operand} {k : IntKind} {a b : Int} (hg : wants ⟨dst, .binOp .rem t x y t2, ty, pos, af, g⟩ ops e = true) (hx : ev e x = .int k a) (hy : ev e y = .int k b) (hb : 0 < b)
    (h : Wops P r ops Q rest (put e dst (.int k (a.tmod b))) w) : Wops P r ops Q (⟨dst, .binOp .rem t x y t2, ty, pos, af, g⟩ :: rest) e w :=
  op_val hg rfl (run_bin hx hy (v := .int k (a.tmod b)) (by simp [binOp, Op.intDiv, show ¬ b = 0 from by omega])) h
end
end Go.GV

/- Ranges over a function: a round's body, the call of yield, the statement, and how a function leaves that holds one. It holds for every program. -/
namespace Go.GV
open Go

section
variable {P : Program} {r : Option Nat} {ops rest : List Oper} {Q : Exit → Env → World → Prop} {e : Env} {w w0 : World} {S : List Nat} {L : List (Nat × Obj)}
  {dst : Option Tmp} {ty : TypeId} {pos : String} {af : Array Edge} {g : Option (Nat × Bool)} {n : Nat}

/-- A cut ahead of what comes. -/
theorem W_joinK {α : Type} {x : Code} {K : Env → World → Prop} (D : Nat) (live : α → List (Nat × Value)) (I : α → World → Prop) (hD : codeIn D x = true)
    (h : W P r n x (Qthen (fun e' w' => ∃ z, e'.ds = e.ds ∧ agree e' (live z) ∧ I z w') Q) e w)
    (hk : ∀ z j w', I z w' → K (puts (putJ e D j) (live z)) w') : W P r n x (Qthen K Q) e w := by
  refine W_mono x (Qthen_elim (S := Same D e) ?_) (W_frame x _ e w hD (Same.refl _ _) h)
  rintro e' w' hs ⟨z, hd, hl, hI⟩
  have := hk z e'.g w' hI
  rw [← hs.eq hd, env_eq hl] at this
  exact this

/-- What a round hands back, by the way in which its body is left. -/
def Qround (l : Nat) (R : Value → World → Prop) : Exit → Env → World → Prop
  | .normal, _, w => ∃ lo, w.heap[l]? = some (.loop lo) ∧ R (.bool true) (w.putObj l (.loop { lo with state := .ready, pending := none }))
  | .ret, _, w => ∃ lo, w.heap[l]? = some (.loop lo) ∧ R (.bool false) (w.putObj l (.loop { lo with state := .done, pending := some .ret }))
  | .exit id, _, w => ∃ lo, w.heap[l]? = some (.loop lo) ∧ R (.bool false) (w.putObj l (.loop { lo with state := .done, pending := some (.exit id) }))
  | .goto t, _, w => ∃ lo, w.heap[l]? = some (.loop lo) ∧ R (.bool false) (w.putObj l (.loop { lo with state := .done, pending := some (.goto t) }))
  | _, _, _ => False

/-- The left sides, then the body. -/
def Qbegin (P : Program) (l n : Nat) (body : Code) (R : Value → World → Prop) : Exit → Env → World → Prop
  | .normal, e, w => ∃ lo, w.heap[l]? = some (.loop lo) ∧ lo.state = .ready ∧ W P (some l) n body (Qround l R) e (w.putObj l (.loop { lo with state := .busy }))
  | _, _, _ => False

theorem round_of_W {l f : Nat} {tmps : Array Value} {assign body : Code} {R : Value → World → Prop} (e0 : Env) (hs : Sim n e0 { tmps := tmps, defers := [] }) (hfit : (fits n assign && fits n body) = true)
    (h : W P (some l) n assign (Qbegin P l n body R) e0 w) : RoundIn Fence.wide 0 P l f tmps assign body w fun x w' => ∃ v, x = .returned v ∧ R v w' := by
  simp only [Bool.and_eq_true] at hfit
  refine roundIn_of_wpIn trivial ?_
  have h1 := W_sound (r := some l) assign _ e0 w h hfit.1 _ hs
  refine wpIn_mono (F := Fr (some l)) h1 ?_
  rintro x a w1 ⟨e1, hs1, hq⟩
  cases x with
  | normal =>
    obtain ⟨lo, hl, hst, hb⟩ := hq
    refine ⟨_, run_beginRound hl hst, ?_⟩
    refine wpIn_mono (F := Fr (some l)) (W_sound (r := some l) body _ e1 _ hb hfit.2 _ hs1) ?_
    rintro y a2 w2 ⟨e2, _, hq2⟩
    cases y with
    | normal => obtain ⟨lo2, hl2, hR⟩ := hq2; exact ⟨_, _, run_endRound none hl2, _, rfl, hR⟩
    | ret => obtain ⟨lo2, hl2, hR⟩ := hq2; exact ⟨_, _, run_endRound (some .ret) hl2, _, rfl, hR⟩
    | exit id => obtain ⟨lo2, hl2, hR⟩ := hq2; exact ⟨_, _, run_endRound (some (.exit id)) hl2, _, rfl, hR⟩
    | goto t => obtain ⟨lo2, hl2, hR⟩ := hq2; exact ⟨_, _, run_endRound (some (.goto t)) hl2, _, rfl, hR⟩
    | panic c => exact hq2.elim
    | outgrown => exact hq2.elim
  | exit id => exact hq.elim
  | goto t => exact hq.elim
  | ret => exact hq.elim
  | panic c => exact hq.elim
  | outgrown => exact hq.elim

/-- A round with these values. -/
def YieldAt (P : Program) (l : Nat) (vs : List Value) (w : World) (R : Value → World → Prop) : Prop :=
  ∃ fn tmps assign body, (Instr.yield l vs.toArray).run P w = .ok (.round l fn tmps assign body) w ∧ RoundIn Fence.wide 0 P l fn tmps assign body w fun x w' => ∃ v, x = .returned v ∧ R v w'

theorem YieldAt.mono {l : Nat} {vs : List Value} {R R' : Value → World → Prop} (h : YieldAt P l vs w R) (hr : ∀ v w', R v w' → R' v w') : YieldAt P l vs w R' :=
  let ⟨fn, tmps, assign, body, h1, h2⟩ := h
  ⟨fn, tmps, assign, body, h1, RoundIn.mono h2 fun _ _ ⟨v, hx, hR⟩ => ⟨v, hx, hr _ _ hR⟩⟩

/-- yield(..) -/
theorem op_yield {fo : Operand} {l : Nat} {args : Array Operand} {ats : Array TypeId} {vs : List Value} {R : Value → World → Prop} (hg : wants ⟨dst, .call ⟨.value fo, args, ats⟩, ty, pos, af, g⟩ ops e = true)
    (hfo : ev e fo = .func (.yield l) #[] #[]) (hy : YieldAt P l vs w R) (ha : args.toList.map (ev e) = vs) (h : ∀ v w', R v w' → Wops P r ops Q rest (put e dst v) w') :
    Wops P r ops Q (⟨dst, .call ⟨.value fo, args, ats⟩, ty, pos, af, g⟩ :: rest) e w := by
  obtain ⟨fn, tmps, assign, body, hy, hr⟩ := hy
  have hav : args.map (ev e) = vs.toArray := by subst ha; apply Array.ext'; simp only [Array.toList_map]
  unfold Wops
  rw [if_pos hg, Oper.semAt_eq r _ _ (nodef_ne rfl)]
  have hrun : (execOp (ev e) ⟨dst, .call ⟨.value fo, args, ats⟩, ty, pos, af, g⟩).run P w = .ok (.round l fn tmps assign body) w := by
    simp [execOp, resolve, hfo, Deferred.ofValue, invoke, hav, hy]
  rw [hrun]
  exact RoundIn.mono hr fun _ _ ⟨v, hx, hR⟩ => ⟨v, hx, h _ _ hR⟩

/-- A record that is ready answers the values. -/
theorem yield_of {l : Nat} {vs : List Value} {lo : Loop} {R : Value → World → Prop} (hl : w.heap[l]? = some (.loop lo)) (hs : vs.length = lo.params.size)
    (hr : RoundIn Fence.wide 0 P l lo.fn ((lo.params.zip vs.toArray).foldl (fun tmps (t, a) => tmps.setIfInBounds t a) lo.tmps) lo.assign lo.body w fun x w' => ∃ v, x = .returned v ∧ R v w') : YieldAt P l vs w R :=
  ⟨_, _, _, _, run_yield hl (by simpa using hs), hr⟩

/-- The statement, at an outermost one. -/
theorem W_rangeFunc {f : Operand} {ps : Array Tmp} {assign body : Code} {gf : Nat} {ca : Array Value} (hf : ev e f = .func (.func gf) #[] ca) (hc : callable P gf = true)
    (h : ∀ fn tmps, tmps.size = n → (∀ i, tmps.getD i undef = e.g i) → ∀ D l w2, D = w.heap.size → l = w.heap.size + 1 → Ext [] w w2 → w2.heap[D]? = some (.deferred (some [])) →
      w2.heap[l]? = some (.loop { state := .ready, pending := none, fn, tmps, params := ps, assign, body, defers := D }) →
      Ret P gf (#[.func (.yield l) #[] #[]] ++ ca) w2 fun _ w3 => ∃ lo, w3.heap[l]? = some (.loop lo) ∧ lo.state ≠ .busy ∧
        jumped Q ⟨e.g, { target := .collected D, args := #[] } :: e.ds⟩ (w3.putObj l (.loop { lo with state := .exhausted })) lo.pending) : W P none n (.rangeFunc f ps assign body) Q e w := by
  refine ⟨_, rfl, fun fn tmps hn ht => ?_⟩
  have hx1 := Ext.alloc ([] : List Nat) w (.deferred (some []))
  have hx2 := Ext.alloc ([] : List Nat) (w.alloc (.deferred (some []))) (.loop { state := .ready, pending := none, fn, tmps, params := ps, assign, body, defers := w.heap.size })
  have hD : (w.alloc (.deferred (some []))).heap[w.heap.size]? = some (.deferred (some [])) := World.alloc_heap_new w _
  have h1 := h fn tmps hn ht w.heap.size (w.heap.size + 1) _ rfl rfl (hx1.trans hx2) (by rw [hx2.block w.heap.size (by simp) (by simp)]; exact hD)
    (by have := World.alloc_heap_new (w.alloc (.deferred (some []))) (.loop { state := .ready, pending := none, fn, tmps, params := ps, assign, body, defers := w.heap.size }); rwa [World.size_alloc] at this)
  refine ⟨gf, #[], ca, hf, ?_, ?_⟩
  · exact run_callable hc _ _
  · have hsz : (rfWorld none w).heap.size = w.heap.size + 1 := by simp [rfWorld]
    simp only [hsz]
    have harr : #[] ++ #[Value.func (.yield (w.heap.size + 1)) #[] #[]] ++ ca = #[Value.func (.yield (w.heap.size + 1)) #[] #[]] ++ ca := by simp
    rw [harr]
    exact h1

/-! ### Leaving -/
def Marks : List Deferred → World → (World → Prop) → Prop
  | [], w, K => K w
  | d :: ds, w, K => ∃ D, d.target = .collected D ∧ w.heap[D]? = some (.deferred (some [])) ∧ Marks ds (w.putObj D (.deferred none)) K

def QretM (P : Program) (fn : Func) (R : Value → World → Prop) : Exit → Env → World → Prop
  | .normal, e, w | .ret, e, w => Marks e.ds w fun w' => ∀ tmps : Array Value, (∀ i, tmps.getD i undef = e.g i) → ∃ v, (results fn tmps).run P w' = .ok v w' ∧ R v w'
  | _, _, _ => False

theorem marks_leaves {fn : Func} {R : Value → World → Prop} {tmps : Array Value} : ∀ {ds : List Deferred} {w : World}, (Marks ds w fun w' => ∃ v, (results fn tmps).run P w' = .ok v w' ∧ R v w') →
    LeavesInM Fence.wide 0 P fn tmps (fun x w' => ∃ v, x = .returned v ∧ R v w') ds .returning w
  | [], w, ⟨v, h1, h2⟩ => ⟨v, h1, v, rfl, h2⟩
  | d :: ds, w, ⟨D, h1, h2, h3⟩ => ⟨by simp, .inl ⟨D, _, h1, run_takeDeferred h2, marks_leaves h3⟩⟩
theorem Marks.mono : ∀ {ds : List Deferred} {w : World} {K K' : World → Prop}, (∀ w, K w → K' w) → Marks ds w K → Marks ds w K'
  | [], _, _, _, h, hk => h _ hk
  | _ :: _, _, _, _, h, ⟨D, h1, h2, h3⟩ => ⟨D, h1, h2, Marks.mono h h3⟩

theorem ret_of_WM {f : FuncId} {fn : Func} {c : Code} {args : Array Value} {R : Value → World → Prop} (hf : P.funcs[f]? = some fn) (hb : fn.body = some c)
    (l : List Value) (hargs : args = l.toArray) (hfit : (Nat.ble l.length fn.ntmps && fits fn.ntmps c) = true)
    (h : W P none fn.ntmps c (QretM P fn R) ⟨fun i => l.getD i undef, []⟩ w) : Ret P f args w R := by
  simp only [Bool.and_eq_true] at hfit
  refine callsIn_of_wp_marks hf hb trivial ?_
  refine wpIn_mono (W_sound (r := none) c _ _ w h hfit.2 _ ?_) ?_
  · refine ⟨rfl, ?_, fun i => ?_⟩
    · subst hargs
      have := Nat.le_of_ble_eq_true hfit.1
      simp; omega
    · subst hargs
      simp only [Array.getD_eq_getD_getElem?, List.getD_eq_getElem?_getD]
      rw [Array.getElem?_append]
      by_cases hi : i < l.length
      · simp [hi]
      · simp only [List.size_toArray, if_neg hi]
        rw [List.getElem?_eq_none (by omega)]
        rw [Array.getElem?_replicate]
        split <;> rfl
  · rintro x a' w' ⟨e', hs', hq⟩
    have hgo : ∀ w', (Marks e'.ds w' fun w' => ∀ tmps : Array Value, (∀ i, tmps.getD i undef = e'.g i) → ∃ v, (results fn tmps).run P w' = .ok v w' ∧ R v w') →
        LeavesInM Fence.wide 0 P fn a'.tmps (fun x w' => ∃ v, x = .returned v ∧ R v w') a'.defers .returning w' := fun w' hm => by
      rw [hs'.1]
      exact marks_leaves (Marks.mono (fun w hk => hk _ hs'.2.2) hm)
    cases x with
    | normal => exact hgo _ hq
    | ret => exact hgo _ hq
    | exit id => exact hq.elim
    | goto l => exact hq.elim
    | panic c => exact hq.elim
    | outgrown => exact hq.elim

theorem leaveM1 {fn : Func} {R : Value → World → Prop} {t : Tmp} {v : Value} (hr : fn.results = #[.tmp t]) (hv : e.g t = v) (h : Marks e.ds w (R v)) : QretM P fn R .ret e w :=
  Marks.mono (fun w h tmps ht => by
    have h1 := (ht t).trans hv
    rw [Array.getD_eq_getD_getElem?] at h1
    exact ⟨v, by simp [results, hr, h1], h⟩) h
end
end Go.GV

/- Results that lie in blocks, beside others. It holds for every program. -/
namespace Go.GV
open Go
section
variable {P : Program} {e : Env} {w w0 : World} {S : List Nat} {L : List (Nat × Obj)} {fn : Func} {R : Value → World → Prop}
theorem leave2c {a s2 : Tmp} {t : TypeId} {p : Addr} {v v2 : Value} (hr : fn.results = #[.cell a t, .tmp s2]) (hd : e.ds = []) (ha : e.g a = .pointer (some p)) (hv : (loadVar t p).run P w = .ok v w) (h2 : e.g s2 = v2) (h : R (.tuple #[v, v2]) w) : Qret P fn R .ret e w :=
  ⟨hd, fun tmps ht => by
    have h1 := (ht a).trans ha
    have g2 := (ht s2).trans h2
    rw [Array.getD_eq_getD_getElem?] at h1 g2
    exact ⟨.tuple #[v, v2], by simp [results, hr, h1, g2, asAddr, hv], h⟩⟩
theorem leave3c {a s2 s3 : Tmp} {t : TypeId} {p : Addr} {v v2 v3 : Value} (hr : fn.results = #[.cell a t, .tmp s2, .tmp s3]) (hd : e.ds = []) (ha : e.g a = .pointer (some p)) (hv : (loadVar t p).run P w = .ok v w) (h2 : e.g s2 = v2) (h3 : e.g s3 = v3) (h : R (.tuple #[v, v2, v3]) w) : Qret P fn R .ret e w :=
  ⟨hd, fun tmps ht => by
    have h1 := (ht a).trans ha
    have g2 := (ht s2).trans h2
    have g3 := (ht s3).trans h3
    rw [Array.getD_eq_getD_getElem?] at h1 g2 g3
    exact ⟨.tuple #[v, v2, v3], by simp [results, hr, h1, g2, g3, asAddr, hv], h⟩⟩
theorem leave2b {a s2 : Tmp} {t t2 : TypeId} {b k s : Nat} {l : List Value} {v2 : Value} (hr : fn.results = #[.cell a t, .tmp s2]) (hd : e.ds = []) (ha : e.g a = .pointer (some ⟨b, 0, none⟩)) (hag : aggB P t = some true) (hs : tsize P t = some s)
    (H : Ctx w0 S w L) (hk : L[k]? = some (b, Bl t2 l)) (hl : l.length = s) (h2 : e.g s2 = v2) (h : R (.tuple #[.agg l.toArray, v2]) w) : Qret P fn R .ret e w :=
  leave2c hr hd ha (run_loadN hag hs hl (fun j v hv => by rw [cell_bl (H.get hk), Nat.zero_add]; exact hv)) h2 h
theorem leave3b {a s2 s3 : Tmp} {t t2 : TypeId} {b k s : Nat} {l : List Value} {v2 v3 : Value} (hr : fn.results = #[.cell a t, .tmp s2, .tmp s3]) (hd : e.ds = []) (ha : e.g a = .pointer (some ⟨b, 0, none⟩)) (hag : aggB P t = some true) (hs : tsize P t = some s)
    (H : Ctx w0 S w L) (hk : L[k]? = some (b, Bl t2 l)) (hl : l.length = s) (h2 : e.g s2 = v2) (h3 : e.g s3 = v3) (h : R (.tuple #[.agg l.toArray, v2, v3]) w) : Qret P fn R .ret e w :=
  leave3c hr hd ha (run_loadN hag hs hl (fun j v hv => by rw [cell_bl (H.get hk), Nat.zero_add]; exact hv)) h2 h3 h
end
section
variable {P : Program} {ops rest : List Oper} {e : Env} {dst : Option Tmp} {ty : TypeId} {pos : String} {af : Array Edge} {g : Option (Nat × Bool)} {C : World → Prop} {K : Env → Prop}
theorem t_buildS {t : TypeId} {parts : Array (Nat × Operand)} {pl : List (Nat × Nat)} {zl : List Value} (l : List Value) (hg : wants ⟨dst, .build t parts, ty, pos, af, g⟩ ops e = true) (hp : placesB P t = some pl) (hz : zcells P t = some zl)
    (hl : Instr.fill (fun i => pl.toArray[i]?) zl.toArray (parts.toList.map fun p => (p.1, ev e p.2)) = some l.toArray) (h : Wt P ops C K rest (put e dst (.agg l.toArray))) :
    Wt P ops C K (⟨dst, .build t parts, ty, pos, af, g⟩ :: rest) e := by
  refine t_val hg (fun w _ => ?_) h
  have hb : P.built t (parts.map fun (i, x) => (i, ev e x)).toList = some l.toArray := built_of hp hz (by rw [Array.toList_map]; exact hl)
  simp [execOp, run_build w t _ _ hb]
end
end Go.GV

/- Deferred calls of closures; arrays that are built. It holds for every program. -/
namespace Go.GV
open Go

section
variable {P : Program} {r : Option Nat} {n : Nat} {ops rest : List Oper} {Q : Exit → Env → World → Prop} {e : Env} {w w0 : World} {S : List Nat} {L : List (Nat × Obj)}
  {dst : Option Tmp} {ty : TypeId} {pos : String} {af : Array Edge} {g : Option (Nat × Bool)}

/-- A function that is entered as a deferred call. -/
def RetD (P : Program) (f : FuncId) (args : Array Value) (w : World) (R : World → Prop) : Prop :=
  CallsDIn Fence.wide 0 P f args .returning w fun x u w' => u = .returning ∧ ∃ v, x = .returned v ∧ R w'
/-- What must hold where a body is left that has deferred calls. -/
def Defs (P : Program) : List Deferred → World → (World → Prop) → Prop
  | [], w, K => K w
  | d :: ds, w, K => ∃ f ca, d = { target := .fn (.func f) ca, args := #[] } ∧ callable P f = true ∧ RetD P f ca w fun w' => Defs P ds w' K
def QretD (P : Program) (fn : Func) (R : Value → World → Prop) : Exit → Env → World → Prop
  | .normal, e, w | .ret, e, w => Defs P e.ds w fun w' => ∀ tmps : Array Value, (∀ i, tmps.getD i undef = e.g i) → ∃ v, (results fn tmps).run P w' = .ok v w' ∧ R v w'
  | _, _, _ => False
theorem Defs.mono : ∀ {ds : List Deferred} {w : World} {K K' : World → Prop}, (∀ w, K w → K' w) → Defs P ds w K → Defs P ds w K'
  | [], _, _, _, h, hk => h _ hk
  | _ :: _, _, _, _, h, ⟨f, ca, h1, h2, h3⟩ => ⟨f, ca, h1, h2, CallsDIn.mono h3 fun _ _ _ hx => ⟨hx.1, let ⟨v, h4, h5⟩ := hx.2; ⟨v, h4, Defs.mono h h5⟩⟩⟩
/-! ### Arrays -/
end
end Go.GV

/- Nets: nodes, edges, is one right: the walks. -/
namespace Go.Proofs.YtapphbmlkdhnmaaGreat
open Go.GV
theorem ag_26_SeA : aggB Tryz.prog 26 = some false := by kernel_rfl
theorem ag_28_SeA : aggB Tryz.prog 28 = some true := by kernel_rfl
theorem ag_2_SeA : aggB Tryz.prog 2 = some false := by kernel_rfl
theorem ag_3_SeA : aggB Tryz.prog 3 = some false := by kernel_rfl
theorem ag_92_SeA : aggB Tryz.prog 92 = some true := by kernel_rfl
theorem ca_163_SeA : callable Tryz.prog 163 = true := by kernel_rfl
theorem ca_164_SeA : callable Tryz.prog 164 = true := by kernel_rfl
theorem ca_165_SeA : callable Tryz.prog 165 = true := by kernel_rfl
theorem ca_187_SeA : callable Tryz.prog 187 = true := by kernel_rfl
theorem el_26_SeA : elemT Tryz.prog 26 = some 92 := by kernel_rfl
theorem fo_28_0_SeA : fieldO Tryz.prog 28 0 = some 0 := by kernel_rfl
theorem fo_28_1_SeA : fieldO Tryz.prog 28 1 = some 1 := by kernel_rfl
theorem fo_92_0_SeA : fieldO Tryz.prog 92 0 = some 0 := by kernel_rfl
theorem fo_92_1_SeA : fieldO Tryz.prog 92 1 = some 1 := by kernel_rfl
theorem fo_92_2_SeA : fieldO Tryz.prog 92 2 = some 2 := by kernel_rfl
theorem fo_92_3_SeA : fieldO Tryz.prog 92 3 = some 3 := by kernel_rfl
theorem mixed_SeA : Tryz.prog.follows .mixedOrders = true := by kernel_rfl
theorem sz_28_SeA : tsize Tryz.prog 28 = some 2 := by kernel_rfl
theorem sz_92_SeA : tsize Tryz.prog 92 = some 4 := by kernel_rfl
theorem un_24_SeA : Tryz.prog.underlying 24 = some (.int .u64) := by kernel_rfl
theorem un_2_SeA : Tryz.prog.underlying 2 = some (.int .i64) := by kernel_rfl
theorem zc_92_SeA : zcells Tryz.prog 92 = some ([.int .i64 0, .int .i64 0, .int .i64 0, .int .i64 0]) := by kernel_rfl
attribute [local irreducible] Wops W Wq Wt

structure Ed where
  f : Int
  t : Int
  cap : Int
  cost : Int
def encE (e : Ed) : List Value := [.int .i64 e.f, .int .i64 e.t, .int .i64 e.cap, .int .i64 e.cost]
theorem encE_one (e : Ed) : ∀ v ∈ encE e, oneCell v = true := fun v hv => by
  simp only [encE, List.mem_cons, List.not_mem_nil, or_false] at hv
  rcases hv with rfl | rfl | rfl | rfl <;> rfl
/-- Numbers of 64 bits. -/
def I64 (x : Int) : Prop := -9223372036854775808 ≤ x ∧ x ≤ 9223372036854775807
structure Ed.In (e : Ed) : Prop where
  f : I64 e.f
  t : I64 e.t
  cap : I64 e.cap
  cost : I64 e.cost
def nodeB (N i : Int) : Bool := decide (0 ≤ i) && decide (i < N)
def edgeB (N : Int) (e : Ed) : Bool := nodeB N e.f && (nodeB N e.t && (decide (0 ≤ e.cap) && (decide (e.cap ≤ 4503599627370496) && (decide (-1000 ≤ e.cost) && decide (e.cost ≤ 1000)))))
def prodE (e : Ed) : Nat := e.cap.toNat * e.cost.natAbs
def prods (es : List Ed) : Nat := (es.map prodE).sum
def rightN (N : Int) (es : List Ed) : Bool := (decide (1 ≤ N) && decide (N ≤ 40)) && (decide (es.length ≤ 200) && (es.all (edgeB N) && decide (prods es ≤ 4611686018427387904)))
def netV (N : Int) (a : Option Addr) (n c : Nat) : Value := .agg #[.int .i64 N, .slice a n c]

theorem node_ok (N : Int) (a : Option Addr) (n c : Nat) (i : Int) (w : World) : Ret Tryz.prog 187 #[netV N a n c, .int .i64 i] w fun v w' => v = .bool (nodeB N i) ∧ Ext [] w w' := by
  obtain ⟨w0, rfl⟩ : ∃ w0, w0 = w := ⟨_, rfl⟩
  have H := Ctx.start w0 []
  refine ret_of_W (fn := Tryz.f187) Tryz.func187 rfl [netV N a n c, .int .i64 i] rfl (by kernel_rfl) ?_
  refine W_rseq ?_
  refine op_box rfl [.int .i64 N, .slice a n c] (.agg _) rfl rfl H ?_
  rintro b2 w - H
  refine op_assign rfl (.bool _) rfl ?_
  refine op_nil (at_then ?_)
  refine W_rseq ?_
  refine op_move rfl (.int _ _) rfl ?_
  refine op_geq rfl rfl rfl ?_
  refine op_move rfl (.bool _) rfl ?_
  refine Wops_split 7 rfl ?_ ?_
  · intro h1
    replace h1 := dec_t h1
    refine op_move rfl (.int _ _) rfl ?_
    refine op_fieldAddr rfl fo_28_0_SeA rfl ?_
    refine op_ldb rfl ag_3_SeA rfl H (by first | exact at0 | exact at1 | exact at2 | exact at3 | exact at4 | exact at5 | exact at6 | exact at7 | exact at8 | exact at9) rfl ?_
    refine op_lss rfl rfl rfl ?_
    refine op_pick1 rfl rfl (.bool _) rfl ?_
    refine op_assign rfl (.bool _) rfl ?_
    refine op_nil (at_then ?_)
    refine W_ret (leave1 (v := (.bool _)) rfl rfl rfl ?_)
    exact ⟨congrArg Value.bool (by unfold nodeB; rw [Bool.eq_iff_iff]; simp_all; try omega), H.ext⟩
  · intro h2
    replace h2 := dec_f h2
    refine op_skip rfl ?_
    refine op_skip rfl ?_
    refine op_skip rfl ?_
    refine op_skip rfl ?_
    refine op_pick0 rfl rfl (.bool _) rfl ?_
    refine op_assign rfl (.bool _) rfl ?_
    refine op_nil (at_then ?_)
    refine W_ret (leave1 (v := (.bool _)) rfl rfl rfl ?_)
    exact ⟨congrArg Value.bool (by unfold nodeB; rw [Bool.eq_iff_iff]; simp_all; try omega), H.ext⟩
theorem abs_ok (x : Int) (h1 : -9223372036854775808 < x) (h2 : x ≤ 9223372036854775807) (w : World) : Ret Tryz.prog 165 #[.int .i64 x] w fun v w' => v = .int .u64 (x.natAbs : Int) ∧ w = w' := by
  obtain ⟨w0, rfl⟩ : ∃ w0, w0 = w := ⟨_, rfl⟩
  refine ret_of_W (fn := Tryz.f165) Tryz.func165 rfl [.int .i64 x] rfl (by kernel_rfl) ?_
  refine W_rseq ?_
  refine op_assign rfl (.int _ _) rfl ?_
  refine op_nil (at_then ?_)
  refine W_rseq ?_
  refine op_move rfl (.int _ _) rfl ?_
  refine op_move rfl (.int _ _) rfl ?_
  refine op_neg_i64 rfl rfl (by omega) (by omega) ?_
  refine op_max2 rfl rfl rfl ?_
  rw [show max x (-x) = (x.natAbs : Int) by omega]
  refine op_conv_u64 rfl rfl un_2_SeA un_24_SeA (by omega) (by omega) ?_
  refine op_assign rfl (.int _ _) rfl ?_
  refine op_nil (at_then ?_)
  refine W_ret (leave1 (v := (.int _ _)) rfl rfl rfl ?_)
  exact ⟨rfl, rfl⟩

set_option maxRecDepth 20000 in
theorem edge_ok (N : Int) (a : Option Addr) (n c : Nat) (e : Ed) (w : World) : Ret Tryz.prog 163 #[netV N a n c, .agg (encE e).toArray] w fun v w' => v = .bool (edgeB N e) ∧ Ext [] w w' := by
  obtain ⟨w0, rfl⟩ : ∃ w0, w0 = w := ⟨_, rfl⟩
  have H := Ctx.start w0 []
  refine ret_of_W (fn := Tryz.f163) Tryz.func163 rfl [netV N a n c, .agg (encE e).toArray] rfl (by kernel_rfl) ?_
  refine W_rseq ?_
  refine op_box rfl [.int .i64 N, .slice a n c] (.agg _) rfl rfl H ?_
  rintro b2 w - H
  refine op_box rfl (encE e) (.agg _) rfl rfl H ?_
  rintro b3 w - H
  refine op_assign rfl (.bool _) rfl ?_
  refine op_nil (at_then ?_)
  refine W_seq ?_
  refine W_block ?_
  refine W_seq ?_
  refine W_rseq ?_
  refine op_ldbN rfl ag_28_SeA sz_28_SeA rfl H (by first | exact at0 | exact at1 | exact at2 | exact at3 | exact at4 | exact at5 | exact at6 | exact at7 | exact at8 | exact at9) rfl ?_
  refine op_fieldAddr rfl fo_92_0_SeA rfl ?_
  refine op_ldb rfl ag_3_SeA rfl H (by first | exact at0 | exact at1 | exact at2 | exact at3 | exact at4 | exact at5 | exact at6 | exact at7 | exact at8 | exact at9) rfl ?_
  refine op_call rfl ca_187_SeA (node_ok N a n c e.f _) rfl ?_
  rintro v w ⟨rfl, hx9⟩
  replace H := H.call hx9
  refine op_not rfl rfl ?_
  refine op_assign rfl (.bool _) rfl ?_
  refine op_nil (at_then ?_)
  refine W_csplit 5 rfl ?_ ?_
  · intro h1
    replace h1 := nvar_t h1
    refine W_skip (at_then ?_)
    refine W_cond1 rfl ?_
    refine W_rseq ?_
    refine op_assign rfl (.bool _) rfl ?_
    refine op_nil (at_then ?_)
    refine W_ret (ret_block (ret_then (leave1 (v := (.bool _)) rfl rfl rfl ?_)))
    exact ⟨congrArg Value.bool (by unfold edgeB; simp_all; try omega), H.ext⟩
  · intro h2
    replace h2 := nvar_f h2
    refine W_rseq ?_
    refine op_ldbN rfl ag_28_SeA sz_28_SeA rfl H (by first | exact at0 | exact at1 | exact at2 | exact at3 | exact at4 | exact at5 | exact at6 | exact at7 | exact at8 | exact at9) rfl ?_
    refine op_fieldAddr rfl fo_92_1_SeA rfl ?_
    refine op_ldb rfl ag_3_SeA rfl H (by first | exact at0 | exact at1 | exact at2 | exact at3 | exact at4 | exact at5 | exact at6 | exact at7 | exact at8 | exact at9) rfl ?_
    refine op_call rfl ca_187_SeA (node_ok N a n c e.t _) rfl ?_
    rintro v w ⟨rfl, hx14⟩
    replace H := H.call hx14
    refine op_not rfl rfl ?_
    refine op_assign rfl (.bool _) rfl ?_
    refine op_nil (at_then ?_)
    refine W_csplit 5 rfl ?_ ?_
    · intro h3
      replace h3 := nvar_t h3
      refine W_skip (at_then ?_)
      refine W_cond1 rfl ?_
      refine W_rseq ?_
      refine op_assign rfl (.bool _) rfl ?_
      refine op_nil (at_then ?_)
      refine W_ret (ret_block (ret_then (leave1 (v := (.bool _)) rfl rfl rfl ?_)))
      exact ⟨congrArg Value.bool (by unfold edgeB; simp_all; try omega), H.ext⟩
    · intro h4
      replace h4 := nvar_f h4
      refine W_rseq ?_
      refine op_fieldAddr rfl fo_92_2_SeA rfl ?_
      refine op_ldb rfl ag_2_SeA rfl H (by first | exact at0 | exact at1 | exact at2 | exact at3 | exact at4 | exact at5 | exact at6 | exact at7 | exact at8 | exact at9) rfl ?_
      refine op_lss rfl rfl rfl ?_
      refine op_assign rfl (.bool _) rfl ?_
      refine op_nil (at_then ?_)
      refine W_csplit 5 rfl ?_ ?_
      · intro h5
        replace h5 := dec_t h5
        refine W_skip (at_then ?_)
        refine W_cond1 rfl ?_
        refine W_rseq ?_
        refine op_assign rfl (.bool _) rfl ?_
        refine op_nil (at_then ?_)
        refine W_ret (ret_block (ret_then (leave1 (v := (.bool _)) rfl rfl rfl ?_)))
        exact ⟨congrArg Value.bool (by unfold edgeB; simp_all; try omega), H.ext⟩
      · intro h6
        replace h6 := dec_f h6
        refine W_rseq ?_
        refine op_fieldAddr rfl fo_92_2_SeA rfl ?_
        refine op_ldb rfl ag_2_SeA rfl H (by first | exact at0 | exact at1 | exact at2 | exact at3 | exact at4 | exact at5 | exact at6 | exact at7 | exact at8 | exact at9) rfl ?_
        refine op_gtr rfl rfl rfl ?_
        refine op_assign rfl (.bool _) rfl ?_
        refine op_nil (at_then ?_)
        refine W_csplit 5 rfl ?_ ?_
        · intro h7
          replace h7 := dec_t h7
          refine W_skip (at_then ?_)
          refine W_cond1 rfl ?_
          refine W_rseq ?_
          refine op_assign rfl (.bool _) rfl ?_
          refine op_nil (at_then ?_)
          refine W_ret (ret_block (ret_then (leave1 (v := (.bool _)) rfl rfl rfl ?_)))
          exact ⟨congrArg Value.bool (by unfold edgeB; simp_all; try omega), H.ext⟩
        · intro h8
          replace h8 := dec_f h8
          refine W_rseq ?_
          refine op_fieldAddr rfl fo_92_3_SeA rfl ?_
          refine op_ldb rfl ag_2_SeA rfl H (by first | exact at0 | exact at1 | exact at2 | exact at3 | exact at4 | exact at5 | exact at6 | exact at7 | exact at8 | exact at9) rfl ?_
          refine op_lss rfl rfl rfl ?_
          refine op_assign rfl (.bool _) rfl ?_
          refine op_nil (at_then ?_)
          refine W_csplit 5 rfl ?_ ?_
          · intro h9
            replace h9 := dec_t h9
            refine W_skip (at_then ?_)
            refine W_cond1 rfl ?_
            refine W_rseq ?_
            refine op_assign rfl (.bool _) rfl ?_
            refine op_nil (at_then ?_)
            refine W_ret (ret_block (ret_then (leave1 (v := (.bool _)) rfl rfl rfl ?_)))
            exact ⟨congrArg Value.bool (by unfold edgeB; simp_all; try omega), H.ext⟩
          · intro h10
            replace h10 := dec_f h10
            refine W_region ?_
            refine op_fieldAddr rfl fo_92_3_SeA rfl ?_
            refine op_ldb rfl ag_2_SeA rfl H (by first | exact at0 | exact at1 | exact at2 | exact at3 | exact at4 | exact at5 | exact at6 | exact at7 | exact at8 | exact at9) rfl ?_
            refine op_gtr rfl rfl rfl ?_
            refine op_assign rfl (.bool _) rfl ?_
            refine op_nil (at_then ?_)
            refine W_csplit 5 rfl ?_ ?_
            · intro h11
              replace h11 := dec_t h11
              refine W_rseq ?_
              refine op_assign rfl (.bool _) rfl ?_
              refine op_nil (at_then ?_)
              refine W_ret (ret_block (ret_then (leave1 (v := (.bool _)) rfl rfl rfl ?_)))
              exact ⟨congrArg Value.bool (by unfold edgeB; simp_all; try omega), H.ext⟩
            · intro h12
              replace h12 := dec_f h12
              refine W_skip (at_block (at_then ?_))
              refine W_rseq ?_
              refine op_assign rfl (.bool _) rfl ?_
              refine op_nil (at_then ?_)
              refine W_ret (leave1 (v := (.bool _)) rfl rfl rfl ?_)
              exact ⟨congrArg Value.bool (by unfold edgeB; simp_all; try omega), H.ext⟩

theorem mul64_ok (x y : Nat) (hx : x ≤ 4503599627370496) (hy : y ≤ 1000) (w : World) : Ret Tryz.prog 164 #[.int .u64 (x : Int), .int .u64 (y : Int)] w fun v w' => v = .tuple #[.int .u64 0, .int .u64 ((x * y : Nat) : Int)] ∧ w = w' := by
  obtain ⟨w0, rfl⟩ : ∃ w0, w0 = w := ⟨_, rfl⟩
  have hm : ∀ z : Nat, z &&& 4294967295 = z % 4294967296 := fun z => Nat.and_two_pow_sub_one_eq_mod z 32
  obtain ⟨x0, hx0⟩ : ∃ x0, x0 = x % 4294967296 := ⟨_, rfl⟩
  obtain ⟨x1, hx1⟩ : ∃ x1, x1 = x / 4294967296 := ⟨_, rfl⟩
  have hp0 : x0 * y ≤ 4294967296 * 1000 := Nat.mul_le_mul (by omega) hy
  have hp1 : x1 * y ≤ 1048576 * 1000 := Nat.mul_le_mul (by omega) hy
  have hxy : x * y ≤ 4503599627370496 * 1000 := Nat.mul_le_mul hx hy
  refine ret_of_W (fn := Tryz.f164) Tryz.func164 rfl [.int .u64 (x : Int), .int .u64 (y : Int)] rfl (by kernel_rfl) ?_
  refine W_rseq ?_
  refine op_assign rfl (.int _ _) rfl ?_
  refine op_assign rfl (.int _ _) rfl ?_
  refine op_nil (at_then ?_)
  refine W_rseq ?_
  refine op_move rfl (.int _ _) rfl ?_
  refine op_and_u64 (b := 4294967295) rfl rfl rfl (by omega) (by omega) ?_
  rw [hm, ← hx0]
  refine op_assign rfl (.int _ _) rfl ?_
  refine op_nil (at_then ?_)
  refine W_rseq ?_
  refine op_move rfl (.int _ _) rfl ?_
  refine op_shr_u64 (n := 32) rfl rfl rfl (by omega) ?_
  rw [show x / 2 ^ 32 = x1 from hx1.symm]
  refine op_assign rfl (.int _ _) rfl ?_
  refine op_nil (at_then ?_)
  refine W_rseq ?_
  refine op_move rfl (.int _ _) rfl ?_
  refine op_and_u64 (b := 4294967295) rfl rfl rfl (by omega) (by omega) ?_
  rw [hm, show y % 4294967296 = y by omega]
  refine op_assign rfl (.int _ _) rfl ?_
  refine op_nil (at_then ?_)
  refine W_rseq ?_
  refine op_move rfl (.int _ _) rfl ?_
  refine op_shr_u64 (n := 32) rfl rfl rfl (by omega) ?_
  rw [show y / 2 ^ 32 = 0 by omega]
  refine op_assign rfl (.int _ _) rfl ?_
  refine op_nil (at_then ?_)
  refine W_rseq ?_
  refine op_move rfl (.int _ _) rfl ?_
  refine op_move rfl (.int _ _) rfl ?_
  refine op_mul_u64 rfl rfl rfl (Int.mul_nonneg (by omega) (by omega)) (by rw [← Int.natCast_mul]; omega) ?_
  rw [← Int.natCast_mul]
  refine op_assign rfl (.int _ _) rfl ?_
  refine op_nil (at_then ?_)
  refine W_rseq ?_
  refine op_move rfl (.int _ _) rfl ?_
  refine op_move rfl (.int _ _) rfl ?_
  refine op_mul_u64 rfl rfl rfl (Int.mul_nonneg (by omega) (by omega)) (by rw [← Int.natCast_mul]; omega) ?_
  rw [← Int.natCast_mul]
  refine op_move rfl (.int _ _) rfl ?_
  refine op_shr_u64 (n := 32) rfl rfl rfl (by omega) ?_
  refine op_add_u64 rfl rfl rfl (by omega) (by omega) ?_
  rw [← Int.natCast_add]
  refine op_assign rfl (.int _ _) rfl ?_
  refine op_nil (at_then ?_)
  refine W_rseq ?_
  refine op_move rfl (.int _ _) rfl ?_
  refine op_and_u64 (b := 4294967295) rfl rfl rfl (by omega) (by omega) ?_
  rw [hm]
  refine op_assign rfl (.int _ _) rfl ?_
  refine op_nil (at_then ?_)
  refine W_rseq ?_
  refine op_move rfl (.int _ _) rfl ?_
  refine op_shr_u64 (n := 32) rfl rfl rfl (by omega) ?_
  rw [show (x1 * y + x0 * y / 2 ^ 32) / 2 ^ 32 = 0 by omega]
  refine op_assign rfl (.int _ _) rfl ?_
  refine op_nil (at_then ?_)
  refine W_rseq ?_
  refine op_move rfl (.int _ _) rfl ?_
  refine op_move rfl (.int _ _) rfl ?_
  refine op_move rfl (.int _ _) rfl ?_
  refine op_mul_u64 rfl rfl rfl (by show (0 : Int) ≤ (x0 : Int) * ((0 : Nat) : Int); omega) (by show (x0 : Int) * ((0 : Nat) : Int) ≤ _; omega) ?_
  rw [show (x0 : Int) * ((0 : Nat) : Int) = 0 by omega]
  refine op_add_u64 rfl rfl rfl (by omega) (by omega) ?_
  rw [show ((((x1 * y + x0 * y / 2 ^ 32) % 4294967296 : Nat) : Int) + 0) = (((x1 * y + x0 * y / 2 ^ 32) % 4294967296 : Nat) : Int) by omega]
  refine op_assign rfl (.int _ _) rfl ?_
  refine op_nil (at_then ?_)
  refine W_rseq ?_
  refine op_move rfl (.int _ _) rfl ?_
  refine op_move rfl (.int _ _) rfl ?_
  refine op_mul_u64 rfl rfl rfl (by show (0 : Int) ≤ (x1 : Int) * ((0 : Nat) : Int); omega) (by show (x1 : Int) * ((0 : Nat) : Int) ≤ _; omega) ?_
  rw [show (x1 : Int) * ((0 : Nat) : Int) = 0 by omega]
  refine op_move rfl (.int _ _) rfl ?_
  refine op_add_u64 rfl rfl rfl (by omega) (by omega) ?_
  refine op_move rfl (.int _ _) rfl ?_
  refine op_shr_u64 (n := 32) rfl rfl rfl (by omega) ?_
  rw [show (x1 * y + x0 * y / 2 ^ 32) % 4294967296 / 2 ^ 32 = 0 by omega]
  refine op_add_u64 rfl rfl rfl (by omega) (by omega) ?_
  refine op_assign rfl (.int _ _) rfl ?_
  refine op_nil (at_then ?_)
  refine W_rseq ?_
  refine op_move rfl (.int _ _) rfl ?_
  refine op_move rfl (.int _ _) rfl ?_
  refine op_mul_u64 rfl rfl rfl (Int.mul_nonneg (by omega) (by omega)) (by rw [← Int.natCast_mul]; omega) ?_
  rw [← Int.natCast_mul]
  refine op_assign rfl (.int _ _) rfl ?_
  refine op_nil (at_then ?_)
  refine W_ret (leave2 (v1 := (.int _ _)) (v2 := (.int _ _)) rfl rfl rfl rfl ?_)
  exact ⟨rfl, rfl⟩

theorem prods_snoc {es : List Ed} {i : Nat} {e : Ed} (h : es[i]? = some e) : prods (es.take (i + 1)) = prods (es.take i) + prodE e := by
  unfold prods
  rw [take_snoc h, List.map_append, List.sum_append]; simp
theorem prods_take (es : List Ed) (i : Nat) : prods (es.take i) ≤ prods es := by
  unfold prods
  have h : (es.map prodE).sum = ((es.take i).map prodE).sum + ((es.drop i).map prodE).sum := by rw [← List.sum_append, ← List.map_append, List.take_append_drop]
  omega
theorem edge_of {N : Int} {e : Ed} (h : edgeB N e = true) : 0 ≤ e.f ∧ e.f < N ∧ 0 ≤ e.t ∧ e.t < N ∧ 0 ≤ e.cap ∧ e.cap ≤ 4503599627370496 ∧ -1000 ≤ e.cost ∧ e.cost ≤ 1000 := by
  unfold edgeB nodeB at h
  simp only [Bool.and_eq_true, decide_eq_true_eq] at h
  omega
theorem all_false {α : Type} {p : α → Bool} {l : List α} {i : Nat} {x : α} (h : l[i]? = some x) (hp : p x = false) : l.all p = false := by
  rw [List.all_eq_false]
  exact ⟨x, List.mem_of_getElem? h, by rw [hp]; simp⟩
theorem all_true {α : Type} {p : α → Bool} {l : List α} (h : ∀ k x, k < l.length → l[k]? = some x → p x = true) : l.all p = true := by
  rw [List.all_eq_true]
  intro x hx
  obtain ⟨k, hk⟩ := List.getElem?_of_mem hx
  exact h k x (List.getElem?_eq_some_iff.1 hk).1 hk

set_option maxRecDepth 20000 in
set_option maxHeartbeats 2000000 in
theorem right_ok (N : Int) (a : Option Addr) (n c : Nat) (es : List Ed) (w : World) (R : Rd w a 4 encE es) (hn : es.length = n) (hN : I64 N) : Ret Tryz.prog 117 #[netV N a n c] w fun v w' => v = .bool (rightN N es) ∧ Ext [] w w' := by
  subst hn
  obtain ⟨w0, rfl⟩ : ∃ w0, w0 = w := ⟨_, rfl⟩
  have H := Ctx.start w0 []
  refine ret_of_W (fn := Tryz.f117) Tryz.func117 rfl [netV N a es.length c] rfl (by kernel_rfl) ?_
  refine W_rseq ?_
  refine op_box rfl [.int .i64 N, .slice a es.length c] (.agg _) rfl rfl H ?_
  rintro b1 w - H
  refine op_assign rfl (.bool _) rfl ?_
  refine op_nil (at_then ?_)
  refine W_seq ?_
  refine W_rseq (Wops_join (α := Unit) 4194048 (fun _ => [(21, .bool (!((decide (1 ≤ N) && decide (N ≤ 40)) && decide (es.length ≤ 200))))]) (fun _ w' => Ctx w0 [] w' [(b1, Bl 28 [.int .i64 N, .slice a es.length c])]) rfl ?_ ?_)
  · refine op_fieldAddr rfl fo_28_0_SeA rfl ?_
    refine op_ldb rfl ag_3_SeA rfl H (by first | exact at0 | exact at1 | exact at2 | exact at3 | exact at4 | exact at5 | exact at6 | exact at7 | exact at8 | exact at9) rfl ?_
    refine op_lss rfl rfl rfl ?_
    refine op_move rfl (.bool _) rfl ?_
    refine Wops_split 11 rfl ?_ ?_
    · intro h1
      replace h1 := dec_t h1
      refine op_skip rfl ?_
      refine op_skip rfl ?_
      refine op_skip rfl ?_
      refine op_pick1 rfl rfl (.bool _) rfl ?_
      refine op_move rfl (.bool _) rfl ?_
      refine op_skip rfl ?_
      refine op_skip rfl ?_
      refine op_skip rfl ?_
      refine op_skip rfl ?_
      refine op_pick1 rfl rfl (.bool _) rfl ?_
      refine op_nil ?_
      exact ⟨rfl, (), rfl, ⟨congrArg Value.bool (by rw [Bool.eq_iff_iff]; simp_all; try omega), trivial⟩, H⟩
    · intro h2
      replace h2 := dec_f h2
      refine op_fieldAddr rfl fo_28_0_SeA rfl ?_
      refine op_ldb rfl ag_3_SeA rfl H (by first | exact at0 | exact at1 | exact at2 | exact at3 | exact at4 | exact at5 | exact at6 | exact at7 | exact at8 | exact at9) rfl ?_
      refine op_gtr rfl rfl rfl ?_
      refine op_pick0 rfl rfl (.bool _) rfl ?_
      refine op_move rfl (.bool _) rfl ?_
      refine Wops_split 16 rfl ?_ ?_
      · intro h3
        replace h3 := dec_t h3
        refine op_skip rfl ?_
        refine op_skip rfl ?_
        refine op_skip rfl ?_
        refine op_skip rfl ?_
        refine op_pick1 rfl rfl (.bool _) rfl ?_
        refine op_nil ?_
        exact ⟨rfl, (), rfl, ⟨congrArg Value.bool (by rw [Bool.eq_iff_iff]; simp_all; try omega), trivial⟩, H⟩
      · intro h4
        replace h4 := dec_f h4
        refine op_fieldAddr rfl fo_28_1_SeA rfl ?_
        refine op_ldb rfl ag_26_SeA rfl H (by first | exact at0 | exact at1 | exact at2 | exact at3 | exact at4 | exact at5 | exact at6 | exact at7 | exact at8 | exact at9) rfl ?_
        refine op_len rfl el_26_SeA rfl ?_
        refine op_gtr rfl rfl rfl ?_
        refine op_pick0 rfl rfl (.bool _) rfl ?_
        refine op_nil ?_
        exact ⟨rfl, (), rfl, ⟨congrArg Value.bool (by rw [Bool.eq_iff_iff]; simp_all; try omega), trivial⟩, H⟩
  rintro - j21 w H
  refine W_cond _ rfl ?_ ?_
  · intro h1
    replace h1 := nvar_t h1
    refine W_rseq ?_
    refine op_assign rfl (.bool _) rfl ?_
    refine op_nil (at_then ?_)
    refine W_ret (ret_then (leave1 (v := (.bool _)) rfl rfl rfl ?_))
    exact ⟨congrArg Value.bool (by unfold rightN; rw [← Bool.and_assoc, show ((decide (1 ≤ N) && decide (N ≤ 40)) && decide (es.length ≤ 200)) = false by simpa using h1]; rfl), H.ext⟩
  · intro h1
    replace h1 := nvar_f h1
    have h1' : ((decide (1 ≤ N) && decide (N ≤ 40)) && decide (es.length ≤ 200)) = true := by simpa using h1
    have hrN : rightN N es = (es.all (edgeB N) && decide (prods es ≤ 4611686018427387904)) := by unfold rightN; rw [← Bool.and_assoc, h1']; rfl
    have hn2 : es.length ≤ 200 := by simp only [Bool.and_eq_true, decide_eq_true_eq] at h1'; omega
    refine W_skip (at_then ?_)
    refine W_rseq ?_
    refine op_assign rfl (.int _ _) rfl ?_
    refine op_nil (at_then ?_)
    refine W_seq ?_
    refine W_rseq ?_
    refine op_fieldAddr rfl fo_28_1_SeA rfl ?_
    refine op_ldb rfl ag_26_SeA rfl H (by first | exact at0 | exact at1 | exact at2 | exact at3 | exact at4 | exact at5 | exact at6 | exact at7 | exact at8 | exact at9) rfl ?_
    refine op_len rfl el_26_SeA rfl ?_
    refine op_move rfl (.int _ _) rfl ?_
    refine op_nil (at_then ?_)
    refine W_block ?_
    refine W_loop 18014398475927788 (α := Nat) (fun i => [(25, .int .i64 (i : Int)), (3, .int .u64 ((4611686018427387904 - prods (es.take i) : Nat) : Int))]) (fun i w' => i ≤ es.length ∧ Ctx w0 [] w' [(b1, Bl 28 [.int .i64 N, .slice a es.length c])] ∧ prods (es.take i) ≤ 4611686018427387904 ∧ ∀ (k : Nat) (e : Ed), k < i → es[k]? = some e → edgeB N e = true) (fun i => es.length - i) 0 rfl ?_ ?_ ?_
    · exact ⟨rfl, rfl, trivial⟩
    · exact ⟨Nat.zero_le _, H, Nat.zero_le _, fun k e h => absurd h (Nat.not_lt_zero _)⟩
    · rintro i j w ⟨hi, H, hpr, hb⟩
      refine W_rseq ?_
      refine op_lss rfl rfl rfl ?_
      refine op_nil (at_then ?_)
      refine W_seq ?_
      refine W_cond _ rfl ?_ ?_
      · intro h2
        replace h2 := dec_t h2
        obtain ⟨e, he⟩ := get_some (l := es) (i := i) (by omega)
        have hps := prods_snoc he
        have hpt := prods_take es (i + 1)
        refine W_skip (at_then ?_)
        refine W_seq ?_
        refine W_block ?_
        refine W_rseq ?_
        first | refine op_indexRd R rfl el_26_SeA sz_92_SeA rfl rfl (by omega) (by omega) (by first | rfl | omega) ?_ | refine op_indexAddr rfl el_26_SeA sz_92_SeA rfl rfl (by omega) (by omega) ?_
        first | refine op_ldN _ rfl ag_92_SeA sz_92_SeA rfl rfl ((R.ext0 H.ext).row he rfl) ?_ | refine op_ldbN rfl ag_92_SeA sz_92_SeA rfl H (by first | exact at0 | exact at1 | exact at2 | exact at3 | exact at4 | exact at5 | exact at6 | exact at7 | exact at8 | exact at9) rfl ?_
        refine op_alloc rfl zc_92_SeA H ?_
        rintro b5 w - H
        refine op_stb0 rfl sz_92_SeA rfl rfl rfl (by first | exact encE_one _ | simp [oneCell]) H (by first | exact at0 | exact at1 | exact at2 | exact at3 | exact at4 | exact at5 | exact at6 | exact at7 | exact at8 | exact at9) rfl ?_
        rintro w H
        refine op_nil (at_then ?_)
        refine W_seq ?_
        refine W_rseq ?_
        first | refine op_ldN _ rfl ag_28_SeA sz_28_SeA rfl rfl ((R.ext0 H.ext).row he rfl) ?_ | refine op_ldbN rfl ag_28_SeA sz_28_SeA rfl H (by first | exact at0 | exact at1 | exact at2 | exact at3 | exact at4 | exact at5 | exact at6 | exact at7 | exact at8 | exact at9) rfl ?_
        first | refine op_ldN _ rfl ag_92_SeA sz_92_SeA rfl rfl ((R.ext0 H.ext).row he rfl) ?_ | refine op_ldbN rfl ag_92_SeA sz_92_SeA rfl H (by first | exact at0 | exact at1 | exact at2 | exact at3 | exact at4 | exact at5 | exact at6 | exact at7 | exact at8 | exact at9) rfl ?_
        refine op_call rfl ca_163_SeA (edge_ok N a es.length c e _) rfl ?_
        rintro v w ⟨rfl, hx31⟩
        replace H := H.call hx31
        refine op_not rfl rfl ?_
        refine op_nil (at_then ?_)
        refine W_cond _ rfl ?_ ?_
        · intro h3
          replace h3 := nvar_t h3
          refine W_rseq ?_
          refine op_assign rfl (.bool _) rfl ?_
          refine op_nil (at_then ?_)
          refine W_ret (ret_then (ret_block (ret_then (ret_then (ret_block (ret_then (leave1 (v := (.bool _)) rfl rfl rfl ?_)))))))
          exact ⟨congrArg Value.bool (by rw [hrN, all_false he (by simpa using h3)]; rfl), H.ext⟩
        · intro h3
          replace h3 := nvar_f h3
          have h3' : edgeB N e = true := by simpa using h3
          obtain ⟨-, -, -, -, q1, q2, q3, q4⟩ := edge_of h3'
          obtain ⟨cp, hcp⟩ : ∃ cp : Nat, e.cap = (cp : Int) := ⟨e.cap.toNat, by omega⟩
          have hpe : prodE e = cp * e.cost.natAbs := by unfold prodE; rw [hcp, Int.toNat_natCast]
          have hpm : cp * e.cost.natAbs ≤ 4503599627370496 * 1000 := Nat.mul_le_mul (by omega) (by omega)
          obtain ⟨w5, rfl⟩ : ∃ z, z = w := ⟨_, rfl⟩
          have hb5 := H.get at0
          have hk5 : ∀ {z : World}, Ext [] w5 z → z.heap[b5]? = some (Bl 92 (encE e)) := fun {z} h => by rw [h.block b5 (heap_lt hb5) (by simp)]; exact hb5
          have hD := Ext.drew [] w5
          refine W_skip (at_then ?_)
          refine W_sseqz [([0, 1, 2, 3, 4], 5), ([], 6), ([7, 8, 9, 10], 11)] (fun z => Ext [] w5 z) [] mixed_SeA (by kernel_rfl) (hD) ?_
          refine seg_cons rfl rfl ?_
          refine t_fieldAddr rfl fo_92_2_SeA rfl ?_
          first | refine t_ldb rfl ag_2_SeA rfl (fun _ _ => Ctx.start _ []) (by first | exact at0 | exact at1 | exact at2 | exact at3 | exact at4 | exact at5 | exact at6 | exact at7 | exact at8 | exact at9) rfl ?_ | refine t_ld rfl ag_2_SeA rfl (fun _ hx => (by rw [cell_bl (hk5 hx)]; rfl)) ?_
          rw [hcp]
          refine t_conv_u64 rfl rfl un_2_SeA un_24_SeA (by omega) (by omega) ?_
          refine t_fieldAddr rfl fo_92_3_SeA rfl ?_
          first | refine t_ldb rfl ag_2_SeA rfl (fun _ _ => Ctx.start _ []) (by first | exact at0 | exact at1 | exact at2 | exact at3 | exact at4 | exact at5 | exact at6 | exact at7 | exact at8 | exact at9) rfl ?_ | refine t_ld rfl ag_2_SeA rfl (fun _ hx => (by rw [cell_bl (hk5 hx)]; rfl)) ?_
          refine t_nil ?_
          replace H := H.drew
          refine op_call rfl ca_165_SeA (abs_ok e.cost (by omega) (by omega) _) rfl ?_
          rintro v w ⟨rfl, rfl⟩
          refine op_nil (at_seg (hD) ?_)
          refine seg_cons rfl rfl ?_
          refine t_nil ?_
          refine op_call rfl ca_164_SeA (mul64_ok cp e.cost.natAbs (by omega) (by omega) _) rfl ?_
          rintro v w ⟨rfl, rfl⟩
          refine op_nil (at_seg (hD) ?_)
          refine seg_cons rfl rfl ?_
          refine t_move rfl (.tuple _) rfl ?_
          refine t_extract rfl rfl rfl ?_
          refine t_extract rfl rfl rfl ?_
          refine t_assign rfl (.int _ _) rfl ?_
          refine t_nil ?_
          refine op_assign rfl (.int _ _) rfl ?_
          refine op_nil (at_seg (hD) ?_)
          refine seg_nil ?_
          refine W_seq ?_
          refine W_rseq ?_
          refine op_move rfl (.int _ _) rfl ?_
          refine op_neq rfl rfl rfl ?_
          refine op_move rfl (.bool _) rfl ?_
          refine op_move rfl (.int _ _) rfl ?_
          refine op_move rfl (.int _ _) rfl ?_
          refine op_gtr rfl rfl rfl ?_
          refine op_pick0 rfl rfl (.bool _) rfl ?_
          refine op_nil (at_then ?_)
          refine W_cond _ rfl ?_ ?_
          · intro h4
            replace h4 := dec_t h4
            refine W_rseq ?_
            refine op_assign rfl (.bool _) rfl ?_
            refine op_nil (at_then ?_)
            refine W_ret (ret_then (ret_block (ret_then (ret_then (ret_block (ret_then (leave1 (v := (.bool _)) rfl rfl rfl ?_)))))))
            exact ⟨congrArg Value.bool (by rw [hrN, decide_eq_false (show ¬ prods es ≤ 4611686018427387904 by omega), Bool.and_false]), H.ext⟩
          · intro h4
            replace h4 := dec_f h4
            refine W_skip (at_then ?_)
            refine W_region ?_
            refine op_move rfl (.int _ _) rfl ?_
            refine op_move rfl (.int _ _) rfl ?_
            refine op_sub_u64 rfl rfl rfl (by omega) (by omega) ?_
            refine op_assign rfl (.int _ _) rfl ?_
            refine op_nil (at_block (at_then ?_))
            refine W_region ?_
            refine op_add_i64 rfl rfl rfl (by omega) (by omega) ?_
            refine op_move rfl (.int _ _) rfl ?_
            refine op_nil (at_then ?_)
            refine ⟨i + 1, rfl, ⟨rfl, congrArg (Value.int .u64) (by rw [hps, hpe]; omega), trivial⟩, ⟨by omega, H.tail, by rw [hps, hpe]; omega, fun k y hk hy => ?_⟩, by omega⟩
            rcases Nat.lt_or_ge k i with h7 | h7
            · exact hb k y h7 hy
            · obtain rfl : k = i := by omega
              rw [he] at hy
              cases hy
              exact h3'
      · intro h2
        replace h2 := dec_f h2
        refine W_exit (exit_then (exit_then (exit_here (at_then ?_))))
        refine W_rseq ?_
        refine op_assign rfl (.bool _) rfl ?_
        refine op_nil (at_then ?_)
        refine W_ret (leave1 (v := (.bool _)) rfl rfl rfl ?_)
        rw [List.take_of_length_le (by omega)] at hpr
        exact ⟨congrArg Value.bool (by rw [hrN, all_true fun k x hk hx => hb k x (by omega) hx, decide_eq_true hpr]; rfl), H.ext⟩

end Go.Proofs.YtapphbmlkdhnmaaGreat

/- Rules for bits and shifts of numbers with a sign that are not below nought. They hold for every program. -/
namespace Go.GV
open Go

theorem wrap_pos {a : Nat} (ha : a < 9223372036854775808) : IntKind.i64.wrap (a : Int) = (a : Int) := by
  have h1 : (a : Int) % 18446744073709551616 = (a : Int) := by omega
  show (if (true && decide ((a : Int) % 18446744073709551616 ≥ 9223372036854775808)) = true then (a : Int) % 18446744073709551616 - 18446744073709551616 else (a : Int) % 18446744073709551616) = _
  rw [h1, decide_eq_false (by omega)]
  rfl
theorem bits_andI {a b : Nat} (ha : a < 9223372036854775808) (hb : b < 9223372036854775808) : Op.intBits .and .i64 a b = pure (.int .i64 ((a &&& b : Nat) : Int)) := by
  have hx : a &&& b ≤ a := Nat.and_le_left
  have ha' : a < 2 ^ IntKind.i64.bits := by show a < 18446744073709551616; omega
  have hb' : b < 2 ^ IntKind.i64.bits := by show b < 18446744073709551616; omega
  simp only [Op.intBits, ofInt_nat]
  rw [BitVec.toNat_and, BitVec.toNat_ofNat, BitVec.toNat_ofNat, Nat.mod_eq_of_lt ha', Nat.mod_eq_of_lt hb', wrap_pos (by omega)]
section
variable {P : Program} {r : Option Nat} {ops rest : List Oper} {Q : Exit → Env → World → Prop} {e : Env} {w : World}
  {dst : Option Tmp} {ty : TypeId} {pos : String} {af : Array Edge} {g : Option (Nat × Bool)} {C : World → Prop} {K : Env → Prop} {t t2 : TypeId} {x y : Operand} {a b n : Nat}
theorem op_and_i64 (hg : wants ⟨dst, .binOp .and t x y t2, ty, pos, af, g⟩ ops e = true) (hx : ev e x = .int .i64 a) (hy : ev e y = .int .i64 b) (ha : a < 9223372036854775808) (hb : b < 9223372036854775808)
    (h : Wops P r ops Q rest (put e dst (.int .i64 ((a &&& b : Nat) : Int))) w) : Wops P r ops Q (⟨dst, .binOp .and t x y t2, ty, pos, af, g⟩ :: rest) e w :=
  op_val hg rfl (run_bin hx hy (by show (Op.intBits .and .i64 (a : Int) (b : Int)).run P w = _; rw [bits_andI ha hb]; rfl)) h
theorem op_shr_i64 (hg : wants ⟨dst, .binOp .shr t x y t2, ty, pos, af, g⟩ ops e = true) {k2 : IntKind} (hx : ev e x = .int .i64 a) (hy : ev e y = .int k2 n) (hn : n ≤ 64)
    (h : Wops P r ops Q rest (put e dst (.int .i64 ((a / 2 ^ n : Nat) : Int))) w) : Wops P r ops Q (⟨dst, .binOp .shr t x y t2, ty, pos, af, g⟩ :: rest) e w :=
  op_val hg rfl (run_bin hx hy (by show (Op.shift .shr .i64 (a : Int) k2 (n : Int)).run P w = _; rw [run_shr (by exact hn)]; rfl)) h
theorem t_shr_i64 (hg : wants ⟨dst, .binOp .shr t x y t2, ty, pos, af, g⟩ ops e = true) {k2 : IntKind} (hx : ev e x = .int .i64 a) (hy : ev e y = .int k2 n) (hn : n ≤ 64)
    (h : Wt P ops C K rest (put e dst (.int .i64 ((a / 2 ^ n : Nat) : Int)))) : Wt P ops C K (⟨dst, .binOp .shr t x y t2, ty, pos, af, g⟩ :: rest) e :=
  t_val hg (fun w _ => run_bin hx hy (by show (Op.shift .shr .i64 (a : Int) k2 (n : Int)).run P w = _; rw [run_shr (by exact hn)]; rfl)) h
end
end Go.GV
