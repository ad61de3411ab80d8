/- The rules with their bounds as numerals, and the rules for regions that draw their order and whose operations are quiet; printed by mkmore.py. They hold for every program. -/
import Derived.Test.YtogaoppnoibgdaaGVOwn
namespace Go.GV
open Go
section
variable {P : Program} {r : Option Nat} {ops rest : List Oper} {Q : Exit → Env → World → Prop} {e : Env} {w w0 : World} {S : List Nat} {L : List (Nat × Obj)}
  {dst : Option Tmp} {ty : TypeId} {pos : String} {af : Array Edge} {g : Option (Nat × Bool)} {C : World → Prop} {K : Env → Prop}

theorem q_val {o : Oper} {v : Value} (hg : wants o ops e = true) (hrun : ∀ w, C w → (execOp (ev e) o).run P w = .ok (.value v) w) (h : Wq P ops C K rest (put e o.dst v)) : Wq P ops C K (o :: rest) e := by
  unfold Wq
  rw [if_pos hg]
  exact ⟨v, fun w hw => by rw [hrun w hw]; exact ⟨rfl, rfl⟩, h⟩
theorem q_skip {o : Oper} (hg : wants o ops e = false) (h : Wq P ops C K rest (put e o.dst undef)) : Wq P ops C K (o :: rest) e := by
  unfold Wq
  rw [if_neg (by rw [hg]; simp)]
  exact h
theorem q_nil (h : K e) : Wq P ops C K [] e := h
theorem Wq_known {l : List Oper} (d : Tmp) {b : Bool} (c : Bool) (hd : e.g d = .bool b) (hb : b = c) (h : Wq P ops C K l (put e (some d) (.bool c))) : Wq P ops C K l e := by
  subst hb
  rw [put_same_val hd] at h
  exact h
theorem Wq_split {l : List Oper} (d : Tmp) {b : Bool} (hd : e.g d = .bool b) (h1 : b = true → Wq P ops C K l (put e (some d) (.bool true)))
    (h2 : b = false → Wq P ops C K l (put e (some d) (.bool false))) : Wq P ops C K l e := by
  cases b with
  | true => exact Wq_known d true hd rfl (h1 rfl)
  | false => exact Wq_known d false hd rfl (h2 rfl)
theorem q_call {f : FuncId} {args : Array Operand} {ats : Array TypeId} {l : List Value} {v : Value} (hg : wants ⟨dst, .call ⟨.value (.func f), args, ats⟩, ty, pos, af, g⟩ ops e = true) (hf : callable P f = true)
    (hc : ∀ w, C w → Ret P f l.toArray w fun u w' => u = v ∧ C w') (ha : args.toList.map (ev e) = l) (h : Wq P ops C K rest (put e dst v)) :
    Wq P ops C K (⟨dst, .call ⟨.value (.func f), args, ats⟩, ty, pos, af, g⟩ :: rest) e := by
  unfold Wq
  rw [if_pos hg]
  have : args.map (ev e) = l.toArray := by subst ha; apply Array.ext'; simp only [Array.toList_map]
  refine ⟨v, fun w hw => ?_, h⟩
  have hrun : (execOp (ev e) ⟨dst, .call ⟨.value (.func f), args, ats⟩, ty, pos, af, g⟩).run P w = .ok (.enter f l.toArray) w := by
    simp [execOp, resolve, ev, Deferred.ofValue, invoke, this, run_callable hf]
  rw [hrun]
  exact ⟨rfl, hc w hw⟩
theorem q_ld {t : TypeId} {x : Operand} {p : Addr} {v : Value} (hg : wants ⟨dst, .load t x, ty, pos, af, g⟩ ops e = true) (ha : aggB P t = some false) (hx : ev e x = .pointer (some p)) (hc : ∀ w, C w → w.cell? p = some v)
    (h : Wq P ops C K rest (put e dst v)) : Wq P ops C K (⟨dst, .load t x, ty, pos, af, g⟩ :: rest) e :=
  q_val hg (fun w hw => by simp [execOp, hx, Instr.loadAt, Instr.sureAddr, run_load1 ha (hc w hw)]) h
theorem q_ldb {t t2 : TypeId} {x : Operand} {b i k : Nat} {l : List Value} {v : Value} (hg : wants ⟨dst, .load t x, ty, pos, af, g⟩ ops e = true) (ha : aggB P t = some false) (hx : ev e x = .pointer (some ⟨b, i, none⟩))
    (H : ∀ w, C w → Ctx w0 S w L) (hk : L[k]? = some (b, Bl t2 l)) (hc : l[i]? = some v)
    (h : Wq P ops C K rest (put e dst v)) : Wq P ops C K (⟨dst, .load t x, ty, pos, af, g⟩ :: rest) e :=
  q_ld hg ha hx (fun w hw => by rw [cell_bl ((H w hw).get hk)]; exact hc) h
theorem q_ldN {t : TypeId} {x : Operand} {b o s : Nat} (l : List Value) (hg : wants ⟨dst, .load t x, ty, pos, af, g⟩ ops e = true) (ha : aggB P t = some true) (hs : tsize P t = some s) (hx : ev e x = .pointer (some ⟨b, o, none⟩))
    (hl : l.length = s) (hc : ∀ w, C w → ∀ j v, l[j]? = some v → w.cell? ⟨b, o + j, none⟩ = some v)
    (h : Wq P ops C K rest (put e dst (.agg l.toArray))) : Wq P ops C K (⟨dst, .load t x, ty, pos, af, g⟩ :: rest) e :=
  q_val hg (fun w hw => by simp [execOp, hx, Instr.loadAt, Instr.sureAddr, run_loadN ha hs hl (hc w hw)]) h
theorem q_ldbN {t t2 : TypeId} {x : Operand} {b s k : Nat} {l : List Value} (hg : wants ⟨dst, .load t x, ty, pos, af, g⟩ ops e = true) (ha : aggB P t = some true) (hs : tsize P t = some s) (hx : ev e x = .pointer (some ⟨b, 0, none⟩))
    (H : ∀ w, C w → Ctx w0 S w L) (hk : L[k]? = some (b, Bl t2 l)) (hl : l.length = s)
    (h : Wq P ops C K rest (put e dst (.agg l.toArray))) : Wq P ops C K (⟨dst, .load t x, ty, pos, af, g⟩ :: rest) e :=
  q_ldN l hg ha hs hx hl (fun w hw j v hv => by rw [cell_bl ((H w hw).get hk), Nat.zero_add]; exact hv) h
section
variable {t t2 : TypeId} {x y : Operand} {k : IntKind} {a b : Int}
theorem q_lss (hg : wants ⟨dst, .binOp .lss t x y t2, ty, pos, af, g⟩ ops e = true) (hx : ev e x = .int k a) (hy : ev e y = .int k b) (h : Wq P ops C K rest (put e dst (.bool (decide (a < b))))) :
    Wq P ops C K (⟨dst, .binOp .lss t x y t2, ty, pos, af, g⟩ :: rest) e := q_val hg (fun w _ => run_bin hx hy (by simp [binOp, Op.intCmp])) h
theorem q_leq (hg : wants ⟨dst, .binOp .leq t x y t2, ty, pos, af, g⟩ ops e = true) (hx : ev e x = .int k a) (hy : ev e y = .int k b) (h : Wq P ops C K rest (put e dst (.bool (decide (a ≤ b))))) :
    Wq P ops C K (⟨dst, .binOp .leq t x y t2, ty, pos, af, g⟩ :: rest) e := q_val hg (fun w _ => run_bin hx hy (by simp [binOp, Op.intCmp])) h
theorem q_gtr (hg : wants ⟨dst, .binOp .gtr t x y t2, ty, pos, af, g⟩ ops e = true) (hx : ev e x = .int k a) (hy : ev e y = .int k b) (h : Wq P ops C K rest (put e dst (.bool (decide (b < a))))) :
    Wq P ops C K (⟨dst, .binOp .gtr t x y t2, ty, pos, af, g⟩ :: rest) e := q_val hg (fun w _ => run_bin hx hy (by simp [binOp, Op.intCmp])) h
theorem q_geq (hg : wants ⟨dst, .binOp .geq t x y t2, ty, pos, af, g⟩ ops e = true) (hx : ev e x = .int k a) (hy : ev e y = .int k b) (h : Wq P ops C K rest (put e dst (.bool (decide (b ≤ a))))) :
    Wq P ops C K (⟨dst, .binOp .geq t x y t2, ty, pos, af, g⟩ :: rest) e := q_val hg (fun w _ => run_bin hx hy (by simp [binOp, Op.intCmp])) h
theorem q_eql (hg : wants ⟨dst, .binOp .eql t x y t2, ty, pos, af, g⟩ ops e = true) (hx : ev e x = .int k a) (hy : ev e y = .int k b) (h : Wq P ops C K rest (put e dst (.bool (decide (a = b))))) :
    Wq P ops C K (⟨dst, .binOp .eql t x y t2, ty, pos, af, g⟩ :: rest) e :=
  q_val hg (fun w _ => run_bin hx hy (v := .bool (decide (a = b))) (by simp [binOp, Op.intCmp]; rfl)) h
theorem q_neq (hg : wants ⟨dst, .binOp .neq t x y t2, ty, pos, af, g⟩ ops e = true) (hx : ev e x = .int k a) (hy : ev e y = .int k b) (h : Wq P ops C K rest (put e dst (.bool (!decide (a = b))))) :
    Wq P ops C K (⟨dst, .binOp .neq t x y t2, ty, pos, af, g⟩ :: rest) e :=
  q_val hg (fun w _ => run_bin hx hy (v := .bool (!decide (a = b))) (by simp [binOp, Op.intCmp]; rfl)) h

theorem q_quo (hg : wants ⟨dst, .binOp .quo t x y t2, ty, pos, af, g⟩ ops e = true) (hx : ev e x = .int k a) (hy : ev e y = .int k b) (h0 : 0 ≤ a) (hb : 0 < b) (h2 : a ≤ k.max)
    (h : Wq P ops C K rest (put e dst (.int k (a / b)))) : Wq P ops C K (⟨dst, .binOp .quo t x y t2, ty, pos, af, g⟩ :: rest) e := by
  refine q_val hg (fun w _ => run_bin hx hy (v := .int k (a / b)) ?_) h
  have h3 : a.tdiv b = a / b := Int.tdiv_eq_ediv_of_nonneg h0
  have h4 : 0 ≤ a / b := Int.ediv_nonneg h0 (by omega)
  have h5 : a / b ≤ a := Int.ediv_le_self _ h0
  have h6 : k.min ≤ 0 := by cases k <;> decide
  simp [binOp, Op.intDiv, h3, show ¬ b = 0 from by omega, wrap_in (k := k) (n := a / b) (by omega) (by omega)]
theorem q_rem (hg : wants ⟨dst, .binOp .rem t x y t2, ty, pos, af, g⟩ ops e = true) (hx : ev e x = .int k a) (hy : ev e y = .int k b) (h0 : 0 ≤ a) (hb : 0 < b)
    (h : Wq P ops C K rest (put e dst (.int k (a % b)))) : Wq P ops C K (⟨dst, .binOp .rem t x y t2, ty, pos, af, g⟩ :: rest) e := by
  refine q_val hg (fun w _ => run_bin hx hy (v := .int k (a % b)) ?_) h
  have h3 : a.tmod b = a % b := Int.tmod_eq_emod_of_nonneg h0
  simp [binOp, Op.intDiv, h3, show ¬ b = 0 from by omega]
theorem op_eqlb {x y : Operand} {a b : Bool} {t t2 : TypeId} (ht : P.underlying t = some .bool) (hg : wants ⟨dst, .binOp .eql t x y t2, ty, pos, af, g⟩ ops e = true) (hx : ev e x = .bool a) (hy : ev e y = .bool b) (h : Wops P r ops Q rest (put e dst (.bool (a == b))) w) :
    Wops P r ops Q (⟨dst, .binOp .eql t x y t2, ty, pos, af, g⟩ :: rest) e w := by
  refine op_val hg rfl ?_ h
  have hq : eqGuard .eql t x y (.bool a) (.bool b) = pure () := rfl
  have he : ∀ d w, (Op.equalIn (d + 1) t (.bool a) (.bool b)).run P w = .ok (a == b) w := fun d w => by simp [Op.equalIn, run_under ht]
  simp only [execOp, hx, hy, hq, Sem.run_bind, Sem.run_pure, Result.andThen_ok, binOp, Op.equal, Op.maxDepth, he 9999]
theorem op_neqb {x y : Operand} {a b : Bool} {t t2 : TypeId} (ht : P.underlying t = some .bool) (hg : wants ⟨dst, .binOp .neq t x y t2, ty, pos, af, g⟩ ops e = true) (hx : ev e x = .bool a) (hy : ev e y = .bool b) (h : Wops P r ops Q rest (put e dst (.bool (!(a == b)))) w) :
    Wops P r ops Q (⟨dst, .binOp .neq t x y t2, ty, pos, af, g⟩ :: rest) e w := by
  refine op_val hg rfl ?_ h
  have hq : eqGuard .neq t x y (.bool a) (.bool b) = pure () := rfl
  have he : ∀ d w, (Op.equalIn (d + 1) t (.bool a) (.bool b)).run P w = .ok (a == b) w := fun d w => by simp [Op.equalIn, run_under ht]
  simp only [execOp, hx, hy, hq, Sem.run_bind, Sem.run_pure, Result.andThen_ok, binOp, Op.equal, Op.maxDepth, he 9999]
theorem op_add_i64 (hg : wants ⟨dst, .binOp .add t x y t2, ty, pos, af, g⟩ ops e = true) (hx : ev e x = .int .i64 a) (hy : ev e y = .int .i64 b) (h1 : -9223372036854775808 ≤ a + b) (h2 : a + b ≤ 9223372036854775807)
    (h : Wops P r ops Q rest (put e dst (.int .i64 (a + b))) w) : Wops P r ops Q (⟨dst, .binOp .add t x y t2, ty, pos, af, g⟩ :: rest) e w := op_val hg rfl (run_bin hx hy (by simp [binOp, Op.intArith, wrap_in (k := .i64) (n := a + b) h1 h2])) h
theorem q_add_i64 (hg : wants ⟨dst, .binOp .add t x y t2, ty, pos, af, g⟩ ops e = true) (hx : ev e x = .int .i64 a) (hy : ev e y = .int .i64 b) (h1 : -9223372036854775808 ≤ a + b) (h2 : a + b ≤ 9223372036854775807)
    (h : Wq P ops C K rest (put e dst (.int .i64 (a + b)))) : Wq P ops C K (⟨dst, .binOp .add t x y t2, ty, pos, af, g⟩ :: rest) e := q_val hg (fun w _ => run_bin hx hy (by simp [binOp, Op.intArith, wrap_in (k := .i64) (n := a + b) h1 h2])) h
theorem op_sub_i64 (hg : wants ⟨dst, .binOp .sub t x y t2, ty, pos, af, g⟩ ops e = true) (hx : ev e x = .int .i64 a) (hy : ev e y = .int .i64 b) (h1 : -9223372036854775808 ≤ a - b) (h2 : a - b ≤ 9223372036854775807)
    (h : Wops P r ops Q rest (put e dst (.int .i64 (a - b))) w) : Wops P r ops Q (⟨dst, .binOp .sub t x y t2, ty, pos, af, g⟩ :: rest) e w := op_val hg rfl (run_bin hx hy (by simp [binOp, Op.intArith, wrap_in (k := .i64) (n := a - b) h1 h2])) h
theorem q_sub_i64 (hg : wants ⟨dst, .binOp .sub t x y t2, ty, pos, af, g⟩ ops e = true) (hx : ev e x = .int .i64 a) (hy : ev e y = .int .i64 b) (h1 : -9223372036854775808 ≤ a - b) (h2 : a - b ≤ 9223372036854775807)
    (h : Wq P ops C K rest (put e dst (.int .i64 (a - b)))) : Wq P ops C K (⟨dst, .binOp .sub t x y t2, ty, pos, af, g⟩ :: rest) e := q_val hg (fun w _ => run_bin hx hy (by simp [binOp, Op.intArith, wrap_in (k := .i64) (n := a - b) h1 h2])) h
theorem op_mul_i64 (hg : wants ⟨dst, .binOp .mul t x y t2, ty, pos, af, g⟩ ops e = true) (hx : ev e x = .int .i64 a) (hy : ev e y = .int .i64 b) (h1 : -9223372036854775808 ≤ a * b) (h2 : a * b ≤ 9223372036854775807)
    (h : Wops P r ops Q rest (put e dst (.int .i64 (a * b))) w) : Wops P r ops Q (⟨dst, .binOp .mul t x y t2, ty, pos, af, g⟩ :: rest) e w := op_val hg rfl (run_bin hx hy (by simp [binOp, Op.intArith, wrap_in (k := .i64) (n := a * b) h1 h2])) h
theorem q_mul_i64 (hg : wants ⟨dst, .binOp .mul t x y t2, ty, pos, af, g⟩ ops e = true) (hx : ev e x = .int .i64 a) (hy : ev e y = .int .i64 b) (h1 : -9223372036854775808 ≤ a * b) (h2 : a * b ≤ 9223372036854775807)
    (h : Wq P ops C K rest (put e dst (.int .i64 (a * b)))) : Wq P ops C K (⟨dst, .binOp .mul t x y t2, ty, pos, af, g⟩ :: rest) e := q_val hg (fun w _ => run_bin hx hy (by simp [binOp, Op.intArith, wrap_in (k := .i64) (n := a * b) h1 h2])) h
theorem op_neg_i64 (hg : wants ⟨dst, .unOp .neg t x, ty, pos, af, g⟩ ops e = true) (hx : ev e x = .int .i64 a) (h1 : -9223372036854775808 ≤ - a) (h2 : - a ≤ 9223372036854775807) (h : Wops P r ops Q rest (put e dst (.int .i64 (- a))) w) : Wops P r ops Q (⟨dst, .unOp .neg t x, ty, pos, af, g⟩ :: rest) e w := op_neg hg hx h1 h2 h
theorem op_conv_i64 {s d : TypeId} {ds : TypeDesc} (hg : wants ⟨dst, .convert s d x, ty, pos, af, g⟩ ops e = true) (hx : ev e x = .int k a) (hs : P.underlying s = some ds) (hd : P.underlying d = some (.int .i64)) (h1 : -9223372036854775808 ≤ a) (h2 : a ≤ 9223372036854775807) (h : Wops P r ops Q rest (put e dst (.int .i64 a)) w) : Wops P r ops Q (⟨dst, .convert s d x, ty, pos, af, g⟩ :: rest) e w := op_conv hg hx hs hd h1 h2 h
theorem q_neg_i64 (hg : wants ⟨dst, .unOp .neg t x, ty, pos, af, g⟩ ops e = true) (hx : ev e x = .int .i64 a) (h1 : -9223372036854775808 ≤ - a) (h2 : - a ≤ 9223372036854775807) (h : Wq P ops C K rest (put e dst (.int .i64 (- a)))) : Wq P ops C K (⟨dst, .unOp .neg t x, ty, pos, af, g⟩ :: rest) e := q_val hg (fun w _ => by simp [execOp, hx, Op.unary, Op.intArith, wrap_in (k := .i64) h1 h2]) h
theorem q_conv_i64 {s d : TypeId} {ds : TypeDesc} (hg : wants ⟨dst, .convert s d x, ty, pos, af, g⟩ ops e = true) (hx : ev e x = .int k a) (hs : P.underlying s = some ds) (hd : P.underlying d = some (.int .i64)) (h1 : -9223372036854775808 ≤ a) (h2 : a ≤ 9223372036854775807) (h : Wq P ops C K rest (put e dst (.int .i64 a))) : Wq P ops C K (⟨dst, .convert s d x, ty, pos, af, g⟩ :: rest) e :=
  q_val hg (fun w _ => by simp [execOp, hx, convert, run_under hs, run_under hd, Conv.intToInt, wrap_in (k := .i64) (n := a) h1 h2]) h
theorem op_add_i32 (hg : wants ⟨dst, .binOp .add t x y t2, ty, pos, af, g⟩ ops e = true) (hx : ev e x = .int .i32 a) (hy : ev e y = .int .i32 b) (h1 : -2147483648 ≤ a + b) (h2 : a + b ≤ 2147483647)
    (h : Wops P r ops Q rest (put e dst (.int .i32 (a + b))) w) : Wops P r ops Q (⟨dst, .binOp .add t x y t2, ty, pos, af, g⟩ :: rest) e w := op_val hg rfl (run_bin hx hy (by simp [binOp, Op.intArith, wrap_in (k := .i32) (n := a + b) h1 h2])) h
theorem q_add_i32 (hg : wants ⟨dst, .binOp .add t x y t2, ty, pos, af, g⟩ ops e = true) (hx : ev e x = .int .i32 a) (hy : ev e y = .int .i32 b) (h1 : -2147483648 ≤ a + b) (h2 : a + b ≤ 2147483647)
    (h : Wq P ops C K rest (put e dst (.int .i32 (a + b)))) : Wq P ops C K (⟨dst, .binOp .add t x y t2, ty, pos, af, g⟩ :: rest) e := q_val hg (fun w _ => run_bin hx hy (by simp [binOp, Op.intArith, wrap_in (k := .i32) (n := a + b) h1 h2])) h
theorem op_sub_i32 (hg : wants ⟨dst, .binOp .sub t x y t2, ty, pos, af, g⟩ ops e = true) (hx : ev e x = .int .i32 a) (hy : ev e y = .int .i32 b) (h1 : -2147483648 ≤ a - b) (h2 : a - b ≤ 2147483647)
    (h : Wops P r ops Q rest (put e dst (.int .i32 (a - b))) w) : Wops P r ops Q (⟨dst, .binOp .sub t x y t2, ty, pos, af, g⟩ :: rest) e w := op_val hg rfl (run_bin hx hy (by simp [binOp, Op.intArith, wrap_in (k := .i32) (n := a - b) h1 h2])) h
theorem q_sub_i32 (hg : wants ⟨dst, .binOp .sub t x y t2, ty, pos, af, g⟩ ops e = true) (hx : ev e x = .int .i32 a) (hy : ev e y = .int .i32 b) (h1 : -2147483648 ≤ a - b) (h2 : a - b ≤ 2147483647)
    (h : Wq P ops C K rest (put e dst (.int .i32 (a - b)))) : Wq P ops C K (⟨dst, .binOp .sub t x y t2, ty, pos, af, g⟩ :: rest) e := q_val hg (fun w _ => run_bin hx hy (by simp [binOp, Op.intArith, wrap_in (k := .i32) (n := a - b) h1 h2])) h
theorem op_mul_i32 (hg : wants ⟨dst, .binOp .mul t x y t2, ty, pos, af, g⟩ ops e = true) (hx : ev e x = .int .i32 a) (hy : ev e y = .int .i32 b) (h1 : -2147483648 ≤ a * b) (h2 : a * b ≤ 2147483647)
    (h : Wops P r ops Q rest (put e dst (.int .i32 (a * b))) w) : Wops P r ops Q (⟨dst, .binOp .mul t x y t2, ty, pos, af, g⟩ :: rest) e w := op_val hg rfl (run_bin hx hy (by simp [binOp, Op.intArith, wrap_in (k := .i32) (n := a * b) h1 h2])) h
theorem q_mul_i32 (hg : wants ⟨dst, .binOp .mul t x y t2, ty, pos, af, g⟩ ops e = true) (hx : ev e x = .int .i32 a) (hy : ev e y = .int .i32 b) (h1 : -2147483648 ≤ a * b) (h2 : a * b ≤ 2147483647)
    (h : Wq P ops C K rest (put e dst (.int .i32 (a * b)))) : Wq P ops C K (⟨dst, .binOp .mul t x y t2, ty, pos, af, g⟩ :: rest) e := q_val hg (fun w _ => run_bin hx hy (by simp [binOp, Op.intArith, wrap_in (k := .i32) (n := a * b) h1 h2])) h
theorem op_neg_i32 (hg : wants ⟨dst, .unOp .neg t x, ty, pos, af, g⟩ ops e = true) (hx : ev e x = .int .i32 a) (h1 : -2147483648 ≤ - a) (h2 : - a ≤ 2147483647) (h : Wops P r ops Q rest (put e dst (.int .i32 (- a))) w) : Wops P r ops Q (⟨dst, .unOp .neg t x, ty, pos, af, g⟩ :: rest) e w := op_neg hg hx h1 h2 h
theorem op_conv_i32 {s d : TypeId} {ds : TypeDesc} (hg : wants ⟨dst, .convert s d x, ty, pos, af, g⟩ ops e = true) (hx : ev e x = .int k a) (hs : P.underlying s = some ds) (hd : P.underlying d = some (.int .i32)) (h1 : -2147483648 ≤ a) (h2 : a ≤ 2147483647) (h : Wops P r ops Q rest (put e dst (.int .i32 a)) w) : Wops P r ops Q (⟨dst, .convert s d x, ty, pos, af, g⟩ :: rest) e w := op_conv hg hx hs hd h1 h2 h
theorem q_neg_i32 (hg : wants ⟨dst, .unOp .neg t x, ty, pos, af, g⟩ ops e = true) (hx : ev e x = .int .i32 a) (h1 : -2147483648 ≤ - a) (h2 : - a ≤ 2147483647) (h : Wq P ops C K rest (put e dst (.int .i32 (- a)))) : Wq P ops C K (⟨dst, .unOp .neg t x, ty, pos, af, g⟩ :: rest) e := q_val hg (fun w _ => by simp [execOp, hx, Op.unary, Op.intArith, wrap_in (k := .i32) h1 h2]) h
theorem q_conv_i32 {s d : TypeId} {ds : TypeDesc} (hg : wants ⟨dst, .convert s d x, ty, pos, af, g⟩ ops e = true) (hx : ev e x = .int k a) (hs : P.underlying s = some ds) (hd : P.underlying d = some (.int .i32)) (h1 : -2147483648 ≤ a) (h2 : a ≤ 2147483647) (h : Wq P ops C K rest (put e dst (.int .i32 a))) : Wq P ops C K (⟨dst, .convert s d x, ty, pos, af, g⟩ :: rest) e :=
  q_val hg (fun w _ => by simp [execOp, hx, convert, run_under hs, run_under hd, Conv.intToInt, wrap_in (k := .i32) (n := a) h1 h2]) h
theorem op_add_u8 (hg : wants ⟨dst, .binOp .add t x y t2, ty, pos, af, g⟩ ops e = true) (hx : ev e x = .int .u8 a) (hy : ev e y = .int .u8 b) (h1 : 0 ≤ a + b) (h2 : a + b ≤ 255)
    (h : Wops P r ops Q rest (put e dst (.int .u8 (a + b))) w) : Wops P r ops Q (⟨dst, .binOp .add t x y t2, ty, pos, af, g⟩ :: rest) e w := op_val hg rfl (run_bin hx hy (by simp [binOp, Op.intArith, wrap_in (k := .u8) (n := a + b) h1 h2])) h
theorem q_add_u8 (hg : wants ⟨dst, .binOp .add t x y t2, ty, pos, af, g⟩ ops e = true) (hx : ev e x = .int .u8 a) (hy : ev e y = .int .u8 b) (h1 : 0 ≤ a + b) (h2 : a + b ≤ 255)
    (h : Wq P ops C K rest (put e dst (.int .u8 (a + b)))) : Wq P ops C K (⟨dst, .binOp .add t x y t2, ty, pos, af, g⟩ :: rest) e := q_val hg (fun w _ => run_bin hx hy (by simp [binOp, Op.intArith, wrap_in (k := .u8) (n := a + b) h1 h2])) h
theorem op_sub_u8 (hg : wants ⟨dst, .binOp .sub t x y t2, ty, pos, af, g⟩ ops e = true) (hx : ev e x = .int .u8 a) (hy : ev e y = .int .u8 b) (h1 : 0 ≤ a - b) (h2 : a - b ≤ 255)
    (h : Wops P r ops Q rest (put e dst (.int .u8 (a - b))) w) : Wops P r ops Q (⟨dst, .binOp .sub t x y t2, ty, pos, af, g⟩ :: rest) e w := op_val hg rfl (run_bin hx hy (by simp [binOp, Op.intArith, wrap_in (k := .u8) (n := a - b) h1 h2])) h
theorem q_sub_u8 (hg : wants ⟨dst, .binOp .sub t x y t2, ty, pos, af, g⟩ ops e = true) (hx : ev e x = .int .u8 a) (hy : ev e y = .int .u8 b) (h1 : 0 ≤ a - b) (h2 : a - b ≤ 255)
    (h : Wq P ops C K rest (put e dst (.int .u8 (a - b)))) : Wq P ops C K (⟨dst, .binOp .sub t x y t2, ty, pos, af, g⟩ :: rest) e := q_val hg (fun w _ => run_bin hx hy (by simp [binOp, Op.intArith, wrap_in (k := .u8) (n := a - b) h1 h2])) h
theorem op_mul_u8 (hg : wants ⟨dst, .binOp .mul t x y t2, ty, pos, af, g⟩ ops e = true) (hx : ev e x = .int .u8 a) (hy : ev e y = .int .u8 b) (h1 : 0 ≤ a * b) (h2 : a * b ≤ 255)
    (h : Wops P r ops Q rest (put e dst (.int .u8 (a * b))) w) : Wops P r ops Q (⟨dst, .binOp .mul t x y t2, ty, pos, af, g⟩ :: rest) e w := op_val hg rfl (run_bin hx hy (by simp [binOp, Op.intArith, wrap_in (k := .u8) (n := a * b) h1 h2])) h
theorem q_mul_u8 (hg : wants ⟨dst, .binOp .mul t x y t2, ty, pos, af, g⟩ ops e = true) (hx : ev e x = .int .u8 a) (hy : ev e y = .int .u8 b) (h1 : 0 ≤ a * b) (h2 : a * b ≤ 255)
    (h : Wq P ops C K rest (put e dst (.int .u8 (a * b)))) : Wq P ops C K (⟨dst, .binOp .mul t x y t2, ty, pos, af, g⟩ :: rest) e := q_val hg (fun w _ => run_bin hx hy (by simp [binOp, Op.intArith, wrap_in (k := .u8) (n := a * b) h1 h2])) h
theorem op_conv_u8 {s d : TypeId} {ds : TypeDesc} (hg : wants ⟨dst, .convert s d x, ty, pos, af, g⟩ ops e = true) (hx : ev e x = .int k a) (hs : P.underlying s = some ds) (hd : P.underlying d = some (.int .u8)) (h1 : 0 ≤ a) (h2 : a ≤ 255) (h : Wops P r ops Q rest (put e dst (.int .u8 a)) w) : Wops P r ops Q (⟨dst, .convert s d x, ty, pos, af, g⟩ :: rest) e w := op_conv hg hx hs hd h1 h2 h
theorem q_conv_u8 {s d : TypeId} {ds : TypeDesc} (hg : wants ⟨dst, .convert s d x, ty, pos, af, g⟩ ops e = true) (hx : ev e x = .int k a) (hs : P.underlying s = some ds) (hd : P.underlying d = some (.int .u8)) (h1 : 0 ≤ a) (h2 : a ≤ 255) (h : Wq P ops C K rest (put e dst (.int .u8 a))) : Wq P ops C K (⟨dst, .convert s d x, ty, pos, af, g⟩ :: rest) e :=
  q_val hg (fun w _ => by simp [execOp, hx, convert, run_under hs, run_under hd, Conv.intToInt, wrap_in (k := .u8) (n := a) h1 h2]) h
theorem op_add_u16 (hg : wants ⟨dst, .binOp .add t x y t2, ty, pos, af, g⟩ ops e = true) (hx : ev e x = .int .u16 a) (hy : ev e y = .int .u16 b) (h1 : 0 ≤ a + b) (h2 : a + b ≤ 65535)
    (h : Wops P r ops Q rest (put e dst (.int .u16 (a + b))) w) : Wops P r ops Q (⟨dst, .binOp .add t x y t2, ty, pos, af, g⟩ :: rest) e w := op_val hg rfl (run_bin hx hy (by simp [binOp, Op.intArith, wrap_in (k := .u16) (n := a + b) h1 h2])) h
theorem q_add_u16 (hg : wants ⟨dst, .binOp .add t x y t2, ty, pos, af, g⟩ ops e = true) (hx : ev e x = .int .u16 a) (hy : ev e y = .int .u16 b) (h1 : 0 ≤ a + b) (h2 : a + b ≤ 65535)
    (h : Wq P ops C K rest (put e dst (.int .u16 (a + b)))) : Wq P ops C K (⟨dst, .binOp .add t x y t2, ty, pos, af, g⟩ :: rest) e := q_val hg (fun w _ => run_bin hx hy (by simp [binOp, Op.intArith, wrap_in (k := .u16) (n := a + b) h1 h2])) h
theorem op_sub_u16 (hg : wants ⟨dst, .binOp .sub t x y t2, ty, pos, af, g⟩ ops e = true) (hx : ev e x = .int .u16 a) (hy : ev e y = .int .u16 b) (h1 : 0 ≤ a - b) (h2 : a - b ≤ 65535)
    (h : Wops P r ops Q rest (put e dst (.int .u16 (a - b))) w) : Wops P r ops Q (⟨dst, .binOp .sub t x y t2, ty, pos, af, g⟩ :: rest) e w := op_val hg rfl (run_bin hx hy (by simp [binOp, Op.intArith, wrap_in (k := .u16) (n := a - b) h1 h2])) h
theorem q_sub_u16 (hg : wants ⟨dst, .binOp .sub t x y t2, ty, pos, af, g⟩ ops e = true) (hx : ev e x = .int .u16 a) (hy : ev e y = .int .u16 b) (h1 : 0 ≤ a - b) (h2 : a - b ≤ 65535)
    (h : Wq P ops C K rest (put e dst (.int .u16 (a - b)))) : Wq P ops C K (⟨dst, .binOp .sub t x y t2, ty, pos, af, g⟩ :: rest) e := q_val hg (fun w _ => run_bin hx hy (by simp [binOp, Op.intArith, wrap_in (k := .u16) (n := a - b) h1 h2])) h
theorem op_mul_u16 (hg : wants ⟨dst, .binOp .mul t x y t2, ty, pos, af, g⟩ ops e = true) (hx : ev e x = .int .u16 a) (hy : ev e y = .int .u16 b) (h1 : 0 ≤ a * b) (h2 : a * b ≤ 65535)
    (h : Wops P r ops Q rest (put e dst (.int .u16 (a * b))) w) : Wops P r ops Q (⟨dst, .binOp .mul t x y t2, ty, pos, af, g⟩ :: rest) e w := op_val hg rfl (run_bin hx hy (by simp [binOp, Op.intArith, wrap_in (k := .u16) (n := a * b) h1 h2])) h
theorem q_mul_u16 (hg : wants ⟨dst, .binOp .mul t x y t2, ty, pos, af, g⟩ ops e = true) (hx : ev e x = .int .u16 a) (hy : ev e y = .int .u16 b) (h1 : 0 ≤ a * b) (h2 : a * b ≤ 65535)
    (h : Wq P ops C K rest (put e dst (.int .u16 (a * b)))) : Wq P ops C K (⟨dst, .binOp .mul t x y t2, ty, pos, af, g⟩ :: rest) e := q_val hg (fun w _ => run_bin hx hy (by simp [binOp, Op.intArith, wrap_in (k := .u16) (n := a * b) h1 h2])) h
theorem op_conv_u16 {s d : TypeId} {ds : TypeDesc} (hg : wants ⟨dst, .convert s d x, ty, pos, af, g⟩ ops e = true) (hx : ev e x = .int k a) (hs : P.underlying s = some ds) (hd : P.underlying d = some (.int .u16)) (h1 : 0 ≤ a) (h2 : a ≤ 65535) (h : Wops P r ops Q rest (put e dst (.int .u16 a)) w) : Wops P r ops Q (⟨dst, .convert s d x, ty, pos, af, g⟩ :: rest) e w := op_conv hg hx hs hd h1 h2 h
theorem q_conv_u16 {s d : TypeId} {ds : TypeDesc} (hg : wants ⟨dst, .convert s d x, ty, pos, af, g⟩ ops e = true) (hx : ev e x = .int k a) (hs : P.underlying s = some ds) (hd : P.underlying d = some (.int .u16)) (h1 : 0 ≤ a) (h2 : a ≤ 65535) (h : Wq P ops C K rest (put e dst (.int .u16 a))) : Wq P ops C K (⟨dst, .convert s d x, ty, pos, af, g⟩ :: rest) e :=
  q_val hg (fun w _ => by simp [execOp, hx, convert, run_under hs, run_under hd, Conv.intToInt, wrap_in (k := .u16) (n := a) h1 h2]) h
theorem op_add_u32 (hg : wants ⟨dst, .binOp .add t x y t2, ty, pos, af, g⟩ ops e = true) (hx : ev e x = .int .u32 a) (hy : ev e y = .int .u32 b) (h1 : 0 ≤ a + b) (h2 : a + b ≤ 4294967295)
    (h : Wops P r ops Q rest (put e dst (.int .u32 (a + b))) w) : Wops P r ops Q (⟨dst, .binOp .add t x y t2, ty, pos, af, g⟩ :: rest) e w := op_val hg rfl (run_bin hx hy (by simp [binOp, Op.intArith, wrap_in (k := .u32) (n := a + b) h1 h2])) h
theorem q_add_u32 (hg : wants ⟨dst, .binOp .add t x y t2, ty, pos, af, g⟩ ops e = true) (hx : ev e x = .int .u32 a) (hy : ev e y = .int .u32 b) (h1 : 0 ≤ a + b) (h2 : a + b ≤ 4294967295)
    (h : Wq P ops C K rest (put e dst (.int .u32 (a + b)))) : Wq P ops C K (⟨dst, .binOp .add t x y t2, ty, pos, af, g⟩ :: rest) e := q_val hg (fun w _ => run_bin hx hy (by simp [binOp, Op.intArith, wrap_in (k := .u32) (n := a + b) h1 h2])) h
theorem op_sub_u32 (hg : wants ⟨dst, .binOp .sub t x y t2, ty, pos, af, g⟩ ops e = true) (hx : ev e x = .int .u32 a) (hy : ev e y = .int .u32 b) (h1 : 0 ≤ a - b) (h2 : a - b ≤ 4294967295)
    (h : Wops P r ops Q rest (put e dst (.int .u32 (a - b))) w) : Wops P r ops Q (⟨dst, .binOp .sub t x y t2, ty, pos, af, g⟩ :: rest) e w := op_val hg rfl (run_bin hx hy (by simp [binOp, Op.intArith, wrap_in (k := .u32) (n := a - b) h1 h2])) h
theorem q_sub_u32 (hg : wants ⟨dst, .binOp .sub t x y t2, ty, pos, af, g⟩ ops e = true) (hx : ev e x = .int .u32 a) (hy : ev e y = .int .u32 b) (h1 : 0 ≤ a - b) (h2 : a - b ≤ 4294967295)
    (h : Wq P ops C K rest (put e dst (.int .u32 (a - b)))) : Wq P ops C K (⟨dst, .binOp .sub t x y t2, ty, pos, af, g⟩ :: rest) e := q_val hg (fun w _ => run_bin hx hy (by simp [binOp, Op.intArith, wrap_in (k := .u32) (n := a - b) h1 h2])) h
theorem op_mul_u32 (hg : wants ⟨dst, .binOp .mul t x y t2, ty, pos, af, g⟩ ops e = true) (hx : ev e x = .int .u32 a) (hy : ev e y = .int .u32 b) (h1 : 0 ≤ a * b) (h2 : a * b ≤ 4294967295)
    (h : Wops P r ops Q rest (put e dst (.int .u32 (a * b))) w) : Wops P r ops Q (⟨dst, .binOp .mul t x y t2, ty, pos, af, g⟩ :: rest) e w := op_val hg rfl (run_bin hx hy (by simp [binOp, Op.intArith, wrap_in (k := .u32) (n := a * b) h1 h2])) h
theorem q_mul_u32 (hg : wants ⟨dst, .binOp .mul t x y t2, ty, pos, af, g⟩ ops e = true) (hx : ev e x = .int .u32 a) (hy : ev e y = .int .u32 b) (h1 : 0 ≤ a * b) (h2 : a * b ≤ 4294967295)
    (h : Wq P ops C K rest (put e dst (.int .u32 (a * b)))) : Wq P ops C K (⟨dst, .binOp .mul t x y t2, ty, pos, af, g⟩ :: rest) e := q_val hg (fun w _ => run_bin hx hy (by simp [binOp, Op.intArith, wrap_in (k := .u32) (n := a * b) h1 h2])) h
theorem op_conv_u32 {s d : TypeId} {ds : TypeDesc} (hg : wants ⟨dst, .convert s d x, ty, pos, af, g⟩ ops e = true) (hx : ev e x = .int k a) (hs : P.underlying s = some ds) (hd : P.underlying d = some (.int .u32)) (h1 : 0 ≤ a) (h2 : a ≤ 4294967295) (h : Wops P r ops Q rest (put e dst (.int .u32 a)) w) : Wops P r ops Q (⟨dst, .convert s d x, ty, pos, af, g⟩ :: rest) e w := op_conv hg hx hs hd h1 h2 h
theorem q_conv_u32 {s d : TypeId} {ds : TypeDesc} (hg : wants ⟨dst, .convert s d x, ty, pos, af, g⟩ ops e = true) (hx : ev e x = .int k a) (hs : P.underlying s = some ds) (hd : P.underlying d = some (.int .u32)) (h1 : 0 ≤ a) (h2 : a ≤ 4294967295) (h : Wq P ops C K rest (put e dst (.int .u32 a))) : Wq P ops C K (⟨dst, .convert s d x, ty, pos, af, g⟩ :: rest) e :=
  q_val hg (fun w _ => by simp [execOp, hx, convert, run_under hs, run_under hd, Conv.intToInt, wrap_in (k := .u32) (n := a) h1 h2]) h
theorem op_add_u64 (hg : wants ⟨dst, .binOp .add t x y t2, ty, pos, af, g⟩ ops e = true) (hx : ev e x = .int .u64 a) (hy : ev e y = .int .u64 b) (h1 : 0 ≤ a + b) (h2 : a + b ≤ 18446744073709551615)
    (h : Wops P r ops Q rest (put e dst (.int .u64 (a + b))) w) : Wops P r ops Q (⟨dst, .binOp .add t x y t2, ty, pos, af, g⟩ :: rest) e w := op_val hg rfl (run_bin hx hy (by simp [binOp, Op.intArith, wrap_in (k := .u64) (n := a + b) h1 h2])) h
theorem q_add_u64 (hg : wants ⟨dst, .binOp .add t x y t2, ty, pos, af, g⟩ ops e = true) (hx : ev e x = .int .u64 a) (hy : ev e y = .int .u64 b) (h1 : 0 ≤ a + b) (h2 : a + b ≤ 18446744073709551615)
    (h : Wq P ops C K rest (put e dst (.int .u64 (a + b)))) : Wq P ops C K (⟨dst, .binOp .add t x y t2, ty, pos, af, g⟩ :: rest) e := q_val hg (fun w _ => run_bin hx hy (by simp [binOp, Op.intArith, wrap_in (k := .u64) (n := a + b) h1 h2])) h
theorem op_sub_u64 (hg : wants ⟨dst, .binOp .sub t x y t2, ty, pos, af, g⟩ ops e = true) (hx : ev e x = .int .u64 a) (hy : ev e y = .int .u64 b) (h1 : 0 ≤ a - b) (h2 : a - b ≤ 18446744073709551615)
    (h : Wops P r ops Q rest (put e dst (.int .u64 (a - b))) w) : Wops P r ops Q (⟨dst, .binOp .sub t x y t2, ty, pos, af, g⟩ :: rest) e w := op_val hg rfl (run_bin hx hy (by simp [binOp, Op.intArith, wrap_in (k := .u64) (n := a - b) h1 h2])) h
theorem q_sub_u64 (hg : wants ⟨dst, .binOp .sub t x y t2, ty, pos, af, g⟩ ops e = true) (hx : ev e x = .int .u64 a) (hy : ev e y = .int .u64 b) (h1 : 0 ≤ a - b) (h2 : a - b ≤ 18446744073709551615)
    (h : Wq P ops C K rest (put e dst (.int .u64 (a - b)))) : Wq P ops C K (⟨dst, .binOp .sub t x y t2, ty, pos, af, g⟩ :: rest) e := q_val hg (fun w _ => run_bin hx hy (by simp [binOp, Op.intArith, wrap_in (k := .u64) (n := a - b) h1 h2])) h
theorem op_mul_u64 (hg : wants ⟨dst, .binOp .mul t x y t2, ty, pos, af, g⟩ ops e = true) (hx : ev e x = .int .u64 a) (hy : ev e y = .int .u64 b) (h1 : 0 ≤ a * b) (h2 : a * b ≤ 18446744073709551615)
    (h : Wops P r ops Q rest (put e dst (.int .u64 (a * b))) w) : Wops P r ops Q (⟨dst, .binOp .mul t x y t2, ty, pos, af, g⟩ :: rest) e w := op_val hg rfl (run_bin hx hy (by simp [binOp, Op.intArith, wrap_in (k := .u64) (n := a * b) h1 h2])) h
theorem q_mul_u64 (hg : wants ⟨dst, .binOp .mul t x y t2, ty, pos, af, g⟩ ops e = true) (hx : ev e x = .int .u64 a) (hy : ev e y = .int .u64 b) (h1 : 0 ≤ a * b) (h2 : a * b ≤ 18446744073709551615)
    (h : Wq P ops C K rest (put e dst (.int .u64 (a * b)))) : Wq P ops C K (⟨dst, .binOp .mul t x y t2, ty, pos, af, g⟩ :: rest) e := q_val hg (fun w _ => run_bin hx hy (by simp [binOp, Op.intArith, wrap_in (k := .u64) (n := a * b) h1 h2])) h
theorem op_conv_u64 {s d : TypeId} {ds : TypeDesc} (hg : wants ⟨dst, .convert s d x, ty, pos, af, g⟩ ops e = true) (hx : ev e x = .int k a) (hs : P.underlying s = some ds) (hd : P.underlying d = some (.int .u64)) (h1 : 0 ≤ a) (h2 : a ≤ 18446744073709551615) (h : Wops P r ops Q rest (put e dst (.int .u64 a)) w) : Wops P r ops Q (⟨dst, .convert s d x, ty, pos, af, g⟩ :: rest) e w := op_conv hg hx hs hd h1 h2 h
theorem q_conv_u64 {s d : TypeId} {ds : TypeDesc} (hg : wants ⟨dst, .convert s d x, ty, pos, af, g⟩ ops e = true) (hx : ev e x = .int k a) (hs : P.underlying s = some ds) (hd : P.underlying d = some (.int .u64)) (h1 : 0 ≤ a) (h2 : a ≤ 18446744073709551615) (h : Wq P ops C K rest (put e dst (.int .u64 a))) : Wq P ops C K (⟨dst, .convert s d x, ty, pos, af, g⟩ :: rest) e :=
  q_val hg (fun w _ => by simp [execOp, hx, convert, run_under hs, run_under hd, Conv.intToInt, wrap_in (k := .u64) (n := a) h1 h2]) h
end
theorem q_move {x : Operand} (hg : wants ⟨dst, .move x, ty, pos, af, g⟩ ops e = true) (v : Value) (hx : ev e x = v) (h : Wq P ops C K rest (put e dst v)) :
    Wq P ops C K (⟨dst, .move x, ty, pos, af, g⟩ :: rest) e := q_val hg (fun w _ => by simp [execOp, hx]) h
theorem q_assign {x : Operand} (hg : wants ⟨dst, .assign x, ty, pos, af, g⟩ ops e = true) (v : Value) (hx : ev e x = v) (h : Wq P ops C K rest (put e dst v)) :
    Wq P ops C K (⟨dst, .assign x, ty, pos, af, g⟩ :: rest) e := q_val hg (fun w _ => by simp [execOp, hx]) h
theorem q_pick1 {c a b : Operand} (hg : wants ⟨dst, .pick c a b, ty, pos, af, g⟩ ops e = true) (hc : ev e c = .bool true) (v : Value) (hx : ev e a = v) (h : Wq P ops C K rest (put e dst v)) :
    Wq P ops C K (⟨dst, .pick c a b, ty, pos, af, g⟩ :: rest) e := q_val hg (fun w _ => by simp [execOp, hc, hx, asBool]) h
theorem q_pick0 {c a b : Operand} (hg : wants ⟨dst, .pick c a b, ty, pos, af, g⟩ ops e = true) (hc : ev e c = .bool false) (v : Value) (hx : ev e b = v) (h : Wq P ops C K rest (put e dst v)) :
    Wq P ops C K (⟨dst, .pick c a b, ty, pos, af, g⟩ :: rest) e := q_val hg (fun w _ => by simp [execOp, hc, hx, asBool]) h

theorem q_not {t : TypeId} {x : Operand} {b : Bool} (hg : wants ⟨dst, .unOp .not t x, ty, pos, af, g⟩ ops e = true) (hx : ev e x = .bool b) (h : Wq P ops C K rest (put e dst (.bool (!b)))) :
    Wq P ops C K (⟨dst, .unOp .not t x, ty, pos, af, g⟩ :: rest) e := q_val hg (fun w _ => by simp [execOp, hx, Op.unary]) h
theorem q_nilCheck {x : Operand} {p : Addr} (hg : wants ⟨dst, .nilCheck x, ty, pos, af, g⟩ ops e = true) (hx : ev e x = .pointer (some p)) (h : Wq P ops C K rest (put e dst (.pointer (some p)))) :
    Wq P ops C K (⟨dst, .nilCheck x, ty, pos, af, g⟩ :: rest) e := q_val hg (fun w _ => by simp [execOp, hx]) h
theorem q_indexAddr {t el : TypeId} {x y : Operand} {b o n c s : Nat} {k : IntKind} {i : Int} (hg : wants ⟨dst, .indexAddr t x y, ty, pos, af, g⟩ ops e = true) (hu : elemT P t = some el) (hs : tsize P el = some s)
    (hx : ev e x = .slice (some ⟨b, o, none⟩) n c) (hy : ev e y = .int k i) (h0 : 0 ≤ i) (h1 : i < n)
    (h : Wq P ops C K rest (put e dst (.pointer (some ⟨b, o + i.toNat * s, none⟩)))) :
    Wq P ops C K (⟨dst, .indexAddr t x y, ty, pos, af, g⟩ :: rest) e :=
  q_val hg (fun w _ => by simp [execOp, hx, hy, Instr.indexAt, asIntOf, run_under (elemT_u hu), h0, h1, run_size hs, add_none]) h
theorem q_indexRd {t el : TypeId} {x y : Operand} {a : Option Addr} {n c s : Nat} {k : IntKind} {i : Int} {α : Type} {enc : α → List Value} {xs : List α} {w1 : World} (R : Rd w1 a s enc xs)
    (hg : wants ⟨dst, .indexAddr t x y, ty, pos, af, g⟩ ops e = true) (hu : elemT P t = some el) (hs : tsize P el = some s)
    (hx : ev e x = .slice a n c) (hy : ev e y = .int k i) (h0 : 0 ≤ i) (h1 : i < n) (hn : n = xs.length)
    (h : Wq P ops C K rest (put e dst (.pointer (some ⟨(adr a).block, (adr a).off + i.toNat * s, none⟩)))) :
    Wq P ops C K (⟨dst, .indexAddr t x y, ty, pos, af, g⟩ :: rest) e := by
  obtain ⟨b, o, rfl⟩ := R.some' (by rintro rfl; simp at hn; omega)
  exact q_indexAddr hg hu hs hx hy h0 h1 h
theorem q_indexArr {t el : TypeId} {x y : Operand} {b o n s : Nat} {k : IntKind} {i : Int} (hg : wants ⟨dst, .indexAddr t x y, ty, pos, af, g⟩ ops e = true) (hu : arrT P t = some (n, el)) (hs : tsize P el = some s)
    (hx : ev e x = .pointer (some ⟨b, o, none⟩)) (hy : ev e y = .int k i) (h0 : 0 ≤ i) (h1 : i < n)
    (h : Wq P ops C K rest (put e dst (.pointer (some ⟨b, o + i.toNat * s, none⟩)))) :
    Wq P ops C K (⟨dst, .indexAddr t x y, ty, pos, af, g⟩ :: rest) e :=
  q_val hg (fun w _ => by simp [execOp, hx, hy, Instr.indexAt, asIntOf, run_under (arrT_u hu), Instr.sureAddr, h0, h1, run_size hs, add_none]) h
theorem q_len {t : TypeId} {x : Operand} {a : Option Addr} {n c : Nat} {el : TypeId} (hg : wants ⟨dst, .call ⟨.builtin .len, #[x], #[t]⟩, ty, pos, af, g⟩ ops e = true) (hu : elemT P t = some el) (hx : ev e x = .slice a n c)
    (h : Wq P ops C K rest (put e dst (.int .i64 n))) :
    Wq P ops C K (⟨dst, .call ⟨.builtin .len, #[x], #[t]⟩, ty, pos, af, g⟩ :: rest) e :=
  q_val hg (fun w _ => by simp [execOp, resolve, invoke, builtin, hx, Builtin.len_, run_under (elemT_u hu), goInt]) h
theorem q_cap {t : TypeId} {x : Operand} {a : Option Addr} {n c : Nat} {el : TypeId} (hg : wants ⟨dst, .call ⟨.builtin .cap, #[x], #[t]⟩, ty, pos, af, g⟩ ops e = true) (hu : elemT P t = some el) (hx : ev e x = .slice a n c)
    (h : Wq P ops C K rest (put e dst (.int .i64 c))) :
    Wq P ops C K (⟨dst, .call ⟨.builtin .cap, #[x], #[t]⟩, ty, pos, af, g⟩ :: rest) e :=
  q_val hg (fun w _ => by simp [execOp, resolve, invoke, builtin, hx, Builtin.cap_, run_under (elemT_u hu), goInt]) h
theorem q_min2 {t1 t2 : TypeId} {x y : Operand} {k : IntKind} {a b : Int} (hg : wants ⟨dst, .call ⟨.builtin .min, #[x, y], #[t1, t2]⟩, ty, pos, af, g⟩ ops e = true) (hx : ev e x = .int k a) (hy : ev e y = .int k b)
    (h : Wq P ops C K rest (put e dst (.int k (min a b)))) :
    Wq P ops C K (⟨dst, .call ⟨.builtin .min, #[x, y], #[t1, t2]⟩, ty, pos, af, g⟩ :: rest) e :=
  q_val hg (fun w _ => by
    have : (if b < a then b else a) = min a b := by rw [Int.min_def]; split <;> split <;> omega
    simp [execOp, resolve, invoke, builtin, hx, hy, Builtin.min_, Builtin.min2, this]) h
theorem q_max2 {t1 t2 : TypeId} {x y : Operand} {k : IntKind} {a b : Int} (hg : wants ⟨dst, .call ⟨.builtin .max, #[x, y], #[t1, t2]⟩, ty, pos, af, g⟩ ops e = true) (hx : ev e x = .int k a) (hy : ev e y = .int k b)
    (h : Wq P ops C K rest (put e dst (.int k (max a b)))) :
    Wq P ops C K (⟨dst, .call ⟨.builtin .max, #[x, y], #[t1, t2]⟩, ty, pos, af, g⟩ :: rest) e :=
  q_val hg (fun w _ => by
    have : (if a < b then b else a) = max a b := by rw [Int.max_def]; split <;> split <;> omega
    simp [execOp, resolve, invoke, builtin, hx, hy, Builtin.max_, Builtin.max2, this]) h
theorem q_extract {x : Operand} {i : Nat} {vs : Array Value} {v : Value} (hg : wants ⟨dst, .extract x i, ty, pos, af, g⟩ ops e = true) (hx : ev e x = .tuple vs) (hv : vs[i]? = some v) (h : Wq P ops C K rest (put e dst v)) :
    Wq P ops C K (⟨dst, .extract x i, ty, pos, af, g⟩ :: rest) e :=
  q_val hg (fun w _ => by simp [execOp, hx, Instr.extract, hv]) h
theorem q_slice_lo {t el : TypeId} {x y : Operand} {s : Nat} {a : Option Addr} {n c : Nat} {k : IntKind} {i : Int} (hg : wants ⟨dst, .slice t x (some y) none none, ty, pos, af, g⟩ ops e = true)
    (hu : elemT P t = some el) (hs : tsize P el = some s) (hx : ev e x = .slice a n c) (hy : ev e y = .int k i) (h0 : 0 ≤ i) (h1 : i ≤ n)
    (h : Wq P ops C K rest (put e dst (.slice (cutA a c i.toNat s) (n - i.toNat) (c - i.toNat)))) :
    Wq P ops C K (⟨dst, .slice t x (some y) none none, ty, pos, af, g⟩ :: rest) e :=
  q_val hg (fun w _ => by simp [execOp, Instr.sliceAt, Instr.slice, Instr.sliceBounds, run_under (elemT_u hu), hx, hy, sliceB h0 h1, run_size hs, cutA]) h
theorem q_slice_hi {t el : TypeId} {x y : Operand} {s : Nat} {a : Option Addr} {n c : Nat} {k : IntKind} {j : Int} (hg : wants ⟨dst, .slice t x none (some y) none, ty, pos, af, g⟩ ops e = true)
    (hu : elemT P t = some el) (hs : tsize P el = some s) (hx : ev e x = .slice a n c) (hy : ev e y = .int k j) (h0 : 0 ≤ j) (h1 : j ≤ c)
    (h : Wq P ops C K rest (put e dst (.slice a j.toNat c))) :
    Wq P ops C K (⟨dst, .slice t x none (some y) none, ty, pos, af, g⟩ :: rest) e :=
  q_val hg (fun w _ => by
    have : ∀ a : Option Addr, (if c = 0 then a else a.map (·.add (0 * s))) = a := by
      intro a; split
      · rfl
      · cases a with
        | none => rfl
        | some p => simp [Addr.add]
    simp [execOp, Instr.sliceAt, Instr.slice, Instr.sliceBounds, run_under (elemT_u hu), hx, hy, sliceB h0 h1, run_size hs]
    simpa using this a) h
theorem q_slice_lohi {t el : TypeId} {x y z : Operand} {s : Nat} {a : Option Addr} {n c : Nat} {k k2 : IntKind} {i j : Int} (hg : wants ⟨dst, .slice t x (some y) (some z) none, ty, pos, af, g⟩ ops e = true)
    (hu : elemT P t = some el) (hs : tsize P el = some s) (hx : ev e x = .slice a n c) (hy : ev e y = .int k i) (hz : ev e z = .int k2 j) (h0 : 0 ≤ i) (h1 : i ≤ j) (h2 : j ≤ c)
    (h : Wq P ops C K rest (put e dst (.slice (cutA a c i.toNat s) (j.toNat - i.toNat) (c - i.toNat)))) :
    Wq P ops C K (⟨dst, .slice t x (some y) (some z) none, ty, pos, af, g⟩ :: rest) e :=
  q_val hg (fun w _ => by
    have h3 : i ≤ (j.toNat : Nat) := by omega
    simp [execOp, Instr.sliceAt, Instr.slice, Instr.sliceBounds, run_under (elemT_u hu), hx, hy, hz, sliceB (show 0 ≤ j from by omega) h2, sliceB h0 h3, run_size hs, cutA]) h

theorem q_neqnil {t t2 : TypeId} {x : Operand} {a : Option Addr} {n c c2 : Nat} {el : TypeId} (hg : wants ⟨dst, .binOp .neq t x (.const (.slice none 0 c2)) t2, ty, pos, af, g⟩ ops e = true) (hu : elemT P t = some el) (hx : ev e x = .slice a n c)
    (h : Wq P ops C K rest (put e dst (.bool a.isSome))) : Wq P ops C K (⟨dst, .binOp .neq t x (.const (.slice none 0 c2)) t2, ty, pos, af, g⟩ :: rest) e :=
  q_val hg (fun w _ => by
    have hq : eqGuard .neq t x (.const (.slice none 0 c2)) (.slice a n c) (.slice none 0 c2) = pure () := rfl
    have he : ev e (.const (.slice none 0 c2)) = .slice none 0 c2 := rfl
    simp only [execOp, hx, he, hq, Sem.run_bind, Sem.run_pure, Result.andThen_ok, run_neqnil hu]) h
theorem q_eqlnil {t t2 : TypeId} {x : Operand} {a : Option Addr} {n c c2 : Nat} {el : TypeId} (hg : wants ⟨dst, .binOp .eql t x (.const (.slice none 0 c2)) t2, ty, pos, af, g⟩ ops e = true) (hu : elemT P t = some el) (hx : ev e x = .slice a n c)
    (h : Wq P ops C K rest (put e dst (.bool a.isNone))) : Wq P ops C K (⟨dst, .binOp .eql t x (.const (.slice none 0 c2)) t2, ty, pos, af, g⟩ :: rest) e :=
  q_val hg (fun w _ => by
    have hq : eqGuard .eql t x (.const (.slice none 0 c2)) (.slice a n c) (.slice none 0 c2) = pure () := rfl
    have he : ev e (.const (.slice none 0 c2)) = .slice none 0 c2 := rfl
    simp only [execOp, hx, he, hq, Sem.run_bind, Sem.run_pure, Result.andThen_ok, run_eqlnil hu]) h
theorem q_fieldAddr {t : TypeId} {x : Operand} {i b o off : Nat} (hg : wants ⟨dst, .fieldAddr t x i, ty, pos, af, g⟩ ops e = true) (hf : fieldO P t i = some off) (hx : ev e x = .pointer (some ⟨b, o, none⟩))
    (h : Wq P ops C K rest (put e dst (.pointer (some ⟨b, o + off, none⟩)))) :
    Wq P ops C K (⟨dst, .fieldAddr t x i, ty, pos, af, g⟩ :: rest) e := by
  unfold fieldO at hf
  split at hf
  · rename_i fs hu
    split at hf
    · rename_i f hf1
      split at hf
      · rename_i s hs
        injection hf with hf
        subst hf
        exact q_val hg (fun w _ => by simp [execOp, hx, Instr.fieldAt, run_under hu, hf1, Instr.sureAddr, fieldPlace, run_size hs, add_none]) h
      · cases hf
    · cases hf
  · cases hf
theorem op_makeFuncL {fn : Fn} {cap : Array Operand} (hg : wants ⟨dst, .makeFunc fn #[] cap, ty, pos, af, g⟩ ops e = true) (l : List Value) (hl : cap.toList.map (ev e) = l) (h : Wops P r ops Q rest (put e dst (.func fn #[] l.toArray)) w) :
    Wops P r ops Q (⟨dst, .makeFunc fn #[] cap, ty, pos, af, g⟩ :: rest) e w := by
  refine op_makeFunc hg ?_
  have : cap.map (ev e) = l.toArray := by subst hl; apply Array.ext'; simp only [Array.toList_map]
  rw [this, Array.map_empty]
  exact h
/-- append(s, x): the block of the one element at the head. -/
theorem op_appendb {t t2 el el2 : TypeId} {x y : Operand} {s by' : Nat} {zl : List Value} (hg : wants ⟨dst, .call ⟨.builtin .append, #[x, y], #[t, t2]⟩, ty, pos, af, g⟩ ops e = true)
    (hu : elemT P t = some el) (hu2 : elemT P t2 = some el2) (hs : tsize P el = some s) (hby : tbytes P el = some by') (hz : zcells P el = some zl) (hzl : zl.length = s) (hpos : 0 < by')
    {a : Option Addr} {n c m c2 b2 : Nat} {t3 : TypeId} {full l new : List Value} (hx : ev e x = .slice a n c) (hy : ev e y = .slice (some ⟨b2, 0, none⟩) m c2) (H : Ctx w0 S w ((b2, Bl t3 new) :: (L ++ ent a el full))) (O : OS a n c s full l)
    (hn : new.length = m * s) (h1 : ∀ v ∈ new, oneCell v = true) (hbound : (2 * (n + m) + 768) * by' ≤ 281474976710656)
    (h : ∀ a' c' full' w', Ctx w0 S w' (L ++ ent a' el full') → OS a' (n + m) c' s full' (l ++ new) → Wops P r ops Q rest (put e dst (.slice a' (n + m) c')) w') :
    Wops P r ops Q (⟨dst, .call ⟨.builtin .append, #[x, y], #[t, t2]⟩, ty, pos, af, g⟩ :: rest) e w :=
  op_append hg hu hu2 hs hby hz hzl hpos new hx hy H.tail O hn h1 (fun j v hv => ⟨_, rfl, by rw [add_none, Nat.zero_add, cell_bl (H.get at0)]; exact hv⟩) hbound h
end


end Go.GV
