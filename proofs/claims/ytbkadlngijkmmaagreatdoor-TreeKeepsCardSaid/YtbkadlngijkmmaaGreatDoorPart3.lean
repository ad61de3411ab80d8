/- Part 3 of the proof. -/
import Derived.Test.YtbkadlngijkmmaaGreatDoorPart2
import Derived.Laws.AppendOwn
import Derived.Laws.IdiomStrings
import Derived.Laws.Strings
import Derived.Test.YtbkadlngijkmmaaGreatDoorProg
import Derived.KernelRfl
import Derived.Lib.Bytealg
/- The rules for operations that are carried out ahead within a region that draws its order; printed by mkmore.py. They hold for every program. -/
namespace Go.GV
open Go
section
variable {P : Program} {r : Option Nat} {ops rest : List Oper} {Q : Exit → Env → World → Prop} {e : Env} {w w0 : World} {S : List Nat} {L : List (Nat × Obj)}
  {dst : Option Tmp} {ty : TypeId} {pos : String} {af : Array Edge} {g : Option (Nat × Bool)} {C : World → Prop} {K : Env → Prop}

theorem t_val {o : Oper} {v : Value} (hg : wants o ops e = true) (hrun : ∀ w, lax o = true ∨ C w → (execOp (ev e) o).run P w = .ok (.value v) w) (h : Wt P ops C K rest (put e o.dst v)) : Wt P ops C K (o :: rest) e := by
  unfold Wt
  rw [if_pos hg]
  exact ⟨v, hrun, h⟩
theorem t_valC {o : Oper} {v : Value} (hl : lax o = false) (hg : wants o ops e = true) (hrun : ∀ w, C w → (execOp (ev e) o).run P w = .ok (.value v) w) (h : Wt P ops C K rest (put e o.dst v)) : Wt P ops C K (o :: rest) e :=
  t_val hg (fun w hw => hrun w (hw.resolve_left (by rw [hl]; simp))) h
theorem t_skip {o : Oper} (hg : wants o ops e = false) (h : Wt P ops C K rest (put e o.dst undef)) : Wt P ops C K (o :: rest) e := by
  unfold Wt
  rw [if_neg (by rw [hg]; simp)]
  exact h
theorem t_nil (h : K e) : Wt P ops C K [] e := h
theorem Wt_known {l : List Oper} (d : Tmp) {b : Bool} (c : Bool) (hd : e.g d = .bool b) (hb : b = c) (h : Wt P ops C K l (put e (some d) (.bool c))) : Wt P ops C K l e := by
  subst hb
  rw [put_same_val hd] at h
  exact h
theorem Wt_split {l : List Oper} (d : Tmp) {b : Bool} (hd : e.g d = .bool b) (h1 : b = true → Wt P ops C K l (put e (some d) (.bool true)))
    (h2 : b = false → Wt P ops C K l (put e (some d) (.bool false))) : Wt P ops C K l e := by
  cases b with
  | true => exact Wt_known d true hd rfl (h1 rfl)
  | false => exact Wt_known d false hd rfl (h2 rfl)
section
variable {t t2 : TypeId} {x y : Operand} {k : IntKind} {a b : Int}
theorem t_ld {t : TypeId} {x : Operand} {p : Addr} {v : Value} (hg : wants ⟨dst, .load t x, ty, pos, af, g⟩ ops e = true) (ha : aggB P t = some false) (hx : ev e x = .pointer (some p)) (hc : ∀ w, C w → w.cell? p = some v)
    (h : Wt P ops C K rest (put e dst v)) : Wt P ops C K (⟨dst, .load t x, ty, pos, af, g⟩ :: rest) e :=
  t_valC rfl hg (fun w hw => by simp [execOp, hx, Instr.loadAt, Instr.sureAddr, run_load1 ha (hc w hw)]) h
theorem t_ldb {t t2 : TypeId} {x : Operand} {b i k : Nat} {l : List Value} {v : Value} (hg : wants ⟨dst, .load t x, ty, pos, af, g⟩ ops e = true) (ha : aggB P t = some false) (hx : ev e x = .pointer (some ⟨b, i, none⟩))
    (H : ∀ w, C w → Ctx w0 S w L) (hk : L[k]? = some (b, Bl t2 l)) (hc : l[i]? = some v)
    (h : Wt P ops C K rest (put e dst v)) : Wt P ops C K (⟨dst, .load t x, ty, pos, af, g⟩ :: rest) e :=
  t_ld hg ha hx (fun w hw => by rw [cell_bl ((H w hw).get hk)]; exact hc) h
theorem t_ldN {t : TypeId} {x : Operand} {b o s : Nat} (l : List Value) (hg : wants ⟨dst, .load t x, ty, pos, af, g⟩ ops e = true) (ha : aggB P t = some true) (hs : tsize P t = some s) (hx : ev e x = .pointer (some ⟨b, o, none⟩))
    (hl : l.length = s) (hc : ∀ w, C w → ∀ j v, l[j]? = some v → w.cell? ⟨b, o + j, none⟩ = some v)
    (h : Wt P ops C K rest (put e dst (.agg l.toArray))) : Wt P ops C K (⟨dst, .load t x, ty, pos, af, g⟩ :: rest) e :=
  t_valC rfl hg (fun w hw => by simp [execOp, hx, Instr.loadAt, Instr.sureAddr, run_loadN ha hs hl (hc w hw)]) h
theorem t_ldbN {t t2 : TypeId} {x : Operand} {b s k : Nat} {l : List Value} (hg : wants ⟨dst, .load t x, ty, pos, af, g⟩ ops e = true) (ha : aggB P t = some true) (hs : tsize P t = some s) (hx : ev e x = .pointer (some ⟨b, 0, none⟩))
    (H : ∀ w, C w → Ctx w0 S w L) (hk : L[k]? = some (b, Bl t2 l)) (hl : l.length = s)
    (h : Wt P ops C K rest (put e dst (.agg l.toArray))) : Wt P ops C K (⟨dst, .load t x, ty, pos, af, g⟩ :: rest) e :=
  t_ldN l hg ha hs hx hl (fun w hw j v hv => by rw [cell_bl ((H w hw).get hk), Nat.zero_add]; exact hv) h
theorem t_gtr (hg : wants ⟨dst, .binOp .gtr t x y t2, ty, pos, af, g⟩ ops e = true) (hx : ev e x = .int k a) (hy : ev e y = .int k b) (h : Wt P ops C K rest (put e dst (.bool (decide (b < a))))) :
    Wt P ops C K (⟨dst, .binOp .gtr t x y t2, ty, pos, af, g⟩ :: rest) e := t_val hg (fun w _ => run_bin hx hy (by simp [binOp, Op.intCmp])) h
theorem t_geq (hg : wants ⟨dst, .binOp .geq t x y t2, ty, pos, af, g⟩ ops e = true) (hx : ev e x = .int k a) (hy : ev e y = .int k b) (h : Wt P ops C K rest (put e dst (.bool (decide (b ≤ a))))) :
    Wt P ops C K (⟨dst, .binOp .geq t x y t2, ty, pos, af, g⟩ :: rest) e := t_val hg (fun w _ => run_bin hx hy (by simp [binOp, Op.intCmp])) h
theorem t_eql (hg : wants ⟨dst, .binOp .eql t x y t2, ty, pos, af, g⟩ ops e = true) (hx : ev e x = .int k a) (hy : ev e y = .int k b) (h : Wt P ops C K rest (put e dst (.bool (decide (a = b))))) :
    Wt P ops C K (⟨dst, .binOp .eql t x y t2, ty, pos, af, g⟩ :: rest) e :=
  t_val hg (fun w _ => run_bin hx hy (v := .bool (decide (a = b))) (by simp [binOp, Op.intCmp]; rfl)) h
theorem t_rem (hg : wants ⟨dst, .binOp .rem t x y t2, ty, pos, af, g⟩ ops e = true) (hx : ev e x = .int k a) (hy : ev e y = .int k b) (h0 : 0 ≤ a) (hb : 0 < b)
    (h : Wt P ops C K rest (put e dst (.int k (a % b)))) : Wt P ops C K (⟨dst, .binOp .rem t x y t2, ty, pos, af, g⟩ :: rest) e := by
  refine t_val hg (fun w _ => run_bin hx hy (v := .int k (a % b)) ?_) h
  have h3 : a.tmod b = a % b := Int.tmod_eq_emod_of_nonneg h0
  simp [binOp, Op.intDiv, h3, show ¬ b = 0 from by omega]
theorem t_add_i64 (hg : wants ⟨dst, .binOp .add t x y t2, ty, pos, af, g⟩ ops e = true) (hx : ev e x = .int .i64 a) (hy : ev e y = .int .i64 b) (h1 : -9223372036854775808 ≤ a + b) (h2 : a + b ≤ 9223372036854775807)
    (h : Wt P ops C K rest (put e dst (.int .i64 (a + b)))) : Wt P ops C K (⟨dst, .binOp .add t x y t2, ty, pos, af, g⟩ :: rest) e := t_val hg (fun w _ => run_bin hx hy (by simp [binOp, Op.intArith, wrap_in (k := .i64) (n := a + b) h1 h2])) h
theorem t_sub_i64 (hg : wants ⟨dst, .binOp .sub t x y t2, ty, pos, af, g⟩ ops e = true) (hx : ev e x = .int .i64 a) (hy : ev e y = .int .i64 b) (h1 : -9223372036854775808 ≤ a - b) (h2 : a - b ≤ 9223372036854775807)
    (h : Wt P ops C K rest (put e dst (.int .i64 (a - b)))) : Wt P ops C K (⟨dst, .binOp .sub t x y t2, ty, pos, af, g⟩ :: rest) e := t_val hg (fun w _ => run_bin hx hy (by simp [binOp, Op.intArith, wrap_in (k := .i64) (n := a - b) h1 h2])) h
theorem t_conv_u64 {s d : TypeId} {ds : TypeDesc} (hg : wants ⟨dst, .convert s d x, ty, pos, af, g⟩ ops e = true) (hx : ev e x = .int k a) (hs : P.underlying s = some ds) (hd : P.underlying d = some (.int .u64)) (h1 : 0 ≤ a) (h2 : a ≤ 18446744073709551615) (h : Wt P ops C K rest (put e dst (.int .u64 a))) : Wt P ops C K (⟨dst, .convert s d x, ty, pos, af, g⟩ :: rest) e :=
  t_val hg (fun w _ => by simp [execOp, hx, convert, run_under hs, run_under hd, Conv.intToInt, wrap_in (k := .u64) (n := a) h1 h2]) h
theorem t_move {x : Operand} (hg : wants ⟨dst, .move x, ty, pos, af, g⟩ ops e = true) (v : Value) (hx : ev e x = v) (h : Wt P ops C K rest (put e dst v)) :
    Wt P ops C K (⟨dst, .move x, ty, pos, af, g⟩ :: rest) e := t_val hg (fun w _ => by simp [execOp, hx]) h
theorem t_assign {x : Operand} (hg : wants ⟨dst, .assign x, ty, pos, af, g⟩ ops e = true) (v : Value) (hx : ev e x = v) (h : Wt P ops C K rest (put e dst v)) :
    Wt P ops C K (⟨dst, .assign x, ty, pos, af, g⟩ :: rest) e := t_val hg (fun w _ => by simp [execOp, hx]) h
theorem t_pick1 {c a b : Operand} (hg : wants ⟨dst, .pick c a b, ty, pos, af, g⟩ ops e = true) (hc : ev e c = .bool true) (v : Value) (hx : ev e a = v) (h : Wt P ops C K rest (put e dst v)) :
    Wt P ops C K (⟨dst, .pick c a b, ty, pos, af, g⟩ :: rest) e := t_val hg (fun w _ => by simp [execOp, hc, hx, asBool]) h
theorem t_pick0 {c a b : Operand} (hg : wants ⟨dst, .pick c a b, ty, pos, af, g⟩ ops e = true) (hc : ev e c = .bool false) (v : Value) (hx : ev e b = v) (h : Wt P ops C K rest (put e dst v)) :
    Wt P ops C K (⟨dst, .pick c a b, ty, pos, af, g⟩ :: rest) e := t_val hg (fun w _ => by simp [execOp, hc, hx, asBool]) h

theorem t_nilCheck {x : Operand} {p : Addr} (hg : wants ⟨dst, .nilCheck x, ty, pos, af, g⟩ ops e = true) (hx : ev e x = .pointer (some p)) (h : Wt P ops C K rest (put e dst (.pointer (some p)))) :
    Wt P ops C K (⟨dst, .nilCheck x, ty, pos, af, g⟩ :: rest) e := t_val hg (fun w _ => by simp [execOp, hx]) h
theorem t_indexAddr {t el : TypeId} {x y : Operand} {b o n c s : Nat} {k : IntKind} {i : Int} (hg : wants ⟨dst, .indexAddr t x y, ty, pos, af, g⟩ ops e = true) (hu : elemT P t = some el) (hs : tsize P el = some s)
    (hx : ev e x = .slice (some ⟨b, o, none⟩) n c) (hy : ev e y = .int k i) (h0 : 0 ≤ i) (h1 : i < n)
    (h : Wt P ops C K rest (put e dst (.pointer (some ⟨b, o + i.toNat * s, none⟩)))) :
    Wt P ops C K (⟨dst, .indexAddr t x y, ty, pos, af, g⟩ :: rest) e :=
  t_val hg (fun w _ => by simp [execOp, hx, hy, Instr.indexAt, asIntOf, run_under (elemT_u hu), h0, h1, run_size hs, add_none]) h
theorem t_indexRd {t el : TypeId} {x y : Operand} {a : Option Addr} {n c s : Nat} {k : IntKind} {i : Int} {α : Type} {enc : α → List Value} {xs : List α} {w1 : World} (R : Rd w1 a s enc xs)
    (hg : wants ⟨dst, .indexAddr t x y, ty, pos, af, g⟩ ops e = true) (hu : elemT P t = some el) (hs : tsize P el = some s)
    (hx : ev e x = .slice a n c) (hy : ev e y = .int k i) (h0 : 0 ≤ i) (h1 : i < n) (hn : n = xs.length)
    (h : Wt P ops C K rest (put e dst (.pointer (some ⟨(adr a).block, (adr a).off + i.toNat * s, none⟩)))) :
    Wt P ops C K (⟨dst, .indexAddr t x y, ty, pos, af, g⟩ :: rest) e := by
  obtain ⟨b, o, rfl⟩ := R.some' (by rintro rfl; simp at hn; omega)
  exact t_indexAddr hg hu hs hx hy h0 h1 h
theorem t_len {t : TypeId} {x : Operand} {a : Option Addr} {n c : Nat} {el : TypeId} (hg : wants ⟨dst, .call ⟨.builtin .len, #[x], #[t]⟩, ty, pos, af, g⟩ ops e = true) (hu : elemT P t = some el) (hx : ev e x = .slice a n c)
    (h : Wt P ops C K rest (put e dst (.int .i64 n))) :
    Wt P ops C K (⟨dst, .call ⟨.builtin .len, #[x], #[t]⟩, ty, pos, af, g⟩ :: rest) e :=
  t_val hg (fun w _ => by simp [execOp, resolve, invoke, builtin, hx, Builtin.len_, run_under (elemT_u hu), goInt]) h
theorem t_max2 {t1 t2 : TypeId} {x y : Operand} {k : IntKind} {a b : Int} (hg : wants ⟨dst, .call ⟨.builtin .max, #[x, y], #[t1, t2]⟩, ty, pos, af, g⟩ ops e = true) (hx : ev e x = .int k a) (hy : ev e y = .int k b)
    (h : Wt P ops C K rest (put e dst (.int k (max a b)))) :
    Wt P ops C K (⟨dst, .call ⟨.builtin .max, #[x, y], #[t1, t2]⟩, ty, pos, af, g⟩ :: rest) e :=
  t_val hg (fun w _ => by
    have : (if a < b then b else a) = max a b := by rw [Int.max_def]; split <;> split <;> omega
    simp [execOp, resolve, invoke, builtin, hx, hy, Builtin.max_, Builtin.max2, this]) h
theorem t_extract {x : Operand} {i : Nat} {vs : Array Value} {v : Value} (hg : wants ⟨dst, .extract x i, ty, pos, af, g⟩ ops e = true) (hx : ev e x = .tuple vs) (hv : vs[i]? = some v) (h : Wt P ops C K rest (put e dst v)) :
    Wt P ops C K (⟨dst, .extract x i, ty, pos, af, g⟩ :: rest) e :=
  t_val hg (fun w _ => by simp [execOp, hx, Instr.extract, hv]) h
theorem t_slice_lo {t el : TypeId} {x y : Operand} {s : Nat} {a : Option Addr} {n c : Nat} {k : IntKind} {i : Int} (hg : wants ⟨dst, .slice t x (some y) none none, ty, pos, af, g⟩ ops e = true)
    (hu : elemT P t = some el) (hs : tsize P el = some s) (hx : ev e x = .slice a n c) (hy : ev e y = .int k i) (h0 : 0 ≤ i) (h1 : i ≤ n)
    (h : Wt P ops C K rest (put e dst (.slice (cutA a c i.toNat s) (n - i.toNat) (c - i.toNat)))) :
    Wt P ops C K (⟨dst, .slice t x (some y) none none, ty, pos, af, g⟩ :: rest) e :=
  t_val hg (fun w _ => by simp [execOp, Instr.sliceAt, Instr.slice, Instr.sliceBounds, run_under (elemT_u hu), hx, hy, sliceB h0 h1, run_size hs, cutA]) h
theorem t_slice_hi {t el : TypeId} {x y : Operand} {s : Nat} {a : Option Addr} {n c : Nat} {k : IntKind} {j : Int} (hg : wants ⟨dst, .slice t x none (some y) none, ty, pos, af, g⟩ ops e = true)
    (hu : elemT P t = some el) (hs : tsize P el = some s) (hx : ev e x = .slice a n c) (hy : ev e y = .int k j) (h0 : 0 ≤ j) (h1 : j ≤ c)
    (h : Wt P ops C K rest (put e dst (.slice a j.toNat c))) :
    Wt P ops C K (⟨dst, .slice t x none (some y) none, ty, pos, af, g⟩ :: rest) e :=
  t_val hg (fun w _ => by
    have : ∀ a : Option Addr, (if c = 0 then a else a.map (·.add (0 * s))) = a := by
      intro a; split
      · rfl
      · cases a with
        | none => rfl
        | some p => simp [Addr.add]
    simp [execOp, Instr.sliceAt, Instr.slice, Instr.sliceBounds, run_under (elemT_u hu), hx, hy, sliceB h0 h1, run_size hs]
    simpa using this a) h
theorem t_fieldAddr {t : TypeId} {x : Operand} {i b o off : Nat} (hg : wants ⟨dst, .fieldAddr t x i, ty, pos, af, g⟩ ops e = true) (hf : fieldO P t i = some off) (hx : ev e x = .pointer (some ⟨b, o, none⟩))
    (h : Wt P ops C K rest (put e dst (.pointer (some ⟨b, o + off, none⟩)))) :
    Wt P ops C K (⟨dst, .fieldAddr t x i, ty, pos, af, g⟩ :: rest) e := by
  unfold fieldO at hf
  split at hf
  · rename_i fs hu
    split at hf
    · rename_i f hf1
      split at hf
      · rename_i s hs
        injection hf with hf
        subst hf
        exact t_val hg (fun w _ => by simp [execOp, hx, Instr.fieldAt, run_under hu, hf1, Instr.sureAddr, fieldPlace, run_size hs, add_none]) h
      · cases hf
    · cases hf
  · cases hf
end
section
variable {t t2 : TypeId} {x y : Operand} {a b n : Nat} {s d : TypeId}
end
end
end Go.GV

/- Bytes, strings, arrays behind a pointer, copy. It holds for every program. -/
namespace Go.GV
open Go

def bv (b : UInt8) : Value := .int .u8 (b.toNat : Int)
def B8 (b : UInt8) : List Value := [bv b]
def str (l : List UInt8) : Value := .string ⟨l.toArray⟩
theorem bv_one (l : List UInt8) : ∀ v ∈ l.map bv, oneCell v = true := fun v hv => by
  obtain ⟨b, _, rfl⟩ := List.mem_map.1 hv; rfl
theorem str_inj {l m : List UInt8} : ((⟨l.toArray⟩ : ByteArray).toList == (⟨m.toArray⟩ : ByteArray).toList) = decide (l = m) := by
  rw [ByteArray.toList_eq, ByteArray.toList_eq]
  rw [Bool.eq_iff_iff]; simp

section
variable {P : Program} {r : Option Nat} {ops rest : List Oper} {Q : Exit → Env → World → Prop} {e : Env} {w w0 : World} {S : List Nat} {L : List (Nat × Obj)}
  {dst : Option Tmp} {ty : TypeId} {pos : String} {af : Array Edge} {g : Option (Nat × Bool)} {C : World → Prop} {K : Env → Prop}

/-! ### Slices of an array behind a pointer -/
theorem op_sliceA {t el : TypeId} {x : Operand} {b n : Nat} (hg : wants ⟨dst, .slice t x none none none, ty, pos, af, g⟩ ops e = true) (hu : arrT P t = some (n, el)) (hs : tsize P el = some 1)
    (hx : ev e x = .pointer (some ⟨b, 0, none⟩)) (h : Wops P r ops Q rest (put e dst (.slice (some ⟨b, 0, none⟩) n n)) w) : Wops P r ops Q (⟨dst, .slice t x none none none, ty, pos, af, g⟩ :: rest) e w :=
  op_val hg rfl (by simp [execOp, Instr.sliceAt, Instr.sliceBounds, run_under (arrT_u hu), hx, Instr.sureAddr, run_size hs, Addr.add]) h
theorem op_sliceA_lo {t el : TypeId} {x y : Operand} {b n : Nat} {k : IntKind} {i : Int} (hg : wants ⟨dst, .slice t x (some y) none none, ty, pos, af, g⟩ ops e = true) (hu : arrT P t = some (n, el)) (hs : tsize P el = some 1)
    (hx : ev e x = .pointer (some ⟨b, 0, none⟩)) (hy : ev e y = .int k i) (h0 : 0 ≤ i) (h1 : i < n) (h : Wops P r ops Q rest (put e dst (.slice (some ⟨b, i.toNat, none⟩) (n - i.toNat) (n - i.toNat))) w) :
    Wops P r ops Q (⟨dst, .slice t x (some y) none none, ty, pos, af, g⟩ :: rest) e w :=
  op_val hg rfl (by
    have hne : ¬ n = i.toNat := by omega
    have h2 : i ≤ (n : Int) := by omega
    simp [execOp, Instr.sliceAt, Instr.sliceBounds, run_under (arrT_u hu), hx, hy, Instr.sureAddr, run_size hs, sliceB h0 h2, hne, add_none]) h
theorem op_sliceA_hi {t el : TypeId} {x y : Operand} {b n : Nat} {k : IntKind} {j : Int} (hg : wants ⟨dst, .slice t x none (some y) none, ty, pos, af, g⟩ ops e = true) (hu : arrT P t = some (n, el)) (hs : tsize P el = some 1)
    (hx : ev e x = .pointer (some ⟨b, 0, none⟩)) (hy : ev e y = .int k j) (h0 : 0 ≤ j) (h1 : j ≤ n) (h : Wops P r ops Q rest (put e dst (.slice (some ⟨b, 0, none⟩) j.toNat n)) w) :
    Wops P r ops Q (⟨dst, .slice t x none (some y) none, ty, pos, af, g⟩ :: rest) e w :=
  op_val hg rfl (by simp [execOp, Instr.sliceAt, Instr.sliceBounds, run_under (arrT_u hu), hx, hy, Instr.sureAddr, run_size hs, sliceB h0 h1, Addr.add]) h

/-- copy(dst, src): dst lies in a block that is known. -/
theorem op_copy {t t2 el t3 : TypeId} {x y : Operand} {b o dn dc m c2 k : Nat} {a2 : Option Addr} {l : List Value} (xs : List Value) (hg : wants ⟨dst, .call ⟨.builtin .copy, #[x, y], #[t, t2]⟩, ty, pos, af, g⟩ ops e = true)
    (hu : elemT P t = some el) (hs : tsize P el = some 1) (hx : ev e x = .slice (some ⟨b, o, none⟩) dn dc) (hy : ev e y = .slice a2 m c2) (hm : xs.length = m) (h1 : ∀ v ∈ xs, oneCell v = true)
    (hc : ∀ j v, xs[j]? = some v → ∃ p, a2 = some p ∧ w.cell? (p.add j) = some v) (H : Ctx w0 S w L) (hk : L[k]? = some (b, Bl t3 l)) (hb : o + dn ≤ l.length)
    (h : ∀ w', Ctx w0 S w' (L.set k (b, Bl t3 (over l o (xs.take dn)))) → Wops P r ops Q rest (put e dst (.int .i64 ((Nat.min m dn : Nat) : Int))) w') :
    Wops P r ops Q (⟨dst, .call ⟨.builtin .copy, #[x, y], #[t, t2]⟩, ty, pos, af, g⟩ :: rest) e w := by
  have hlen : (xs.take dn).length = Nat.min m dn := by rw [List.length_take, hm]; exact Nat.min_comm _ _
  have hfc := run_firstCells (P := P) (w := w) (s := 1) (m := Nat.min m dn) (a := a2) (c := m) (k := c2) (l := xs.take dn) (by rw [hlen, Nat.mul_one]) (fun j v hv => by
    rw [List.getElem?_take] at hv
    split at hv
    · exact hc j v hv
    · cases hv)
  have hmn : Nat.min m dn ≤ dn := Nat.min_le_right _ _
  obtain ⟨w', hr, he, hb'⟩ := run_storeCells (P := P) (o := o) (xs.take dn) l w 0 (fun v hv => h1 v (List.mem_of_mem_take hv)) (H.get hk) (by omega)
  have hst : (storeCells ⟨b, o, none⟩ (xs.take dn)).run P w = .ok () w' := hr
  refine op_val (w' := w') (v := .int .i64 ((Nat.min m dn : Nat) : Int)) hg rfl ?_ (h _ (H.turn hk _ he hb'))
  simp only [execOp, resolve, invoke, builtin, hx, hy, List.map_toArray, List.map_cons, List.map_nil]
  simp [Builtin.copy_, run_under (elemT_u hu), run_size hs, Builtin.lenOf, hfc, hst, goInt]

/-! ### Strings -/
theorem run_back {src dst' el : TypeId} {a : Option Addr} {c : Nat} {l : List UInt8} (hs : elemT P src = some el) (he : P.underlying el = some (.int .u8)) (hd : P.underlying dst' = some .string) (R : Rd w a 1 B8 l) :
    (convert src dst' (.slice a l.length c)).run P w = .ok (str l) w := by
  cases a with
  | none =>
    have h0 : l = [] := by
      cases l with
      | nil => rfl
      | cons x l => obtain ⟨b, o, h⟩ := R.some' (by simp); cases h
    subst h0
    simp [convert, run_under (elemT_u hs), run_under hd, run_under he, Conv.bytesToString, str]
    rfl
  | some p =>
    refine run_convert_bytes_back w src dst' el p c l (elemT_u hs) he hd fun j hj => ?_
    have hx : l[j]? = some l[j] := List.getElem?_eq_getElem hj
    obtain ⟨b, o, hp⟩ := R.some' (by rintro rfl; simp at hj)
    injection hp with hp
    subst hp
    have := Rd.one (f := bv) R hx
    rw [add_none]
    simpa [adr, bv] using this
theorem op_back {s d el : TypeId} {x : Operand} {a : Option Addr} {c : Nat} {l : List UInt8} (hg : wants ⟨dst, .convert s d x, ty, pos, af, g⟩ ops e = true) (hs : elemT P s = some el) (he : P.underlying el = some (.int .u8)) (hd : P.underlying d = some .string)
    (hx : ev e x = .slice a l.length c) (R : Rd w a 1 B8 l) (h : Wops P r ops Q rest (put e dst (str l)) w) : Wops P r ops Q (⟨dst, .convert s d x, ty, pos, af, g⟩ :: rest) e w :=
  op_val hg rfl (by simp [execOp, hx, run_back hs he hd R]) h
theorem q_back {s d el : TypeId} {x : Operand} {a : Option Addr} {c : Nat} {l : List UInt8} (hg : wants ⟨dst, .convert s d x, ty, pos, af, g⟩ ops e = true) (hs : elemT P s = some el) (he : P.underlying el = some (.int .u8)) (hd : P.underlying d = some .string)
    (hx : ev e x = .slice a l.length c) (R : ∀ w, C w → Rd w a 1 B8 l) (h : Wq P ops C K rest (put e dst (str l))) : Wq P ops C K (⟨dst, .convert s d x, ty, pos, af, g⟩ :: rest) e :=
  q_val hg (fun w hw => by simp [execOp, hx, run_back hs he hd (R w hw)]) h
/-- []byte(s): a new block. -/
theorem op_bytes {s d el : TypeId} {x : Operand} {l : List UInt8} (hg : wants ⟨dst, .convert s d x, ty, pos, af, g⟩ ops e = true) (hs : P.underlying s = some .string) (hd : elemT P d = some el) (he : P.underlying el = some (.int .u8))
    (hx : ev e x = str l) (h : ∀ b c w', w.heap.size ≤ b → l.length ≤ c → Ext [] w w' → Rd w' (some ⟨b, 0, none⟩) 1 B8 l → Wops P r ops Q rest (put e dst (.slice (some ⟨b, 0, none⟩) l.length c)) w') :
    Wops P r ops Q (⟨dst, .convert s d x, ty, pos, af, g⟩ :: rest) e w := by
  have hr := run_bytes_of_string (P := P) w s d el ⟨l.toArray⟩ hs (elemT_u hd) he
  have hsz : (⟨l.toArray⟩ : ByteArray).size = l.length := by simp [ByteArray.size]
  rw [hsz] at hr
  refine op_val hg rfl (by simp only [execOp, hx, str, Sem.run_bind, hr, Result.andThen_ok]; rfl) (h w.heap.size _ _ (Nat.le_refl _) (grownCap_ge _ _ _ _) ((Ext.drew [] w).trans (Ext.alloc [] _ _)) ?_)
  refine ⟨fun _ => ⟨_, _, rfl⟩, fun i x hx j v hv hj => ?_⟩
  have hj0 : j = 0 := by omega
  subst hj0
  simp only [B8, List.getElem?_cons_zero, Option.some.injEq] at hv
  subst hv
  show (World.alloc w.drew _).cell? ⟨w.heap.size, 0 + i * 1 + 0, none⟩ = _
  rw [show w.heap.size = w.drew.heap.size from rfl, World.cell?_alloc_mark]
  have hi : i < l.length := (List.getElem?_eq_some_iff.1 hx).1
  rw [List.getElem?_eq_getElem hi] at hx
  injection hx with hx
  simp only [bytesRow, Nat.zero_add, Nat.mul_one, Nat.add_zero]
  rw [Array.getElem?_append_left (by simpa using hi)]
  simp [hi, hx, bv]
theorem op_streq {t t2 : TypeId} {x y : Operand} {l m : List UInt8} (hg : wants ⟨dst, .binOp .eql t x y t2, ty, pos, af, g⟩ ops e = true) (hx : ev e x = str l) (hy : ev e y = str m)
    (h : Wops P r ops Q rest (put e dst (.bool (decide (l = m)))) w) : Wops P r ops Q (⟨dst, .binOp .eql t x y t2, ty, pos, af, g⟩ :: rest) e w :=
  op_val hg rfl (by
    have hq : eqGuard .eql t x y (.string ⟨l.toArray⟩) (.string ⟨m.toArray⟩) = pure () := rfl
    simp only [execOp, hx, hy, hq, Sem.run_bind, Sem.run_pure, Result.andThen_ok, binOp, str, Op.stringOp, str_inj]) h
theorem q_streq {t t2 : TypeId} {x y : Operand} {l m : List UInt8} (hg : wants ⟨dst, .binOp .eql t x y t2, ty, pos, af, g⟩ ops e = true) (hx : ev e x = str l) (hy : ev e y = str m)
    (h : Wq P ops C K rest (put e dst (.bool (decide (l = m))))) : Wq P ops C K (⟨dst, .binOp .eql t x y t2, ty, pos, af, g⟩ :: rest) e :=
  q_val hg (fun w _ => by
    have hq : eqGuard .eql t x y (.string ⟨l.toArray⟩) (.string ⟨m.toArray⟩) = pure () := rfl
    simp only [execOp, hx, hy, hq, Sem.run_bind, Sem.run_pure, Result.andThen_ok, binOp, str, Op.stringOp, str_inj]) h
theorem op_slen {t : TypeId} {x : Operand} {l : List UInt8} (hg : wants ⟨dst, .call ⟨.builtin .len, #[x], #[t]⟩, ty, pos, af, g⟩ ops e = true) (hu : P.underlying t = some .string) (hx : ev e x = str l)
    (h : Wops P r ops Q rest (put e dst (.int .i64 l.length)) w) : Wops P r ops Q (⟨dst, .call ⟨.builtin .len, #[x], #[t]⟩, ty, pos, af, g⟩ :: rest) e w :=
  op_val hg rfl (by
    have hsz : (⟨l.toArray⟩ : ByteArray).size = l.length := by simp [ByteArray.size]
    simp [execOp, resolve, invoke, builtin, hx, str, Builtin.len_, run_under hu, goInt, hsz]) h

/-! ### Maps, more -/
theorem op_insert {t k el : TypeId} {kk : IntKind} {x y z : Operand} {b j : Nat} {o : Obj} {m : List (Int × Value)} {n : Int} (v : Value) (hg : wants ⟨dst, .insert t x y z, ty, pos, af, g⟩ ops e = true)
    (ht : mapT P t = some (k, el)) (hk : P.underlying k = some (.int kk)) (hx : ev e x = .map (some b)) (hy : ev e y = .int kk n) (hv : ev e z = v) (H : Ctx w0 S w L) (hl : L[j]? = some (b, o)) (hM : MapO kk m o)
    (h : ∀ o' w', MapO kk (mset m n v) o' → Ctx w0 S w' (L.set j (b, o')) → Wops P r ops Q rest (put e dst undef) w') : Wops P r ops Q (⟨dst, .insert t x y z, ty, pos, af, g⟩ :: rest) e w := by
  obtain ⟨o', w', hr, hM', H'⟩ := run_mapUpdate (n := n) v ht hk H hl hM
  exact op_unit hg rfl (by simp [execOp, hx, hy, hv, hr]) (h o' w' hM' H')

theorem ba_get (l : List UInt8) (n : Nat) : (⟨l.toArray⟩ : ByteArray)[n]? = l[n]? := by
  by_cases h : n < l.length
  · rw [List.getElem?_eq_getElem h, getElem?_pos (⟨l.toArray⟩ : ByteArray) n (by simpa [ByteArray.size] using h)]
    rfl
  · rw [List.getElem?_eq_none (by omega), getElem?_neg (⟨l.toArray⟩ : ByteArray) n (by simpa [ByteArray.size] using h)]
theorem op_sindex {t : TypeId} {x y : Operand} {k : IntKind} {i : Int} {l : List UInt8} (b : UInt8) (hg : wants ⟨dst, .index t x y, ty, pos, af, g⟩ ops e = true) (hu : P.underlying t = some .string) (hx : ev e x = str l) (hy : ev e y = .int k i)
    (h0 : 0 ≤ i) (hb : l[i.toNat]? = some b) (h : Wops P r ops Q rest (put e dst (bv b)) w) : Wops P r ops Q (⟨dst, .index t x y, ty, pos, af, g⟩ :: rest) e w :=
  op_val hg rfl (by simp [execOp, Instr.index, hx, hy, str, asIntOf, run_under hu, h0, ba_get, hb, bv]) h
/-- clear(m) -/
theorem op_clear {t k el : TypeId} {kk : IntKind} {x : Operand} {b j : Nat} {o : Obj} {m : List (Int × Value)} (hg : wants ⟨dst, .call ⟨.builtin .clear, #[x], #[t]⟩, ty, pos, af, g⟩ ops e = true) (ht : mapT P t = some (k, el)) (hx : ev e x = .map (some b))
    (H : Ctx w0 S w L) (hl : L[j]? = some (b, o)) (hM : MapO kk m o) (h : ∀ o' w', MapO kk [] o' → Ctx w0 S w' (L.set j (b, o')) → Wops P r ops Q rest (put e dst (.tuple #[])) w') :
    Wops P r ops Q (⟨dst, .call ⟨.builtin .clear, #[x], #[t]⟩, ty, pos, af, g⟩ :: rest) e w := by
  obtain ⟨es, clock, rfl, _⟩ := hM
  have hb := H.get hl
  have hgo : (getObj b).run P w = .ok (.map es clock) w := by simp [getObj, Sem.run, hb]
  have hso : (setObj b (.map #[] clock)).run P w = .ok () (w.putObj b (.map #[] clock)) := by simp [setObj, Sem.run, hb, World.putObj]
  refine op_val (w' := w.putObj b (.map #[] clock)) (v := .tuple #[]) hg rfl ?_ (h _ _ ⟨#[], clock, rfl, rfl, by simp, by simp⟩ (H.setB hl _))
  simp [execOp, resolve, invoke, builtin, hx, Builtin.clear_, run_under (mapT_u ht), hgo, hso]

theorem run_sliceA {t el : TypeId} {b n : Nat} (hu : arrT P t = some (n, el)) (hs : tsize P el = some 1) (w : World) : (Instr.sliceAt t (.pointer (some ⟨b, 0, none⟩)) none none none).run P w = .ok (.slice (some ⟨b, 0, none⟩) n n) w := by
  simp [Instr.sliceAt, Instr.sliceBounds, run_under (arrT_u hu), Instr.sureAddr, run_size hs, Addr.add]
theorem t_sliceA {t el : TypeId} {x : Operand} {b n : Nat} (hg : wants ⟨dst, .slice t x none none none, ty, pos, af, g⟩ ops e = true) (hu : arrT P t = some (n, el)) (hs : tsize P el = some 1)
    (hx : ev e x = .pointer (some ⟨b, 0, none⟩)) (h : Wt P ops C K rest (put e dst (.slice (some ⟨b, 0, none⟩) n n))) : Wt P ops C K (⟨dst, .slice t x none none none, ty, pos, af, g⟩ :: rest) e :=
  t_val hg (fun w _ => by simp [execOp, hx, run_sliceA hu hs]) h
theorem over_mid : ∀ (A B C M : List Value), B.length = M.length → over (A ++ (B ++ C)) A.length M = A ++ (M ++ C) := by
  intro A B C M
  induction M generalizing A B with
  | nil => intro h; have : B = [] := List.eq_nil_of_length_eq_zero (by simpa using h); subst this; simp [over]
  | cons v M ih =>
    intro h
    cases B with
    | nil => simp at h
    | cons x B =>
      have := ih (A ++ [v]) B (by simpa using h)
      simp only [over]
      rw [show (A ++ (x :: B ++ C)).set A.length v = A ++ [v] ++ (B ++ C) from by simp]
      rw [show A.length + 1 = (A ++ [v]).length from by simp, this]
      simp
end
end Go.GV

/- Closed facts on the translation of this seat: sizes, zero values, fields; printed by program. -/
namespace Go.Proofs.YtbkadlngijkmmaaGreatDoor
open Go.GV
theorem ag_141 : aggB Tryz.prog 141 = some false := by kernel_rfl
theorem ag_142 : aggB Tryz.prog 142 = some false := by kernel_rfl
theorem ag_23 : aggB Tryz.prog 23 = some false := by kernel_rfl
theorem ag_3 : aggB Tryz.prog 3 = some false := by kernel_rfl
theorem ag_32 : aggB Tryz.prog 32 = some false := by kernel_rfl
theorem ag_4 : aggB Tryz.prog 4 = some false := by kernel_rfl
theorem ag_5 : aggB Tryz.prog 5 = some false := by kernel_rfl
theorem ag_57 : aggB Tryz.prog 57 = some false := by kernel_rfl
theorem ar_247 : arrT Tryz.prog 247 = some (512, 5) := by kernel_rfl
theorem by_23 : tbytes Tryz.prog 23 = some 24 := by kernel_rfl
theorem by_5 : tbytes Tryz.prog 5 = some 1 := by kernel_rfl
theorem ca_119 : callable Tryz.prog 119 = true := by kernel_rfl
theorem ca_142 : callable Tryz.prog 142 = true := by kernel_rfl
theorem ca_143 : callable Tryz.prog 143 = true := by kernel_rfl
theorem ca_144 : callable Tryz.prog 144 = true := by kernel_rfl
theorem ca_146 : callable Tryz.prog 146 = true := by kernel_rfl
theorem ca_152 : callable Tryz.prog 152 = true := by kernel_rfl
theorem ca_165 : callable Tryz.prog 165 = true := by kernel_rfl
theorem ca_185 : callable Tryz.prog 185 = true := by kernel_rfl
theorem ca_191 : callable Tryz.prog 191 = true := by kernel_rfl
theorem ca_198 : callable Tryz.prog 198 = true := by kernel_rfl
theorem ca_199 : callable Tryz.prog 199 = true := by kernel_rfl
theorem ca_208 : callable Tryz.prog 208 = true := by kernel_rfl
theorem ca_221 : callable Tryz.prog 221 = true := by kernel_rfl
theorem ca_82 : callable Tryz.prog 82 = true := by kernel_rfl
theorem ca_83 : callable Tryz.prog 83 = true := by kernel_rfl
theorem ca_84 : callable Tryz.prog 84 = true := by kernel_rfl
theorem el_141 : elemT Tryz.prog 141 = some 23 := by kernel_rfl
theorem el_23 : elemT Tryz.prog 23 = some 5 := by kernel_rfl
theorem el_57 : elemT Tryz.prog 57 = some 3 := by kernel_rfl
theorem fo_144_0 : fieldO Tryz.prog 144 0 = some 0 := by kernel_rfl
theorem fo_144_1 : fieldO Tryz.prog 144 1 = some 1 := by kernel_rfl
theorem fo_144_2 : fieldO Tryz.prog 144 2 = some 2 := by kernel_rfl
theorem fo_144_3 : fieldO Tryz.prog 144 3 = some 3 := by kernel_rfl
theorem mixed : Tryz.prog.follows .mixedOrders = true := by kernel_rfl
theorem mt_142 : mapT Tryz.prog 142 = some (3, 141) := by kernel_rfl
theorem mt_265 : mapT Tryz.prog 265 = some (3, 3) := by kernel_rfl
theorem pl_144 : placesB Tryz.prog 144 = some [(0, 1), (1, 1), (2, 1), (3, 1)] := by kernel_rfl
theorem sz_23 : tsize Tryz.prog 23 = some 1 := by kernel_rfl
theorem sz_3 : tsize Tryz.prog 3 = some 1 := by kernel_rfl
theorem sz_4 : tsize Tryz.prog 4 = some 1 := by kernel_rfl
theorem sz_5 : tsize Tryz.prog 5 = some 1 := by kernel_rfl
theorem sz_57 : tsize Tryz.prog 57 = some 1 := by kernel_rfl
theorem un_152 : Tryz.prog.underlying 152 = some (.int .u64) := by kernel_rfl
theorem un_244 : Tryz.prog.underlying 244 = some (.int .u32) := by kernel_rfl
theorem un_3 : Tryz.prog.underlying 3 = some (.int .i64) := by kernel_rfl
theorem un_32 : Tryz.prog.underlying 32 = some (.pointer 144) := by kernel_rfl
theorem un_5 : Tryz.prog.underlying 5 = some (.int .u8) := by kernel_rfl
theorem un_9 : Tryz.prog.underlying 9 = some (.string) := by kernel_rfl
theorem zc_144 : zcells Tryz.prog 144 = some ([.slice none 0 0, .map none, .int .i64 0, .bool false]) := by kernel_rfl
theorem zc_23 : zcells Tryz.prog 23 = some ([.slice none 0 0]) := by kernel_rfl
theorem zc_247 : zcells Tryz.prog 247 = some (List.replicate 512 (.int .u8 0 : Value)) := by kernel_rfl
theorem zc_5 : zcells Tryz.prog 5 = some ([.int .u8 0]) := by kernel_rfl
theorem zv_141 : (Tryz.prog.info? 141).bind (·.zero) = some (.slice none 0 0) := by kernel_rfl
theorem zv_3 : (Tryz.prog.info? 3).bind (·.zero) = some (.int .i64 0) := by kernel_rfl
end Go.Proofs.YtbkadlngijkmmaaGreatDoor

/- The sums of crc and of its reference. -/
namespace Go.Proofs.YtbkadlngijkmmaaGreatDoor
open Go.GV
attribute [local irreducible] Wops W Wq



theorem lt_byte (b : UInt8) : b.toNat < 256 := b.toNat_lt
theorem lt_word (w : BitVec 32) : w.toNat < 4294967296 := w.isLt
theorem com_w (s : BitVec 32) : 4294967295 ^^^ s.toNat = (~~~s).toNat := by
  rw [← BitVec.allOnes_xor, BitVec.toNat_xor, BitVec.toNat_allOnes]
theorem byte_nat (c : UInt8) : (byteW c).toNat = c.toNat := by
  have := lt_byte c
  unfold byteW
  rw [BitVec.toNat_ofNat, Nat.mod_eq_of_lt (by omega)]
theorem xor_b (w : BitVec 32) (c : UInt8) : w.toNat ^^^ c.toNat = (w ^^^ byteW c).toNat := by
  rw [BitVec.toNat_xor, byte_nat]
theorem lsb_nat (w : BitVec 32) : w.getLsbD 0 = decide (w.toNat % 2 = 1) := by
  rw [BitVec.getLsbD, Nat.testBit_zero]
theorem step_nat (w : BitVec 32) : (w.toNat / 2) ^^^ (if w.toNat % 2 = 1 then 3988292384 else 0) = (stepW w).toNat := by
  unfold stepW
  rw [BitVec.toNat_xor, BitVec.toNat_ushiftRight, Nat.shiftRight_eq_div_pow, lsb_nat]
  by_cases h : w.toNat % 2 = 1
  · simp [h, polyW]
  · simp [h]
theorem step_nat2 (w : BitVec 32) : (w.toNat / 2 ^ 1) ^^^ ((3988292384 * (w.toNat &&& 1)) % 4294967296) = (stepW w).toNat := by
  rw [← step_nat, Nat.and_one_is_mod]
  by_cases h : w.toNat % 2 = 1
  · simp [h]
  · have h0 : w.toNat % 2 = 0 := by omega
    simp [h0]
theorem steps_succ (n : Nat) (w : BitVec 32) : stepW (stepsW n w) = stepsW (n + 1) w := by
  rw [← steps_add n 1]; rfl

theorem more_ok (s : BitVec 32) (a : Option Addr) (c : Nat) (l : List UInt8) (w : World) (R : Rd w a 1 B8 l) (hm : l.length ≤ 9223372036854775807) :
    Ret Tryz.prog 208 #[.int .u32 (s.toNat : Int), .slice a l.length c] w fun v w' => v = .int .u32 ((moreW s l).toNat : Int) ∧ w = w' := by
  have hs := lt_word s
  refine ret_of_W (fn := Tryz.f208) Tryz.func208 rfl [.int .u32 (s.toNat : Int), .slice a l.length c] rfl (by kernel_rfl) ?_
  refine W_rseq ?_
  refine op_assign rfl (.int _ _) rfl ?_
  refine op_nil (at_then ?_)
  refine W_rseq ?_
  refine op_move rfl (.int _ _) rfl ?_
  refine op_com_u32 rfl rfl (by omega) ?_
  rw [com_w]
  refine op_assign rfl (.int _ _) rfl ?_
  refine op_nil (at_then ?_)
  refine W_seq ?_
  refine W_rseq ?_
  refine op_move rfl (.slice _ _ _) rfl ?_
  refine op_len rfl el_23 rfl ?_
  refine op_move rfl (.int _ _) rfl ?_
  refine op_nil (at_then ?_)
  refine W_block ?_
  refine W_loop 1073737888 (α := Nat) (fun k => [(12, .int .i64 k), (5, .int .u32 (((l.take k).foldl takeW (~~~s)).toNat : Int))]) (fun k w' => k ≤ l.length ∧ w = w') (fun k => l.length - k) 0 rfl ?_ ?_ ?_
  · exact ⟨rfl, rfl, trivial⟩
  · exact ⟨Nat.zero_le _, rfl⟩
  · rintro k j _ ⟨hk, rfl⟩
    refine W_rseq ?_
    refine op_lss rfl rfl rfl ?_
    refine op_nil (at_then ?_)
    refine W_seq ?_
    refine W_cond _ rfl ?_ ?_
    · intro h1
      replace h1 := dec_t h1
      obtain ⟨x, hx⟩ := get_some (l := l) (i := k) (by omega)
      have hxb := lt_byte x
      have hw := lt_word ((l.take k).foldl takeW (~~~s))
      generalize hv : (l.take k).foldl takeW (~~~s) = v at hw
      refine W_skip (at_then ?_)
      refine W_seq ?_
      refine W_block ?_
      refine W_rseq ?_
      first | refine op_indexRd R rfl el_23 sz_5 rfl rfl (by omega) (by omega) (by first | rfl | omega) ?_ | refine op_indexAddr rfl el_23 sz_5 rfl rfl (by omega) (by omega) ?_
      first | refine op_ldb rfl ag_5 rfl H (by first | exact at0 | exact at1 | exact at2 | exact at3 | exact at4 | exact at5 | exact at6 | exact at7 | exact at8 | exact at9) rfl ?_ | refine op_ld rfl ag_5 rfl (R.one (f := bv) hx) ?_
      refine op_assign rfl (.int _ _) rfl ?_
      refine op_nil (at_then ?_)
      refine W_rseq ?_
      refine op_move rfl (.int _ _) rfl ?_
      refine op_move rfl (.int _ _) rfl ?_
      refine op_conv_u32 rfl rfl un_5 un_244 (by omega) (by omega) ?_
      refine op_xor_u32 rfl rfl rfl (by omega) (by omega) ?_
      rw [xor_b]
      refine op_assign rfl (.int _ _) rfl ?_
      refine op_nil (at_then ?_)
      refine W_rseq ?_
      refine op_move rfl (.int _ _) rfl ?_
      refine op_nil (at_then ?_)
      refine W_block ?_
      refine W_loop 535822368 (α := Nat) (fun i => [(20, .int .i64 i), (5, .int .u32 ((stepsW i (v ^^^ byteW x)).toNat : Int))]) (fun i w' => i ≤ 8 ∧ w = w') (fun i => 8 - i) 0 rfl ?_ ?_ ?_
      · exact ⟨rfl, rfl, trivial⟩
      · exact ⟨Nat.zero_le _, rfl⟩
      · rintro i j _ ⟨hi, rfl⟩
        have hu := lt_word (stepsW i (v ^^^ byteW x))
        generalize hz : stepsW i (v ^^^ byteW x) = z at hu
        refine W_rseq ?_
        refine op_lss rfl rfl rfl ?_
        refine op_nil (at_then ?_)
        refine W_seq ?_
        refine W_cond _ rfl ?_ ?_
        · intro h2
          replace h2 := dec_t h2
          refine W_skip (at_then ?_)
          refine W_seq ?_
          refine W_block ?_
          refine W_region ?_
          refine op_move rfl (.int _ _) rfl ?_
          refine op_shr_u32 (n := 1) rfl rfl rfl (by omega) ?_
          refine op_move rfl (.int _ _) rfl ?_
          refine op_and_u32 (b := 1) rfl rfl rfl (by omega) (by omega) ?_
          refine op_mulw_u32 (a := 3988292384) rfl rfl rfl ?_
          refine op_xor_u32 rfl rfl rfl (by omega) (by omega) ?_
          rw [step_nat2]
          refine op_assign rfl (.int _ _) rfl ?_
          refine op_nil (at_block (at_then ?_))
          refine W_region ?_
          refine op_add_i64 rfl rfl rfl (by omega) (by omega) ?_
          refine op_move rfl (.int _ _) rfl ?_
          refine op_nil (at_then ?_)
          exact ⟨i + 1, rfl, ⟨rfl, by rw [← steps_succ, hz]; rfl, trivial⟩, ⟨by omega, rfl⟩, by omega⟩
        · intro h2
          replace h2 := dec_f h2
          have hi8 : i = 8 := by omega
          subst hi8
          refine W_exit (exit_then (exit_then (exit_here (at_block (at_then ?_)))))
          refine W_region ?_
          refine op_add_i64 rfl rfl rfl (by omega) (by omega) ?_
          refine op_move rfl (.int _ _) rfl ?_
          refine op_nil (at_then ?_)
          refine ⟨k + 1, rfl, ⟨rfl, ?_, trivial⟩, ⟨by omega, rfl⟩, by omega⟩
          rw [take_snoc hx, List.foldl_append, hv, List.foldl_cons, List.foldl_nil, takeW, hz]; rfl
    · intro h1
      replace h1 := dec_f h1
      have hke : k = l.length := by omega
      subst hke
      rw [List.take_length]
      have hw := lt_word (l.foldl takeW (~~~s))
      refine W_exit (exit_then (exit_then (exit_here (at_then ?_))))
      refine W_rseq ?_
      refine op_move rfl (.int _ _) rfl ?_
      refine op_com_u32 rfl rfl (by omega) ?_
      rw [com_w]
      refine op_assign rfl (.int _ _) rfl ?_
      refine op_nil (at_then ?_)
      refine W_ret (leave1 (v := (.int _ _)) rfl rfl rfl ?_)
      exact ⟨rfl, rfl⟩

theorem sum_ok (a : Option Addr) (c n : Nat) (l : List UInt8) (w : World) (R : Rd w a 1 B8 l) (hn : l.length = n) (hm : n ≤ 9223372036854775807) :
    Ret Tryz.prog 191 #[.slice a n c] w fun v w' => v = .int .u32 ((sumW l).toNat : Int) ∧ w = w' := by
  subst hn
  refine ret_of_W (fn := Tryz.f191) Tryz.func191 rfl [.slice a l.length c] rfl (by kernel_rfl) ?_
  refine W_rseq ?_
  refine op_assign rfl (.int _ _) rfl ?_
  refine op_nil (at_then ?_)
  refine W_rseq ?_
  refine op_move rfl (.slice _ _ _) rfl ?_
  refine op_call rfl ca_208 (more_ok 0#32 a c l w R hm) rfl ?_
  rintro v w ⟨rfl, rfl⟩
  refine op_assign rfl (.int _ _) rfl ?_
  refine op_nil (at_then ?_)
  refine W_ret (leave1 (v := (.int _ _)) rfl rfl rfl ?_)
  exact ⟨rfl, rfl⟩

/-- The number that bytes are, the least first. -/
def wantN : List UInt8 → Nat
  | [] => 0
  | c :: l => c.toNat + 256 * wantN l
theorem want_app : ∀ (l m : List UInt8), wantN (l ++ m) = wantN l + 256 ^ l.length * wantN m
  | [], m => by simp [wantN]
  | c :: l, m => by
    have h := want_app l m
    simp only [List.cons_append, wantN, List.length_cons, h, Nat.pow_succ]
    rw [Nat.mul_add, ← Nat.mul_assoc, Nat.mul_comm (256 ^ l.length) 256]; omega
theorem want_lt : ∀ l : List UInt8, wantN l < 256 ^ l.length
  | [] => by simp [wantN]
  | c :: l => by
    have h := want_lt l
    have hc := lt_byte c
    simp only [wantN, List.length_cons, Nat.pow_succ]; omega
theorem want_step {l : List UInt8} {k : Nat} {c : UInt8} (hk : l[k]? = some c) (h4 : k < 4) : wantN (l.take k) ||| (c.toNat * 2 ^ (8 * k) % 4294967296) = wantN (l.take (k + 1)) := by
  have hl := get_lt hk
  have hlen : (l.take k).length = k := by rw [List.length_take]; omega
  have h1 := want_lt (l.take k)
  rw [hlen] at h1
  have h2 : (256 : Nat) ^ k = 2 ^ (8 * k) := by rw [Nat.pow_mul]
  have hc := lt_byte c
  have h3 : c.toNat * 2 ^ (8 * k) < 4294967296 := by
    have : k = 0 ∨ k = 1 ∨ k = 2 ∨ k = 3 := by omega
    rcases this with h | h | h | h <;> subst h <;> omega
  rw [take_snoc hk, want_app, hlen, Nat.mod_eq_of_lt h3, Nat.or_comm, Nat.mul_comm c.toNat, ← Nat.two_pow_add_eq_or_of_lt (by rw [← h2]; exact h1), h2]
  simp only [wantN, Nat.mul_zero, Nat.add_zero]; omega

def rightW (b : List UInt8) : Bool := decide (4 ≤ b.length) && decide ((sumW (b.take (b.length - 4))).toNat = wantN (b.drop (b.length - 4)))

theorem right_ok (a : Option Addr) (c : Nat) (l : List UInt8) (w : World) (R : Rd w a 1 B8 l) (hm : l.length ≤ 9223372036854775807) (hc : l.length ≤ c) :
    Ret Tryz.prog 198 #[.slice a l.length c] w fun v w' => v = .bool (rightW l) ∧ w = w' := by
  refine ret_of_W (fn := Tryz.f198) Tryz.func198 rfl [.slice a l.length c] rfl (by kernel_rfl) ?_
  refine W_rseq ?_
  refine op_assign rfl (.bool _) rfl ?_
  refine op_nil (at_then ?_)
  refine W_rseq ?_
  refine op_move rfl (.slice _ _ _) rfl ?_
  refine op_len rfl el_23 rfl ?_
  refine op_sub_i64 rfl rfl rfl (by omega) (by omega) ?_
  refine op_assign rfl (.int _ _) rfl ?_
  refine op_nil (at_then ?_)
  refine W_seq ?_
  refine W_rseq ?_
  refine op_move rfl (.int _ _) rfl ?_
  refine op_lss rfl rfl rfl ?_
  refine op_nil (at_then ?_)
  refine W_cond _ rfl ?_ ?_
  · intro h1
    replace h1 := dec_t h1
    refine W_rseq ?_
    refine op_assign rfl (.bool _) rfl ?_
    refine op_nil (at_then ?_)
    refine W_ret (ret_then (leave1 (v := (.bool _)) rfl rfl rfl ?_))
    exact ⟨congrArg Value.bool (by rw [rightW, decide_eq_false (by omega)]; rfl), rfl⟩
  · intro h1
    replace h1 := dec_f h1
    obtain ⟨m, hm4⟩ : ∃ m, l.length = m + 4 := ⟨l.length - 4, by omega⟩
    rw [show (l.length : Int) - 4 = (m : Int) by omega]
    have R' := R.cut m c hc
    have hd : (l.drop m).length = 4 := by rw [List.length_drop]; omega
    refine W_skip (at_then ?_)
    refine W_rseq ?_
    refine op_assign rfl (.int _ _) rfl ?_
    refine op_nil (at_then ?_)
    refine W_seq ?_
    refine W_rseq ?_
    refine op_move rfl (.slice _ _ _) rfl ?_
    refine op_move rfl (.int _ _) rfl ?_
    refine op_slice_lo rfl el_23 sz_5 rfl rfl (by omega) (by omega) ?_
    refine op_len rfl el_23 rfl ?_
    refine op_move rfl (.int _ _) rfl ?_
    refine op_nil (at_then ?_)
    refine W_block ?_
    rw [show l.length - ((m : Int)).toNat = 4 by omega]
    refine W_loop 536805488 (α := Nat) (fun k => [(16, .int .i64 k), (4, .int .u32 (wantN ((l.drop m).take k) : Int))]) (fun k w' => k ≤ 4 ∧ w = w') (fun k => 4 - k) 0 rfl ?_ ?_ ?_
    · exact ⟨rfl, rfl, trivial⟩
    · exact ⟨Nat.zero_le _, rfl⟩
    · rintro k j _ ⟨hk, rfl⟩
      refine W_rseq ?_
      refine op_lss rfl rfl rfl ?_
      refine op_nil (at_then ?_)
      refine W_seq ?_
      refine W_cond _ rfl ?_ ?_
      · intro h2
        replace h2 := dec_t h2
        obtain ⟨x, hx⟩ := get_some (l := l.drop m) (i := k) (by omega)
        have hxb := lt_byte x
        have hw : wantN ((l.drop m).take k) < 4294967296 := by
          have h := want_lt ((l.drop m).take k)
          have h2 : 256 ^ ((l.drop m).take k).length ≤ 256 ^ 4 := Nat.pow_le_pow_right (by omega) (by rw [List.length_take]; omega)
          have h3 : (256 : Nat) ^ 4 = 4294967296 := by decide
          omega
        refine W_skip (at_then ?_)
        refine W_seq ?_
        refine W_block ?_
        refine W_rseq ?_
        refine op_move rfl (.int _ _) rfl ?_
        first | refine op_indexRd R' rfl el_23 sz_5 rfl rfl (by omega) (by omega) (by first | rfl | omega) ?_ | refine op_indexAddr rfl el_23 sz_5 rfl rfl (by omega) (by omega) ?_
        first | refine op_ldb rfl ag_5 rfl H (by first | exact at0 | exact at1 | exact at2 | exact at3 | exact at4 | exact at5 | exact at6 | exact at7 | exact at8 | exact at9) rfl ?_ | refine op_ld rfl ag_5 rfl (R'.one (f := bv) hx) ?_
        refine op_assign rfl (.int _ _) rfl ?_
        refine op_assign rfl (.int _ _) rfl ?_
        refine op_nil (at_then ?_)
        refine W_region ?_
        refine op_move rfl (.int _ _) rfl ?_
        refine op_move rfl (.int _ _) rfl ?_
        refine op_conv_u32 rfl rfl un_5 un_244 (by omega) (by omega) ?_
        refine op_move rfl (.int _ _) rfl ?_
        refine op_mul_i64 rfl rfl rfl (by omega) (by omega) ?_
        rw [show (8 : Int) * (k : Int) = ((8 * k : Nat) : Int) from by simp]
        refine op_shl_u32 rfl rfl rfl (by omega) ?_
        refine op_or_u32 rfl rfl rfl (by omega) (by omega) ?_
        rw [want_step hx (by omega)]
        refine op_assign rfl (.int _ _) rfl ?_
        refine op_nil (at_block (at_then ?_))
        refine W_region ?_
        refine op_add_i64 rfl rfl rfl (by omega) (by omega) ?_
        refine op_move rfl (.int _ _) rfl ?_
        refine op_nil (at_then ?_)
        exact ⟨k + 1, rfl, ⟨rfl, rfl, trivial⟩, ⟨by omega, rfl⟩, by omega⟩
      · intro h2
        replace h2 := dec_f h2
        have hk4 : k = 4 := by omega
        subst hk4
        rw [show (l.drop m).take 4 = l.drop m from List.take_of_length_le (by omega)]
        refine W_exit (exit_then (exit_then (exit_here (at_then ?_))))
        refine W_rseq ?_
        refine op_move rfl (.slice _ _ _) rfl ?_
        refine op_move rfl (.int _ _) rfl ?_
        refine op_slice_hi rfl el_23 sz_5 rfl rfl (by omega) (by omega) ?_
        refine op_call rfl ca_191 (sum_ok a c m (l.take m) w (R.take m) (by rw [List.length_take]; omega) (by omega)) rfl ?_
        rintro v w ⟨rfl, rfl⟩
        refine op_move rfl (.int _ _) rfl ?_
        refine op_eql rfl rfl rfl ?_
        refine op_assign rfl (.bool _) rfl ?_
        refine op_nil (at_then ?_)
        refine W_ret (leave1 (v := (.bool _)) rfl rfl rfl ?_)
        refine ⟨congrArg Value.bool ?_, rfl⟩
        rw [rightW, decide_eq_true (show 4 ≤ l.length by omega), Bool.true_and, show l.length - 4 = m by omega]
        exact decide_eq_decide.2 (by omega)

/-! ### The reference -/
end Go.Proofs.YtbkadlngijkmmaaGreatDoor

/- Numbers as bytes; copies of bytes. -/
namespace Go.Proofs.YtbkadlngijkmmaaGreatDoor
open Go.GV
attribute [local irreducible] Wops W Wq

theorem Fresh.rdB {w w' : World} {t : Nat} {s : Value} {xs : List UInt8} (h : Fresh w w' t 1 s (xs.map bv)) : ∃ a c, s = .slice a xs.length c ∧ Rd w' a 1 B8 xs ∧ xs.length ≤ c := by
  obtain ⟨a, n, c, full, rfl, O, hb⟩ := h.ex
  have hn := O.num
  subst hn
  exact ⟨a, c, rfl, O.rd1 (t := t) fun x hx => (hb x hx).1, O.le⟩
theorem Rd.appB {w : World} {a : Option Addr} {l : List UInt8} (R : Rd w a 1 B8 l) : ∀ j v, (l.map bv)[j]? = some v → ∃ p, a = some p ∧ w.cell? (p.add j) = some v := Rd.app1 (f := bv) R
theorem OS.rdB {w : World} {a : Option Addr} {n c : Nat} {t : TypeId} {full : List Value} {xs : List UInt8} (h : OS a n c 1 full (xs.map bv)) (hb : ∀ x ∈ ent a t full, w.heap[x.1]? = some x.2) : Rd w a 1 B8 xs := OS.rd1 h hb

theorem rd_blB {w : World} {b t : Nat} {xs : List UInt8} (h : w.heap[b]? = some (Bl t (xs.map bv))) : Rd w (some ⟨b, 0, none⟩) 1 B8 xs :=
  Rd.of_bl (r := []) h (by rw [List.append_nil]; exact (flat1 xs).symm) (fun x _ => rfl)

theorem Fresh.since {w0 w w' : World} {t s : Nat} {v : Value} {l : List Value} (h : Fresh w w' t s v l) (hx : Ext [] w0 w) : Fresh w0 w' t s v l :=
  ⟨let ⟨a, n, c, full, h1, h2, h3⟩ := h.ex; ⟨a, n, c, full, h1, h2, fun x hx' => ⟨(h3 x hx').1, Nat.le_trans hx.size (h3 x hx').2⟩⟩, hx.trans h.ext⟩

theorem clone_ok (a : Option Addr) (c n : Nat) (l : List UInt8) (w : World) (R : Rd w a 1 B8 l) (hn : l.length = n) (hm : n ≤ 140737488351232) :
    Ret Tryz.prog 119 #[.slice a n c] w fun v w' => Fresh w w' 5 1 v (l.map bv) ∧ (a = none → v = .slice none 0 0) := by
  subst hn
  obtain ⟨w0, rfl⟩ : ∃ w0, w0 = w := ⟨_, rfl⟩
  have H := Ctx.start w0 []
  refine ret_of_W (fn := Tryz.f119) Tryz.func119 rfl [.slice a l.length c] rfl (by kernel_rfl) ?_
  refine W_rseq ?_
  refine op_assign rfl (.slice _ _ _) rfl ?_
  refine op_nil (at_then ?_)
  refine W_seq ?_
  refine W_rseq ?_
  refine op_move rfl (.slice _ _ _) rfl ?_
  refine op_eqlnil rfl el_23 rfl ?_
  refine op_nil (at_then ?_)
  refine W_cond _ rfl ?_ ?_
  · intro h1
    have ha : a = none := by simpa using h1
    subst ha
    have hl : l = [] := by
      cases l with
      | nil => rfl
      | cons x l => obtain ⟨b, o, h⟩ := R.some' (by simp); cases h
    subst hl
    refine W_rseq ?_
    refine op_assign rfl (.slice _ _ _) rfl ?_
    refine op_nil (at_then ?_)
    refine W_ret (ret_then (leave1 (v := (.slice _ _ _)) rfl rfl rfl ?_))
    exact ⟨Fresh.nil H _ _, fun _ => rfl⟩
  · intro h1
    refine W_skip (at_then ?_)
    refine W_rseq ?_
    refine op_build0 rfl el_23 sz_5 H ?_
    rintro b5 w H O
    refine op_move rfl (.slice _ _ _) rfl ?_
    refine op_append rfl el_23 el_23 sz_5 by_5 zc_5 rfl (by decide) (l.map bv) rfl rfl H O (by simp) (bv_one l) (Rd.appB (R.ext0 H.ext)) (by omega) ?_
    rintro a7 c7 full7 w H O
    refine op_assign rfl (.slice _ _ _) rfl ?_
    refine op_nil (at_then ?_)
    refine W_ret (leave1 (v := (.slice _ _ _)) rfl rfl rfl ?_)
    exact ⟨Ctx.fresh H (by simpa using O), fun h => by subst h; cases h1⟩

/-! ### Sizes -/
def sizeB (k : Int) : Bool := decide (k = 1) || (decide (k = 2) || (decide (k = 4) || decide (k = 8)))
theorem size_num {k : Int} (h : sizeB k = true) : ∃ n : Nat, k = n ∧ 1 ≤ n ∧ n ≤ 8 := by
  simp only [sizeB, Bool.or_eq_true, decide_eq_true_eq] at h
  exact ⟨k.toNat, by omega, by omega, by omega⟩
theorem size_look (k : Int) : ∃ z : Int, Option.getD (if k = 8 then some (Value.int .i64 64) else if k = 4 then some (Value.int .i64 32) else if k = 2 then some (Value.int .i64 16) else if k = 1 then some (Value.int .i64 8) else none) (Value.int .i64 0) = .int .i64 z ∧ decide (0 < z) = sizeB k := by
  by_cases h8 : k = 8
  · exact ⟨64, by simp [h8], by simp [sizeB, h8]⟩
  by_cases h4 : k = 4
  · exact ⟨32, by simp [h4], by simp [sizeB, h4]⟩
  by_cases h2 : k = 2
  · exact ⟨16, by simp [h2], by simp [sizeB, h2]⟩
  by_cases h1 : k = 1
  · exact ⟨8, by simp [h1], by simp [sizeB, h1]⟩
  exact ⟨0, by simp [h8, h4, h2, h1], by simp [sizeB, h8, h4, h2, h1]⟩
theorem oright_ok (k : Int) (w : World) : Ret Tryz.prog 185 #[.int .i64 k] w fun v w' => v = .bool (sizeB k) ∧ Ext [] w w' := by
  obtain ⟨w0, rfl⟩ : ∃ w0, w0 = w := ⟨_, rfl⟩
  have H := Ctx.start w0 []
  refine ret_of_W (fn := Tryz.f185) Tryz.func185 rfl [.int .i64 k] rfl (by kernel_rfl) ?_
  refine W_rseq ?_
  refine op_assign rfl (.bool _) rfl ?_
  refine op_nil (at_then ?_)
  refine W_rseq ?_
  refine op_makeMap .i64 rfl H ?_
  rintro b4 o4 w hM H
  refine op_insert (.int _ _) rfl mt_265 un_3 rfl rfl rfl H (by first | exact at0 | exact at1 | exact at2 | exact at3 | exact at4 | exact at5 | exact at6 | exact at7 | exact at8 | exact at9) hM ?_
  rintro o w hM H
  refine op_insert (.int _ _) rfl mt_265 un_3 rfl rfl rfl H (by first | exact at0 | exact at1 | exact at2 | exact at3 | exact at4 | exact at5 | exact at6 | exact at7 | exact at8 | exact at9) hM ?_
  rintro o w hM H
  refine op_insert (.int _ _) rfl mt_265 un_3 rfl rfl rfl H (by first | exact at0 | exact at1 | exact at2 | exact at3 | exact at4 | exact at5 | exact at6 | exact at7 | exact at8 | exact at9) hM ?_
  rintro o w hM H
  refine op_insert (.int _ _) rfl mt_265 un_3 rfl rfl rfl H (by first | exact at0 | exact at1 | exact at2 | exact at3 | exact at4 | exact at5 | exact at6 | exact at7 | exact at8 | exact at9) hM ?_
  rintro o w hM H
  refine op_move rfl (.map _) rfl ?_
  refine op_assign rfl (.map _) rfl ?_
  refine op_nil (at_then ?_)
  refine W_rseq ?_
  refine op_move rfl (.map _) rfl ?_
  refine op_move rfl (.int _ _) rfl ?_
  refine op_lookup rfl mt_265 un_3 zv_3 rfl rfl H at0 hM ?_
  simp only [mget_mset, mget_nil]
  obtain ⟨z, hz, hzb⟩ := size_look k
  rw [hz]
  refine op_gtr rfl rfl rfl ?_
  refine op_assign rfl (.bool _) rfl ?_
  refine op_nil (at_then ?_)
  refine W_ret (leave1 (v := (.bool _)) rfl rfl rfl ?_)
  exact ⟨congrArg Value.bool hzb, H.ext⟩
/-! ### Put -/
/-- k bytes of n, the greatest first. -/
def putN (n k : Nat) : List UInt8 := (List.range k).map fun i => UInt8.ofNat (n / 2 ^ (8 * (k - 1 - i)))
theorem putN_len (n k : Nat) : (putN n k).length = k := by simp [putN]
theorem putN_snoc {n k i : Nat} (h : i < k) : (putN n k).take (i + 1) = (putN n k).take i ++ [UInt8.ofNat (n / 2 ^ (8 * (k - 1 - i)))] := take_snoc (range_get h)
theorem ofNat_val (x : Nat) : Value.int .u8 ((x % 256 : Nat) : Int) = bv (UInt8.ofNat x) := by
  unfold bv; congr 2
def putB (l : List UInt8) (n : Nat) (k : Int) : List UInt8 := bif sizeB k then l ++ putN n k.toNat else l

set_option maxHeartbeats 1000000 in
theorem put_ok (a : Option Addr) (c m : Nat) (l : List UInt8) (n : Nat) (k : Int) (w : World) (R : Rd w a 1 B8 l) (hml : l.length = m) (hm : m ≤ 140737488351231) (_ : n < 18446744073709551616) :
    Ret Tryz.prog 152 #[.slice a m c, .int .u64 (n : Int), .int .i64 k] w fun v w' => Fresh w w' 5 1 v ((putB l n k).map bv) := by
  subst hml
  obtain ⟨w0, rfl⟩ : ∃ w0, w0 = w := ⟨_, rfl⟩
  refine ret_of_W (fn := Tryz.f152) Tryz.func152 rfl [.slice a l.length c, .int .u64 (n : Int), .int .i64 k] rfl (by kernel_rfl) ?_
  refine W_rseq ?_
  refine op_assign rfl (.slice _ _ _) rfl ?_
  refine op_nil (at_then ?_)
  refine W_rseq ?_
  refine op_move rfl (.slice _ _ _) rfl ?_
  refine op_call rfl ca_119 (clone_ok a c l.length l _ R rfl (by omega)) rfl ?_
  rintro v w ⟨F, -⟩
  obtain ⟨a7, n7, c7, full7, rfl, O, hb⟩ := F.ex
  have hn7 : n7 = l.length := OS.num O
  subst hn7
  have H : Ctx w0 [] w (ent a7 5 full7) := ⟨F.ext, fun x hx => (hb x hx).1, ent_nd, fun x hx => .inr (hb x hx).2⟩
  refine op_assign rfl (.slice _ _ _) rfl ?_
  refine op_nil (at_then ?_)
  refine W_seq ?_
  refine W_rseq ?_
  refine op_move rfl (.int _ _) rfl ?_
  refine op_call rfl ca_185 (oright_ok k _) rfl ?_
  rintro v w ⟨rfl, hx⟩
  replace H := H.call hx
  refine op_not rfl rfl ?_
  refine op_nil (at_then ?_)
  refine W_cond _ rfl ?_ ?_
  · intro h1
    replace h1 := nvar_t h1
    refine W_rseq ?_
    refine op_move rfl (.slice _ _ _) rfl ?_
    refine op_assign rfl (.slice _ _ _) rfl ?_
    refine op_nil (at_then ?_)
    refine W_ret (ret_then (leave1 (v := (.slice _ _ _)) rfl rfl rfl ?_))
    rw [putB, h1]
    exact Ctx.fresh (L := []) H O
  · intro h1
    replace h1 := nvar_f h1
    obtain ⟨q, rfl, hq1, hq8⟩ := size_num h1
    rw [putB, h1, show ((q : Int)).toNat = q from rfl]
    refine W_skip (at_then ?_)
    refine W_seq ?_
    refine W_rseq ?_
    refine op_move rfl (.int _ _) rfl ?_
    refine op_move rfl (.int _ _) rfl ?_
    refine op_nil (at_then ?_)
    refine W_block ?_
    refine W_loop 2147418496 (α := Nat × Option Addr × Nat × List Value) (fun x => [(16, .int .i64 x.1), (7, .slice x.2.1 (l.length + x.1) x.2.2.1)]) (fun x w' => x.1 ≤ q ∧ Ctx w0 [] w' (ent x.2.1 5 x.2.2.2) ∧ OS x.2.1 (l.length + x.1) x.2.2.1 1 x.2.2.2 ((l ++ (putN n q).take x.1).map bv)) (fun x => q - x.1) (0, a7, c7, full7) rfl ?_ ?_ ?_
    · exact ⟨rfl, rfl, trivial⟩
    · exact ⟨Nat.zero_le _, H, by simpa using O⟩
    · rintro ⟨i, a7, c7, full7⟩ j w ⟨hi, H, O⟩; dsimp only at hi H O; dsimp only
      refine W_rseq ?_
      refine op_lss rfl rfl rfl ?_
      refine op_nil (at_then ?_)
      refine W_seq ?_
      refine W_cond _ rfl ?_ ?_
      · intro h2
        replace h2 := dec_t h2
        refine W_skip (at_then ?_)
        refine W_seq ?_
        refine W_block ?_
        refine W_rseq ?_
        refine op_move rfl (.int _ _) rfl ?_
        refine op_assign rfl (.int _ _) rfl ?_
        refine op_nil (at_then ?_)
        refine W_region ?_
        refine op_move rfl (.slice _ _ _) rfl ?_
        refine op_move rfl (.int _ _) rfl ?_
        refine op_move rfl (.int _ _) rfl ?_
        refine op_sub_i64 rfl rfl rfl (by omega) (by omega) ?_
        refine op_move rfl (.int _ _) rfl ?_
        refine op_sub_i64 rfl rfl rfl (by omega) (by omega) ?_
        refine op_mul_i64 rfl rfl rfl (by omega) (by omega) ?_
        rw [show (8 : Int) * ((q : Int) - 1 - (i : Int)) = ((8 * (q - 1 - i) : Nat) : Int) from by omega]
        refine op_shr_u64 rfl rfl rfl (by omega) ?_
        refine op_convn_u8 rfl rfl un_152 un_5 ?_
        rw [ofNat_val]
        refine op_build1 _ (.int _ _) rfl el_23 sz_5 zc_5 rfl (by decide) (by decide) rfl rfl rfl H ?_
        rintro b28 w - H
        refine op_appendb (L := []) rfl el_23 el_23 sz_5 by_5 zc_5 rfl (by decide) rfl rfl H O rfl (by simp [oneCell]) (by omega) ?_
        rintro a9 c9 full9 w H O
        refine op_assign rfl (.slice _ _ _) rfl ?_
        refine op_nil (at_block (at_then ?_))
        refine W_region ?_
        refine op_add_i64 rfl rfl rfl (by omega) (by omega) ?_
        refine op_move rfl (.int _ _) rfl ?_
        refine op_nil (at_then ?_)
        refine ⟨(i + 1, a9, c9, full9), rfl, ⟨rfl, rfl, trivial⟩, ⟨by omega, H, ?_⟩, by dsimp only; omega⟩
        dsimp only
        have O' : OS a9 (l.length + (i + 1)) c9 1 full9 ((l ++ (putN n q).take i).map bv ++ [UInt8.ofNat (n / 2 ^ (8 * (q - 1 - i)))].map bv) := O
        rw [← List.map_append, List.append_assoc, ← putN_snoc (by omega)] at O'
        exact O'
      · intro h2
        replace h2 := dec_f h2
        have hiq : i = q := by omega
        subst hiq
        refine W_exit (exit_then (exit_then (exit_here (at_then ?_))))
        refine W_rseq ?_
        refine op_move rfl (.slice _ _ _) rfl ?_
        refine op_assign rfl (.slice _ _ _) rfl ?_
        refine op_nil (at_then ?_)
        refine W_ret (leave1 (v := (.slice _ _ _)) rfl rfl rfl ?_)
        have hl : (putN n i).take i = putN n i := List.take_of_length_le (by rw [putN_len]; exact Nat.le_refl _)
        rw [hl] at O
        exact Ctx.fresh (L := []) H O

/-! ### Take -/
def numN (l : List UInt8) : Nat := l.foldl (fun n c => n * 256 + c.toNat) 0
theorem numN_snoc (l : List UInt8) (c : UInt8) : numN (l ++ [c]) = numN l * 256 + c.toNat := by simp [numN]
theorem numN_lt (l : List UInt8) : numN l < 256 ^ l.length := by
  have h : ∀ (l : List UInt8) (n k : Nat), n < 256 ^ k → l.foldl (fun n c => n * 256 + c.toNat) n < 256 ^ (k + l.length) := by
    intro l
    induction l with
    | nil => intro n k h; simpa using h
    | cons c l ih =>
      intro n k h
      have hc := lt_byte c
      have := ih (n * 256 + c.toNat) (k + 1) (by rw [Nat.pow_succ]; omega)
      simpa [Nat.add_assoc, Nat.add_comm 1] using this
  have := h l 0 0 (by simp)
  rw [Nat.zero_add] at this
  exact this
theorem num_step {l : List UInt8} {i : Nat} {c : UInt8} (h : l[i]? = some c) (hi : i < 8) : (numN (l.take i) * 2 ^ 8 % 18446744073709551616) ||| c.toNat = numN (l.take (i + 1)) := by
  have h1 := numN_lt (l.take i)
  have hc := lt_byte c
  have hlen : (l.take i).length ≤ 7 := by rw [List.length_take]; omega
  have h2 : 256 ^ (l.take i).length ≤ 256 ^ 7 := Nat.pow_le_pow_right (by omega) hlen
  have h3 : (256 : Nat) ^ 7 = 72057594037927936 := by decide
  rw [take_snoc h, numN_snoc, Nat.mod_eq_of_lt (by omega), Nat.mul_comm, ← Nat.two_pow_add_eq_or_of_lt (by omega)]
def takeE (l : List UInt8) (at' k : Int) : Int := bif sizeB k && (decide (0 ≤ at') && decide (at' ≤ l.length)) then (bif decide (k ≤ (l.length : Int) - at') then 0 else 5) else 1
def takeV (l : List UInt8) (at' k : Int) : Value := bif decide (takeE l at' k = 0) then .tuple #[.int .u64 (numN ((l.drop at'.toNat).take k.toNat) : Int), .int .i64 (at' + k), .int .i64 0] else .tuple #[.int .u64 0, .int .i64 0, .int .i64 (takeE l at' k)]

set_option maxHeartbeats 1000000 in
theorem otake_ok (a : Option Addr) (c m : Nat) (l : List UInt8) (at' k : Int) (w : World) (R : Rd w a 1 B8 l) (hml : l.length = m) (hm : m ≤ 9223372036854775799) (hc : l.length ≤ c) :
    Ret Tryz.prog 146 #[.slice a m c, .int .i64 at', .int .i64 k] w fun v w' => v = takeV l at' k ∧ Ext [] w w' := by
  subst hml
  obtain ⟨w0, rfl⟩ : ∃ w0, w0 = w := ⟨_, rfl⟩
  have H := Ctx.start w0 []
  refine ret_of_W (fn := Tryz.f146) Tryz.func146 rfl [.slice a l.length c, .int .i64 at', .int .i64 k] rfl (by kernel_rfl) ?_
  refine W_rseq ?_
  refine op_assign rfl (.int _ _) rfl ?_
  refine op_assign rfl (.int _ _) rfl ?_
  refine op_assign rfl (.int _ _) rfl ?_
  refine op_nil (at_then ?_)
  refine W_seq ?_
  refine W_block ?_
  refine W_seq ?_
  refine W_rseq ?_
  refine op_move rfl (.int _ _) rfl ?_
  refine op_call rfl ca_185 (oright_ok k _) rfl ?_
  rintro v w ⟨rfl, hx⟩
  replace H := H.call hx
  refine op_not rfl rfl ?_
  refine op_assign rfl (.bool _) rfl ?_
  refine op_nil (at_then ?_)
  refine W_csplit 11 rfl ?_ ?_
  · intro h1
    replace h1 := nvar_t h1
    have he : takeE l at' k = 1 := by unfold takeE; rw [h1]; rfl
    refine W_skip (at_then ?_)
    refine W_cond1 rfl ?_
    refine W_rseq ?_
    refine op_assign rfl (.int _ _) rfl ?_
    refine op_assign rfl (.int _ _) rfl ?_
    refine op_assign rfl (.int _ _) rfl ?_
    refine op_nil (at_then ?_)
    refine W_ret (ret_block (ret_then (leave3 (v1 := (.int _ _)) (v2 := (.int _ _)) (v3 := (.int _ _)) rfl rfl rfl rfl rfl ?_)))
    exact ⟨by rw [takeV, he]; rfl, H.ext⟩
  · intro h1
    replace h1 := nvar_f h1
    refine W_rseq ?_
    refine op_move rfl (.int _ _) rfl ?_
    refine op_lss rfl rfl rfl ?_
    refine op_assign rfl (.bool _) rfl ?_
    refine op_nil (at_then ?_)
    refine W_csplit 11 rfl ?_ ?_
    · intro h2
      replace h2 := dec_t h2
      have he : takeE l at' k = 1 := by unfold takeE; rw [decide_eq_false (show ¬ 0 ≤ at' by omega), Bool.false_and, Bool.and_false]; rfl
      refine W_skip (at_then ?_)
      refine W_cond1 rfl ?_
      refine W_rseq ?_
      refine op_assign rfl (.int _ _) rfl ?_
      refine op_assign rfl (.int _ _) rfl ?_
      refine op_assign rfl (.int _ _) rfl ?_
      refine op_nil (at_then ?_)
      refine W_ret (ret_block (ret_then (leave3 (v1 := (.int _ _)) (v2 := (.int _ _)) (v3 := (.int _ _)) rfl rfl rfl rfl rfl ?_)))
      exact ⟨by rw [takeV, he]; rfl, H.ext⟩
    · intro h2
      replace h2 := dec_f h2
      refine W_region ?_
      refine op_move rfl (.int _ _) rfl ?_
      refine op_move rfl (.slice _ _ _) rfl ?_
      refine op_len rfl el_23 rfl ?_
      refine op_gtr rfl rfl rfl ?_
      refine op_assign rfl (.bool _) rfl ?_
      refine op_nil (at_then ?_)
      refine W_csplit 11 rfl ?_ ?_
      · intro h3
        replace h3 := dec_t h3
        have he : takeE l at' k = 1 := by unfold takeE; rw [decide_eq_false (show ¬ at' ≤ (l.length : Int) by omega), Bool.and_false, Bool.and_false]; rfl
        refine W_rseq ?_
        refine op_assign rfl (.int _ _) rfl ?_
        refine op_assign rfl (.int _ _) rfl ?_
        refine op_assign rfl (.int _ _) rfl ?_
        refine op_nil (at_then ?_)
        refine W_ret (ret_block (ret_then (leave3 (v1 := (.int _ _)) (v2 := (.int _ _)) (v3 := (.int _ _)) rfl rfl rfl rfl rfl ?_)))
        exact ⟨by rw [takeV, he]; rfl, H.ext⟩
      · intro h3
        replace h3 := dec_f h3
        obtain ⟨q, rfl, hq1, hq8⟩ := size_num h1
        obtain ⟨o, rfl⟩ : ∃ o : Nat, at' = o := ⟨at'.toNat, by omega⟩
        have hE : takeE l (o : Int) (q : Int) = bif decide ((q : Int) ≤ (l.length : Int) - (o : Int)) then 0 else 5 := by
          unfold takeE; rw [h1, decide_eq_true (show (0 : Int) ≤ (o : Int) by omega), decide_eq_true (show (o : Int) ≤ (l.length : Int) by omega)]; rfl
        refine W_rseq ?_
        refine op_move rfl (.slice _ _ _) rfl ?_
        refine op_len rfl el_23 rfl ?_
        refine op_move rfl (.int _ _) rfl ?_
        refine op_sub_i64 rfl rfl rfl (by omega) (by omega) ?_
        refine op_move rfl (.int _ _) rfl ?_
        refine op_lss rfl rfl rfl ?_
        refine op_assign rfl (.bool _) rfl ?_
        refine op_nil (at_then ?_)
        refine W_cond _ rfl ?_ ?_
        · intro h4
          replace h4 := dec_t h4
          rw [decide_eq_false (by omega)] at hE
          refine W_rseq ?_
          refine op_assign rfl (.int _ _) rfl ?_
          refine op_assign rfl (.int _ _) rfl ?_
          refine op_assign rfl (.int _ _) rfl ?_
          refine op_nil (at_then ?_)
          refine W_ret (ret_block (ret_then (leave3 (v1 := (.int _ _)) (v2 := (.int _ _)) (v3 := (.int _ _)) rfl rfl rfl rfl rfl ?_)))
          exact ⟨by rw [takeV, hE]; rfl, H.ext⟩
        · intro h4
          replace h4 := dec_f h4
          rw [decide_eq_true (by omega)] at hE
          have R' := ((R.ext0 H.ext).cut o c hc).take q
          have hl : ((l.drop o).take q).length = q := by rw [List.length_take, List.length_drop]; omega
          refine W_skip (at_block (at_then ?_))
          refine W_rseq ?_
          refine op_move rfl (.int _ _) rfl ?_
          refine op_move rfl (.int _ _) rfl ?_
          refine op_add_i64 rfl rfl rfl (by omega) (by omega) ?_
          refine op_assign rfl (.int _ _) rfl ?_
          refine op_nil (at_then ?_)
          refine W_seq ?_
          refine W_rseq ?_
          refine op_move rfl (.slice _ _ _) rfl ?_
          refine op_move rfl (.int _ _) rfl ?_
          refine op_move rfl (.int _ _) rfl ?_
          refine op_slice_lohi rfl el_23 sz_5 rfl rfl rfl (by omega) (by omega) (by omega) ?_
          refine op_len rfl el_23 rfl ?_
          refine op_move rfl (.int _ _) rfl ?_
          refine op_nil (at_then ?_)
          refine W_block ?_
          rw [show ((o : Int) + (q : Int)).toNat - ((o : Int)).toNat = q by omega]
          refine W_loop 70300024702016 (α := Nat) (fun i => [(36, .int .i64 i), (6, .int .u64 (numN (((l.drop o).take q).take i) : Int))]) (fun i w' => i ≤ q ∧ w = w') (fun i => q - i) 0 rfl ?_ ?_ ?_
          · exact ⟨rfl, rfl, trivial⟩
          · exact ⟨Nat.zero_le _, rfl⟩
          · rintro i j _ ⟨hi, rfl⟩
            refine W_rseq ?_
            refine op_lss rfl rfl rfl ?_
            refine op_nil (at_then ?_)
            refine W_seq ?_
            refine W_cond _ rfl ?_ ?_
            · intro h5
              replace h5 := dec_t h5
              obtain ⟨x, hx⟩ := get_some (l := (l.drop o).take q) (i := i) (by omega)
              have hxb := lt_byte x
              have hlt := numN_lt (((l.drop o).take q).take (i + 1))
              have hst := num_step hx (by omega)
              refine W_skip (at_then ?_)
              refine W_seq ?_
              refine W_block ?_
              refine W_rseq ?_
              first | refine op_indexRd R' rfl el_23 sz_5 rfl rfl (by omega) (by omega) (by first | rfl | omega) ?_ | refine op_indexAddr rfl el_23 sz_5 rfl rfl (by omega) (by omega) ?_
              first | refine op_ldb rfl ag_5 rfl H (by first | exact at0 | exact at1 | exact at2 | exact at3 | exact at4 | exact at5 | exact at6 | exact at7 | exact at8 | exact at9) rfl ?_ | refine op_ld rfl ag_5 rfl (R'.one (f := bv) hx) ?_
              refine op_assign rfl (.int _ _) rfl ?_
              refine op_nil (at_then ?_)
              refine W_region ?_
              refine op_move rfl (.int _ _) rfl ?_
              refine op_shl_u64 (n := 8) rfl rfl rfl (by omega) ?_
              refine op_move rfl (.int _ _) rfl ?_
              refine op_conv_u64 rfl rfl un_5 un_152 (by omega) (by omega) ?_
              refine op_or_u64 rfl rfl rfl (Nat.mod_lt _ (by decide)) (by omega) ?_
              rw [hst]
              refine op_assign rfl (.int _ _) rfl ?_
              refine op_nil (at_block (at_then ?_))
              refine W_region ?_
              refine op_add_i64 rfl rfl rfl (by omega) (by omega) ?_
              refine op_move rfl (.int _ _) rfl ?_
              refine op_nil (at_then ?_)
              exact ⟨i + 1, rfl, ⟨rfl, rfl, trivial⟩, ⟨by omega, rfl⟩, by omega⟩
            · intro h5
              replace h5 := dec_f h5
              have hiq : i = q := by omega
              subst hiq
              rw [show ((l.drop o).take i).take i = (l.drop o).take i from List.take_of_length_le (by omega)]
              refine W_exit (exit_then (exit_then (exit_here (at_then ?_))))
              refine W_rseq ?_
              refine op_move rfl (.int _ _) rfl ?_
              refine op_move rfl (.int _ _) rfl ?_
              refine op_assign rfl (.int _ _) rfl ?_
              refine op_assign rfl (.int _ _) rfl ?_
              refine op_assign rfl (.int _ _) rfl ?_
              refine op_nil (at_then ?_)
              refine W_ret (leave3 (v1 := (.int _ _)) (v2 := (.int _ _)) (v3 := (.int _ _)) rfl rfl rfl rfl rfl ?_)
              exact ⟨by rw [takeV, hE]; rfl, H.ext⟩

end Go.Proofs.YtbkadlngijkmmaaGreatDoor

/- Blocks that are sealed and opened. -/
namespace Go.Proofs.YtbkadlngijkmmaaGreatDoor
open Go.GV
attribute [local irreducible] Wops W Wq

def allZ (l : List UInt8) : Bool := l.all fun b => b == 0

theorem trimb_ok (a : Option Addr) (c n : Nat) (l : List UInt8) (w : World) (R : Rd w a 1 B8 l) (hn : l.length = n) (hm : n ≤ 9223372036854775807) (hc : l.length ≤ c) :
    Ret Tryz.prog 221 #[.slice a n c, bv 0] w fun v w' => (∃ a' n' c', v = .slice a' n' c' ∧ decide (0 < n') = !allZ l ∧ n' ≤ n) ∧ w = w' := by
  subst hn
  refine ret_of_W (fn := Tryz.f221) Tryz.func221 rfl [.slice a l.length c, bv 0] rfl (by kernel_rfl) ?_
  refine W_rseq ?_
  refine op_assign rfl (.slice _ _ _) rfl ?_
  refine op_nil (at_then ?_)
  refine W_seq ?_
  refine W_block ?_
  refine W_loop 131041 (α := Nat × Option Addr × Nat) (fun x => [(0, .slice x.2.1 (l.length - x.1) x.2.2)]) (fun x w' => x.1 ≤ l.length ∧ Rd w x.2.1 1 B8 (l.drop x.1) ∧ l.length - x.1 ≤ x.2.2 ∧ allZ (l.take x.1) = true ∧ w = w') (fun x => l.length - x.1) (0, a, c) rfl ?_ ?_ ?_
  · exact ⟨rfl, trivial⟩
  · exact ⟨Nat.zero_le _, R, hc, rfl, rfl⟩
  · rintro ⟨k, a, c⟩ j _ ⟨hk, R, hc, hz, rfl⟩; dsimp only at hk R hc hz; dsimp only
    have hld : (l.drop k).length = l.length - k := List.length_drop
    refine W_seq ?_
    refine W_rseq ?_
    refine op_move rfl (.slice _ _ _) rfl ?_
    refine op_len rfl el_23 rfl ?_
    refine op_gtr rfl rfl rfl ?_
    refine op_move rfl (.bool _) rfl ?_
    refine Wops_split 8 rfl ?_ ?_
    · intro h1
      replace h1 := dec_t h1
      obtain ⟨x, hx⟩ := get_some (l := l.drop k) (i := 0) (by omega)
      have hxl : l[k]? = some x := by rw [List.getElem?_drop] at hx; simpa using hx
      refine op_move rfl (.slice _ _ _) rfl ?_
      refine op_indexRd R rfl el_23 sz_5 rfl rfl (by omega) (by omega) (by omega) ?_
      first | refine op_ldb rfl ag_5 rfl H (by first | exact at0 | exact at1 | exact at2 | exact at3 | exact at4 | exact at5 | exact at6 | exact at7 | exact at8 | exact at9) rfl ?_ | refine op_ld rfl ag_5 rfl (R.one (f := bv) hx) ?_
      refine op_move rfl (.int _ _) rfl ?_
      refine op_eql rfl rfl rfl ?_
      refine op_pick1 rfl rfl (.bool _) rfl ?_
      refine op_nil (at_then ?_)
      refine W_cond _ rfl ?_ ?_
      · intro h2
        replace h2 := dec_t h2
        have hx0 : x = 0 := by
          have : x.toNat = 0 := by simpa using h2
          exact UInt8.toNat_inj.1 this
        refine W_skip (at_then ?_)
        refine W_block ?_
        refine W_region ?_
        refine op_move rfl (.slice _ _ _) rfl ?_
        refine op_slice_lo rfl el_23 sz_5 rfl rfl (by omega) (by omega) ?_
        refine op_assign rfl (.slice _ _ _) rfl ?_
        refine op_nil (at_block (at_then ?_))
        refine ⟨(k + 1, cutA a c 1 1, c - 1), rfl, ⟨rfl, trivial⟩, ⟨by dsimp only; omega, ?_, by dsimp only; omega, ?_, rfl⟩, by dsimp only; omega⟩
        · dsimp only
          have := R.cut 1 c (by omega)
          rw [List.drop_drop] at this
          exact this
        · dsimp only
          rw [take_snoc hxl, allZ, List.all_append, hx0]
          have hz' : (l.take k).all (fun b => b == 0) = true := hz
          rw [hz']; rfl
      · intro h2
        replace h2 := dec_f h2
        have hx0 : ¬ x = 0 := by
          rintro rfl
          simp at h2
        have hnz : allZ l = false := by
          rw [Bool.eq_false_iff]; intro hall
          rw [allZ, List.all_eq_true] at hall
          have := hall x (List.mem_of_getElem? hxl)
          exact hx0 (by simpa using this)
        refine W_exit (exit_then (exit_then (exit_here (at_then ?_))))
        refine W_seq ?_
        refine W_rseq ?_
        refine op_move rfl (.slice _ _ _) rfl ?_
        refine op_len rfl el_23 rfl ?_
        refine op_eql rfl rfl rfl ?_
        refine op_nil (at_then ?_)
        refine W_cond _ rfl ?_ ?_
        · intro h3
          replace h3 := dec_t h3
          omega
        · intro h3
          replace h3 := dec_f h3
          refine W_skip (at_then ?_)
          refine W_rseq ?_
          refine op_move rfl (.slice _ _ _) rfl ?_
          refine op_assign rfl (.slice _ _ _) rfl ?_
          refine op_nil (at_then ?_)
          refine W_ret (leave1 (v := (.slice _ _ _)) rfl rfl rfl ?_)
          exact ⟨⟨_, _, _, rfl, by rw [hnz, decide_eq_true (by omega)]; rfl, by omega⟩, rfl⟩
    · intro h1
      replace h1 := dec_f h1
      have hke : k = l.length := by omega
      subst hke
      rw [List.take_length] at hz
      refine op_skip rfl ?_
      refine op_skip rfl ?_
      refine op_skip rfl ?_
      refine op_skip rfl ?_
      refine op_skip rfl ?_
      refine op_pick0 rfl rfl (.bool _) rfl ?_
      refine op_nil (at_then ?_)
      refine W_cond0 rfl ?_
      refine W_exit (exit_then (exit_then (exit_here (at_then ?_))))
      refine W_seq ?_
      refine W_rseq ?_
      refine op_move rfl (.slice _ _ _) rfl ?_
      refine op_len rfl el_23 rfl ?_
      refine op_eql rfl rfl rfl ?_
      refine op_nil (at_then ?_)
      refine W_cond _ rfl ?_ ?_
      · intro h3
        replace h3 := dec_t h3
        refine W_rseq ?_
        refine op_assign rfl (.slice _ _ _) rfl ?_
        refine op_nil (at_then ?_)
        refine W_ret (ret_then (leave1 (v := (.slice _ _ _)) rfl rfl rfl ?_))
        exact ⟨⟨_, _, _, rfl, by rw [hz]; rfl, by omega⟩, rfl⟩
      · intro h3
        replace h3 := dec_f h3
        omega

set_option maxRecDepth 20000 in
theorem trim_ok (a : Option Addr) (c n : Nat) (l : List UInt8) (w : World) (R : Rd w a 1 B8 l) (hn : l.length = n) (hm : n ≤ 9223372036854775807) (hc : l.length ≤ c) :
    Ret Tryz.prog 199 #[.slice a n c, str [0]] w fun v w' => (∃ a' n' c', v = .slice a' n' c' ∧ decide (0 < n') = !allZ l ∧ n' ≤ n) ∧ w = w' := by
  subst hn
  refine ret_of_W (fn := Tryz.f199) Tryz.func199 rfl [.slice a l.length c, str [0]] rfl (by kernel_rfl) ?_
  refine W_rseq ?_
  refine op_assign rfl (.slice _ _ _) rfl ?_
  refine op_nil (at_then ?_)
  refine W_seq ?_
  refine W_rseq ?_
  refine op_move rfl (.slice _ _ _) rfl ?_
  refine op_len rfl el_23 rfl ?_
  refine op_eql rfl rfl rfl ?_
  refine op_nil (at_then ?_)
  refine W_cond _ rfl ?_ ?_
  · intro h1
    replace h1 := dec_t h1
    have hl : l = [] := List.eq_nil_of_length_eq_zero (by omega)
    subst hl
    refine W_rseq ?_
    refine op_assign rfl (.slice _ _ _) rfl ?_
    refine op_nil (at_then ?_)
    refine W_ret (ret_then (leave1 (v := (.slice _ _ _)) rfl rfl rfl ?_))
    exact ⟨⟨_, _, _, rfl, rfl, Nat.le_refl _⟩, rfl⟩
  · intro h1
    replace h1 := dec_f h1
    refine W_skip (at_then ?_)
    refine W_seq ?_
    refine W_rseq ?_
    refine op_move rfl (.string _) rfl ?_
    refine op_streq (l := [0]) (m := []) rfl rfl rfl ?_
    refine op_nil (at_then ?_)
    refine W_cond0 rfl ?_
    refine W_skip (at_then ?_)
    refine W_seq ?_
    refine W_rseq ?_
    refine op_move rfl (.string _) rfl ?_
    refine op_slen (l := [0]) rfl un_9 rfl ?_
    refine op_eql rfl rfl rfl ?_
    refine op_move rfl (.bool _) rfl ?_
    refine op_move rfl (.string _) rfl ?_
    refine op_sindex (l := [0]) 0 rfl un_9 rfl rfl (by decide) rfl ?_
    refine op_lss rfl rfl rfl ?_
    refine op_pick1 rfl rfl (.bool _) rfl ?_
    refine op_nil (at_then ?_)
    refine W_cond1 rfl ?_
    refine W_rseq ?_
    refine op_move rfl (.slice _ _ _) rfl ?_
    refine op_move rfl (.string _) rfl ?_
    refine op_sindex (l := [0]) 0 rfl un_9 rfl rfl (by decide) rfl ?_
    refine op_call rfl ca_221 (trimb_ok a c l.length l w R rfl hm hc) rfl ?_
    rintro v w ⟨⟨a', n', c', rfl, hz, hle⟩, rfl⟩
    refine op_assign rfl (.slice _ _ _) rfl ?_
    refine op_nil (at_then ?_)
    refine W_ret (ret_then (leave1 (v := (.slice _ _ _)) rfl rfl rfl ?_))
    exact ⟨⟨_, _, _, rfl, hz, hle⟩, rfl⟩

end Go.Proofs.YtbkadlngijkmmaaGreatDoor

/- Blocks that are sealed. -/
namespace Go.Proofs.YtbkadlngijkmmaaGreatDoor
open Go.GV
attribute [local irreducible] Wops W Wq

def le4 (s : Nat) : List UInt8 := (List.range 4).map fun i => UInt8.ofNat (s / 2 ^ (8 * i))
def headB (k : UInt8) (l : List UInt8) : List UInt8 := k :: (putN l.length 2 ++ (l ++ List.replicate (505 - l.length) 0))
def sealB (k : UInt8) (l : List UInt8) : List UInt8 := headB k l ++ le4 (sumW (headB k l)).toNat
def sealE (k : UInt8) (l : List UInt8) : Int := bif decide (k.toNat = 0) then 1 else bif decide (505 < l.length) then 6 else 0
theorem head_len {k : UInt8} {l : List UInt8} (h : l.length ≤ 505) : (headB k l).length = 508 := by simp [headB, putN_len]; omega
theorem seal_len {k : UInt8} {l : List UInt8} (h : l.length ≤ 505) : (sealB k l).length = 512 := by simp [sealB, head_len h, le4]

/-- A slice of bytes that may be read. -/
structure Bytes (w w' : World) (v : Value) (l : List UInt8) : Prop where
  ex : ∃ a c, v = .slice a l.length c ∧ Rd w' a 1 B8 l ∧ l.length ≤ c ∧ w.heap.size ≤ (adr a).block
  ext : Ext [] w w'

def SealPost (k : UInt8) (l : List UInt8) (w : World) (v : Value) (w' : World) : Prop :=
  (sealE k l ≠ 0 ∧ v = .tuple #[.slice none 0 0, .int .i64 (sealE k l)] ∧ Ext [] w w') ∨
  (sealE k l = 0 ∧ ∃ s, v = .tuple #[s, .int .i64 0] ∧ Bytes w w' s (sealB k l))

theorem zeros_map (n : Nat) : List.replicate n (Value.int .u8 0) = (List.replicate n (0 : UInt8)).map bv := by rw [List.map_replicate]; rfl
theorem le4_take {s i : Nat} (h : i < 4) : (le4 s).take (i + 1) = (le4 s).take i ++ [UInt8.ofNat (s / 2 ^ (8 * i))] := take_snoc (range_get h)
theorem le4_len (s : Nat) : (le4 s).length = 4 := by simp [le4]

theorem over_bytes (A B C M : List UInt8) (h : B.length = M.length) : over ((A ++ (B ++ C)).map bv) A.length (M.map bv) = (A ++ (M ++ C)).map bv := by
  have := over_mid (A.map bv) (B.map bv) (C.map bv) (M.map bv) (by simpa using h)
  simpa using this
theorem seal_copy1 (k : UInt8) (n : Nat) : over (List.replicate 512 (Value.int .u8 0)) 0 (((k :: putN n 2).map bv).take 512) = ((k :: putN n 2) ++ (List.replicate 509 0)).map bv := by
  rw [List.take_of_length_le (by simp [putN_len])]
  have h := over_bytes [] (List.replicate 3 0) (List.replicate 509 0) (k :: putN n 2) (by simp [putN_len])
  rw [List.nil_append, List.nil_append, List.replicate_append_replicate] at h
  rw [zeros_map]
  exact h
theorem seal_copy2 (k : UInt8) (l : List UInt8) (h : l.length ≤ 505) : over (((k :: putN l.length 2) ++ (List.replicate 509 0)).map bv) 3 ((l.map bv).take 509) = (headB k l ++ List.replicate 4 0).map bv := by
  rw [List.take_of_length_le (by simp; omega)]
  have h2 := over_bytes (k :: putN l.length 2) (List.replicate l.length 0) (List.replicate (509 - l.length) 0) l (by simp)
  rw [List.replicate_append_replicate, show l.length + (509 - l.length) = 509 by omega] at h2
  rw [show (k :: putN l.length 2).length = 3 by simp [putN_len]] at h2
  rw [h2, headB]
  have h3 : List.replicate (509 - l.length) (0 : UInt8) = List.replicate (505 - l.length) 0 ++ List.replicate 4 0 := by rw [List.replicate_append_replicate]; congr 1; omega
  rw [h3]; simp
theorem set_map (l : List UInt8) (i : Nat) (x : UInt8) : (l.map bv).set i (bv x) = (l.set i x).map bv := by rw [List.map_set]
theorem seal_set (A T : List UInt8) (i : Nat) (x : UInt8) (hA : A.length = 508) (hT : T.length = i) (hi : i < 4) : (A ++ (T ++ List.replicate (4 - i) 0)).set (508 + i) x = A ++ ((T ++ [x]) ++ List.replicate (4 - (i + 1)) 0) := by
  rw [List.set_append, if_neg (by omega), List.set_append, if_neg (by omega)]
  rw [show 508 + i - A.length - T.length = 0 by omega, show 4 - i = (4 - (i + 1)) + 1 by omega, List.replicate_succ]
  simp
theorem take_app508 {A B : List UInt8} (h : A.length = 508) : (A ++ B).take 508 = A := by rw [List.take_append_of_le_length (by omega), List.take_of_length_le (by omega)]

set_option maxRecDepth 20000 in
set_option maxHeartbeats 2000000 in
theorem seal_ok (k : UInt8) (a : Option Addr) (c n : Nat) (l : List UInt8) (w : World) (R : Rd w a 1 B8 l) (hn : l.length = n) (hm : n ≤ 9223372036854775807) :
    Ret Tryz.prog 151 #[bv k, .slice a n c] w fun v w' => SealPost k l w v w' := by
  subst hn
  obtain ⟨w0, rfl⟩ : ∃ w0, w0 = w := ⟨_, rfl⟩
  have H := Ctx.start w0 []
  have hkb := lt_byte k
  refine ret_of_W (fn := Tryz.f151) Tryz.func151 rfl [bv k, .slice a l.length c] rfl (by kernel_rfl) ?_
  refine W_rseq ?_
  refine op_assign rfl (.slice _ _ _) rfl ?_
  refine op_assign rfl (.int _ _) rfl ?_
  refine op_nil (at_then ?_)
  refine W_seq ?_
  refine W_block ?_
  refine W_rseq ?_
  refine op_move rfl (.int _ _) rfl ?_
  refine op_eql rfl rfl rfl ?_
  refine op_assign rfl (.bool _) rfl ?_
  refine op_nil (at_then ?_)
  refine W_cond _ rfl ?_ ?_
  · intro h1
    replace h1 := dec_t h1
    have he : sealE k l = 1 := by rw [sealE, decide_eq_true (show k.toNat = 0 by omega)]; rfl
    refine W_rseq ?_
    refine op_assign rfl (.slice _ _ _) rfl ?_
    refine op_assign rfl (.int _ _) rfl ?_
    refine op_nil (at_then ?_)
    refine W_ret (ret_block (ret_then (leave2 (v1 := (.slice _ _ _)) (v2 := (.int _ _)) rfl rfl rfl rfl ?_)))
    exact .inl ⟨by rw [he]; decide, by rw [he], H.ext⟩
  · intro h1
    replace h1 := dec_f h1
    refine W_rseq ?_
    refine op_move rfl (.slice _ _ _) rfl ?_
    refine op_len rfl el_23 rfl ?_
    refine op_gtr rfl rfl rfl ?_
    refine op_assign rfl (.bool _) rfl ?_
    refine op_nil (at_then ?_)
    refine W_cond _ rfl ?_ ?_
    · intro h2
      replace h2 := dec_t h2
      have he : sealE k l = 6 := by rw [sealE, decide_eq_false (show ¬ k.toNat = 0 by omega), decide_eq_true (show 505 < l.length by omega)]; rfl
      refine W_rseq ?_
      refine op_assign rfl (.slice _ _ _) rfl ?_
      refine op_assign rfl (.int _ _) rfl ?_
      refine op_nil (at_then ?_)
      refine W_ret (ret_block (ret_then (leave2 (v1 := (.slice _ _ _)) (v2 := (.int _ _)) rfl rfl rfl rfl ?_)))
      exact .inl ⟨by rw [he]; decide, by rw [he], H.ext⟩
    · intro h2
      replace h2 := dec_f h2
      have he : sealE k l = 0 := by rw [sealE, decide_eq_false (show ¬ k.toNat = 0 by omega), decide_eq_false (show ¬ 505 < l.length by omega)]; rfl
      refine W_skip (at_block (at_then ?_))
      refine W_rseq ?_
      refine op_alloc rfl zc_247 H ?_
      rintro b6 w - H
      refine op_nil (at_then ?_)
      refine W_sseqz [([0, 1, 3, 4, 5], 2), ([], 6), ([], 7)] (fun _ => True) [] mixed (by kernel_rfl) (trivial) ?_
      refine seg_cons rfl rfl ?_
      refine t_sliceA rfl ar_247 sz_5 rfl ?_
      refine t_move rfl (.int _ _) rfl ?_
      refine t_move rfl (.slice _ _ _) rfl ?_
      refine t_len rfl el_23 rfl ?_
      refine t_conv_u64 rfl rfl un_3 un_152 (by omega) (by omega) ?_
      refine t_nil ?_
      replace H := H.drew
      refine op_build1 [bv k] (bv k) rfl el_23 sz_5 zc_5 rfl (by decide) (by decide) rfl rfl rfl H ?_
      rintro b18 w - H
      have R18 : Rd w (some ⟨b18, 0, none⟩) 1 B8 [k] := Rd.of_bl (r := []) (H.get at0) rfl (fun x _ => rfl)
      refine op_nil (at_seg (trivial) ?_)
      refine seg_cons rfl rfl ?_
      refine t_nil ?_
      refine op_call rfl ca_152 (put_ok (some ⟨b18, 0, none⟩) 1 1 [k] l.length 2 _ R18 rfl (by omega) (by omega)) rfl ?_
      rintro v w F
      obtain ⟨a22, c22, rfl, R22, -⟩ := Fresh.rdB F
      replace H := H.call F.ext
      have hp : putB [k] l.length 2 = k :: putN l.length 2 := rfl
      rw [hp] at R22 ⊢
      refine op_nil (at_seg (trivial) ?_)
      refine seg_cons rfl rfl ?_
      refine t_nil ?_
      refine op_copy ((k :: putN l.length 2).map bv) rfl el_23 sz_5 rfl rfl (by simp [putN_len]) (bv_one _) (Rd.appB R22) H at1 (by simp) ?_
      rintro w H
      rw [seal_copy1] at H
      replace H : Ctx w0 [] w [(b6, Bl 247 (((k :: putN l.length 2) ++ (List.replicate 509 0)).map bv))] := H.tail
      refine op_nil (at_seg (trivial) ?_)
      refine seg_nil ?_
      refine W_rseq ?_
      refine op_sliceA_lo rfl ar_247 sz_5 rfl rfl (by omega) (by omega) ?_
      refine op_move rfl (.slice _ _ _) rfl ?_
      refine op_copy (l.map bv) rfl el_23 sz_5 rfl rfl (by simp) (bv_one _) (Rd.appB (R.ext0 H.ext)) H at0 (by simp [putN_len]) ?_
      rintro w H
      replace H : Ctx w0 [] w [(b6, Bl 247 (over (((k :: putN l.length 2) ++ (List.replicate 509 0)).map bv) 3 ((l.map bv).take 509)))] := H
      rw [seal_copy2 k l (by omega)] at H
      have hl508 := head_len (k := k) (l := l) (by omega)
      have R6 : Rd w (some ⟨b6, 0, none⟩) 1 B8 (headB k l ++ List.replicate 4 0) := rd_blB (H.get at0)
      have R8 := R6.take 508
      rw [take_app508 hl508] at R8
      refine op_nil (at_then ?_)
      refine W_rseq ?_
      refine op_sliceA_hi rfl ar_247 sz_5 rfl rfl (by omega) (by omega) ?_
      refine op_call rfl ca_191 (sum_ok (some ⟨b6, 0, none⟩) 512 508 (headB k l) _ R8 hl508 (by omega)) rfl ?_
      rintro v w ⟨rfl, rfl⟩
      refine op_assign rfl (.int _ _) rfl ?_
      refine op_nil (at_then ?_)
      refine W_seq ?_
      refine W_rseq ?_
      refine op_sliceA_lo rfl ar_247 sz_5 rfl rfl (by omega) (by omega) ?_
      refine op_len rfl el_23 rfl ?_
      refine op_move rfl (.int _ _) rfl ?_
      refine op_nil (at_then ?_)
      refine W_block ?_
      have hs := lt_word (sumW (headB k l))
      generalize hsv : (sumW (headB k l)).toNat = sv at hs
      refine W_loop 8793945538816 (α := Nat) (fun i => [(31, .int .i64 i)]) (fun i w' => i ≤ 4 ∧ Ctx w0 [] w' [(b6, Bl 247 ((headB k l ++ ((le4 sv).take i ++ List.replicate (4 - i) 0)).map bv))]) (fun i => 4 - i) 0 rfl ?_ ?_ ?_
      · exact ⟨rfl, trivial⟩
      · exact ⟨Nat.zero_le _, H⟩
      · rintro i j w ⟨hi, H⟩
        refine W_rseq ?_
        refine op_lss rfl rfl rfl ?_
        refine op_nil (at_then ?_)
        refine W_seq ?_
        refine W_cond _ rfl ?_ ?_
        · intro h3
          replace h3 := dec_t h3
          refine W_skip (at_then ?_)
          refine W_seq ?_
          refine W_block ?_
          refine W_rseq ?_
          refine op_move rfl (.int _ _) rfl ?_
          refine op_assign rfl (.int _ _) rfl ?_
          refine op_nil (at_then ?_)
          refine W_region ?_
          refine op_move rfl (.int _ _) rfl ?_
          refine op_add_i64 rfl rfl rfl (by omega) (by omega) ?_
          refine op_move rfl (.int _ _) rfl ?_
          refine op_move rfl (.int _ _) rfl ?_
          refine op_mul_i64 rfl rfl rfl (by omega) (by omega) ?_
          rw [show (8 : Int) * (i : Int) = ((8 * i : Nat) : Int) from by simp]
          refine op_shr_u32 rfl rfl rfl (by omega) ?_
          refine op_convn_u8 rfl rfl un_244 un_5 ?_
          rw [ofNat_val]
          refine op_indexArr rfl ar_247 sz_5 rfl rfl (by omega) (by omega) ?_
          refine op_stb (bv _) rfl sz_5 rfl rfl rfl H at0 (by simp [hl508, le4_len]; omega) ?_
          rintro w H
          rw [show 0 + ((508 : Int) + (i : Int)).toNat * 1 = 508 + i by omega, set_map, seal_set _ _ i _ hl508 (by rw [List.length_take, le4_len]; omega) (by omega), ← le4_take (by omega)] at H
          refine op_nil (at_block (at_then ?_))
          refine W_region ?_
          refine op_add_i64 rfl rfl rfl (by omega) (by omega) ?_
          refine op_move rfl (.int _ _) rfl ?_
          refine op_nil (at_then ?_)
          exact ⟨i + 1, rfl, ⟨rfl, trivial⟩, ⟨by omega, H⟩, by omega⟩
        · intro h3
          replace h3 := dec_f h3
          have hi4 : i = 4 := by omega
          subst hi4
          refine W_exit (exit_then (exit_then (exit_here (at_then ?_))))
          refine W_rseq ?_
          refine op_sliceA rfl ar_247 sz_5 rfl ?_
          refine op_assign rfl (.slice _ _ _) rfl ?_
          refine op_assign rfl (.int _ _) rfl ?_
          refine op_nil (at_then ?_)
          refine W_ret (leave2 (v1 := (.slice _ _ _)) (v2 := (.int _ _)) rfl rfl rfl rfl ?_)
          refine .inr ⟨he, _, rfl, ?_⟩
          have hfin : sealB k l = headB k l ++ ((le4 sv).take 4 ++ List.replicate (4 - 4) 0) := by
            rw [sealB, hsv, List.take_of_length_le (by rw [le4_len]; exact Nat.le_refl _)]; simp
          refine ⟨⟨some ⟨b6, 0, none⟩, 512, by rw [seal_len (by omega)], ?_, by rw [seal_len (by omega)]; exact Nat.le_refl _, (H.own _ (List.mem_cons_self ..)).elim (fun h => by cases h) id⟩, H.ext⟩
          rw [hfin]
          exact rd_blB (H.get at0)

def preB (k : UInt8) (l : List UInt8) (z : Nat) : List UInt8 := (k :: putN l.length 2) ++ (l ++ List.replicate z 0)
end Go.Proofs.YtbkadlngijkmmaaGreatDoor

/- Blocks that are opened. -/
namespace Go.Proofs.YtbkadlngijkmmaaGreatDoor
open Go.GV
attribute [local irreducible] Wops W Wq Wt

def kindB (b : List UInt8) : UInt8 := (b[0]?).getD 0
def numB (b : List UInt8) : Nat := numN ((b.drop 1).take 2)
def restB (b : List UInt8) : List UInt8 := (b.drop 3).take 505
def bodyB (b : List UInt8) : List UInt8 := (restB b).take (numB b)
def openB (b : List UInt8) : Bool := !decide ((kindB b).toNat = 0) && (decide (numB b ≤ 505) && allZ ((restB b).drop (numB b)))
def openE (b : List UInt8) : Int := bif !(decide (b.length = 512) && rightW b) then 9 else bif openB b then 0 else 5
def OpenPost (b : List UInt8) (w : World) (v : Value) (w' : World) : Prop :=
  (openE b ≠ 0 ∧ v = .tuple #[.int .u8 0, .slice none 0 0, .int .i64 (openE b)] ∧ Ext [] w w') ∨
  (openE b = 0 ∧ ∃ s, v = .tuple #[bv (kindB b), s, .int .i64 0] ∧ Fresh w w' 5 1 s ((bodyB b).map bv))

theorem openE_9 {b : List UInt8} (h : (!(decide (b.length = 512) && rightW b)) = true) : openE b = 9 := by rw [openE, h]; rfl
theorem openE_5 {b : List UInt8} (h : (decide (b.length = 512) && rightW b) = true) (h5 : openB b = false) : openE b = 5 := by rw [openE, h, h5]; rfl
theorem openE_0 {b : List UInt8} (h : (decide (b.length = 512) && rightW b) = true) (h5 : openB b = true) : openE b = 0 := by rw [openE, h, h5]; rfl
theorem rest_len {b : List UInt8} (h : b.length = 512) : (restB b).length = 505 := by simp [restB, h]
theorem kind_at {b : List UInt8} (h : b.length = 512) : b[0]? = some (kindB b) := by
  obtain ⟨x, hx⟩ := get_some (l := b) (i := 0) (by omega)
  rw [kindB, hx]; rfl

set_option maxRecDepth 20000 in
set_option maxHeartbeats 2000000 in
theorem open_ok (a : Option Addr) (c n : Nat) (b : List UInt8) (w : World) (R : Rd w a 1 B8 b) (hn : b.length = n) (hm : n ≤ 9223372036854775799) (hc : b.length ≤ c) :
    Ret Tryz.prog 166 #[.slice a n c] w fun v w' => OpenPost b w v w' := by
  subst hn
  obtain ⟨w0, rfl⟩ : ∃ w0, w0 = w := ⟨_, rfl⟩
  have H := Ctx.start w0 []
  refine ret_of_W (fn := Tryz.f166) Tryz.func166 rfl [.slice a b.length c] rfl (by kernel_rfl) ?_
  refine W_rseq ?_
  refine op_assign rfl (.int _ _) rfl ?_
  refine op_assign rfl (.slice _ _ _) rfl ?_
  refine op_assign rfl (.int _ _) rfl ?_
  refine op_nil (at_then ?_)
  refine W_seq ?_
  refine W_rseq (Wops_join (α := Unit) 130560 (fun _ => [(16, .bool (!(decide (b.length = 512) && rightW b)))]) (fun _ w' => Ctx w0 [] w' []) rfl ?_ ?_)
  · refine op_move rfl (.slice _ _ _) rfl ?_
    refine op_len rfl el_23 rfl ?_
    refine op_neq rfl rfl rfl ?_
    refine op_move rfl (.bool _) rfl ?_
    refine Wops_split 12 rfl ?_ ?_
    · intro h1
      replace h1 := ndec_t h1
      refine op_skip rfl ?_
      refine op_skip rfl ?_
      refine op_skip rfl ?_
      refine op_pick1 rfl rfl (.bool _) rfl ?_
      refine op_nil ?_
      exact ⟨rfl, (), rfl, ⟨congrArg Value.bool (by rw [Bool.eq_iff_iff]; simp_all; try omega), trivial⟩, H⟩
    · intro h2
      replace h2 := ndec_f h2
      refine op_move rfl (.slice _ _ _) rfl ?_
      refine op_call rfl ca_198 (right_ok a c b _ (R.ext0 H.ext) (by omega) hc) rfl ?_
      rintro v w ⟨rfl, rfl⟩
      refine op_not rfl rfl ?_
      refine op_pick0 rfl rfl (.bool _) rfl ?_
      refine op_nil ?_
      exact ⟨rfl, (), rfl, ⟨congrArg Value.bool (by rw [Bool.eq_iff_iff]; simp_all; try omega), trivial⟩, H⟩
  rintro - j16 w H
  refine W_cond _ rfl ?_ ?_
  · intro h1
    replace h1 := nvar_t h1
    have he := openE_9 (b := b) (by rw [h1]; rfl)
    refine W_rseq ?_
    refine op_assign rfl (.int _ _) rfl ?_
    refine op_assign rfl (.slice _ _ _) rfl ?_
    refine op_assign rfl (.int _ _) rfl ?_
    refine op_nil (at_then ?_)
    refine W_ret (ret_then (leave3 (v1 := (.int _ _)) (v2 := (.slice _ _ _)) (v3 := (.int _ _)) rfl rfl rfl rfl rfl ?_))
    exact .inl ⟨by rw [he]; decide, by rw [he], H.ext⟩
  · intro h1
    replace h1 := nvar_f h1
    have hlr : (decide (b.length = 512) && rightW b) = true := h1
    simp only [Bool.and_eq_true, decide_eq_true_eq] at h1
    obtain ⟨h512, hright⟩ := h1
    have hrl := rest_len h512
    have hk := kind_at h512
    have hkb := lt_byte (kindB b)
    have hnb : numB b < 65536 := by
      have := numN_lt ((b.drop 1).take 2)
      have h2 : ((b.drop 1).take 2).length = 2 := by rw [List.length_take, List.length_drop]; omega
      rw [h2] at this
      exact this
    have hte : takeE b 1 2 = 0 := by
      unfold takeE
      rw [decide_eq_true (show (1 : Int) ≤ (b.length : Int) by omega), decide_eq_true (show (2 : Int) ≤ (b.length : Int) - 1 by omega)]
      rfl
    have htv : takeV b 1 2 = .tuple #[.int .u64 (numB b : Int), .int .i64 3, .int .i64 0] := by rw [takeV, hte]; rfl
    have R8 : Rd w0 (cutA a c 3 1) 1 B8 (restB b) := (R.cut 3 c hc).take 505
    refine W_skip (at_then ?_)
    refine W_rseq ?_
    refine op_move rfl (.slice _ _ _) rfl ?_
    refine op_call rfl ca_146 (otake_ok a c b.length b 1 2 _ (R.ext0 H.ext) rfl (by omega) hc) rfl ?_
    rintro v w ⟨rfl, hx⟩
    rw [htv]
    replace H := H.call hx
    refine op_move rfl (.tuple _) rfl ?_
    refine op_extract rfl rfl rfl ?_
    refine op_extract rfl rfl rfl ?_
    refine op_extract rfl rfl rfl ?_
    refine op_assign rfl (.int _ _) rfl ?_
    refine op_assign rfl (.int _ _) rfl ?_
    refine op_assign rfl (.int _ _) rfl ?_
    refine op_nil (at_then ?_)
    refine W_rseq ?_
    refine op_move rfl (.slice _ _ _) rfl ?_
    refine op_move rfl (.int _ _) rfl ?_
    refine op_move rfl (.slice _ _ _) rfl ?_
    refine op_len rfl el_23 rfl ?_
    refine op_sub_i64 rfl rfl rfl (by omega) (by omega) ?_
    refine op_slice_lohi rfl el_23 sz_5 rfl rfl rfl (by omega) (by omega) (by omega) ?_
    rw [show ((b.length : Int) - 4).toNat - ((3 : Int)).toNat = 505 from by omega]
    refine op_assign rfl (.slice _ _ _) rfl ?_
    refine op_nil (at_then ?_)
    refine W_seq ?_
    refine W_block ?_
    refine W_seq ?_
    refine W_rseq ?_
    refine op_move rfl (.slice _ _ _) rfl ?_
    first | refine op_indexRd R rfl el_23 sz_5 rfl rfl (by omega) (by omega) (by first | rfl | omega) ?_ | refine op_indexAddr rfl el_23 sz_5 rfl rfl (by omega) (by omega) ?_
    first | refine op_ldb rfl ag_5 rfl H (by first | exact at0 | exact at1 | exact at2 | exact at3 | exact at4 | exact at5 | exact at6 | exact at7 | exact at8 | exact at9) rfl ?_ | refine op_ld rfl ag_5 rfl ((R.ext0 H.ext).one (f := bv) hk) ?_
    refine op_eql rfl rfl rfl ?_
    refine op_assign rfl (.bool _) rfl ?_
    refine op_nil (at_then ?_)
    refine W_csplit 29 rfl ?_ ?_
    · intro h2
      replace h2 := dec_t h2
      have he := openE_5 hlr (by rw [openB, decide_eq_true (show (kindB b).toNat = 0 by omega)]; rfl)
      refine W_skip (at_then ?_)
      refine W_cond1 rfl ?_
      refine W_rseq ?_
      refine op_assign rfl (.int _ _) rfl ?_
      refine op_assign rfl (.slice _ _ _) rfl ?_
      refine op_assign rfl (.int _ _) rfl ?_
      refine op_nil (at_then ?_)
      refine W_ret (ret_block (ret_then (leave3 (v1 := (.int _ _)) (v2 := (.slice _ _ _)) (v3 := (.int _ _)) rfl rfl rfl rfl rfl ?_)))
      exact .inl ⟨by rw [he]; decide, by rw [he], H.ext⟩
    · intro h2
      replace h2 := dec_f h2
      refine W_region ?_
      refine op_move rfl (.int _ _) rfl ?_
      refine op_move rfl (.slice _ _ _) rfl ?_
      refine op_len rfl el_23 rfl ?_
      refine op_conv_u64 rfl rfl un_3 un_152 (by omega) (by omega) ?_
      refine op_gtr rfl rfl rfl ?_
      refine op_assign rfl (.bool _) rfl ?_
      refine op_nil (at_then ?_)
      refine W_csplit 29 rfl ?_ ?_
      · intro h3
        replace h3 := dec_t h3
        have he := openE_5 hlr (by rw [openB, decide_eq_false (show ¬ numB b ≤ 505 by omega)]; simp)
        refine W_rseq ?_
        refine op_assign rfl (.int _ _) rfl ?_
        refine op_assign rfl (.slice _ _ _) rfl ?_
        refine op_assign rfl (.int _ _) rfl ?_
        refine op_nil (at_then ?_)
        refine W_ret (ret_block (ret_then (leave3 (v1 := (.int _ _)) (v2 := (.slice _ _ _)) (v3 := (.int _ _)) rfl rfl rfl rfl rfl ?_)))
        exact .inl ⟨by rw [he]; decide, by rw [he], H.ext⟩
      · intro h3
        replace h3 := dec_f h3
        have hcut := (R8.ext0 H.ext).cut (numB b) (c - 3) (by omega)
        refine W_rseq ?_
        refine op_move rfl (.slice _ _ _) rfl ?_
        refine op_move rfl (.int _ _) rfl ?_
        refine op_slice_lo rfl el_23 sz_5 rfl rfl (by omega) (by omega) ?_
        refine op_call rfl ca_199 (trim_ok _ (c - 3 - numB b) (505 - numB b) ((restB b).drop (numB b)) _ hcut (by rw [List.length_drop]; omega) (by omega) (by rw [List.length_drop]; omega)) rfl ?_
        rintro v w ⟨⟨a', n', c', rfl, hz, hle⟩, rfl⟩
        refine op_len rfl el_23 rfl ?_
        refine op_gtr rfl rfl rfl ?_
        rw [show decide ((0 : Int) < (n' : Int)) = !allZ ((restB b).drop (numB b)) from by rw [← hz]; exact decide_eq_decide.2 (by omega)]
        refine op_assign rfl (.bool _) rfl ?_
        refine op_nil (at_then ?_)
        refine W_cond _ rfl ?_ ?_
        · intro h4
          have hz4 : allZ ((restB b).drop (numB b)) = false := by simpa using h4
          have he := openE_5 hlr (by rw [openB, hz4]; simp)
          refine W_rseq ?_
          refine op_assign rfl (.int _ _) rfl ?_
          refine op_assign rfl (.slice _ _ _) rfl ?_
          refine op_assign rfl (.int _ _) rfl ?_
          refine op_nil (at_then ?_)
          refine W_ret (ret_block (ret_then (leave3 (v1 := (.int _ _)) (v2 := (.slice _ _ _)) (v3 := (.int _ _)) rfl rfl rfl rfl rfl ?_)))
          exact .inl ⟨by rw [he]; decide, by rw [he], H.ext⟩
        · intro h4
          have hz4 : allZ ((restB b).drop (numB b)) = true := by simpa using h4
          have he := openE_0 hlr (by rw [openB, hz4, decide_eq_false (show ¬ (kindB b).toNat = 0 by omega), decide_eq_true (show numB b ≤ 505 by omega)]; rfl)
          obtain ⟨wS, rfl⟩ : ∃ x, x = w := ⟨_, rfl⟩
          refine W_skip (at_block (at_then ?_))
          refine W_sseqz [([0, 1, 2, 3, 4, 5], 6), ([7, 8], 9)] (fun x => Ext [] wS x) [] mixed (by kernel_rfl) (Ext.drew [] wS) ?_
          refine seg_cons rfl rfl ?_
          refine t_move rfl (.slice _ _ _) rfl ?_
          first | refine t_indexRd R rfl el_23 sz_5 rfl rfl (by omega) (by omega) (by first | rfl | omega) ?_ | refine t_indexRd R rfl el_23 sz_5 rfl rfl (by omega) (by omega) (by first | rfl | omega) ?_ | refine t_indexAddr rfl el_23 sz_5 rfl rfl (by omega) (by omega) ?_
          first | refine t_ldb rfl ag_5 rfl (fun _ hx => H.call hx) (by first | exact at0 | exact at1 | exact at2 | exact at3 | exact at4 | exact at5 | exact at6 | exact at7 | exact at8 | exact at9) rfl ?_ | refine t_ld rfl ag_5 rfl (fun _ hx => (R.ext0 (H.ext.trans hx)).one (f := bv) hk) ?_
          refine t_move rfl (.slice _ _ _) rfl ?_
          refine t_move rfl (.int _ _) rfl ?_
          refine t_slice_hi rfl el_23 sz_5 rfl rfl (by omega) (by omega) ?_
          refine t_nil ?_
          replace H := H.drew
          refine op_call rfl ca_119 (clone_ok (cutA a c 3 1) (c - 3) (numB b) (bodyB b) _ ((R8.ext0 H.ext).take (numB b)) (by rw [bodyB, List.length_take]; omega) (by omega)) rfl ?_
          rintro v w ⟨F, -⟩
          obtain ⟨a52, n52, c52, full52, rfl, -⟩ := F.ex
          refine op_nil (at_seg ((Ext.drew [] wS).trans F.ext) ?_)
          refine seg_cons rfl rfl ?_
          refine t_assign rfl (.int _ _) rfl ?_
          refine t_assign rfl (.slice _ _ _) rfl ?_
          refine t_nil ?_
          refine op_assign rfl (.int _ _) rfl ?_
          refine op_nil (at_seg ((Ext.drew [] wS).trans F.ext) ?_)
          refine seg_nil ?_
          refine W_ret (leave3 (v1 := (.int _ _)) (v2 := (.slice _ _ _)) (v3 := (.int _ _)) rfl rfl rfl rfl rfl ?_)
          exact .inr ⟨he, _, rfl, Fresh.since F H.ext⟩


/-! ### The reference -/
theorem allZ_iff (l : List UInt8) : allZ l = true ↔ l = List.replicate l.length 0 := by
  rw [allZ, List.all_eq_true, List.eq_replicate_iff]
  simp
theorem le4_want {s : Nat} (hs : s < 4294967296) : wantN (le4 s) = s := by
  unfold le4
  simp only [List.range, List.range.loop, List.map_cons, List.map_nil, wantN, UInt8.toNat_ofNat']
  omega

theorem Fresh.newB {w w' : World} {t : Nat} {s : Value} {xs : List UInt8} (h : Fresh w w' t 1 s (xs.map bv)) : ∃ a c, s = .slice a xs.length c ∧ Rd w' a 1 B8 xs ∧ xs.length ≤ c ∧ (xs = [] ∨ w.heap.size ≤ (adr a).block) := by
  obtain ⟨a, n, c, full, rfl, O, hb⟩ := h.ex
  have hn := O.num
  subst hn
  have R : Rd w' a 1 B8 xs := O.rd1 (t := t) fun x hx => (hb x hx).1
  refine ⟨a, c, rfl, R, O.le, ?_⟩
  by_cases h0 : xs = []
  · exact .inl h0
  · obtain ⟨b, o, rfl⟩ := R.some' h0
    exact .inr (hb _ (List.mem_singleton.2 rfl)).2
end Go.Proofs.YtbkadlngijkmmaaGreatDoor

/- The order of byte strings; lists of pairs that rise. -/
namespace Go.Proofs.YtbkadlngijkmmaaGreatDoor
open Go.GV

abbrev cmpB : List UInt8 → List UInt8 → Int := Go.Lib.compareBytes
theorem cmpB_self : ∀ a : List UInt8, cmpB a a = 0
  | [] => rfl
  | x :: a => by
    show (if x < x then _ else if x < x then _ else cmpB a a) = 0
    rw [if_neg (UInt8.lt_irrefl x), if_neg (UInt8.lt_irrefl x)]; exact cmpB_self a
theorem cmpB_cons (x y : UInt8) (a b : List UInt8) : cmpB (x :: a) (y :: b) = if x < y then -1 else if y < x then 1 else cmpB a b := rfl
theorem cmpB_range : ∀ a b : List UInt8, cmpB a b = -1 ∨ cmpB a b = 0 ∨ cmpB a b = 1
  | [], [] => .inr (.inl rfl)
  | [], _ :: _ => .inl rfl
  | _ :: _, [] => .inr (.inr rfl)
  | x :: a, y :: b => by
    rw [cmpB_cons]
    split
    · exact .inl rfl
    · split
      · exact .inr (.inr rfl)
      · exact cmpB_range a b
theorem cmpB_eq : ∀ {a b : List UInt8}, cmpB a b = 0 → a = b
  | [], [], _ => rfl
  | [], _ :: _, h => by cases h
  | _ :: _, [], h => by cases h
  | x :: a, y :: b, h => by
    rw [cmpB_cons] at h
    split at h
    · cases h
    · rename_i h1
      split at h
      · cases h
      · rename_i h2
        rw [cmpB_eq h, show x = y from UInt8.le_antisymm (UInt8.not_lt.1 h2) (UInt8.not_lt.1 h1)]
theorem cmpB_swap : ∀ a b : List UInt8, cmpB b a = - cmpB a b
  | [], [] => rfl
  | [], _ :: _ => rfl
  | _ :: _, [] => rfl
  | x :: a, y :: b => by
    rw [cmpB_cons, cmpB_cons]
    by_cases h : x < y
    · rw [if_pos h, if_neg (fun h2 => UInt8.lt_irrefl x (UInt8.lt_trans h h2)), if_pos h]; rfl
    · rw [if_neg h]
      by_cases h2 : y < x
      · rw [if_pos h2, if_pos h2, if_neg h]
      · rw [if_neg h2, if_neg h2, if_neg h]; exact cmpB_swap a b
def ltB (a b : List UInt8) : Prop := cmpB a b = -1
instance (a b : List UInt8) : Decidable (ltB a b) := inferInstanceAs (Decidable (cmpB a b = -1))
theorem ltB_irrefl (a : List UInt8) : ¬ ltB a a := fun h => by rw [ltB, cmpB_self] at h; cases h
theorem ltB_trans : ∀ {a b c : List UInt8}, ltB a b → ltB b c → ltB a c
  | [], [], _, h, _ => by cases h
  | [], _ :: _, [], _, h => by cases h
  | [], _ :: _, _ :: _, _, _ => rfl
  | _ :: _, [], _, h, _ => by cases h
  | _ :: _, _ :: _, [], _, h => by cases h
  | x :: a, y :: b, z :: c, h1, h2 => by
    unfold ltB at h1 h2 ⊢
    rw [cmpB_cons] at h1 h2 ⊢
    by_cases hxy : x < y
    · by_cases hyz : y < z
      · rw [if_pos (UInt8.lt_trans hxy hyz)]
      · rw [if_neg hyz] at h2
        by_cases hzy : z < y
        · rw [if_pos hzy] at h2; cases h2
        · have : y = z := UInt8.le_antisymm (UInt8.not_lt.1 hzy) (UInt8.not_lt.1 hyz)
          subst this; rw [if_pos hxy]
    · rw [if_neg hxy] at h1
      by_cases hyx : y < x
      · rw [if_pos hyx] at h1; cases h1
      · rw [if_neg hyx] at h1
        have : x = y := UInt8.le_antisymm (UInt8.not_lt.1 hyx) (UInt8.not_lt.1 hxy)
        subst this
        by_cases hyz : x < z
        · rw [if_pos hyz]
        · rw [if_neg hyz] at h2 ⊢
          by_cases hzy : z < x
          · rw [if_pos hzy] at h2; cases h2
          · rw [if_neg hzy] at h2 ⊢
            exact ltB_trans h1 h2
theorem ltB_asymm {a b : List UInt8} (h : ltB a b) : ¬ ltB b a := fun h2 => ltB_irrefl a (ltB_trans h h2)
theorem ltB_gt {a b : List UInt8} : cmpB a b = 1 ↔ ltB b a := by
  unfold ltB; rw [cmpB_swap a b]; omega
theorem ltB_tri (a b : List UInt8) : ltB a b ∨ a = b ∨ ltB b a := by
  rcases cmpB_range a b with h | h | h
  · exact .inl h
  · exact .inr (.inl (cmpB_eq h))
  · exact .inr (.inr (ltB_gt.1 h))
theorem ltB_ne {a b : List UInt8} (h : ltB a b) : a ≠ b := fun e => ltB_irrefl b (e ▸ h)
theorem cmpB_le {a b : List UInt8} : cmpB a b ≤ 0 ↔ ¬ ltB b a := by
  rw [← ltB_gt]; rcases cmpB_range a b with h | h | h <;> omega
theorem cmpB_lt {a b : List UInt8} : cmpB a b < 0 ↔ ltB a b := by
  unfold ltB; rcases cmpB_range a b with h | h | h <;> omega
theorem cmpB_ge {a b : List UInt8} : 0 ≤ cmpB a b ↔ ¬ ltB a b := by
  rw [← cmpB_lt]; omega
theorem lt_leB {a b c : List UInt8} (h1 : ltB a b) (h2 : ¬ ltB c b) : ltB a c := by
  rcases ltB_tri b c with h | h | h
  · exact ltB_trans h1 h
  · exact h ▸ h1
  · exact absurd h h2

/-! ### Pairs -/
abbrev Pr := List UInt8 × List UInt8
def Rising (L : List Pr) : Prop := L.Pairwise fun x y => ltB x.1 y.1
def putP (L : List Pr) (k v : List UInt8) : List Pr := L.filter (fun p => decide (ltB p.1 k)) ++ (k, v) :: L.filter (fun p => decide (ltB k p.1))
def cutP (L : List Pr) (k : List UInt8) : List Pr := L.filter fun p => !decide (p.1 = k)
def getP (L : List Pr) (k : List UInt8) : Option (List UInt8) := (L.find? fun p => decide (p.1 = k)).map (·.2)

theorem filter_all {α : Type} {f : α → Bool} {l : List α} (h : ∀ x ∈ l, f x = true) : l.filter f = l := List.filter_eq_self.2 h
theorem filter_none {α : Type} {f : α → Bool} {l : List α} (h : ∀ x ∈ l, f x = false) : l.filter f = [] := List.filter_eq_nil_iff.2 fun x hx => by rw [h x hx]; simp
theorem putP_mid {A L B : List Pr} {k v : List UInt8} (hA : ∀ p ∈ A, ltB p.1 k) (hB : ∀ p ∈ B, ltB k p.1) : putP (A ++ (L ++ B)) k v = A ++ (putP L k v ++ B) := by
  have f1 : B.filter (fun p => decide (ltB p.1 k)) = [] := filter_none fun p hp => decide_eq_false (ltB_asymm (hB p hp))
  have f2 : A.filter (fun p => decide (ltB k p.1)) = [] := filter_none fun p hp => decide_eq_false (ltB_asymm (hA p hp))
  have f3 : A.filter (fun p => decide (ltB p.1 k)) = A := filter_all fun p hp => decide_eq_true (hA p hp)
  have f4 : B.filter (fun p => decide (ltB k p.1)) = B := filter_all fun p hp => decide_eq_true (hB p hp)
  unfold putP
  rw [List.filter_append, List.filter_append, List.filter_append, List.filter_append, f1, f2, f3, f4, List.append_nil, List.nil_append, List.append_assoc, List.append_assoc, List.cons_append]
theorem cutP_mid {A L B : List Pr} {k : List UInt8} (hA : ∀ p ∈ A, ltB p.1 k) (hB : ∀ p ∈ B, ltB k p.1) : cutP (A ++ (L ++ B)) k = A ++ (cutP L k ++ B) := by
  have f1 : A.filter (fun p => !decide (p.1 = k)) = A := filter_all fun p hp => by rw [decide_eq_false (ltB_ne (hA p hp))]; rfl
  have f2 : B.filter (fun p => !decide (p.1 = k)) = B := filter_all fun p hp => by rw [decide_eq_false (fun e => ltB_ne (hB p hp) e.symm)]; rfl
  unfold cutP
  rw [List.filter_append, List.filter_append, f1, f2]
theorem getP_mid {A L B : List Pr} {k : List UInt8} (hA : ∀ p ∈ A, ltB p.1 k) (hB : ∀ p ∈ B, ltB k p.1) : getP (A ++ (L ++ B)) k = getP L k := by
  have f1 : A.find? (fun p => decide (p.1 = k)) = none := List.find?_eq_none.2 fun p hp => by simpa using ltB_ne (hA p hp)
  have f2 : B.find? (fun p => decide (p.1 = k)) = none := List.find?_eq_none.2 fun p hp => by simpa using fun e => ltB_ne (hB p hp) e.symm
  unfold getP
  rw [List.find?_append, List.find?_append, f1, f2, Option.none_or, Option.or_none]
theorem putP_mem {L : List Pr} {k v : List UInt8} {p : Pr} (h : p ∈ putP L k v) : p = (k, v) ∨ p ∈ L := by
  unfold putP at h
  rcases List.mem_append.1 h with h | h
  · exact .inr ((List.mem_filter.1 h).1)
  · rcases List.mem_cons.1 h with h | h
    · exact .inl h
    · exact .inr ((List.mem_filter.1 h).1)
theorem cutP_mem {L : List Pr} {k : List UInt8} {p : Pr} (h : p ∈ cutP L k) : p ∈ L := (List.mem_filter.1 h).1
theorem putP_rising {L : List Pr} (h : Rising L) (k v : List UInt8) : Rising (putP L k v) := by
  unfold Rising putP
  rw [List.pairwise_append]
  refine ⟨h.sublist List.filter_sublist, ?_, fun x hx y hy => ?_⟩
  · rw [List.pairwise_cons]
    exact ⟨fun y hy => by simpa using (List.mem_filter.1 hy).2, h.sublist List.filter_sublist⟩
  · have h1 : ltB x.1 k := by simpa using (List.mem_filter.1 hx).2
    rcases List.mem_cons.1 hy with rfl | hy
    · exact h1
    · exact ltB_trans h1 (by simpa using (List.mem_filter.1 hy).2)
theorem cutP_rising {L : List Pr} (h : Rising L) (k : List UInt8) : Rising (cutP L k) := h.sublist List.filter_sublist
theorem putP_len (L : List Pr) (k v : List UInt8) (_ : Rising L) : (putP L k v).length ≤ L.length + 1 := by
  unfold putP
  have : ∀ L : List Pr, (L.filter fun p => decide (ltB p.1 k)).length + (L.filter fun p => decide (ltB k p.1)).length ≤ L.length := by
    intro L
    induction L with
    | nil => exact Nat.le_refl _
    | cons p L ih =>
      have ih := ih
      rw [List.filter_cons, List.filter_cons, List.length_cons]
      by_cases h1 : ltB p.1 k
      · rw [decide_eq_true h1, decide_eq_false (ltB_asymm h1)]
        simp only [if_true, Bool.false_eq_true, if_false, List.length_cons]; omega
      · rw [decide_eq_false h1]
        simp only [Bool.false_eq_true, if_false]
        split
        · rw [List.length_cons]; omega
        · omega
  rw [List.length_append, List.length_cons, ← Nat.add_assoc]
  exact Nat.succ_le_succ (this L)
theorem cutP_len (L : List Pr) (k : List UInt8) : (cutP L k).length ≤ L.length := List.length_filter_le ..
theorem getP_some {L : List Pr} (h : Rising L) {k v : List UInt8} : getP L k = some v ↔ (k, v) ∈ L := by
  unfold getP
  induction L with
  | nil => simp
  | cons p L ih =>
    have hp := (List.pairwise_cons.1 h)
    rw [List.find?_cons]
    by_cases e : p.1 = k
    · rw [decide_eq_true e]
      simp only [Option.map_some, Option.some.injEq, List.mem_cons]
      constructor
      · rintro rfl; exact .inl (by rw [← e])
      · rintro (h1 | h1)
        · rw [← h1]
        · exact absurd (e : p.1 = k) (ltB_ne (hp.1 _ h1))
    · rw [decide_eq_false e]
      simp only [List.mem_cons]
      rw [ih hp.2]
      exact ⟨.inr, fun h1 => h1.elim (fun h1 => absurd (by rw [← h1]) e) id⟩
theorem cutP_none {L : List Pr} {k : List UInt8} (h : getP L k = none) : cutP L k = L := by
  refine filter_all fun p hp => ?_
  unfold getP at h
  rw [Option.map_eq_none_iff, List.find?_eq_none] at h
  simpa using h p hp
theorem Rising.append {A B : List Pr} : Rising (A ++ B) ↔ Rising A ∧ Rising B ∧ ∀ x ∈ A, ∀ y ∈ B, ltB x.1 y.1 := List.pairwise_append

end Go.Proofs.YtbkadlngijkmmaaGreatDoor

/- What is sealed is opened. -/
namespace Go.Proofs.YtbkadlngijkmmaaGreatDoor
open Go.GV

theorem putN_succ (n k : Nat) : putN n (k + 1) = putN (n / 256) k ++ [UInt8.ofNat n] := by
  unfold putN
  rw [List.range_succ, List.map_append]
  congr 1
  · refine List.map_congr_left fun i hi => ?_
    have hi' := List.mem_range.1 hi
    rw [Nat.div_div_eq_div_mul, show (256 : Nat) = 2 ^ 8 from rfl, ← Nat.pow_add]
    congr 3
    omega
  · simp
theorem numN_putN (k : Nat) : ∀ n, numN (putN n k) = n % 256 ^ k := by
  induction k with
  | zero => intro n; simp [putN, numN, Nat.mod_one]
  | succ k ih =>
    intro n
    rw [putN_succ, numN_snoc, ih]
    have h1 : (UInt8.ofNat n).toNat = n % 256 := by simp [UInt8.toNat_ofNat']
    rw [h1, Nat.pow_succ, Nat.mul_comm (256 ^ k) 256, Nat.mod_mul]
    omega
theorem right_seal (k : UInt8) {l : List UInt8} (h : l.length ≤ 505) : rightW (sealB k l) = true := by
  have hl := seal_len (k := k) h
  have hh := head_len (k := k) h
  unfold rightW
  rw [hl]
  have h1 : (sealB k l).take (512 - 4) = headB k l := by unfold sealB; rw [show 512 - 4 = 508 from rfl]; exact take_app508 hh
  have h2 : (sealB k l).drop (512 - 4) = le4 (sumW (headB k l)).toNat := by
    unfold sealB
    rw [List.drop_append_of_le_length (by omega), List.drop_of_length_le (by omega), List.nil_append]
  rw [h1, h2, le4_want (sumW (headB k l)).isLt]
  simp
theorem kind_seal (k : UInt8) (l : List UInt8) : kindB (sealB k l) = k := rfl
theorem num_seal (k : UInt8) {l : List UInt8} (h : l.length ≤ 505) : numB (sealB k l) = l.length := by
  unfold numB
  have h1 : ((sealB k l).drop 1).take 2 = putN l.length 2 := by
    unfold sealB headB
    rw [List.cons_append, List.drop_one, List.tail_cons, List.append_assoc, List.take_append_of_le_length (Nat.le_of_eq (putN_len _ _).symm), List.take_of_length_le (Nat.le_of_eq (putN_len _ _))]
  rw [h1, numN_putN, Nat.mod_eq_of_lt (by omega)]
theorem rest_seal (k : UInt8) {l : List UInt8} (h : l.length ≤ 505) : restB (sealB k l) = l ++ List.replicate (505 - l.length) 0 := by
  unfold restB sealB headB
  have h1 : (k :: (putN l.length 2 ++ (l ++ List.replicate (505 - l.length) 0)) ++ le4 (sumW (k :: (putN l.length 2 ++ (l ++ List.replicate (505 - l.length) 0)))).toNat) =
      (k :: putN l.length 2) ++ ((l ++ List.replicate (505 - l.length) 0) ++ le4 (sumW (k :: (putN l.length 2 ++ (l ++ List.replicate (505 - l.length) 0)))).toNat) := by simp
  rw [h1, List.drop_append_of_le_length (by simp [putN_len]), List.drop_of_length_le (by simp [putN_len]), List.nil_append, List.take_append_of_le_length (by simp; omega), List.take_of_length_le (by simp; omega)]
theorem body_seal (k : UInt8) {l : List UInt8} (h : l.length ≤ 505) : bodyB (sealB k l) = l := by
  rw [bodyB, rest_seal k h, num_seal k h, List.take_append_of_le_length (Nat.le_refl _), List.take_of_length_le (Nat.le_refl _)]
theorem open_seal {k : UInt8} {l : List UInt8} (hk : k.toNat ≠ 0) (h : l.length ≤ 505) : openE (sealB k l) = 0 := by
  refine openE_0 ?_ ?_
  · rw [seal_len h, right_seal k h]; rfl
  · unfold openB
    rw [kind_seal, num_seal k h, rest_seal k h, List.drop_append_of_le_length (Nat.le_refl _), List.drop_of_length_le (Nat.le_refl _), List.nil_append, decide_eq_false hk, decide_eq_true h, (allZ_iff _).2 (by simp)]
    rfl

end Go.Proofs.YtbkadlngijkmmaaGreatDoor
