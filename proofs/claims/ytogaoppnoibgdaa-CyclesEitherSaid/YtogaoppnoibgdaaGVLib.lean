/- More on blocks and slices: what a call is lent and hands back; rows of a slice; lists under a map. It holds for every program. -/
import Derived.Test.YtogaoppnoibgdaaGVMore
namespace Go.GV
open Go

section
variable {w0 w w' : World} {S : List Nat} {L L1 L2 L1' : List (Nat × Obj)}

/-- A call is lent the first blocks. -/
theorem Ctx.lend (H : Ctx w0 S w (L1 ++ L2)) : Ctx w (L1.map (·.1)) w L1 :=
  ⟨Ext.refl _ _, fun x hx => H.blk x (List.mem_append_left _ hx), (List.pairwise_append.1 H.nd).1, fun _ hx => .inl (List.mem_map_of_mem hx)⟩

/-- .. and hands them back. -/
theorem Ctx.back (H : Ctx w0 S w (L1 ++ L2)) (H' : Ctx w (L1.map (·.1)) w' L1') : Ctx w0 S w' (L1' ++ L2) := by
  have hd := List.pairwise_append.1 H.nd
  have hk : ∀ x ∈ L1', (∃ y ∈ L1, y.1 = x.1) ∨ w.heap.size ≤ x.1 := fun x hx => by
    rcases H'.own x hx with h | h
    · rw [List.mem_map] at h; exact .inl h
    · exact .inr h
  have hn2 : ∀ y ∈ L2, y.1 ∉ L1.map (·.1) := fun y hy hm => by
    rw [List.mem_map] at hm
    obtain ⟨x, hx, he⟩ := hm
    exact hd.2.2 x hx y hy he
  refine ⟨H.ext.then H'.ext ?_, ?_, ?_, ?_⟩
  · intro x hx
    rw [List.mem_map] at hx
    obtain ⟨y, hy, rfl⟩ := hx
    exact H.own y (List.mem_append_left _ hy)
  · intro x hx
    rcases List.mem_append.1 hx with hx | hx
    · exact H'.blk x hx
    · have hb := H.blk x (List.mem_append_right _ hx)
      rw [H'.ext.block x.1 (heap_lt hb) (hn2 x hx)]
      exact hb
  · rw [List.pairwise_append]
    refine ⟨H'.nd, hd.2.1, fun x hx y hy => ?_⟩
    have hly := heap_lt (H.blk y (List.mem_append_right _ hy))
    rcases hk x hx with ⟨z, hz, he⟩ | h
    · rw [← he]; exact hd.2.2 z hz y hy
    · omega
  · intro x hx
    rcases List.mem_append.1 hx with hx | hx
    · rcases hk x hx with ⟨z, hz, he⟩ | h
      · rw [← he]; exact H.own z (List.mem_append_left _ hz)
      · exact .inr (Nat.le_trans H.size h)
    · exact H.own x (List.mem_append_right _ hx)

theorem Ctx.app_nil (H : Ctx w0 S w L) : Ctx w0 S w (L ++ []) := by simpa using H
theorem Ctx.nil_app (H : Ctx w0 S w (L ++ [])) : Ctx w0 S w L := by simpa using H
end

section
variable {w : World} {α : Type} {a : Option Addr} {s : Nat} {enc : α → List Value} {xs : List α}
theorem Rd.row (R : Rd w a s enc xs) {i : Nat} {x : α} (hx : xs[i]? = some x) (hs : (enc x).length = s) : ∀ j v, (enc x)[j]? = some v → w.cell? ⟨(adr a).block, (adr a).off + i * s + j, none⟩ = some v :=
  fun j v hv => R.cell i x hx j v hv (by rw [← hs]; exact (List.getElem?_eq_some_iff.1 hv).1)
theorem Rd.fld (R : Rd w a s enc xs) {i j : Nat} {x : α} {v : Value} (hx : xs[i]? = some x) (hs : (enc x).length = s) (hv : (enc x)[j]? = some v) : w.cell? ⟨(adr a).block, (adr a).off + i * s + j, none⟩ = some v := R.row hx hs j v hv
/-- One cell each. -/
theorem Rd.one {f : α → Value} (R : Rd w a 1 (fun x => [f x]) xs) {i : Nat} {x : α} (hx : xs[i]? = some x) : w.cell? ⟨(adr a).block, (adr a).off + i * 1, none⟩ = some (f x) := by
  have := R.cell i x hx 0 (f x) rfl (by omega)
  simpa using this
/-- What append asks of its source. -/
theorem Rd.app1 {f : α → Value} (R : Rd w a 1 (fun x => [f x]) xs) : ∀ j v, (xs.map f)[j]? = some v → ∃ p, a = some p ∧ w.cell? (p.add j) = some v := by
  intro j v hv
  rw [List.getElem?_map] at hv
  cases hx : xs[j]? with
  | none => rw [hx] at hv; cases hv
  | some x =>
    rw [hx] at hv
    injection hv with hv
    subst hv
    obtain ⟨b, o, rfl⟩ := R.some' (by rintro rfl; simp at hx)
    refine ⟨_, rfl, ?_⟩
    rw [add_none]
    have := R.one hx
    simpa [adr] using this
theorem flat_get (hs : ∀ x ∈ xs, (enc x).length = s) (h0 : 0 < s) : ∀ j, (xs.flatMap enc)[j]? = (xs[j / s]?).bind fun x => (enc x)[j % s]? := by
  induction xs with
  | nil => intro j; simp
  | cons x xs ih =>
    intro j
    have hx := hs x (by simp)
    have ih := ih (fun y hy => hs y (by simp [hy]))
    simp only [List.flatMap_cons]
    by_cases hj : j < s
    · rw [List.getElem?_append_left (by omega), Nat.div_eq_of_lt hj, Nat.mod_eq_of_lt hj]
      rfl
    · rw [List.getElem?_append_right (by omega), hx, ih]
      have h1 : j / s = (j - s) / s + 1 := by rw [Nat.div_eq_sub_div h0 (by omega)]
      have h2 : j % s = (j - s) % s := by rw [Nat.mod_eq_sub_mod (by omega)]
      rw [h1, h2]
      rfl
theorem Rd.app (R : Rd w a s enc xs) (hs : ∀ x ∈ xs, (enc x).length = s) (h0 : 0 < s) : ∀ j v, (xs.flatMap enc)[j]? = some v → ∃ p, a = some p ∧ w.cell? (p.add j) = some v := by
  intro j v hv
  rw [flat_get hs h0] at hv
  cases hx : xs[j / s]? with
  | none => rw [hx] at hv; cases hv
  | some x =>
    rw [hx] at hv
    have hc := R.cell _ x hx _ v hv (Nat.mod_lt _ h0)
    obtain ⟨b, o, rfl⟩ := R.some' (by rintro rfl; simp at hx)
    refine ⟨_, rfl, ?_⟩
    rw [add_none]
    simp only [adr] at hc
    rw [← hc]
    congr 2
    have := Nat.div_add_mod j s
    rw [Nat.mul_comm] at this
    omega
/-- A slice's beginning. -/
theorem Rd.take (R : Rd w a s enc xs) (n : Nat) : Rd w a s enc (xs.take n) :=
  ⟨fun h => R.some' (by rintro rfl; simp at h), fun i x hx j v hv hj => R.cell i x (by
    rw [List.getElem?_take] at hx
    split at hx
    · exact hx
    · cases hx) j v hv hj⟩
/-- A slice's end: s[n:]. -/
theorem Rd.cut (R : Rd w a s enc xs) (n c : Nat) (hc : xs.length ≤ c) : Rd w (cutA a c n s) s enc (xs.drop n) := by
  unfold cutA
  by_cases hn : c = n
  · subst hn
    rw [List.drop_of_length_le hc]
    exact Rd.nil
  · rw [if_neg hn]
    refine ⟨fun h => ?_, fun i x hx j v hv hj => ?_⟩
    · obtain ⟨b, o, rfl⟩ := R.some' (by rintro rfl; simp at h)
      exact ⟨b, o + n * s, by simp [add_none]⟩
    · rw [List.getElem?_drop] at hx
      obtain ⟨b, o, rfl⟩ := R.some' (by rintro rfl; simp at hx)
      have := R.cell (n + i) x hx j v hv hj
      simp only [adr, Option.map_some, add_none] at this ⊢
      rw [← this]
      congr 2
      rw [Nat.add_mul]; omega
end

section
variable {P : Program} {r : Option Nat} {ops rest : List Oper} {Q : Exit → Env → World → Prop} {e : Env} {w w0 : World} {S : List Nat} {L : List (Nat × Obj)}
  {dst : Option Tmp} {ty : TypeId} {pos : String} {af : Array Edge} {g : Option (Nat × Bool)}
/-- []T{} -/
theorem op_build0 {t el : TypeId} {s : Nat} (hg : wants ⟨dst, .buildSlice t 0 #[], ty, pos, af, g⟩ ops e = true)
    (hu : elemT P t = some el) (hs : tsize P el = some s) (H : Ctx w0 S w L)
    (h : ∀ b w', Ctx w0 S w' (L ++ ent (some ⟨b, 0, none⟩) el []) → OS (some ⟨b, 0, none⟩) 0 0 s [] [] → Wops P r ops Q rest (put e dst (.slice (some ⟨b, 0, none⟩) 0 0)) w') :
    Wops P r ops Q (⟨dst, .buildSlice t 0 #[], ty, pos, af, g⟩ :: rest) e w := by
  refine op_val (w' := w.alloc (Bl el [])) (v := .slice (some ⟨w.heap.size, 0, none⟩) 0 0) hg rfl ?_ (h _ _ (Ctx.comm (L := [(w.heap.size, Bl el [])]) (H.alloc _)) ⟨(fun p hp => by injection hp with hp; subst hp; rfl), (fun hp => by cases hp), by simp, Nat.le_refl _, by simp⟩)
  have hr0 : (Array.range 0) = (#[] : Array Nat) := by apply Array.ext'; simp
  simp [execOp, Instr.buildSlice, run_under (elemT_u hu), run_size hs, hr0, Instr.fill, newRow, newObj, Sem.run]
  rfl
end

theorem range_get {α : Type} {n i : Nat} {f : Nat → α} (h : i < n) : ((List.range n).map f)[i]? = some (f i) := by
  rw [List.getElem?_map, List.getElem?_range h]; rfl
theorem range_set {α : Type} {n i : Nat} {f g : Nat → α} {v : α} (hv : g i = v) (h : ∀ j, j < n → j ≠ i → g j = f j) : ((List.range n).map f).set i v = (List.range n).map g := by
  apply List.ext_getElem?
  intro j
  rw [List.getElem?_set]
  by_cases hj : j < n
  · by_cases he : i = j
    · subst he
      rw [if_pos rfl, if_pos (by simpa using hj), range_get hj, hv]
    · rw [if_neg he, range_get hj, range_get hj, h j hj (Ne.symm he)]
  · rw [List.getElem?_eq_none (l := (List.range n).map g) (by simp; omega)]
    split
    · rw [if_neg (by simp; omega)]
    · rw [List.getElem?_eq_none (by simp; omega)]
section
variable {P : Program} {r : Option Nat} {ops rest : List Oper} {Q : Exit → Env → World → Prop} {e : Env} {w w0 : World} {S : List Nat} {L : List (Nat × Obj)}
  {dst : Option Tmp} {ty : TypeId} {pos : String} {af : Array Edge} {g : Option (Nat × Bool)} {C : World → Prop} {K : Env → Prop}
/-- A load out of a block of one cell each. -/
theorem op_ldr {t t2 : TypeId} {x : Operand} {b i j n : Nat} {f : Nat → Value} (k : Nat) (v : Value) (hg : wants ⟨dst, .load t x, ty, pos, af, g⟩ ops e = true) (ha : aggB P t = some false) (hx : ev e x = .pointer (some ⟨b, i, none⟩))
    (H : Ctx w0 S w L) (hj : L[j]? = some (b, Bl t2 ((List.range n).map f))) (hi : i = k) (hk : k < n) (hv : f k = v)
    (h : Wops P r ops Q rest (put e dst v) w) : Wops P r ops Q (⟨dst, .load t x, ty, pos, af, g⟩ :: rest) e w := by
  subst hi hv
  exact op_ldb hg ha hx H hj (range_get hk) h
theorem q_ldr {t t2 : TypeId} {x : Operand} {b i j n : Nat} {f : Nat → Value} (k : Nat) (v : Value) (hg : wants ⟨dst, .load t x, ty, pos, af, g⟩ ops e = true) (ha : aggB P t = some false) (hx : ev e x = .pointer (some ⟨b, i, none⟩))
    (H : ∀ w, C w → Ctx w0 S w L) (hj : L[j]? = some (b, Bl t2 ((List.range n).map f))) (hi : i = k) (hk : k < n) (hv : f k = v)
    (h : Wq P ops C K rest (put e dst v)) : Wq P ops C K (⟨dst, .load t x, ty, pos, af, g⟩ :: rest) e := by
  subst hi hv
  exact q_ldb hg ha hx H hj (range_get hk) h
/-- A store into such a block. -/
theorem op_str {t t2 : TypeId} {x y : Operand} {b i j n : Nat} {f : Nat → Value} (k : Nat) (f' : Nat → Value) (v : Value) (hg : wants ⟨dst, .store t x y, ty, pos, af, g⟩ ops e = true) (hs : tsize P t = some 1) (hx : ev e x = .pointer (some ⟨b, i, none⟩)) (hy : ev e y = v)
    (hv : oneCell v = true) (H : Ctx w0 S w L) (hj : L[j]? = some (b, Bl t2 ((List.range n).map f))) (hi : i = k) (hk : k < n) (h1 : f' k = v) (h2 : ∀ q, q < n → q ≠ k → f' q = f q)
    (h : ∀ w', Ctx w0 S w' (L.set j (b, Bl t2 ((List.range n).map f'))) → Wops P r ops Q rest (put e dst undef) w') : Wops P r ops Q (⟨dst, .store t x y, ty, pos, af, g⟩ :: rest) e w := by
  subst hi
  refine op_stb v hg hs hx hy hv H hj (by simpa using hk) (fun w' H' => h w' ?_)
  rw [range_set h1 h2] at H'
  exact H'
end

theorem any_not {α : Type} (p : α → Bool) (xs : List α) : (xs.any fun d => !p d) = !xs.all p := by
  induction xs with
  | nil => rfl
  | cons x xs ih => simp only [List.any_cons, List.all_cons, ih, Bool.not_and]

theorem get_some {α : Type} {l : List α} {i : Nat} (h : i < l.length) : ∃ x, l[i]? = some x := ⟨l[i], List.getElem?_eq_getElem h⟩
theorem get_lt {α : Type} {l : List α} {i : Nat} {x : α} (h : l[i]? = some x) : i < l.length := (List.getElem?_eq_some_iff.1 h).1
theorem take_snoc {α : Type} {l : List α} {i : Nat} {x : α} (h : l[i]? = some x) : l.take (i + 1) = l.take i ++ [x] := by
  rw [List.take_add_one, h]; rfl
theorem rep_range {α : Type} (n : Nat) (v : α) : List.replicate n v = (List.range n).map fun _ => v := by
  apply List.ext_getElem?
  intro j
  by_cases hj : j < n
  · rw [range_get hj, List.getElem?_replicate, if_pos hj]
  · rw [List.getElem?_eq_none (by simp; omega), List.getElem?_eq_none (by simp; omega)]

/-! ### A slice that a call has made and hands back -/
structure Fresh (w w' : World) (el : TypeId) (s : Nat) (v : Value) (l : List Value) : Prop where
  ex : ∃ a n c full, v = .slice a n c ∧ OS a n c s full l ∧ ∀ x ∈ ent a el full, w'.heap[x.1]? = some x.2 ∧ w.heap.size ≤ x.1
  ext : Ext [] w w'

theorem ent_nd {a : Option Addr} {t : TypeId} {full : List Value} : (ent a t full).Pairwise fun x y => x.1 ≠ y.1 := by
  cases a <;> simp [ent]

theorem Ctx.fresh {w0 w : World} {L : List (Nat × Obj)} {a : Option Addr} {el : TypeId} {full l : List Value} {n c s : Nat} (H : Ctx w0 [] w (L ++ ent a el full)) (O : OS a n c s full l) : Fresh w0 w el s (.slice a n c) l :=
  ⟨⟨a, n, c, full, rfl, O, fun x hx => ⟨H.blk x (List.mem_append_right _ hx), by
    rcases H.own x (List.mem_append_right _ hx) with h | h
    · cases h
    · exact h⟩⟩, H.ext⟩
theorem Fresh.nil {w0 w : World} {L : List (Nat × Obj)} (H : Ctx w0 [] w L) (el : TypeId) (s : Nat) : Fresh w0 w el s (.slice none 0 0) [] :=
  ⟨⟨none, 0, 0, [], rfl, OS.nil, by simp [ent]⟩, H.ext⟩
theorem flat1 {α : Type} {f : α → Value} (xs : List α) : xs.flatMap (fun x => [f x]) = xs.map f := by
  induction xs with
  | nil => rfl
  | cons x xs ih => simp [ih]
theorem OS.rd1 {α : Type} {w : World} {a : Option Addr} {n c : Nat} {t : TypeId} {full : List Value} {f : α → Value} {xs : List α} (h : OS a n c 1 full (xs.map f)) (hb : ∀ x ∈ ent a t full, w.heap[x.1]? = some x.2) :
    Rd w a 1 (fun x => [f x]) xs := OS.rd (by rw [flat1]; exact h) hb (by simp) (by omega)
theorem OS.num {α : Type} {a : Option Addr} {n c : Nat} {full : List Value} {f : α → Value} {xs : List α} (h : OS a n c 1 full (xs.map f)) : n = xs.length := by
  have := h.llen; simpa using this.symm
theorem OS.numN {α : Type} {a : Option Addr} {n c s : Nat} {full : List Value} {enc : α → List Value} {xs : List α} (h : OS a n c s full (xs.flatMap enc)) (hs : ∀ x ∈ xs, (enc x).length = s) (h0 : 0 < s) : n = xs.length := by
  have h1 := h.llen
  have h2 : ∀ xs : List α, (∀ x ∈ xs, (enc x).length = s) → (xs.flatMap enc).length = xs.length * s := by
    intro xs
    induction xs with
    | nil => simp
    | cons x xs ih =>
      intro hs
      simp only [List.flatMap_cons, List.length_append, List.length_cons, Nat.add_mul, Nat.one_mul]
      rw [ih (fun y hy => hs y (by simp [hy])), hs x (by simp)]
      omega
  rw [h2 xs hs] at h1
  exact (Nat.eq_of_mul_eq_mul_right h0 h1).symm
end Go.GV
