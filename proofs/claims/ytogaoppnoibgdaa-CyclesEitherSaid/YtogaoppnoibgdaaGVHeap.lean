/- Blocks of the heap that a call knows whole, and what it leaves alone. It holds for every program. -/
import Derived.Test.YtogaoppnoibgdaaGVRule
namespace Go.GV
open Go

/-- A block of cells. -/
def Bl (t : TypeId) (l : List Value) : Obj := .cells l.toArray t (0, 0)

/-- Only the blocks of S, and new ones, may have turned. -/
structure Ext (S : List Nat) (w w' : World) : Prop where
  os : w'.os = w.os
  tape : w'.tape = w.tape
  output : w'.output = w.output
  size : w.heap.size ≤ w'.heap.size
  block : ∀ k, k < w.heap.size → k ∉ S → w'.heap[k]? = w.heap[k]?

theorem Ext.refl (S : List Nat) (w : World) : Ext S w w := ⟨rfl, rfl, rfl, Nat.le_refl _, fun _ _ _ => rfl⟩
theorem Ext.trans {S : List Nat} {a b c : World} (h : Ext S a b) (k : Ext S b c) : Ext S a c :=
  ⟨k.os.trans h.os, k.tape.trans h.tape, k.output.trans h.output, Nat.le_trans h.size k.size, fun i hi hn => (k.block i (Nat.lt_of_lt_of_le hi h.size) hn).trans (h.block i hi hn)⟩
theorem Ext.mono {S S' : List Nat} {w w' : World} (h : Ext S w w') (hs : ∀ x, x ∈ S → x ∈ S') : Ext S' w w' :=
  ⟨h.os, h.tape, h.output, h.size, fun k hk hn => h.block k hk (fun hx => hn (hs _ hx))⟩
/-- Behind a step that turns only old blocks of S, or new ones. -/
theorem Ext.then {S S' : List Nat} {a b c : World} (h : Ext S a b) (k : Ext S' b c) (hs : ∀ x, x ∈ S' → x ∈ S ∨ a.heap.size ≤ x) : Ext S a c :=
  ⟨k.os.trans h.os, k.tape.trans h.tape, k.output.trans h.output, Nat.le_trans h.size k.size, fun i hi hn => by
    rw [k.block i (Nat.lt_of_lt_of_le hi h.size) (fun hx => by
      rcases hs i hx with hx | hx
      · exact hn hx
      · omega)]
    exact h.block i hi hn⟩
theorem Ext.drew (S : List Nat) (w : World) : Ext S w w.drew := ⟨rfl, rfl, rfl, Nat.le_refl _, fun _ _ _ => rfl⟩
theorem Ext.alloc (S : List Nat) (w : World) (o : Obj) : Ext S w (w.alloc o) :=
  ⟨rfl, rfl, rfl, by simp, fun k hk _ => by
    show (w.heap.push o)[k]? = _
    rw [Array.getElem?_push, if_neg (by omega)]⟩
theorem Ext.cell {S : List Nat} {w w' : World} (h : Ext S w w') {p : Addr} {v : Value} (hc : w.cell? p = some v) (hn : p.block ∉ S) : w'.cell? p = some v := by
  have hb := h.block p.block (World.block_lt_of_cell? w p hc) hn
  unfold World.cell? at hc ⊢
  rw [hb]
  exact hc
theorem Ext.frozen {S : List Nat} {w w' : World} (h : Ext S w w') {p : Addr} (hl : p.block < w.heap.size) (hn : p.block ∉ S) : w'.frozen? p = w.frozen? p := by
  unfold World.frozen?
  rw [h.block p.block hl hn]

theorem heap_lt {w : World} {b : Nat} {o : Obj} (h : w.heap[b]? = some o) : b < w.heap.size := by
  rcases Nat.lt_or_ge b w.heap.size with hl | hl
  · exact hl
  · rw [Array.getElem?_eq_none hl] at h; cases h

theorem cell_bl {w : World} {b : Nat} {t : TypeId} {l : List Value} (h : w.heap[b]? = some (Bl t l)) (i : Nat) : w.cell? ⟨b, i, none⟩ = l[i]? := by
  unfold World.cell?
  rw [h]
  simp [Bl]
theorem frozen_bl {w : World} {b : Nat} {t : TypeId} {l : List Value} (h : w.heap[b]? = some (Bl t l)) (i : Nat) : w.frozen? ⟨b, i, none⟩ = false := by
  unfold World.frozen?
  rw [h]
  simp [Bl]
theorem shape_bl {w : World} {b : Nat} {t : TypeId} {l : List Value} (h : w.heap[b]? = some (Bl t l)) : w.shape? b = some (t, l.length) := by
  unfold World.shape?
  rw [h]
  simp [Bl]

theorem setB_same {w : World} {b : Nat} {o o' : Obj} (h : w.heap[b]? = some o) : (w.putObj b o').heap[b]? = some o' := World.putObj_heap_same (heap_lt h)
theorem Ext.setB (w : World) (b : Nat) (o : Obj) : Ext [b] w (w.putObj b o) :=
  ⟨rfl, rfl, rfl, by simp, fun k _ hn => World.putObj_heap_other (by intro h; exact hn (by simp [h]))⟩

/-- A store into a block that is known whole. -/
theorem setCell_bl {w : World} {b : Nat} {t : TypeId} {l : List Value} (h : w.heap[b]? = some (Bl t l)) (i : Nat) (v : Value) :
    w.setCell ⟨b, i, none⟩ v = w.putObj b (Bl t (l.set i v)) := by
  have hb := heap_lt h
  unfold World.setCell World.putObj
  congr 1
  apply Array.ext_getElem?
  intro k
  rw [Array.getElem?_modify, Array.getElem?_setIfInBounds]
  by_cases hk : b = k
  · subst hk
    rw [if_pos rfl, if_pos rfl, if_pos hb, h]
    simp [Bl]
  · rw [if_neg hk, if_neg hk]

/-- What a call knows of the heap: since w0 only the blocks of S, and new ones, have turned; the blocks of L hold what is written there; no two of them are one; each is of S or new. -/
structure Ctx (w0 : World) (S : List Nat) (w : World) (L : List (Nat × Obj)) : Prop where
  ext : Ext S w0 w
  blk : ∀ x ∈ L, w.heap[x.1]? = some x.2
  nd : L.Pairwise (fun x y => x.1 ≠ y.1)
  own : ∀ x ∈ L, x.1 ∈ S ∨ w0.heap.size ≤ x.1

section
variable {w0 w w' : World} {S : List Nat} {L : List (Nat × Obj)} {b : Nat} {o o' : Obj}

theorem Ctx.start (w : World) (S : List Nat) : Ctx w S w [] := ⟨.refl _ _, by simp, List.Pairwise.nil, by simp⟩
theorem Ctx.start1 {w : World} {b : Nat} {o : Obj} (h : w.heap[b]? = some o) : Ctx w [b] w [(b, o)] :=
  ⟨.refl _ _, by simpa using h, by simp, by simp⟩

theorem Ctx.get (H : Ctx w0 S w L) {k : Nat} (hk : L[k]? = some (b, o)) : w.heap[b]? = some o :=
  H.blk (b, o) (List.mem_of_getElem? hk)

theorem Ctx.lt (H : Ctx w0 S w L) {k : Nat} (hk : L[k]? = some (b, o)) : b < w.heap.size := heap_lt (H.get hk)

theorem Ctx.size (H : Ctx w0 S w L) : w0.heap.size ≤ w.heap.size := H.ext.size

/-- A new block. -/
theorem Ctx.alloc (H : Ctx w0 S w L) (o : Obj) : Ctx w0 S (w.alloc o) ((w.heap.size, o) :: L) := by
  have he := Ext.alloc ([] : List Nat) w o
  refine ⟨H.ext.then he (fun x hx => by cases hx), ?_, ?_, ?_⟩
  · intro x hx
    rcases List.mem_cons.1 hx with rfl | hx
    · show (w.heap.push o)[w.heap.size]? = _
      simp
    · rw [he.block x.1 (heap_lt (H.blk x hx)) (by simp)]
      exact H.blk x hx
  · refine List.Pairwise.cons ?_ H.nd
    intro y hy
    have := heap_lt (H.blk y hy)
    show w.heap.size ≠ y.1
    omega
  · intro x hx
    rcases List.mem_cons.1 hx with rfl | hx
    · exact .inr H.size
    · exact H.own x hx

/-- Whatever leaves the blocks of L alone. -/
theorem Ctx.step (H : Ctx w0 S w L) {S' : List Nat} (he : Ext S' w w') (hd : ∀ x ∈ L, x.1 ∉ S') (hs : ∀ x, x ∈ S' → x ∈ S ∨ w0.heap.size ≤ x) : Ctx w0 S w' L :=
  ⟨H.ext.then he hs, fun x hx => by rw [he.block x.1 (heap_lt (H.blk x hx)) (hd x hx)]; exact H.blk x hx, H.nd, H.own⟩

theorem Ctx.call (H : Ctx w0 S w L) (he : Ext [] w w') : Ctx w0 S w' L := H.step he (by simp) (by simp)

theorem Ctx.drew (H : Ctx w0 S w L) : Ctx w0 S w.drew L := H.call (Ext.drew _ _)

/-- A block that a call has made joins. -/
theorem Ctx.add (H : Ctx w0 S w L) (h : w.heap[b]? = some o) (hb : b ∈ S ∨ w0.heap.size ≤ b) (hn : ∀ x ∈ L, x.1 ≠ b) : Ctx w0 S w ((b, o) :: L) :=
  ⟨H.ext, fun x hx => by
    rcases List.mem_cons.1 hx with rfl | hx
    · exact h
    · exact H.blk x hx, List.Pairwise.cons (fun y hy => Ne.symm (hn y hy)) H.nd, fun x hx => by
    rcases List.mem_cons.1 hx with rfl | hx
    · exact hb
    · exact H.own x hx⟩

/-- The same, of a block that was made since the world w. -/
theorem Ctx.callAdd (H : Ctx w0 S w L) (he : Ext [] w w') (h : w'.heap[b]? = some o) (hb : w.heap.size ≤ b) : Ctx w0 S w' ((b, o) :: L) :=
  (H.call he).add h (.inr (Nat.le_trans H.size hb)) (fun x hx => by have := heap_lt (H.blk x hx); omega)

/-- Some blocks alone, in another order. -/
theorem Ctx.sub (H : Ctx w0 S w L) {L' : List (Nat × Obj)} (hs : ∀ x ∈ L', x ∈ L) (hn : L'.Pairwise (fun x y => x.1 ≠ y.1)) : Ctx w0 S w L' :=
  ⟨H.ext, fun x hx => H.blk x (hs x hx), hn, fun x hx => H.own x (hs x hx)⟩

theorem Ctx.tail {x : Nat × Obj} (H : Ctx w0 S w (x :: L)) : Ctx w0 S w L :=
  ⟨H.ext, fun y hy => H.blk y (List.mem_cons_of_mem _ hy), (List.pairwise_cons.1 H.nd).2, fun y hy => H.own y (List.mem_cons_of_mem _ hy)⟩

theorem Ctx.drop (H : Ctx w0 S w L) (k : Nat) : Ctx w0 S w (L.drop k) :=
  ⟨H.ext, fun y hy => H.blk y (List.mem_of_mem_drop hy), H.nd.drop, fun y hy => H.own y (List.mem_of_mem_drop hy)⟩

theorem Ctx.erase (H : Ctx w0 S w L) (k : Nat) : Ctx w0 S w (L.eraseIdx k) :=
  ⟨H.ext, fun y hy => H.blk y (List.mem_of_mem_eraseIdx hy), H.nd.sublist (List.eraseIdx_sublist _ _), fun y hy => H.own y (List.mem_of_mem_eraseIdx hy)⟩

theorem pairwise_idx {L : List (Nat × Obj)} (hn : L.Pairwise (fun x y => x.1 ≠ y.1)) {i j : Nat} {x y : Nat × Obj} (hi : L[i]? = some x) (hj : L[j]? = some y) (hne : i ≠ j) : x.1 ≠ y.1 := by
  obtain ⟨hi', rfl⟩ := List.getElem?_eq_some_iff.1 hi
  obtain ⟨hj', rfl⟩ := List.getElem?_eq_some_iff.1 hj
  rw [List.pairwise_iff_getElem] at hn
  rcases Nat.lt_or_gt_of_ne hne with h | h
  · exact hn i j hi' hj' h
  · exact Ne.symm (hn j i hj' hi' h)

theorem Ctx.ne (H : Ctx w0 S w L) {i j : Nat} {b' : Nat} (hi : L[i]? = some (b, o)) (hj : L[j]? = some (b', o')) (hne : i ≠ j) : b ≠ b' := pairwise_idx H.nd hi hj hne

/-- A block of L is turned. -/
theorem Ctx.turn (H : Ctx w0 S w L) {k : Nat} (hk : L[k]? = some (b, o)) (o' : Obj) (he : Ext [b] w w') (hb : w'.heap[b]? = some o') : Ctx w0 S w' (L.set k (b, o')) := by
  have hkl : k < L.length := (List.getElem?_eq_some_iff.1 hk).1
  have hmem : (b, o) ∈ L := List.mem_of_getElem? hk
  refine ⟨H.ext.then he (fun x hx => by rw [List.mem_singleton] at hx; subst hx; exact H.own _ hmem), ?_, ?_, ?_⟩
  · intro x hx
    rw [List.mem_iff_getElem?] at hx
    obtain ⟨j, hj⟩ := hx
    rw [List.getElem?_set] at hj
    by_cases hjk : k = j
    · subst hjk
      rw [if_pos rfl, if_pos hkl] at hj
      simp only [Option.some.injEq] at hj
      subst hj
      exact hb
    · rw [if_neg hjk] at hj
      have hne := pairwise_idx H.nd hj hk (Ne.symm hjk)
      have hm := List.mem_of_getElem? hj
      rw [he.block x.1 (heap_lt (H.blk x hm)) (by simpa using hne)]
      exact H.blk x hm
  · rw [List.pairwise_iff_getElem]
    intro i j hi hj hij
    rw [List.length_set] at hi hj
    have hfst : ∀ (m : Nat) (hm : m < (L.set k (b, o')).length), ((L.set k (b, o'))[m]).1 = (L[m]'(by simpa using hm)).1 := by
      intro m hm
      rw [List.getElem_set]
      split
      · rename_i h
        subst h
        have := (List.getElem?_eq_some_iff.1 hk).2
        rw [this]
      · rfl
    rw [hfst i (by simpa using hi), hfst j (by simpa using hj)]
    have hn := H.nd
    rw [List.pairwise_iff_getElem] at hn
    exact hn i j hi hj hij
  · intro x hx
    rw [List.mem_iff_getElem?] at hx
    obtain ⟨j, hj⟩ := hx
    rw [List.getElem?_set] at hj
    by_cases hjk : k = j
    · subst hjk
      rw [if_pos rfl, if_pos hkl] at hj
      simp only [Option.some.injEq] at hj
      subst hj
      exact H.own (b, o) hmem
    · rw [if_neg hjk] at hj
      exact H.own x (List.mem_of_getElem? hj)

theorem Ctx.setB (H : Ctx w0 S w L) {k : Nat} (hk : L[k]? = some (b, o)) (o' : Obj) : Ctx w0 S (w.putObj b o') (L.set k (b, o')) :=
  H.turn hk o' (Ext.setB w b o') (setB_same (H.get hk))

/-- A cell of the world at the beginning, not of S, is as it was. -/
theorem Ctx.old (H : Ctx w0 S w L) {p : Addr} {v : Value} (hc : w0.cell? p = some v) (hn : p.block ∉ S) : w.cell? p = some v := H.ext.cell hc hn
theorem Ctx.old0 (H : Ctx w0 [] w L) {p : Addr} {v : Value} (hc : w0.cell? p = some v) : w.cell? p = some v := H.ext.cell hc (by simp)

theorem at0 {α : Type} {x : α} {l : List α} : (x :: l)[0]? = some x := rfl
theorem at1 {α : Type} {x x0 : α} {l : List α} : (x0 :: x :: l)[1]? = some x := rfl
theorem at2 {α : Type} {x x0 x1 : α} {l : List α} : (x0 :: x1 :: x :: l)[2]? = some x := rfl
theorem at3 {α : Type} {x x0 x1 x2 : α} {l : List α} : (x0 :: x1 :: x2 :: x :: l)[3]? = some x := rfl
theorem at4 {α : Type} {x x0 x1 x2 x3 : α} {l : List α} : (x0 :: x1 :: x2 :: x3 :: x :: l)[4]? = some x := rfl
theorem at5 {α : Type} {x x0 x1 x2 x3 x4 : α} {l : List α} : (x0 :: x1 :: x2 :: x3 :: x4 :: x :: l)[5]? = some x := rfl
theorem at6 {α : Type} {x x0 x1 x2 x3 x4 x5 : α} {l : List α} : (x0 :: x1 :: x2 :: x3 :: x4 :: x5 :: x :: l)[6]? = some x := rfl
theorem at7 {α : Type} {x x0 x1 x2 x3 x4 x5 x6 : α} {l : List α} : (x0 :: x1 :: x2 :: x3 :: x4 :: x5 :: x6 :: x :: l)[7]? = some x := rfl
theorem at8 {α : Type} {x x0 x1 x2 x3 x4 x5 x6 x7 : α} {l : List α} : (x0 :: x1 :: x2 :: x3 :: x4 :: x5 :: x6 :: x7 :: x :: l)[8]? = some x := rfl
theorem at9 {α : Type} {x x0 x1 x2 x3 x4 x5 x6 x7 x8 : α} {l : List α} : (x0 :: x1 :: x2 :: x3 :: x4 :: x5 :: x6 :: x7 :: x8 :: x :: l)[9]? = some x := rfl
end

/-! ### Slices that are read -/

def adr (a : Option Addr) : Addr := match a with | some ⟨b, o, _⟩ => ⟨b, o, none⟩ | none => ⟨0, 0, none⟩

/-- The slice at a, of elements of s cells each, reads as xs. -/
structure Rd (w : World) {α : Type} (a : Option Addr) (s : Nat) (enc : α → List Value) (xs : List α) : Prop where
  some' : xs ≠ [] → ∃ b o, a = some ⟨b, o, none⟩
  cell : ∀ i x, xs[i]? = some x → ∀ j v, (enc x)[j]? = some v → j < s → w.cell? ⟨(adr a).block, (adr a).off + i * s + j, none⟩ = some v

theorem Rd.ext {w w' : World} {α : Type} {a : Option Addr} {s : Nat} {enc : α → List Value} {xs : List α} {S : List Nat} (h : Rd w a s enc xs) (he : Ext S w w') (hn : (adr a).block ∉ S) : Rd w' a s enc xs :=
  ⟨h.some', fun i x hx j v hv hj => he.cell (h.cell i x hx j v hv hj) hn⟩
theorem Rd.ext0 {w w' : World} {α : Type} {a : Option Addr} {s : Nat} {enc : α → List Value} {xs : List α} (h : Rd w a s enc xs) (he : Ext [] w w') : Rd w' a s enc xs := h.ext he (by simp)
theorem Rd.nil {w : World} {α : Type} {a : Option Addr} {s : Nat} {enc : α → List Value} : Rd w a s enc [] := ⟨fun h => absurd rfl h, fun i x hx => by simp at hx⟩

theorem Rd.of_bl {w : World} {α : Type} {b : Nat} {t : TypeId} {s : Nat} {enc : α → List Value} {xs : List α} {l r : List Value} (h : w.heap[b]? = some (Bl t l)) (hl : l = xs.flatMap enc ++ r) (hs : ∀ x ∈ xs, (enc x).length = s) :
    Rd w (some ⟨b, 0, none⟩) s enc xs := by
  refine ⟨fun _ => ⟨b, 0, rfl⟩, fun i x hx j v hv hj => ?_⟩
  show w.cell? ⟨b, 0 + i * s + j, none⟩ = some v
  rw [cell_bl h, hl]
  clear h hl
  induction xs generalizing i with
  | nil => simp at hx
  | cons y ys ih =>
    have hy : (enc y).length = s := hs y (by simp)
    cases i with
    | zero =>
      simp only [List.getElem?_cons_zero, Option.some.injEq] at hx
      subst hx
      simp only [List.flatMap_cons, List.append_assoc]
      rw [List.getElem?_append_left (by omega)]
      simpa using hv
    | succ i =>
      simp only [List.flatMap_cons, List.append_assoc]
      have hge : (enc y).length ≤ 0 + (i + 1) * s + j := by rw [hy, Nat.succ_mul]; omega
      rw [List.getElem?_append_right hge]
      have := ih (fun x hx => hs x (by simp [hx])) i (by simpa using hx)
      rw [← this]
      congr 1
      rw [hy, Nat.succ_mul]; omega
end Go.GV
