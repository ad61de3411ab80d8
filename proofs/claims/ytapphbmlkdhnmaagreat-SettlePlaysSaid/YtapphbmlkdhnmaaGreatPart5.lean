/- Part 5 of the proof. -/
import Derived.Test.YtapphbmlkdhnmaaGreatPart2
import Derived.Test.YtapphbmlkdhnmaaGreatPart4
/- Plain law of heaps: what swaps keep. -/
namespace Go.Proofs.YtapphbmlkdhnmaaGreat
open Go.GV

abbrev Tg := Int × Nat
def lt7 (x y : Tg) : Prop := x.1 < y.1 ∨ (x.1 = y.1 ∧ x.2 < y.2)
instance (x y : Tg) : Decidable (lt7 x y) := by unfold lt7; infer_instance
def le7 (x y : Tg) : Prop := x.1 < y.1 ∨ (x.1 = y.1 ∧ x.2 ≤ y.2)
theorem le7.trans {x y z : Tg} (h : le7 x y) (k : le7 y z) : le7 x z := by unfold le7 at *; omega
theorem lt7.le {x y : Tg} (h : lt7 x y) : le7 x y := by unfold lt7 at h; unfold le7; omega
theorem le7_of {x y : Tg} (h : ¬ lt7 y x) : le7 x y := by unfold lt7 at h; unfold le7; omega
/-- Each stands behind none of the two below it. -/
def HeapL (L : List Tg) : Prop := ∀ i x y, 0 < i → L[i]? = some x → L[(i - 1) / 2]? = some y → le7 y x
def UpI (L : List Tg) (k : Nat) : Prop :=
  (∀ i x y, 0 < i → i ≠ k → L[i]? = some x → L[(i - 1) / 2]? = some y → le7 y x) ∧ ∀ c x y, 0 < k → 0 < c → (c - 1) / 2 = k → L[c]? = some x → L[(k - 1) / 2]? = some y → le7 y x
def DownI (L : List Tg) (k : Nat) : Prop :=
  (∀ i x y, 0 < i → (i - 1) / 2 ≠ k → L[i]? = some x → L[(i - 1) / 2]? = some y → le7 y x) ∧ ∀ c x y, 0 < k → 0 < c → (c - 1) / 2 = k → L[c]? = some x → L[(k - 1) / 2]? = some y → le7 y x
theorem swap_get {L : List Tg} {k o : Nat} {x y : Tg} (hx : L[k]? = some x) (hy : L[o]? = some y) (i : Nat) : ((L.set k y).set o x)[i]? = if i = o then some x else if i = k then some y else L[i]? := by
  have h1 : k < L.length := (List.getElem?_eq_some_iff.1 hx).1
  have h2 : o < L.length := (List.getElem?_eq_some_iff.1 hy).1
  by_cases e : i = o
  · subst e; rw [if_pos rfl, List.getElem?_set_self (by rw [List.length_set]; exact h2)]
  · rw [if_neg e, List.getElem?_set_ne (Ne.symm e)]
    by_cases e2 : i = k
    · subst e2; rw [if_pos rfl, List.getElem?_set_self h1]
    · rw [if_neg e2, List.getElem?_set_ne (Ne.symm e2)]
theorem UpI.done {L : List Tg} {k : Nat} (h : UpI L k) (h0 : ∀ x y, 0 < k → L[k]? = some x → L[(k - 1) / 2]? = some y → le7 y x) : HeapL L := fun i x y hi hx hy => by
  by_cases e : i = k
  · subst e; exact h0 x y hi hx hy
  · exact h.1 i x y hi e hx hy
theorem UpI.step {L : List Tg} {k : Nat} (h : UpI L k) {x y : Tg} (hk : 0 < k) (hx : L[k]? = some x) (hy : L[(k - 1) / 2]? = some y) (hlt : lt7 x y) : UpI ((L.set k y).set ((k - 1) / 2) x) ((k - 1) / 2) := by
  obtain ⟨o, ho⟩ : ∃ o, o = (k - 1) / 2 := ⟨_, rfl⟩
  rw [← ho] at hy ⊢
  have hko : k ≠ o := by omega
  refine ⟨fun i a b hi hio ha hb => ?_, fun c a b h0 hc hco ha hb => ?_⟩
  · rw [swap_get hx hy, if_neg hio] at ha
    rw [swap_get hx hy] at hb
    by_cases e : i = k
    · subst e
      rw [if_pos rfl] at ha
      rw [if_pos ho.symm] at hb
      cases ha; cases hb
      exact hlt.le
    · rw [if_neg e] at ha
      by_cases p1 : (i - 1) / 2 = o
      · rw [if_pos p1] at hb
        cases hb
        exact hlt.le.trans (h.1 i a y hi e ha (by rw [p1]; exact hy))
      · rw [if_neg p1] at hb
        by_cases p2 : (i - 1) / 2 = k
        · rw [if_pos p2] at hb
          cases hb
          exact h.2 i a _ hk hi p2 ha (by rw [← ho]; exact hy)
        · rw [if_neg p2] at hb
          exact h.1 i a b hi e ha hb
  · rw [swap_get hx hy, if_neg (by omega : c ≠ o)] at ha
    rw [swap_get hx hy, if_neg (by omega : (o - 1) / 2 ≠ o), if_neg (by omega : (o - 1) / 2 ≠ k)] at hb
    have hz := h.1 o y b h0 (Ne.symm hko) hy hb
    by_cases e : c = k
    · rw [if_pos e] at ha
      cases ha
      exact hz
    · rw [if_neg e] at ha
      exact hz.trans (h.1 c a y hc e ha (by rw [hco]; exact hy))
theorem DownI.none {L : List Tg} {k : Nat} (h : DownI L k) (hn : L.length ≤ 2 * k + 1) : HeapL L := fun i x y hi hx hy => by
  have hil : i < L.length := (List.getElem?_eq_some_iff.1 hx).1
  exact h.1 i x y hi (by omega) hx hy
/-- The lesser one of the two below. -/
def Least2 (L : List Tg) (k o : Nat) (y : Tg) : Prop := (o = 2 * k + 1 ∨ o = 2 * k + 2) ∧ L[o]? = some y ∧ ∀ i z, (i - 1) / 2 = k → 0 < i → L[i]? = some z → le7 y z
theorem DownI.done {L : List Tg} {k o : Nat} {x y : Tg} (h : DownI L k) (hx : L[k]? = some x) (hl : Least2 L k o y) (hn : ¬ lt7 y x) : HeapL L := fun i a b hi ha hb => by
  by_cases e : (i - 1) / 2 = k
  · rw [e, hx] at hb
    cases hb
    exact (le7_of hn).trans (hl.2.2 i a e hi ha)
  · exact h.1 i a b hi e ha hb
theorem DownI.step {L : List Tg} {k o : Nat} {x y : Tg} (h : DownI L k) (hx : L[k]? = some x) (hl : Least2 L k o y) (hlt : lt7 y x) : DownI ((L.set k y).set o x) o := by
  obtain ⟨ho, hy, hmin⟩ := hl
  have hko : k ≠ o := by omega
  have hpo : (o - 1) / 2 = k := by omega
  refine ⟨fun i a b hi hio ha hb => ?_, fun c a b h0 hc hco ha hb => ?_⟩
  · rw [swap_get hx hy, if_neg hio] at hb
    rw [swap_get hx hy] at ha
    by_cases p : (i - 1) / 2 = k
    · rw [if_pos p] at hb
      cases hb
      by_cases e : i = o
      · rw [if_pos e] at ha
        cases ha
        exact hlt.le
      · rw [if_neg e, if_neg (by omega : i ≠ k)] at ha
        exact hmin i a p hi ha
    · rw [if_neg p] at hb
      rw [if_neg (by omega : i ≠ o)] at ha
      by_cases e : i = k
      · rw [if_pos e] at ha
        cases ha
        subst e
        exact h.2 o _ b hi (by omega) hpo hy hb
      · rw [if_neg e] at ha
        exact h.1 i a b hi p ha hb
  · rw [swap_get hx hy, if_neg (by omega : c ≠ o), if_neg (by omega : c ≠ k)] at ha
    rw [swap_get hx hy, hpo, if_neg hko, if_pos rfl] at hb
    cases hb
    exact h.1 c a _ hc (by omega) ha (by rw [hco]; exact hy)
theorem HeapL.root {L : List Tg} (h : HeapL L) {r : Tg} (hr : L[0]? = some r) : ∀ (i : Nat) (x : Tg), L[i]? = some x → le7 r x := fun i => by
  induction i using Nat.strongRecOn with
  | _ i ih =>
    intro x hx
    by_cases e : i = 0
    · subst e
      rw [hr] at hx
      cases hx
      exact .inr ⟨rfl, Nat.le_refl _⟩
    · have hil : i < L.length := (List.getElem?_eq_some_iff.1 hx).1
      obtain ⟨y, hy⟩ : ∃ y, L[(i - 1) / 2]? = some y := ⟨_, List.getElem?_eq_getElem (by omega)⟩
      exact (ih _ (by omega) y hy).trans (h i x y (by omega) hx hy)
theorem HeapL.snoc {L : List Tg} (h : HeapL L) (z : Tg) : UpI (L ++ [z]) L.length := by
  have hg : ∀ (i : Nat) (x : Tg), i ≠ L.length → (L ++ [z])[i]? = some x → L[i]? = some x := fun i x hi hx => by
    have hil : i < (L ++ [z]).length := (List.getElem?_eq_some_iff.1 hx).1
    rw [List.length_append, List.length_singleton] at hil
    rwa [List.getElem?_append_left (by omega)] at hx
  refine ⟨fun i x y hi hn hx hy => ?_, fun c x y h0 hc hco hx hy => ?_⟩
  · have h1 := hg i x hn hx
    have hil : i < L.length := (List.getElem?_eq_some_iff.1 h1).1
    exact h i x y hi h1 (hg _ y (by omega) hy)
  · have hil : c < (L ++ [z]).length := (List.getElem?_eq_some_iff.1 hx).1
    rw [List.length_append, List.length_singleton] at hil
    omega
theorem HeapL.cut {x z : Tg} {L : List Tg} (h : HeapL (x :: L)) : DownI (((x :: L).set 0 z).take L.length) 0 := by
  have hg : ∀ (i : Nat) (a : Tg), 0 < i → (((x :: L).set 0 z).take L.length)[i]? = some a → (x :: L)[i]? = some a := fun i a hi ha => by
    rw [List.getElem?_take] at ha
    split at ha
    · rwa [List.getElem?_set_ne (by omega)] at ha
    · cases ha
  exact ⟨fun i a b hi hn ha hb => h i a b hi (hg i a hi ha) (hg _ b (by omega) hb), fun c a b h0 => absurd h0 (Nat.lt_irrefl 0)⟩

end Go.Proofs.YtapphbmlkdhnmaaGreat

/- Heaps of things: nothing but which things there are: the walks. -/
namespace Go.Proofs.YtapphbmlkdhnmaaGreat
open Go.GV
theorem ag_253_SeF : aggB Tryz.prog 253 = some false := by kernel_rfl
theorem ag_258_SeF : aggB Tryz.prog 258 = some true := by kernel_rfl
theorem ag_2_SeF : aggB Tryz.prog 2 = some false := by kernel_rfl
theorem ag_3_SeF : aggB Tryz.prog 3 = some false := by kernel_rfl
theorem ca_226_SeF : callable Tryz.prog 226 = true := by kernel_rfl
theorem el_253_SeF : elemT Tryz.prog 253 = some 258 := by kernel_rfl
theorem fo_255_0_SeF : fieldO Tryz.prog 255 0 = some 0 := by kernel_rfl
theorem fo_258_0_SeF : fieldO Tryz.prog 258 0 = some 0 := by kernel_rfl
theorem fo_258_1_SeF : fieldO Tryz.prog 258 1 = some 1 := by kernel_rfl
theorem mixed_SeF : Tryz.prog.follows .mixedOrders = true := by kernel_rfl
theorem pl_255_SeF : placesB Tryz.prog 255 = some [(0, 1)] := by kernel_rfl
theorem sz_258_SeF : tsize Tryz.prog 258 = some 2 := by kernel_rfl
theorem un_231_SeF : Tryz.prog.underlying 231 = some (.pointer 255) := by kernel_rfl
theorem zc_255_SeF : zcells Tryz.prog 255 = some ([.slice none 0 0]) := by kernel_rfl
attribute [local irreducible] Wops W Wq Wt

/-! ### Rows of a block -/
theorem flat_len {α : Type} {enc : α → List Value} {s : Nat} : ∀ {L : List α}, (∀ x ∈ L, (enc x).length = s) → (L.flatMap enc).length = L.length * s
  | [], _ => by simp
  | x :: L, h => by
    rw [List.flatMap_cons, List.length_append, h x (List.mem_cons_self ..), flat_len fun y hy => h y (List.mem_cons_of_mem _ hy), List.length_cons, Nat.add_mul, Nat.one_mul, Nat.add_comm]
theorem set_split {α : Type} {L : List α} {i : Nat} {x : α} (hx : L[i]? = some x) (y : α) : L = L.take i ++ x :: L.drop (i + 1) ∧ L.set i y = L.take i ++ y :: L.drop (i + 1) := by
  have hi := get_lt hx
  have hg : L[i] = x := by rw [List.getElem?_eq_getElem hi] at hx; exact Option.some.inj hx
  refine ⟨?_, ?_⟩
  · rw [← hg, ← List.drop_eq_getElem_cons hi, List.take_append_drop]
  · rw [List.set_eq_take_append_cons_drop, if_pos hi]
theorem over_row {α : Type} {enc : α → List Value} {s : Nat} {L : List α} (hs : ∀ x ∈ L, (enc x).length = s) {i : Nat} {x y : α} (hx : L[i]? = some x) (hy : (enc y).length = s) (r : List Value) : over (L.flatMap enc ++ r) (i * s) (enc y) = (L.set i y).flatMap enc ++ r := by
  obtain ⟨h1, h2⟩ := set_split hx y
  have hi := get_lt hx
  have hl : ((L.take i).flatMap enc).length = i * s := by rw [flat_len fun z hz => hs z (List.mem_of_mem_take hz), List.length_take, Nat.min_eq_left (by omega)]
  rw [h2]
  conv => lhs; rw [h1]
  rw [List.flatMap_append, List.flatMap_append, List.flatMap_cons, List.flatMap_cons, List.append_assoc, List.append_assoc, ← hl, over_mid _ _ _ _ (by rw [hs x (List.mem_of_getElem? hx), hy])]
  simp only [List.append_assoc]
theorem set_row {α : Type} {enc : α → List Value} {s : Nat} {L : List α} (hs : ∀ x ∈ L, (enc x).length = s) {i j : Nat} {x y : α} {v : Value} (hx : L[i]? = some x) (hj : j < s) (hy : enc y = (enc x).set j v) (r : List Value) : (L.flatMap enc ++ r).set (i * s + j) v = (L.set i y).flatMap enc ++ r := by
  obtain ⟨h1, h2⟩ := set_split hx y
  have hi := get_lt hx
  have hl : ((L.take i).flatMap enc).length = i * s := by rw [flat_len fun z hz => hs z (List.mem_of_mem_take hz), List.length_take, Nat.min_eq_left (by omega)]
  have hxl := hs x (List.mem_of_getElem? hx)
  rw [h2]
  conv => lhs; rw [h1]
  rw [List.flatMap_append, List.flatMap_append, List.flatMap_cons, List.flatMap_cons, List.append_assoc, List.append_assoc, ← hl, List.set_append_right _ _ (by omega), Nat.add_sub_cancel_left, List.append_assoc, List.append_assoc, List.set_append_left _ _ (by omega), hy]
theorem OS.over {α : Type} {a : Option Addr} {n c s : Nat} {full : List Value} {enc : α → List Value} {L : List α} (O : OS a n c s full (L.flatMap enc)) (hs : ∀ x, (enc x).length = s) {i : Nat} {x : α} (hx : L[i]? = some x) (y : α) : OS a n c s (over full (i * s) (enc y)) ((L.set i y).flatMap enc) := by
  refine ⟨O.zero, O.none', by rw [over_length]; exact O.len, O.le, ?_⟩
  rw [O.split, over_row (fun z _ => hs z) hx (hs y)]
  have h1 := O.llen
  rw [flat_len fun z _ => hs z] at h1
  exact List.take_left' (by rw [flat_len fun z _ => hs z, List.length_set, h1])
theorem swap_perm {α : Type} {L : List α} {i j : Nat} {x y : α} (hx : L[i]? = some x) (hy : L[j]? = some y) : ((L.set i y).set j x).Perm L := by
  obtain ⟨hi, rfl⟩ := List.getElem?_eq_some_iff.1 hx
  obtain ⟨hj, rfl⟩ := List.getElem?_eq_some_iff.1 hy
  exact List.set_set_perm hi hj

/-! ### Things -/
def encT (x : Int × Nat) : List Value := [.int .i64 x.1, .int .i64 (x.2 : Int)]
theorem encT_one (x : Int × Nat) : ∀ v ∈ encT x, oneCell v = true := fun v hv => by
  simp only [encT, List.mem_cons, List.not_mem_nil, or_false] at hv
  rcases hv with rfl | rfl <;> rfl
theorem ahead_ok (x y : Int × Nat) (w : World) : Ret Tryz.prog 226 #[.agg (encT x).toArray, .agg (encT y).toArray] w fun v w' => v = .bool (decide (lt7 x y)) ∧ Ext [] w w' := by
  obtain ⟨w0, rfl⟩ : ∃ w0, w0 = w := ⟨_, rfl⟩
  have H := Ctx.start w0 []
  refine ret_of_W (fn := Tryz.f226) Tryz.func226 rfl [.agg (encT x).toArray, .agg (encT y).toArray] rfl (by kernel_rfl) ?_
  refine W_rseq ?_
  refine op_box rfl (encT x) (.agg _) rfl rfl H ?_
  rintro b2 w - H
  refine op_box rfl (encT y) (.agg _) rfl rfl H ?_
  rintro b3 w - H
  refine op_assign rfl (.bool _) rfl ?_
  refine op_nil (at_then ?_)
  refine W_rseq ?_
  refine op_fieldAddr rfl fo_258_0_SeF rfl ?_
  refine op_ldb rfl ag_2_SeF rfl H (by first | exact at0 | exact at1 | exact at2 | exact at3 | exact at4 | exact at5 | exact at6 | exact at7 | exact at8 | exact at9) rfl ?_
  refine op_fieldAddr rfl fo_258_0_SeF rfl ?_
  refine op_ldb rfl ag_2_SeF rfl H (by first | exact at0 | exact at1 | exact at2 | exact at3 | exact at4 | exact at5 | exact at6 | exact at7 | exact at8 | exact at9) rfl ?_
  refine op_lss rfl rfl rfl ?_
  refine op_move rfl (.bool _) rfl ?_
  refine Wops_split 10 rfl ?_ ?_
  · intro h1
    replace h1 := dec_t h1
    refine op_skip rfl ?_
    refine op_skip rfl ?_
    refine op_skip rfl ?_
    refine op_skip rfl ?_
    refine op_skip rfl ?_
    refine op_skip rfl ?_
    refine op_skip rfl ?_
    refine op_skip rfl ?_
    refine op_skip rfl ?_
    refine op_skip rfl ?_
    refine op_skip rfl ?_
    refine op_skip rfl ?_
    refine op_pick1 rfl rfl (.bool _) rfl ?_
    refine op_assign rfl (.bool _) rfl ?_
    refine op_nil (at_then ?_)
    refine W_ret (leave1 (v := (.bool _)) rfl rfl rfl ?_)
    exact ⟨congrArg Value.bool (by unfold lt7; rw [Bool.eq_iff_iff]; simp_all; try omega), H.ext⟩
  · intro h2
    replace h2 := dec_f h2
    refine op_fieldAddr rfl fo_258_0_SeF rfl ?_
    refine op_ldb rfl ag_2_SeF rfl H (by first | exact at0 | exact at1 | exact at2 | exact at3 | exact at4 | exact at5 | exact at6 | exact at7 | exact at8 | exact at9) rfl ?_
    refine op_fieldAddr rfl fo_258_0_SeF rfl ?_
    refine op_ldb rfl ag_2_SeF rfl H (by first | exact at0 | exact at1 | exact at2 | exact at3 | exact at4 | exact at5 | exact at6 | exact at7 | exact at8 | exact at9) rfl ?_
    refine op_eql rfl rfl rfl ?_
    refine op_move rfl (.bool _) rfl ?_
    refine Wops_split 16 rfl ?_ ?_
    · intro h3
      replace h3 := dec_t h3
      refine op_fieldAddr rfl fo_258_1_SeF rfl ?_
      refine op_ldb rfl ag_3_SeF rfl H (by first | exact at0 | exact at1 | exact at2 | exact at3 | exact at4 | exact at5 | exact at6 | exact at7 | exact at8 | exact at9) rfl ?_
      refine op_fieldAddr rfl fo_258_1_SeF rfl ?_
      refine op_ldb rfl ag_3_SeF rfl H (by first | exact at0 | exact at1 | exact at2 | exact at3 | exact at4 | exact at5 | exact at6 | exact at7 | exact at8 | exact at9) rfl ?_
      refine op_lss rfl rfl rfl ?_
      refine op_pick1 rfl rfl (.bool _) rfl ?_
      refine op_pick0 rfl rfl (.bool _) rfl ?_
      refine op_assign rfl (.bool _) rfl ?_
      refine op_nil (at_then ?_)
      refine W_ret (leave1 (v := (.bool _)) rfl rfl rfl ?_)
      exact ⟨congrArg Value.bool (by unfold lt7; rw [Bool.eq_iff_iff]; simp_all; try omega), H.ext⟩
    · intro h4
      replace h4 := dec_f h4
      refine op_skip rfl ?_
      refine op_skip rfl ?_
      refine op_skip rfl ?_
      refine op_skip rfl ?_
      refine op_skip rfl ?_
      refine op_pick0 rfl rfl (.bool _) rfl ?_
      refine op_pick0 rfl rfl (.bool _) rfl ?_
      refine op_assign rfl (.bool _) rfl ?_
      refine op_nil (at_then ?_)
      refine W_ret (leave1 (v := (.bool _)) rfl rfl rfl ?_)
      exact ⟨congrArg Value.bool (by unfold lt7; rw [Bool.eq_iff_iff]; simp_all; try omega), H.ext⟩
theorem adr0 (q : Nat) : (adr (some ⟨q, 0, none⟩)).off = 0 := rfl
/-- The blocks of a heap. -/
abbrev HB (bh : Nat) (a : Option Addr) (n c : Nat) (full : List Value) : List (Nat × Obj) := (bh, Bl 255 [.slice a n c]) :: ent a 258 full

set_option maxRecDepth 20000 in
set_option maxHeartbeats 4000000 in
theorem up_ok {w : World} {bh q n c : Nat} {full : List Value} {L : List (Int × Nat)} (H0 : Ctx w [bh, q] w (HB bh (some ⟨q, 0, none⟩) n c full)) (O : OS (some ⟨q, 0, none⟩) n c 2 full (L.flatMap encT)) (k : Nat) (hk : k < n) (hn : n ≤ 1000000000) (hU : UpI L k) :
    Ret Tryz.prog 225 #[ptr bh, .int .i64 (k : Int)] w fun v w' => v = .tuple #[] ∧ ∃ (L' : List (Int × Nat)) (full' : List Value), L'.Perm L ∧ HeapL L' ∧ OS (some ⟨q, 0, none⟩) n c 2 full' (L'.flatMap encT) ∧ Ctx w [bh, q] w' (HB bh (some ⟨q, 0, none⟩) n c full') := by
  obtain ⟨w0, rfl⟩ : ∃ w0, w0 = w := ⟨_, rfl⟩
  have H := H0
  refine ret_of_W (fn := Tryz.f225) Tryz.func225 rfl [.pointer (some ⟨bh, 0, none⟩), .int .i64 (k : Int)] rfl (by kernel_rfl) ?_
  refine W_scope ?_
  refine W_seq ?_
  refine W_label (at_then ?_)
  refine W_block ?_
  refine W_loop 9007199254740978 (α := Nat × List (Int × Nat) × List Value) (fun s => [(1, .int .i64 (s.1 : Int))]) (fun s w' => s.1 < n ∧ s.2.1.Perm L ∧ UpI s.2.1 s.1 ∧ OS (some ⟨q, 0, none⟩) n c 2 s.2.2 (s.2.1.flatMap encT) ∧ Ctx w0 [bh, q] w' (HB bh (some ⟨q, 0, none⟩) n c s.2.2)) (fun s => s.1) (k, L, full) rfl ?_ ?_ ?_
  · exact ⟨rfl, trivial⟩
  · exact ⟨hk, .refl _, hU, O, H⟩
  · rintro ⟨k, L', f'⟩ j w ⟨hk, hp, hU, O, H⟩; dsimp only at hk hp hU O H; dsimp only
    have hnum : n = L'.length := O.numN (fun _ _ => rfl) (by decide)
    refine W_seq ?_
    refine W_rseq ?_
    refine op_move rfl (.int _ _) rfl ?_
    refine op_gtr rfl rfl rfl ?_
    refine op_nil (at_then ?_)
    refine W_cond _ rfl ?_ ?_
    · intro h1
      replace h1 := dec_t h1
      obtain ⟨o, ho⟩ : ∃ o, o = (k - 1) / 2 := ⟨_, rfl⟩
      obtain ⟨x, hxk⟩ := get_some (l := L') (i := k) (by omega)
      obtain ⟨y, hyo⟩ := get_some (l := L') (i := o) (by omega)
      have Rk := O.rd (w := w.drew) (t := 258) (fun y hy => H.drew.blk y (List.mem_cons_of_mem _ hy)) (fun _ _ => rfl) (by decide)
      refine W_skip (at_then ?_)
      refine W_block ?_
      refine W_rseq ?_
      refine op_move rfl (.int _ _) rfl ?_
      refine op_sub_i64 rfl rfl rfl (by omega) (by omega) ?_
      refine op_quo rfl rfl rfl (by omega) (by omega) (show _ ≤ (9223372036854775807 : Int) by omega) ?_
      rw [show ((k : Int) - 1) / 2 = (o : Int) by omega]
      refine op_assign rfl (.int _ _) rfl ?_
      refine op_nil (at_then ?_)
      refine W_seq ?_
      refine W_tseq 14 mixed_SeF (by kernel_rfl) rfl rfl ?_
      refine q_move rfl (.pointer _) rfl ?_
      refine q_nilCheck rfl rfl ?_
      refine q_fieldAddr rfl fo_255_0_SeF rfl ?_
      refine q_ldb rfl ag_253_SeF rfl (by rintro _ rfl; exact H.drew) (by first | exact at0 | exact at1 | exact at2 | exact at3 | exact at4 | exact at5 | exact at6 | exact at7 | exact at8 | exact at9) rfl ?_
      refine q_move rfl (.int _ _) rfl ?_
      first | refine q_indexRd Rk rfl el_253_SeF sz_258_SeF rfl rfl (by omega) (by omega) (by first | rfl | omega) ?_ | refine q_indexAddr rfl el_253_SeF sz_258_SeF rfl rfl (by omega) (by omega) ?_
      first | refine q_ldN _ rfl ag_258_SeF sz_258_SeF rfl rfl (by rintro _ rfl; exact (Rk.row hxk rfl)) ?_ | refine q_ldN _ rfl ag_258_SeF sz_258_SeF rfl rfl (by rintro _ rfl; exact (Rk.row hyo rfl)) ?_ | refine q_ldbN rfl ag_258_SeF sz_258_SeF rfl (by rintro _ rfl; exact H.drew) (by first | exact at0 | exact at1 | exact at2 | exact at3 | exact at4 | exact at5 | exact at6 | exact at7 | exact at8 | exact at9) rfl ?_
      refine q_move rfl (.pointer _) rfl ?_
      refine q_nilCheck rfl rfl ?_
      refine q_fieldAddr rfl fo_255_0_SeF rfl ?_
      refine q_ldb rfl ag_253_SeF rfl (by rintro _ rfl; exact H.drew) (by first | exact at0 | exact at1 | exact at2 | exact at3 | exact at4 | exact at5 | exact at6 | exact at7 | exact at8 | exact at9) rfl ?_
      refine q_move rfl (.int _ _) rfl ?_
      first | refine q_indexRd Rk rfl el_253_SeF sz_258_SeF rfl rfl (by omega) (by omega) (by first | rfl | omega) ?_ | refine q_indexAddr rfl el_253_SeF sz_258_SeF rfl rfl (by omega) (by omega) ?_
      first | refine q_ldN _ rfl ag_258_SeF sz_258_SeF rfl rfl (by rintro _ rfl; exact (Rk.row hxk rfl)) ?_ | refine q_ldN _ rfl ag_258_SeF sz_258_SeF rfl rfl (by rintro _ rfl; exact (Rk.row hyo rfl)) ?_ | refine q_ldbN rfl ag_258_SeF sz_258_SeF rfl (by rintro _ rfl; exact H.drew) (by first | exact at0 | exact at1 | exact at2 | exact at3 | exact at4 | exact at5 | exact at6 | exact at7 | exact at8 | exact at9) rfl ?_
      refine q_nil ?_
      replace H := H.drew
      refine op_call rfl ca_226_SeF (ahead_ok x y _) rfl ?_
      rintro v w ⟨rfl, hx24⟩
      replace H := H.call hx24
      refine op_not rfl rfl ?_
      refine op_nil (at_then ?_)
      refine W_cond _ rfl ?_ ?_
      · intro h2
        replace h2 := nvar_t h2
        refine W_exit (exit_then (exit_pass rfl (exit_then (exit_here (at_scope (leave0n rfl rfl ?_))))))
        have hnl : ¬ lt7 x y := by simpa using h2
        exact ⟨rfl, L', f', hp, hU.done fun a b _ ha hb => by
          rw [hxk] at ha
          rw [← ho, hyo] at hb
          cases ha; cases hb
          exact le7_of hnl, O, H⟩
      · intro h2
        replace h2 := nvar_f h2
        obtain ⟨w7, rfl⟩ : ∃ z, z = w := ⟨_, rfl⟩
        have R7 := O.rd (w := w7.drew) (t := 258) (fun y hy => H.drew.blk y (List.mem_cons_of_mem _ hy)) (fun _ _ => rfl) (by decide)
        have hol := O.len
        have hole := O.le
        refine W_skip (at_then ?_)
        refine W_sseqz [([0, 1, 2, 3, 4, 5, 6, 7, 8, 9, 10, 11, 12, 13, 14, 15, 16, 17, 18, 19, 20, 21, 22, 23, 24], 25), ([26], 27)] (fun z => z = World.drew w7) [25, 27] mixed_SeF (by kernel_rfl) (rfl) ?_
        refine seg_cons rfl rfl ?_
        refine t_move rfl (.pointer _) rfl ?_
        refine t_nilCheck rfl rfl ?_
        refine t_fieldAddr rfl fo_255_0_SeF rfl ?_
        refine t_ldb rfl ag_253_SeF rfl (by rintro _ rfl; exact H.drew) (by first | exact at0 | exact at1 | exact at2 | exact at3 | exact at4 | exact at5 | exact at6 | exact at7 | exact at8 | exact at9) rfl ?_
        refine t_move rfl (.int _ _) rfl ?_
        refine t_move rfl (.pointer _) rfl ?_
        refine t_nilCheck rfl rfl ?_
        refine t_fieldAddr rfl fo_255_0_SeF rfl ?_
        refine t_ldb rfl ag_253_SeF rfl (by rintro _ rfl; exact H.drew) (by first | exact at0 | exact at1 | exact at2 | exact at3 | exact at4 | exact at5 | exact at6 | exact at7 | exact at8 | exact at9) rfl ?_
        refine t_move rfl (.int _ _) rfl ?_
        refine t_move rfl (.pointer _) rfl ?_
        refine t_nilCheck rfl rfl ?_
        refine t_fieldAddr rfl fo_255_0_SeF rfl ?_
        refine t_ldb rfl ag_253_SeF rfl (by rintro _ rfl; exact H.drew) (by first | exact at0 | exact at1 | exact at2 | exact at3 | exact at4 | exact at5 | exact at6 | exact at7 | exact at8 | exact at9) rfl ?_
        refine t_move rfl (.int _ _) rfl ?_
        first | refine t_indexRd R7 rfl el_253_SeF sz_258_SeF rfl rfl (by omega) (by omega) (by first | rfl | omega) ?_ | refine t_indexAddr rfl el_253_SeF sz_258_SeF rfl rfl (by omega) (by omega) ?_
        first | refine t_ldN _ rfl ag_258_SeF sz_258_SeF rfl rfl (fun _ hx => (by subst hx; exact R7.row hxk rfl)) ?_ | refine t_ldN _ rfl ag_258_SeF sz_258_SeF rfl rfl (fun _ hx => (by subst hx; exact R7.row hyo rfl)) ?_ | refine t_ldbN rfl ag_258_SeF sz_258_SeF rfl (by rintro _ rfl; exact H.drew) (by first | exact at0 | exact at1 | exact at2 | exact at3 | exact at4 | exact at5 | exact at6 | exact at7 | exact at8 | exact at9) rfl ?_
        refine t_move rfl (.pointer _) rfl ?_
        refine t_nilCheck rfl rfl ?_
        refine t_fieldAddr rfl fo_255_0_SeF rfl ?_
        refine t_ldb rfl ag_253_SeF rfl (by rintro _ rfl; exact H.drew) (by first | exact at0 | exact at1 | exact at2 | exact at3 | exact at4 | exact at5 | exact at6 | exact at7 | exact at8 | exact at9) rfl ?_
        refine t_move rfl (.int _ _) rfl ?_
        first | refine t_indexRd R7 rfl el_253_SeF sz_258_SeF rfl rfl (by omega) (by omega) (by first | rfl | omega) ?_ | refine t_indexAddr rfl el_253_SeF sz_258_SeF rfl rfl (by omega) (by omega) ?_
        first | refine t_ldN _ rfl ag_258_SeF sz_258_SeF rfl rfl (fun _ hx => (by subst hx; exact R7.row hxk rfl)) ?_ | refine t_ldN _ rfl ag_258_SeF sz_258_SeF rfl rfl (fun _ hx => (by subst hx; exact R7.row hyo rfl)) ?_ | refine t_ldbN rfl ag_258_SeF sz_258_SeF rfl (by rintro _ rfl; exact H.drew) (by first | exact at0 | exact at1 | exact at2 | exact at3 | exact at4 | exact at5 | exact at6 | exact at7 | exact at8 | exact at9) rfl ?_
        first | refine t_indexRd R7 rfl el_253_SeF sz_258_SeF rfl rfl (by omega) (by omega) (by first | rfl | omega) ?_ | refine t_indexAddr rfl el_253_SeF sz_258_SeF rfl rfl (by omega) (by omega) ?_
        refine t_nil ?_
        replace H := H.drew
        refine op_stbN (vs := encT y) rfl sz_258_SeF rfl rfl rfl (encT_one y) H at1 (by show 0 + (k : Int).toNat * 2 + 2 ≤ _; omega) ?_
        rintro w H
        refine op_nil (at_segz rfl ?_)
        refine seg_cons rfl rfl ?_
        first | refine t_indexRd R7 rfl el_253_SeF sz_258_SeF rfl rfl (by omega) (by omega) (by first | rfl | omega) ?_ | refine t_indexAddr rfl el_253_SeF sz_258_SeF rfl rfl (by omega) (by omega) ?_
        refine t_nil ?_
        refine op_stbN (vs := encT x) rfl sz_258_SeF rfl rfl rfl (encT_one x) H at1 (by rw [over_length]; show 0 + (o : Int).toNat * 2 + 2 ≤ _; omega) ?_
        rintro w H
        refine op_nil (at_segz rfl ?_)
        refine seg_nil ?_
        refine W_region ?_
        refine op_move rfl (.int _ _) rfl ?_
        refine op_assign rfl (.int _ _) rfl ?_
        refine op_nil (at_block (at_then ?_))
        have hne : k ≠ o := by omega
        refine ⟨(o, (L'.set k y).set o x, over (over f' (k * 2) (encT y)) (o * 2) (encT x)), rfl, ⟨rfl, trivial⟩, ⟨by dsimp only; omega, (swap_perm hxk hyo).trans hp, by dsimp only; rw [ho]; exact hU.step (by omega) hxk (by rw [← ho]; exact hyo) (by simpa using h2), OS.over (OS.over O (fun _ => rfl) hxk y) (fun _ => rfl) (by rw [List.getElem?_set_ne hne]; exact hyo) x, ?_⟩, by dsimp only; omega⟩
        simp only [adr0, Int.toNat_natCast, Nat.zero_add] at H
        exact H
    · intro h1
      replace h1 := dec_f h1
      refine W_exit (exit_then (exit_then (exit_here (at_scope (leave0n rfl rfl ?_)))))
      exact ⟨rfl, L', f', hp, hU.done fun a b h0 => absurd h0 (by omega), O, H⟩

set_option maxRecDepth 20000 in
set_option maxHeartbeats 4000000 in
theorem down_ok {w : World} {bh q n c : Nat} {full : List Value} {L : List (Int × Nat)} (H0 : Ctx w [bh, q] w (HB bh (some ⟨q, 0, none⟩) n c full)) (O : OS (some ⟨q, 0, none⟩) n c 2 full (L.flatMap encT)) (hn : n ≤ 1000000000) (hD : DownI L 0) :
    Ret Tryz.prog 215 #[ptr bh, .int .i64 0] w fun v w' => v = .tuple #[] ∧ ∃ (L' : List (Int × Nat)) (full' : List Value), L'.Perm L ∧ HeapL L' ∧ OS (some ⟨q, 0, none⟩) n c 2 full' (L'.flatMap encT) ∧ Ctx w [bh, q] w' (HB bh (some ⟨q, 0, none⟩) n c full') := by
  obtain ⟨w0, rfl⟩ : ∃ w0, w0 = w := ⟨_, rfl⟩
  have H := H0
  refine ret_of_W (fn := Tryz.f215) Tryz.func215 rfl [.pointer (some ⟨bh, 0, none⟩), .int .i64 0] rfl (by kernel_rfl) ?_
  refine W_scope ?_
  refine W_seq ?_
  refine W_label (at_then ?_)
  refine W_block ?_
  refine W_loop 77371252455336267181195250 (α := Nat × List (Int × Nat) × List Value) (fun s => [(1, .int .i64 (s.1 : Int))]) (fun s w' => s.1 ≤ n ∧ s.2.1.Perm L ∧ DownI s.2.1 s.1 ∧ OS (some ⟨q, 0, none⟩) n c 2 s.2.2 (s.2.1.flatMap encT) ∧ Ctx w0 [bh, q] w' (HB bh (some ⟨q, 0, none⟩) n c s.2.2)) (fun s => n - s.1) (0, L, full) rfl ?_ ?_ ?_
  · exact ⟨rfl, trivial⟩
  · exact ⟨Nat.zero_le _, .refl _, hD, O, H⟩
  · rintro ⟨k, L', f'⟩ j w ⟨hk, hp, hD, O, H⟩; dsimp only at hk hp hD O H; dsimp only
    have hnum : n = L'.length := O.numN (fun _ _ => rfl) (by decide)
    have hol := O.len
    have hole := O.le
    obtain ⟨m, hm⟩ : ∃ m, m = 2 * k + 1 := ⟨_, rfl⟩
    refine W_block ?_
    refine W_rseq ?_
    refine op_move rfl (.int _ _) rfl ?_
    refine op_mul_i64 rfl rfl rfl (by omega) (by omega) ?_
    refine op_add_i64 rfl rfl rfl (by omega) (by omega) ?_
    rw [show (2 * (k : Int) + 1) = (m : Int) by omega]
    refine op_assign rfl (.int _ _) rfl ?_
    refine op_nil (at_then ?_)
    refine W_seq ?_
    refine W_rseq ?_
    refine op_move rfl (.int _ _) rfl ?_
    refine op_move rfl (.pointer _) rfl ?_
    refine op_nilCheck rfl rfl ?_
    refine op_fieldAddr rfl fo_255_0_SeF rfl ?_
    refine op_ldb rfl ag_253_SeF rfl H (by first | exact at0 | exact at1 | exact at2 | exact at3 | exact at4 | exact at5 | exact at6 | exact at7 | exact at8 | exact at9) rfl ?_
    refine op_len rfl el_253_SeF rfl ?_
    refine op_geq rfl rfl rfl ?_
    refine op_nil (at_then ?_)
    refine W_cond _ rfl ?_ ?_
    · intro h1
      replace h1 := dec_t h1
      refine W_exit (exit_then (exit_pass rfl (exit_then (exit_here (at_scope (leave0n rfl rfl ?_))))))
      exact ⟨rfl, L', f', hp, hD.none (by omega), O, H⟩
    · intro h1
      replace h1 := dec_f h1
      obtain ⟨x, hxm⟩ := get_some (l := L') (i := m) (by omega)
      refine W_skip (at_then ?_)
      refine W_seq ?_
      refine W_join 2199023222784 (α := Bool) (fun z => [(40, .bool z)]) (fun z w' => (z = true → ∃ y, L'[m + 1]? = some y ∧ lt7 y x) ∧ (z = false → ∀ y, L'[m + 1]? = some y → ¬ lt7 y x) ∧ Ctx w0 [bh, q] w' (HB bh (some ⟨q, 0, none⟩) n c f')) rfl ?_ ?_
      · skip
        have Rk := O.rd (w := w.drew) (t := 258) (fun y hy => H.drew.blk y (List.mem_cons_of_mem _ hy)) (fun _ _ => rfl) (by decide)
        obtain ⟨y, hy7⟩ : ∃ y, m + 1 < n → L'[m + 1]? = some y := by
          by_cases h : m + 1 < n
          · obtain ⟨y, hy⟩ := get_some (l := L') (i := m + 1) (by omega)
            exact ⟨y, fun _ => hy⟩
          · exact ⟨x, fun h' => absurd h' h⟩
        refine W_tail 24 mixed_SeF (by kernel_rfl) rfl rfl ?_
        refine q_move rfl (.int _ _) rfl ?_
        refine q_add_i64 rfl rfl rfl (by omega) (by omega) ?_
        refine q_move rfl (.pointer _) rfl ?_
        refine q_nilCheck rfl rfl ?_
        refine q_fieldAddr rfl fo_255_0_SeF rfl ?_
        refine q_ldb rfl ag_253_SeF rfl (by rintro _ rfl; exact H.drew) (by first | exact at0 | exact at1 | exact at2 | exact at3 | exact at4 | exact at5 | exact at6 | exact at7 | exact at8 | exact at9) rfl ?_
        refine q_len rfl el_253_SeF rfl ?_
        refine q_lss rfl rfl rfl ?_
        refine q_move rfl (.bool _) rfl ?_
        refine Wq_split 23 rfl ?_ ?_
        · intro h2
          replace h2 := dec_t h2
          refine q_move rfl (.pointer _) rfl ?_
          refine q_nilCheck rfl rfl ?_
          refine q_fieldAddr rfl fo_255_0_SeF rfl ?_
          refine q_ldb rfl ag_253_SeF rfl (by rintro _ rfl; exact H.drew) (by first | exact at0 | exact at1 | exact at2 | exact at3 | exact at4 | exact at5 | exact at6 | exact at7 | exact at8 | exact at9) rfl ?_
          refine q_move rfl (.int _ _) rfl ?_
          refine q_add_i64 rfl rfl rfl (by omega) (by omega) ?_
          first | refine q_indexRd Rk rfl el_253_SeF sz_258_SeF rfl rfl (by omega) (by omega) (by first | rfl | omega) ?_ | refine q_indexAddr rfl el_253_SeF sz_258_SeF rfl rfl (by omega) (by omega) ?_
          first | refine q_ldN _ rfl ag_258_SeF sz_258_SeF rfl rfl (by rintro _ rfl; exact (Rk.row hxm rfl)) ?_ | refine q_ldN _ rfl ag_258_SeF sz_258_SeF rfl rfl (by rintro _ rfl; exact (Rk.row (hy7 (by omega)) rfl)) ?_ | refine q_ldbN rfl ag_258_SeF sz_258_SeF rfl (by rintro _ rfl; exact H.drew) (by first | exact at0 | exact at1 | exact at2 | exact at3 | exact at4 | exact at5 | exact at6 | exact at7 | exact at8 | exact at9) rfl ?_
          refine q_move rfl (.pointer _) rfl ?_
          refine q_nilCheck rfl rfl ?_
          refine q_fieldAddr rfl fo_255_0_SeF rfl ?_
          refine q_ldb rfl ag_253_SeF rfl (by rintro _ rfl; exact H.drew) (by first | exact at0 | exact at1 | exact at2 | exact at3 | exact at4 | exact at5 | exact at6 | exact at7 | exact at8 | exact at9) rfl ?_
          refine q_move rfl (.int _ _) rfl ?_
          first | refine q_indexRd Rk rfl el_253_SeF sz_258_SeF rfl rfl (by omega) (by omega) (by first | rfl | omega) ?_ | refine q_indexAddr rfl el_253_SeF sz_258_SeF rfl rfl (by omega) (by omega) ?_
          first | refine q_ldN _ rfl ag_258_SeF sz_258_SeF rfl rfl (by rintro _ rfl; exact (Rk.row hxm rfl)) ?_ | refine q_ldN _ rfl ag_258_SeF sz_258_SeF rfl rfl (by rintro _ rfl; exact (Rk.row (hy7 (by omega)) rfl)) ?_ | refine q_ldbN rfl ag_258_SeF sz_258_SeF rfl (by rintro _ rfl; exact H.drew) (by first | exact at0 | exact at1 | exact at2 | exact at3 | exact at4 | exact at5 | exact at6 | exact at7 | exact at8 | exact at9) rfl ?_
          refine q_nil ?_
          replace H := H.drew
          refine op_call rfl ca_226_SeF (ahead_ok y x _) rfl ?_
          rintro v w ⟨rfl, hx39⟩
          replace H := H.call hx39
          refine op_pick1 rfl rfl (.bool _) rfl ?_
          refine op_nil (at_then ?_)
          exact ⟨decide (lt7 y x), rfl, ⟨rfl, trivial⟩, fun h => ⟨y, hy7 (by omega), of_decide_eq_true h⟩, fun h z hz => by
            rw [hy7 (by omega)] at hz
            cases hz
            exact of_decide_eq_false h, H⟩
        · intro h2
          replace h2 := dec_f h2
          refine q_skip rfl ?_
          refine q_skip rfl ?_
          refine q_skip rfl ?_
          refine q_skip rfl ?_
          refine q_skip rfl ?_
          refine q_skip rfl ?_
          refine q_skip rfl ?_
          refine q_skip rfl ?_
          refine q_skip rfl ?_
          refine q_skip rfl ?_
          refine q_skip rfl ?_
          refine q_skip rfl ?_
          refine q_skip rfl ?_
          refine q_skip rfl ?_
          refine q_skip rfl ?_
          refine q_nil ?_
          replace H := H.drew
          refine op_skip rfl ?_
          refine op_pick0 rfl rfl (.bool _) rfl ?_
          refine op_nil (at_then ?_)
          exact ⟨false, rfl, ⟨rfl, trivial⟩, (fun h => by cases h), (fun _ z hz => by have := get_lt hz; omega), H⟩
      · rintro z j2 w ⟨hzt, hzf, H⟩
        refine W_joinK 6597069766672 (α := Nat) (fun z => [(4, .int .i64 (z : Int))]) (fun z w' => (∃ y, Least2 L' k z y) ∧ Ctx w0 [bh, q] w' (HB bh (some ⟨q, 0, none⟩) n c f')) rfl ?_ ?_
        · skip
          refine W_cond _ rfl ?_ ?_
          · intro h2
            obtain ⟨y, hy, hlt⟩ := hzt h2
            have hz' := get_lt hy
            refine W_region ?_
            refine op_move rfl (.int _ _) rfl ?_
            refine op_add_i64 rfl rfl rfl (by omega) (by omega) ?_
            refine op_assign rfl (.int _ _) rfl ?_
            refine op_nil (at_then ?_)
            refine ⟨m + 1, rfl, ⟨rfl, trivial⟩, ⟨y, .inr (by omega), hy, fun i a hi h0 ha => ?_⟩, H⟩
            have : i = m ∨ i = m + 1 := by omega
            rcases this with rfl | rfl
            · rw [hxm] at ha; cases ha; exact hlt.le
            · rw [hy] at ha; cases ha; exact .inr ⟨rfl, Nat.le_refl _⟩
          · intro h2
            refine W_skip (at_then ?_)
            refine ⟨m, rfl, ⟨rfl, trivial⟩, ⟨x, .inl (by omega), hxm, fun i a hi h0 ha => ?_⟩, H⟩
            have : i = m ∨ i = m + 1 := by omega
            rcases this with rfl | rfl
            · rw [hxm] at ha; cases ha; exact .inr ⟨rfl, Nat.le_refl _⟩
            · exact le7_of (hzf h2 a ha)
        · rintro o j3 w ⟨⟨y, hl2⟩, H⟩
          obtain ⟨x, hxk⟩ := get_some (l := L') (i := k) (by omega)
          have hyo := hl2.2.1
          have hon := get_lt hyo
          have hko : k < o := by have := hl2.1; omega
          have Rk := O.rd (w := w.drew) (t := 258) (fun y hy => H.drew.blk y (List.mem_cons_of_mem _ hy)) (fun _ _ => rfl) (by decide)
          refine W_seq ?_
          refine W_tseq 14 mixed_SeF (by kernel_rfl) rfl rfl ?_
          refine q_move rfl (.pointer _) rfl ?_
          refine q_nilCheck rfl rfl ?_
          refine q_fieldAddr rfl fo_255_0_SeF rfl ?_
          refine q_ldb rfl ag_253_SeF rfl (by rintro _ rfl; exact H.drew) (by first | exact at0 | exact at1 | exact at2 | exact at3 | exact at4 | exact at5 | exact at6 | exact at7 | exact at8 | exact at9) rfl ?_
          refine q_move rfl (.int _ _) rfl ?_
          first | refine q_indexRd Rk rfl el_253_SeF sz_258_SeF rfl rfl (by omega) (by omega) (by first | rfl | omega) ?_ | refine q_indexAddr rfl el_253_SeF sz_258_SeF rfl rfl (by omega) (by omega) ?_
          first | refine q_ldN _ rfl ag_258_SeF sz_258_SeF rfl rfl (by rintro _ rfl; exact (Rk.row hxk rfl)) ?_ | refine q_ldN _ rfl ag_258_SeF sz_258_SeF rfl rfl (by rintro _ rfl; exact (Rk.row hyo rfl)) ?_ | refine q_ldbN rfl ag_258_SeF sz_258_SeF rfl (by rintro _ rfl; exact H.drew) (by first | exact at0 | exact at1 | exact at2 | exact at3 | exact at4 | exact at5 | exact at6 | exact at7 | exact at8 | exact at9) rfl ?_
          refine q_move rfl (.pointer _) rfl ?_
          refine q_nilCheck rfl rfl ?_
          refine q_fieldAddr rfl fo_255_0_SeF rfl ?_
          refine q_ldb rfl ag_253_SeF rfl (by rintro _ rfl; exact H.drew) (by first | exact at0 | exact at1 | exact at2 | exact at3 | exact at4 | exact at5 | exact at6 | exact at7 | exact at8 | exact at9) rfl ?_
          refine q_move rfl (.int _ _) rfl ?_
          first | refine q_indexRd Rk rfl el_253_SeF sz_258_SeF rfl rfl (by omega) (by omega) (by first | rfl | omega) ?_ | refine q_indexAddr rfl el_253_SeF sz_258_SeF rfl rfl (by omega) (by omega) ?_
          first | refine q_ldN _ rfl ag_258_SeF sz_258_SeF rfl rfl (by rintro _ rfl; exact (Rk.row hxk rfl)) ?_ | refine q_ldN _ rfl ag_258_SeF sz_258_SeF rfl rfl (by rintro _ rfl; exact (Rk.row hyo rfl)) ?_ | refine q_ldbN rfl ag_258_SeF sz_258_SeF rfl (by rintro _ rfl; exact H.drew) (by first | exact at0 | exact at1 | exact at2 | exact at3 | exact at4 | exact at5 | exact at6 | exact at7 | exact at8 | exact at9) rfl ?_
          refine q_nil ?_
          replace H := H.drew
          refine op_call rfl ca_226_SeF (ahead_ok y x _) rfl ?_
          rintro v w ⟨rfl, hx57⟩
          replace H := H.call hx57
          refine op_not rfl rfl ?_
          refine op_nil (at_then ?_)
          refine W_cond _ rfl ?_ ?_
          · intro h2
            replace h2 := nvar_t h2
            refine W_exit (exit_then (exit_pass rfl (exit_then (exit_here (at_scope (leave0n rfl rfl ?_))))))
            exact ⟨rfl, L', f', hp, hD.done hxk hl2 (by simpa using h2), O, H⟩
          · intro h2
            replace h2 := nvar_f h2
            obtain ⟨w7, rfl⟩ : ∃ z, z = w := ⟨_, rfl⟩
            have R7 := O.rd (w := w7.drew) (t := 258) (fun y hy => H.drew.blk y (List.mem_cons_of_mem _ hy)) (fun _ _ => rfl) (by decide)
            refine W_skip (at_then ?_)
            refine W_sseqz [([0, 1, 2, 3, 4, 5, 6, 7, 8, 9, 10, 11, 12, 13, 14, 15, 16, 17, 18, 19, 20, 21, 22, 23, 24], 25), ([26], 27)] (fun z => z = World.drew w7) [25, 27] mixed_SeF (by kernel_rfl) (rfl) ?_
            refine seg_cons rfl rfl ?_
            refine t_move rfl (.pointer _) rfl ?_
            refine t_nilCheck rfl rfl ?_
            refine t_fieldAddr rfl fo_255_0_SeF rfl ?_
            refine t_ldb rfl ag_253_SeF rfl (by rintro _ rfl; exact H.drew) (by first | exact at0 | exact at1 | exact at2 | exact at3 | exact at4 | exact at5 | exact at6 | exact at7 | exact at8 | exact at9) rfl ?_
            refine t_move rfl (.int _ _) rfl ?_
            refine t_move rfl (.pointer _) rfl ?_
            refine t_nilCheck rfl rfl ?_
            refine t_fieldAddr rfl fo_255_0_SeF rfl ?_
            refine t_ldb rfl ag_253_SeF rfl (by rintro _ rfl; exact H.drew) (by first | exact at0 | exact at1 | exact at2 | exact at3 | exact at4 | exact at5 | exact at6 | exact at7 | exact at8 | exact at9) rfl ?_
            refine t_move rfl (.int _ _) rfl ?_
            refine t_move rfl (.pointer _) rfl ?_
            refine t_nilCheck rfl rfl ?_
            refine t_fieldAddr rfl fo_255_0_SeF rfl ?_
            refine t_ldb rfl ag_253_SeF rfl (by rintro _ rfl; exact H.drew) (by first | exact at0 | exact at1 | exact at2 | exact at3 | exact at4 | exact at5 | exact at6 | exact at7 | exact at8 | exact at9) rfl ?_
            refine t_move rfl (.int _ _) rfl ?_
            first | refine t_indexRd R7 rfl el_253_SeF sz_258_SeF rfl rfl (by omega) (by omega) (by first | rfl | omega) ?_ | refine t_indexAddr rfl el_253_SeF sz_258_SeF rfl rfl (by omega) (by omega) ?_
            first | refine t_ldN _ rfl ag_258_SeF sz_258_SeF rfl rfl (fun _ hx => (by subst hx; exact R7.row hxk rfl)) ?_ | refine t_ldN _ rfl ag_258_SeF sz_258_SeF rfl rfl (fun _ hx => (by subst hx; exact R7.row hyo rfl)) ?_ | refine t_ldbN rfl ag_258_SeF sz_258_SeF rfl (by rintro _ rfl; exact H.drew) (by first | exact at0 | exact at1 | exact at2 | exact at3 | exact at4 | exact at5 | exact at6 | exact at7 | exact at8 | exact at9) rfl ?_
            refine t_move rfl (.pointer _) rfl ?_
            refine t_nilCheck rfl rfl ?_
            refine t_fieldAddr rfl fo_255_0_SeF rfl ?_
            refine t_ldb rfl ag_253_SeF rfl (by rintro _ rfl; exact H.drew) (by first | exact at0 | exact at1 | exact at2 | exact at3 | exact at4 | exact at5 | exact at6 | exact at7 | exact at8 | exact at9) rfl ?_
            refine t_move rfl (.int _ _) rfl ?_
            first | refine t_indexRd R7 rfl el_253_SeF sz_258_SeF rfl rfl (by omega) (by omega) (by first | rfl | omega) ?_ | refine t_indexAddr rfl el_253_SeF sz_258_SeF rfl rfl (by omega) (by omega) ?_
            first | refine t_ldN _ rfl ag_258_SeF sz_258_SeF rfl rfl (fun _ hx => (by subst hx; exact R7.row hxk rfl)) ?_ | refine t_ldN _ rfl ag_258_SeF sz_258_SeF rfl rfl (fun _ hx => (by subst hx; exact R7.row hyo rfl)) ?_ | refine t_ldbN rfl ag_258_SeF sz_258_SeF rfl (by rintro _ rfl; exact H.drew) (by first | exact at0 | exact at1 | exact at2 | exact at3 | exact at4 | exact at5 | exact at6 | exact at7 | exact at8 | exact at9) rfl ?_
            first | refine t_indexRd R7 rfl el_253_SeF sz_258_SeF rfl rfl (by omega) (by omega) (by first | rfl | omega) ?_ | refine t_indexAddr rfl el_253_SeF sz_258_SeF rfl rfl (by omega) (by omega) ?_
            refine t_nil ?_
            replace H := H.drew
            refine op_stbN (vs := encT y) rfl sz_258_SeF rfl rfl rfl (encT_one y) H at1 (by show 0 + (k : Int).toNat * 2 + 2 ≤ _; omega) ?_
            rintro w H
            refine op_nil (at_segz rfl ?_)
            refine seg_cons rfl rfl ?_
            first | refine t_indexRd R7 rfl el_253_SeF sz_258_SeF rfl rfl (by omega) (by omega) (by first | rfl | omega) ?_ | refine t_indexAddr rfl el_253_SeF sz_258_SeF rfl rfl (by omega) (by omega) ?_
            refine t_nil ?_
            refine op_stbN (vs := encT x) rfl sz_258_SeF rfl rfl rfl (encT_one x) H at1 (by rw [over_length]; show 0 + (o : Int).toNat * 2 + 2 ≤ _; omega) ?_
            rintro w H
            refine op_nil (at_segz rfl ?_)
            refine seg_nil ?_
            refine W_region ?_
            refine op_move rfl (.int _ _) rfl ?_
            refine op_assign rfl (.int _ _) rfl ?_
            refine op_nil (at_block (at_then ?_))
            have hne : k ≠ o := by omega
            refine ⟨(o, (L'.set k y).set o x, over (over f' (k * 2) (encT y)) (o * 2) (encT x)), rfl, ⟨rfl, trivial⟩, ⟨by dsimp only; omega, (swap_perm hxk hyo).trans hp, hD.step hxk hl2 (by simpa using h2), OS.over (OS.over O (fun _ => rfl) hxk y) (fun _ => rfl) (by rw [List.getElem?_set_ne hne]; exact hyo) x, ?_⟩, by dsimp only; omega⟩
            simp only [adr0, Int.toNat_natCast, Nat.zero_add] at H
            exact H

theorem hnew_ok (w : World) : Ret Tryz.prog 190 #[] w fun v w' => ∃ b, v = ptr b ∧ w.heap.size ≤ b ∧ w'.heap[b]? = some (Bl 255 [.slice none 0 0]) ∧ Ext [] w w' := by
  obtain ⟨w0, rfl⟩ : ∃ w0, w0 = w := ⟨_, rfl⟩
  have H := Ctx.start w0 []
  refine ret_of_W (fn := Tryz.f190) Tryz.func190 rfl [] rfl (by kernel_rfl) ?_
  refine W_rseq ?_
  refine op_assign rfl (.pointer _) rfl ?_
  refine op_nil (at_then ?_)
  refine W_rseq ?_
  refine op_buildS [.slice none 0 0] rfl pl_255_SeF zc_255_SeF (by kernel_rfl) ?_
  refine op_box rfl [.slice none 0 0] (.agg _) rfl rfl H ?_
  rintro b2 w - H
  refine op_assign rfl (.pointer _) rfl ?_
  refine op_nil (at_then ?_)
  refine W_ret (leave1 (v := (.pointer _)) rfl rfl rfl ?_)
  exact ⟨b2, rfl, (H.own _ (List.mem_cons_self ..)).elim (fun h => by cases h) id, H.get at0, H.ext⟩
theorem hlen_ok {w : World} {bh : Nat} {a : Option Addr} {n c : Nat} (hb : w.heap[bh]? = some (Bl 255 [.slice a n c])) : Ret Tryz.prog 192 #[ptr bh] w fun v w' => v = .int .i64 (n : Int) ∧ w = w' := by
  obtain ⟨w0, rfl⟩ : ∃ w0, w0 = w := ⟨_, rfl⟩
  refine ret_of_W (fn := Tryz.f192) Tryz.func192 rfl [.pointer (some ⟨bh, 0, none⟩)] rfl (by kernel_rfl) ?_
  refine W_rseq ?_
  refine op_assign rfl (.int _ _) rfl ?_
  refine op_nil (at_then ?_)
  refine W_seq ?_
  refine W_rseq ?_
  refine op_move rfl (.pointer _) rfl ?_
  refine op_eqlptr rfl un_231_SeF rfl ?_
  refine op_nil (at_then ?_)
  refine W_cond _ rfl ?_ ?_
  · intro h1
    cases h1
  · intro h1
    refine W_skip (at_then ?_)
    refine W_rseq ?_
    refine op_move rfl (.pointer _) rfl ?_
    refine op_nilCheck rfl rfl ?_
    refine op_fieldAddr rfl fo_255_0_SeF rfl ?_
    first | refine op_ldb rfl ag_253_SeF rfl H (by first | exact at0 | exact at1 | exact at2 | exact at3 | exact at4 | exact at5 | exact at6 | exact at7 | exact at8 | exact at9) rfl ?_ | refine op_ld rfl ag_253_SeF rfl ((by rw [cell_bl hb]; rfl)) ?_
    refine op_len rfl el_253_SeF rfl ?_
    refine op_assign rfl (.int _ _) rfl ?_
    refine op_nil (at_then ?_)
    refine W_ret (leave1 (v := (.int _ _)) rfl rfl rfl ?_)
    exact ⟨rfl, rfl⟩
theorem peek_ok {w : World} {bh : Nat} {a : Option Addr} {n c : Nat} {x : Int × Nat} {L : List (Int × Nat)} (hb : w.heap[bh]? = some (Bl 255 [.slice a n c])) (R : Rd w a 2 encT (x :: L)) (hn : n = L.length + 1) : Ret Tryz.prog 214 #[ptr bh] w fun v w' => v = .tuple #[.int .i64 x.1, .int .i64 (x.2 : Int), .int .i64 0] ∧ Ext [] w w' := by
  obtain ⟨w0, rfl⟩ : ∃ w0, w0 = w := ⟨_, rfl⟩
  have H := Ctx.start w0 []
  have hbd : w0.drew.heap[bh]? = some (Bl 255 [.slice a n c]) := hb
  have Rd' := R.ext0 (Ext.drew [] w0)
  refine ret_of_W (fn := Tryz.f214) Tryz.func214 rfl [.pointer (some ⟨bh, 0, none⟩)] rfl (by kernel_rfl) ?_
  refine W_rseq ?_
  refine op_assign rfl (.int _ _) rfl ?_
  refine op_assign rfl (.int _ _) rfl ?_
  refine op_assign rfl (.int _ _) rfl ?_
  refine op_nil (at_then ?_)
  refine W_seq ?_
  refine W_block ?_
  refine W_rseq ?_
  refine op_move rfl (.pointer _) rfl ?_
  refine op_eqlptr rfl un_231_SeF rfl ?_
  refine op_assign rfl (.bool _) rfl ?_
  refine op_nil (at_then ?_)
  refine W_cond _ rfl ?_ ?_
  · intro h1
    cases h1
  · intro h1
    refine W_rseq ?_
    refine op_move rfl (.pointer _) rfl ?_
    refine op_nilCheck rfl rfl ?_
    refine op_fieldAddr rfl fo_255_0_SeF rfl ?_
    first | refine op_ldb rfl ag_253_SeF rfl H (by first | exact at0 | exact at1 | exact at2 | exact at3 | exact at4 | exact at5 | exact at6 | exact at7 | exact at8 | exact at9) rfl ?_ | refine op_ld rfl ag_253_SeF rfl ((by rw [cell_bl hb]; rfl)) ?_
    refine op_len rfl el_253_SeF rfl ?_
    refine op_eql rfl rfl rfl ?_
    refine op_assign rfl (.bool _) rfl ?_
    refine op_nil (at_then ?_)
    refine W_cond _ rfl ?_ ?_
    · intro h2
      replace h2 := dec_t h2
      omega
    · intro h2
      replace h2 := dec_f h2
      refine W_skip (at_block (at_then ?_))
      refine W_qseq (fun x => x = _) mixed_SeF (by kernel_rfl) rfl ?_
      refine q_move rfl (.pointer _) rfl ?_
      refine q_nilCheck rfl rfl ?_
      refine q_fieldAddr rfl fo_255_0_SeF rfl ?_
      first | refine q_ldb rfl ag_253_SeF rfl (by rintro _ rfl; exact H.drew) (by first | exact at0 | exact at1 | exact at2 | exact at3 | exact at4 | exact at5 | exact at6 | exact at7 | exact at8 | exact at9) rfl ?_ | refine q_ld rfl ag_253_SeF rfl (by rintro _ rfl; exact ((by rw [cell_bl hbd]; rfl))) ?_ | refine q_ld rfl ag_253_SeF rfl (by rintro _ rfl; exact ((Rd'.fld (i := 0) rfl rfl (j := 0) rfl))) ?_ | refine q_ld rfl ag_253_SeF rfl (by rintro _ rfl; exact ((Rd'.fld (i := 0) rfl rfl (j := 1) rfl))) ?_
      first | refine q_indexRd Rd' rfl el_253_SeF sz_258_SeF rfl rfl (by omega) (by omega) (by first | rfl | omega) ?_ | refine q_indexAddr rfl el_253_SeF sz_258_SeF rfl rfl (by omega) (by omega) ?_
      refine q_fieldAddr rfl fo_258_0_SeF rfl ?_
      first | refine q_ldb rfl ag_2_SeF rfl (by rintro _ rfl; exact H.drew) (by first | exact at0 | exact at1 | exact at2 | exact at3 | exact at4 | exact at5 | exact at6 | exact at7 | exact at8 | exact at9) rfl ?_ | refine q_ld rfl ag_2_SeF rfl (by rintro _ rfl; exact ((by rw [cell_bl hbd]; rfl))) ?_ | refine q_ld rfl ag_2_SeF rfl (by rintro _ rfl; exact ((Rd'.fld (i := 0) rfl rfl (j := 0) rfl))) ?_ | refine q_ld rfl ag_2_SeF rfl (by rintro _ rfl; exact ((Rd'.fld (i := 0) rfl rfl (j := 1) rfl))) ?_
      refine q_move rfl (.pointer _) rfl ?_
      refine q_nilCheck rfl rfl ?_
      refine q_fieldAddr rfl fo_255_0_SeF rfl ?_
      first | refine q_ldb rfl ag_253_SeF rfl (by rintro _ rfl; exact H.drew) (by first | exact at0 | exact at1 | exact at2 | exact at3 | exact at4 | exact at5 | exact at6 | exact at7 | exact at8 | exact at9) rfl ?_ | refine q_ld rfl ag_253_SeF rfl (by rintro _ rfl; exact ((by rw [cell_bl hbd]; rfl))) ?_ | refine q_ld rfl ag_253_SeF rfl (by rintro _ rfl; exact ((Rd'.fld (i := 0) rfl rfl (j := 0) rfl))) ?_ | refine q_ld rfl ag_253_SeF rfl (by rintro _ rfl; exact ((Rd'.fld (i := 0) rfl rfl (j := 1) rfl))) ?_
      first | refine q_indexRd Rd' rfl el_253_SeF sz_258_SeF rfl rfl (by omega) (by omega) (by first | rfl | omega) ?_ | refine q_indexAddr rfl el_253_SeF sz_258_SeF rfl rfl (by omega) (by omega) ?_
      refine q_fieldAddr rfl fo_258_1_SeF rfl ?_
      first | refine q_ldb rfl ag_3_SeF rfl (by rintro _ rfl; exact H.drew) (by first | exact at0 | exact at1 | exact at2 | exact at3 | exact at4 | exact at5 | exact at6 | exact at7 | exact at8 | exact at9) rfl ?_ | refine q_ld rfl ag_3_SeF rfl (by rintro _ rfl; exact ((by rw [cell_bl hbd]; rfl))) ?_ | refine q_ld rfl ag_3_SeF rfl (by rintro _ rfl; exact ((Rd'.fld (i := 0) rfl rfl (j := 0) rfl))) ?_ | refine q_ld rfl ag_3_SeF rfl (by rintro _ rfl; exact ((Rd'.fld (i := 0) rfl rfl (j := 1) rfl))) ?_
      refine q_assign rfl (.int _ _) rfl ?_
      refine q_assign rfl (.int _ _) rfl ?_
      refine q_assign rfl (.int _ _) rfl ?_
      refine q_nil ?_
      rintro _ rfl
      replace H := H.drew
      refine W_ret (leave3 (v1 := (.int _ _)) (v2 := (.int _ _)) (v3 := (.int _ _)) rfl rfl rfl rfl rfl ?_)
      exact ⟨rfl, H.ext⟩

end Go.Proofs.YtapphbmlkdhnmaaGreat

/- Heaps: what is put and taken: the walks. -/
namespace Go.Proofs.YtapphbmlkdhnmaaGreat
open Go.GV
theorem ag_253_SeG : aggB Tryz.prog 253 = some false := by kernel_rfl
theorem ag_258_SeG : aggB Tryz.prog 258 = some true := by kernel_rfl
theorem by_258_SeG : tbytes Tryz.prog 258 = some 16 := by kernel_rfl
theorem ca_214_SeG : callable Tryz.prog 214 = true := by kernel_rfl
theorem ca_215_SeG : callable Tryz.prog 215 = true := by kernel_rfl
theorem ca_225_SeG : callable Tryz.prog 225 = true := by kernel_rfl
theorem el_253_SeG : elemT Tryz.prog 253 = some 258 := by kernel_rfl
theorem fo_255_0_SeG : fieldO Tryz.prog 255 0 = some 0 := by kernel_rfl
theorem mixed_SeG : Tryz.prog.follows .mixedOrders = true := by kernel_rfl
theorem pl_258_SeG : placesB Tryz.prog 258 = some [(0, 1), (1, 1)] := by kernel_rfl
theorem sz_253_SeG : tsize Tryz.prog 253 = some 1 := by kernel_rfl
theorem sz_258_SeG : tsize Tryz.prog 258 = some 2 := by kernel_rfl
theorem un_231_SeG : Tryz.prog.underlying 231 = some (.pointer 255) := by kernel_rfl
theorem zc_258_SeG : zcells Tryz.prog 258 = some ([.int .i64 0, .int .i64 0]) := by kernel_rfl
attribute [local irreducible] Wops W Wq Wt

set_option maxRecDepth 20000 in
set_option maxHeartbeats 2000000 in
theorem push_ok {w : World} {bh n c : Nat} {a : Option Addr} {full : List Value} {L : List (Int × Nat)} (H0 : Ctx w ((HB bh a n c full).map (·.1)) w (HB bh a n c full)) (O : OS a n c 2 full (L.flatMap encT)) (hn : n ≤ 100000000) (hH : HeapL L) (key : Int) (item : Nat) :
    Ret Tryz.prog 213 #[ptr bh, .int .i64 key, .int .i64 (item : Int)] w fun v w' => v = .int .i64 0 ∧ ∃ (a' : Option Addr) (c' : Nat) (full' : List Value) (L' : List (Int × Nat)), L'.Perm ((key, item) :: L) ∧ HeapL L' ∧ OS a' (n + 1) c' 2 full' (L'.flatMap encT) ∧ Ctx w ((HB bh a n c full).map (·.1)) w' (HB bh a' (n + 1) c' full') := by
  obtain ⟨w0, rfl⟩ : ∃ w0, w0 = w := ⟨_, rfl⟩
  have H := H0
  refine ret_of_W (fn := Tryz.f213) Tryz.func213 rfl [.pointer (some ⟨bh, 0, none⟩), .int .i64 key, .int .i64 (item : Int)] rfl (by kernel_rfl) ?_
  refine W_rseq ?_
  refine op_assign rfl (.int _ _) rfl ?_
  refine op_nil (at_then ?_)
  refine W_seq ?_
  refine W_rseq ?_
  refine op_move rfl (.pointer _) rfl ?_
  refine op_eqlptr rfl un_231_SeG rfl ?_
  refine op_nil (at_then ?_)
  refine W_cond _ rfl ?_ ?_
  · intro h1
    cases h1
  · intro h1
    refine W_skip (at_then ?_)
    refine W_rseq ?_
    refine op_move rfl (.pointer _) rfl ?_
    refine op_move rfl (.pointer _) rfl ?_
    refine op_nilCheck rfl rfl ?_
    refine op_fieldAddr rfl fo_255_0_SeG rfl ?_
    refine op_ldb rfl ag_253_SeG rfl H (by first | exact at0 | exact at1 | exact at2 | exact at3 | exact at4 | exact at5 | exact at6 | exact at7 | exact at8 | exact at9) rfl ?_
    refine op_move rfl (.int _ _) rfl ?_
    refine op_move rfl (.int _ _) rfl ?_
    refine op_buildS (encT (key, item)) rfl pl_258_SeG zc_258_SeG (by kernel_rfl) ?_
    refine op_build1 (encT (key, item)) (.agg _) rfl el_253_SeG sz_258_SeG zc_258_SeG rfl (by decide) (by decide) rfl rfl rfl H ?_
    rintro b17 w - H
    refine op_appendb (L := [(bh, _)]) rfl el_253_SeG el_253_SeG sz_258_SeG by_258_SeG zc_258_SeG rfl (by decide) rfl rfl H O rfl (encT_one _) (by omega) ?_
    rintro a18 c18 f18 w H O18
    have O8 : OS a18 (n + 1) c18 2 f18 ((L ++ [(key, item)]).flatMap encT) := by rw [List.flatMap_append]; simpa using O18
    refine op_nilCheck rfl rfl ?_
    refine op_fieldAddr rfl fo_255_0_SeG rfl ?_
    refine op_stb (.slice _ _ _) rfl sz_253_SeG rfl rfl rfl H (by first | exact at0 | exact at1 | exact at2 | exact at3 | exact at4 | exact at5 | exact at6 | exact at7 | exact at8 | exact at9) (by first | decide | (simp; done) | (simp; omega)) ?_
    rintro w H
    refine op_nil (at_then ?_)
    refine W_rseq ?_
    refine op_move rfl (.pointer _) rfl ?_
    refine op_move rfl (.pointer _) rfl ?_
    refine op_nilCheck rfl rfl ?_
    refine op_fieldAddr rfl fo_255_0_SeG rfl ?_
    refine op_ldb rfl ag_253_SeG rfl H (by first | exact at0 | exact at1 | exact at2 | exact at3 | exact at4 | exact at5 | exact at6 | exact at7 | exact at8 | exact at9) rfl ?_
    refine op_len rfl el_253_SeG rfl ?_
    refine op_sub_i64 rfl rfl rfl (by omega) (by omega) ?_
    rw [show (((n + 1 : Nat) : Int) - 1) = (n : Int) by omega]
    obtain ⟨q, rfl⟩ := O8.form (by omega)
    refine op_call rfl ca_225_SeG (up_ok (Ctx.lend (L2 := []) H.app_nil) O8 n (by omega) (by omega) (by have hnum : n = L.length := O.numN (fun _ _ => rfl) (by decide); rw [hnum]; exact hH.snoc _)) rfl ?_
    rintro v w ⟨rfl, L', f', hp, hH', O', H'⟩
    replace H := (Ctx.back (L2 := []) H.app_nil H').nil_app
    refine op_nil (at_then ?_)
    refine W_rseq ?_
    refine op_assign rfl (.int _ _) rfl ?_
    refine op_nil (at_then ?_)
    refine W_ret (leave1 (v := (.int _ _)) rfl rfl rfl ?_)
    exact ⟨rfl, some ⟨q, 0, none⟩, c18, f', L', hp.trans (List.perm_append_singleton _ _), hH', O', H⟩
theorem OS.short {α : Type} {a : Option Addr} {n c s : Nat} {full : List Value} {enc : α → List Value} {L : List α} (O : OS a n c s full (L.flatMap enc)) (hs : ∀ x, (enc x).length = s) {m : Nat} (hm : m ≤ n) : OS a m c s full ((L.take m).flatMap enc) := by
  refine ⟨O.zero, O.none', O.len, Nat.le_trans hm O.le, ?_⟩
  have h1 := O.pre
  have h2 : full.take (m * s) = (full.take (n * s)).take (m * s) := by rw [List.take_take, Nat.min_eq_left (Nat.mul_le_mul_right _ hm)]
  have hl := O.llen
  rw [flat_len fun z _ => hs z] at hl
  rw [h2, h1]
  conv => lhs; rw [← List.take_append_drop m L, List.flatMap_append]
  by_cases h0 : s = 0
  · subst h0
    have hz : ∀ M : List α, M.flatMap enc = [] := fun M => List.eq_nil_of_length_eq_zero (by rw [flat_len fun z _ => hs z]; rfl)
    rw [hz, hz]; simp
  · have hL : n = L.length := Nat.eq_of_mul_eq_mul_right (by omega) hl.symm
    exact List.take_left' (by rw [flat_len fun z _ => hs z, List.length_take, Nat.min_eq_left (by omega)])
theorem pop_perm {α : Type} {x z : α} {L : List α} (hz : (x :: L)[L.length]? = some z) : (((x :: L).set 0 z).take L.length).Perm L := by
  rcases List.eq_nil_or_concat L with rfl | ⟨M, y, rfl⟩
  · simp
  · have : z = y := by
      rw [List.concat_eq_append, List.length_append, List.length_singleton, List.getElem?_cons_succ, List.getElem?_append_right (Nat.le_refl _), Nat.sub_self] at hz
      simpa using hz.symm
    subst this
    rw [List.concat_eq_append, List.set_cons_zero, List.length_append, List.length_singleton, List.take_succ_cons, List.take_left' rfl]
    exact (List.perm_append_singleton _ _).symm

set_option maxRecDepth 20000 in
set_option maxHeartbeats 2000000 in
theorem pop_ok {w : World} {bh q n c : Nat} {full : List Value} {x : Int × Nat} {L : List (Int × Nat)} (H0 : Ctx w [bh, q] w (HB bh (some ⟨q, 0, none⟩) n c full)) (O : OS (some ⟨q, 0, none⟩) n c 2 full ((x :: L).flatMap encT)) (hn : n ≤ 100000000) (hH : HeapL (x :: L)) :
    Ret Tryz.prog 193 #[ptr bh] w fun v w' => v = .tuple #[.int .i64 x.1, .int .i64 (x.2 : Int), .int .i64 0] ∧ ∃ (full' : List Value) (L' : List (Int × Nat)), L'.Perm L ∧ HeapL L' ∧ OS (some ⟨q, 0, none⟩) L.length c 2 full' (L'.flatMap encT) ∧ Ctx w [bh, q] w' (HB bh (some ⟨q, 0, none⟩) L.length c full') := by
  obtain ⟨w0, rfl⟩ : ∃ w0, w0 = w := ⟨_, rfl⟩
  have H := H0
  have hnum : n = L.length + 1 := O.numN (fun _ _ => rfl) (by decide)
  subst hnum
  have hol := O.len
  have hole := O.le
  refine ret_of_W (fn := Tryz.f193) Tryz.func193 rfl [.pointer (some ⟨bh, 0, none⟩)] rfl (by kernel_rfl) ?_
  refine W_rseq ?_
  refine op_assign rfl (.int _ _) rfl ?_
  refine op_assign rfl (.int _ _) rfl ?_
  refine op_assign rfl (.int _ _) rfl ?_
  refine op_nil (at_then ?_)
  refine W_rseq ?_
  refine op_move rfl (.pointer _) rfl ?_
  refine op_call rfl ca_214_SeG (peek_ok (H.get at0) (O.rd (t := 258) (fun y hy => H.blk y (List.mem_cons_of_mem _ hy)) (fun _ _ => rfl) (by decide)) rfl) rfl ?_
  rintro v w ⟨rfl, hx8⟩
  replace H := H.call hx8
  refine op_move rfl (.tuple _) rfl ?_
  refine op_extract rfl rfl rfl ?_
  refine op_extract rfl rfl rfl ?_
  refine op_extract rfl rfl rfl ?_
  refine op_assign rfl (.int _ _) rfl ?_
  refine op_assign rfl (.int _ _) rfl ?_
  refine op_assign rfl (.int _ _) rfl ?_
  refine op_nil (at_then ?_)
  refine W_seq ?_
  refine W_rseq ?_
  refine op_move rfl (.int _ _) rfl ?_
  refine op_eql rfl rfl rfl ?_
  refine op_nil (at_then ?_)
  refine W_cond _ rfl ?_ ?_
  · intro h1
    replace h1 := dec_t h1
    obtain ⟨z, hz⟩ := get_some (l := x :: L) (i := L.length) (by simp)
    refine W_rseq ?_
    refine op_move rfl (.pointer _) rfl ?_
    refine op_nilCheck rfl rfl ?_
    refine op_fieldAddr rfl fo_255_0_SeG rfl ?_
    refine op_ldb rfl ag_253_SeG rfl H (by first | exact at0 | exact at1 | exact at2 | exact at3 | exact at4 | exact at5 | exact at6 | exact at7 | exact at8 | exact at9) rfl ?_
    refine op_len rfl el_253_SeG rfl ?_
    refine op_sub_i64 rfl rfl rfl (by omega) (by omega) ?_
    rw [show (((L.length + 1 : Nat) : Int) - 1) = (L.length : Int) by omega]
    refine op_assign rfl (.int _ _) rfl ?_
    refine op_nil (at_then ?_)
    obtain ⟨w7, rfl⟩ : ∃ z, z = w := ⟨_, rfl⟩
    have R7 := O.rd (w := w7.drew) (t := 258) (fun y hy => H.drew.blk y (List.mem_cons_of_mem _ hy)) (fun _ _ => rfl) (by decide)
    have O9 := OS.short (OS.over O (fun _ => rfl) (i := 0) (x := x) rfl z) (fun _ => rfl) (m := L.length) (by omega)
    refine W_sseqz [([0, 1, 2, 3, 4, 5, 6, 7, 8, 9, 10, 11], 12)] (fun z => z = World.drew w7) [12] mixed_SeG (by kernel_rfl) (rfl) ?_
    refine seg_cons rfl rfl ?_
    refine t_move rfl (.pointer _) rfl ?_
    refine t_nilCheck rfl rfl ?_
    refine t_fieldAddr rfl fo_255_0_SeG rfl ?_
    refine t_ldb rfl ag_253_SeG rfl (by rintro _ rfl; exact H.drew) (by first | exact at0 | exact at1 | exact at2 | exact at3 | exact at4 | exact at5 | exact at6 | exact at7 | exact at8 | exact at9) rfl ?_
    refine t_move rfl (.pointer _) rfl ?_
    refine t_nilCheck rfl rfl ?_
    refine t_fieldAddr rfl fo_255_0_SeG rfl ?_
    refine t_ldb rfl ag_253_SeG rfl (by rintro _ rfl; exact H.drew) (by first | exact at0 | exact at1 | exact at2 | exact at3 | exact at4 | exact at5 | exact at6 | exact at7 | exact at8 | exact at9) rfl ?_
    refine t_move rfl (.int _ _) rfl ?_
    first | refine t_indexRd R7 rfl el_253_SeG sz_258_SeG rfl rfl (by omega) (by omega) (by first | rfl | omega) ?_ | refine t_indexAddr rfl el_253_SeG sz_258_SeG rfl rfl (by omega) (by omega) ?_
    first | refine t_ldN _ rfl ag_258_SeG sz_258_SeG rfl rfl (fun _ hx => (by subst hx; exact R7.row hz rfl)) ?_ | refine t_ldbN rfl ag_258_SeG sz_258_SeG rfl (by rintro _ rfl; exact H.drew) (by first | exact at0 | exact at1 | exact at2 | exact at3 | exact at4 | exact at5 | exact at6 | exact at7 | exact at8 | exact at9) rfl ?_
    first | refine t_indexRd R7 rfl el_253_SeG sz_258_SeG rfl rfl (by omega) (by omega) (by first | rfl | omega) ?_ | refine t_indexAddr rfl el_253_SeG sz_258_SeG rfl rfl (by omega) (by omega) ?_
    refine t_nil ?_
    replace H := H.drew
    refine op_stbN (vs := encT z) rfl sz_258_SeG rfl rfl rfl (encT_one z) H at1 (by show 0 + (0 : Int).toNat * 2 + 2 ≤ _; rw [hol]; omega) ?_
    rintro w H
    rw [adr0, show (0 : Nat) + (0 : Int).toNat * 2 = 0 * 2 from rfl] at H
    refine op_nil (at_segz rfl ?_)
    refine seg_nil ?_
    refine W_rseq ?_
    refine op_move rfl (.pointer _) rfl ?_
    refine op_move rfl (.pointer _) rfl ?_
    refine op_nilCheck rfl rfl ?_
    refine op_fieldAddr rfl fo_255_0_SeG rfl ?_
    refine op_ldb rfl ag_253_SeG rfl H (by first | exact at0 | exact at1 | exact at2 | exact at3 | exact at4 | exact at5 | exact at6 | exact at7 | exact at8 | exact at9) rfl ?_
    refine op_move rfl (.int _ _) rfl ?_
    refine op_slice_hi rfl el_253_SeG sz_258_SeG rfl rfl (by omega) (by omega) ?_
    refine op_nilCheck rfl rfl ?_
    refine op_fieldAddr rfl fo_255_0_SeG rfl ?_
    refine op_stb (.slice _ _ _) rfl sz_253_SeG rfl rfl rfl H (by first | exact at0 | exact at1 | exact at2 | exact at3 | exact at4 | exact at5 | exact at6 | exact at7 | exact at8 | exact at9) (by first | decide | (simp; done) | (simp; omega)) ?_
    rintro w H
    refine op_nil (at_then ?_)
    refine W_region ?_
    refine op_move rfl (.pointer _) rfl ?_
    refine op_call rfl ca_215_SeG (down_ok (Ctx.lend (L2 := []) H.app_nil) O9 (by omega) hH.cut) rfl ?_
    rintro v w ⟨rfl, L', f', hp, hH', O', H'⟩
    replace H := (Ctx.back (L2 := []) H.app_nil H').nil_app
    refine op_nil (at_then ?_)
    refine W_rseq ?_
    refine op_move rfl (.int _ _) rfl ?_
    refine op_move rfl (.int _ _) rfl ?_
    refine op_move rfl (.int _ _) rfl ?_
    refine op_assign rfl (.int _ _) rfl ?_
    refine op_assign rfl (.int _ _) rfl ?_
    refine op_assign rfl (.int _ _) rfl ?_
    refine op_nil (at_then ?_)
    refine W_ret (leave3 (v1 := (.int _ _)) (v2 := (.int _ _)) (v3 := (.int _ _)) rfl rfl rfl rfl rfl ?_)
    exact ⟨rfl, f', L', hp.trans (pop_perm hz), hH', O', H⟩
  · intro h1
    replace h1 := dec_f h1
    exact absurd rfl h1

end Go.Proofs.YtapphbmlkdhnmaaGreat

/- Arcs with room, one by one: the walk. -/
namespace Go.Proofs.YtapphbmlkdhnmaaGreat
open Go.GV
theorem ag_26_SeH : aggB Tryz.prog 26 = some false := by kernel_rfl
theorem ag_29_SeH : aggB Tryz.prog 29 = some false := by kernel_rfl
theorem ag_2_SeH : aggB Tryz.prog 2 = some false := by kernel_rfl
theorem ag_3_SeH : aggB Tryz.prog 3 = some false := by kernel_rfl
theorem ag_92_SeH : aggB Tryz.prog 92 = some true := by kernel_rfl
theorem el_26_SeH : elemT Tryz.prog 26 = some 92 := by kernel_rfl
theorem el_29_SeH : elemT Tryz.prog 29 = some 2 := by kernel_rfl
theorem fo_28_1_SeH : fieldO Tryz.prog 28 1 = some 1 := by kernel_rfl
theorem fo_92_0_SeH : fieldO Tryz.prog 92 0 = some 0 := by kernel_rfl
theorem fo_92_1_SeH : fieldO Tryz.prog 92 1 = some 1 := by kernel_rfl
theorem fo_92_2_SeH : fieldO Tryz.prog 92 2 = some 2 := by kernel_rfl
theorem fo_92_3_SeH : fieldO Tryz.prog 92 3 = some 3 := by kernel_rfl
theorem mixed_SeH : Tryz.prog.follows .mixedOrders = true := by kernel_rfl
theorem pl_229_SeH : placesB Tryz.prog 229 = some [(0, 1), (1, 1), (2, 1), (3, 1)] := by kernel_rfl
theorem sz_2_SeH : tsize Tryz.prog 2 = some 1 := by kernel_rfl
theorem sz_92_SeH : tsize Tryz.prog 92 = some 4 := by kernel_rfl
theorem zc_229_SeH : zcells Tryz.prog 229 = some ([.int .i64 0, .int .i64 0, .int .i64 0, .int .i64 0]) := by kernel_rfl
theorem zc_92_SeH : zcells Tryz.prog 92 = some ([.int .i64 0, .int .i64 0, .int .i64 0, .int .i64 0]) := by kernel_rfl
attribute [local irreducible] Wops W Wq Wt

/-- A result in a cell, behind marks. -/
theorem leaveM1c {P : Program} {e : Env} {w : World} {fn : Func} {R : Value → World → Prop} {a : Tmp} {t : TypeId} {p : Addr} (hr : fn.results = #[.cell a t]) (ha : e.g a = .pointer (some p)) (h : Marks e.ds w fun w' => ∃ v, (loadVar t p).run P w' = .ok v w' ∧ R v w') : QretM P fn R .ret e w :=
  Marks.mono (fun w ⟨v, hv, h⟩ tmps ht => by
    have h1 := (ht a).trans ha
    rw [Array.getD_eq_getD_getElem?] at h1
    exact ⟨v, by simp [results, hr, h1, asAddr, hv], h⟩) h

def rowA (g : Gr) (p : Nat → Int) (k : Nat) : List Value := [.int .i64 (k : Int), .int .i64 (g.u k : Int), .int .i64 (g.v k : Int), .int .i64 (g.len p k)]
theorem rowA_one (g : Gr) (p : Nat → Int) (k : Nat) : ∀ v ∈ rowA g p k, oneCell v = true := fun v hv => by
  simp only [rowA, List.mem_cons, List.not_mem_nil, or_false] at hv
  rcases hv with rfl | rfl | rfl | rfl <;> rfl
/-- The arcs of the first edges that have room. -/
def roomL (cap x : Nat → Int) (k : Nat) : List Nat := (List.range (2 * k)).filter fun a => decide (0 < roomA cap x a)
def arcsV (g : Gr) (p : Nat → Int) (l : List Nat) : List (List Value) := l.map fun a => [.agg (rowA g p a).toArray]
theorem room_succ (cap x : Nat → Int) (k : Nat) : roomL cap x (k + 1) = roomL cap x k ++ ((if 0 < roomA cap x (2 * k) then [2 * k] else []) ++ if 0 < roomA cap x (2 * k + 1) then [2 * k + 1] else []) := by
  unfold roomL
  rw [show 2 * (k + 1) = 2 * k + 1 + 1 by omega, List.range_succ, List.range_succ, List.append_assoc, List.filter_append]
  congr 1
  rw [List.filter_append]
  congr 1
  · by_cases h : 0 < roomA cap x (2 * k)
    · rw [if_pos h, List.filter_cons, decide_eq_true h]; rfl
    · rw [if_neg h, List.filter_cons, decide_eq_false h]; rfl
  · by_cases h : 0 < roomA cap x (2 * k + 1)
    · rw [if_pos h, List.filter_cons, decide_eq_true h]; rfl
    · rw [if_neg h, List.filter_cons, decide_eq_false h]; rfl
theorem room_pre (cap x : Nat → Int) : ∀ {m k : Nat}, k ≤ m → ∃ r, roomL cap x m = roomL cap x k ++ r
  | 0, k, h => ⟨[], by rw [show k = 0 by omega, List.append_nil]⟩
  | m + 1, k, h => by
    rcases Nat.lt_or_ge k (m + 1) with h1 | h1
    · obtain ⟨r, hr⟩ := room_pre (m := m) (k := k) cap x (by omega)
      exact ⟨_, by rw [room_succ, hr, List.append_assoc]⟩
    · exact ⟨[], by rw [show k = m + 1 by omega, List.append_nil]⟩
theorem arcs_at {g : Gr} {p cap x : Nat → Int} {m k : Nat} {l r : List Nat} {a : Nat} (hk : k < m) (h : roomL cap x (k + 1) = l ++ a :: r) : (arcsV g p (roomL cap x m))[l.length]? = some [.agg (rowA g p a).toArray] := by
  obtain ⟨s, hs⟩ := room_pre cap x (m := m) (k := k + 1) (by omega)
  unfold arcsV
  rw [hs, h, List.getElem?_map, List.append_assoc, List.getElem?_append_right (Nat.le_refl _), Nat.sub_self]
  rfl
def potE (pot : List Int) (i : Nat) : Int := pot.getD i 0
/-- All about an edge. -/
structure EAt (N : Int) (es : List Ed) (fl pot : List Int) (i : Nat) (e : Ed) (xx pu pv : Int) (un vn : Nat) : Prop where
  he : es[i]? = some e
  hx : fl[i]? = some xx
  hpu : pot[un]? = some pu
  hpv : pot[vn]? = some pv
  f : e.f = (un : Int)
  t : e.t = (vn : Int)
  un' : un < N.toNat
  vn' : vn < N.toNat
  gf : (grE N es).f i = un
  gt : (grE N es).t i = vn
  co : (grE N es).co i = e.cost
  cap : capE es i = e.cap
  fx : flE fl i = xx
  xb : 0 ≤ xx ∧ xx ≤ e.cap ∧ e.cap ≤ 4503599627370496
  cb : -1000 ≤ e.cost ∧ e.cost ≤ 1000
  ub : -1099511627776 ≤ pu ∧ pu ≤ 1099511627776
  vb : -1099511627776 ≤ pv ∧ pv ≤ 1099511627776
  pu' : potE pot un = pu
  pv' : potE pot vn = pv
theorem eat {N : Int} {es : List Ed} {fl pot : List Int} (hw : withinN N es fl = true) (hp : potN N pot = true) {i : Nat} (hi : i < es.length) : ∃ e xx pu pv un vn, EAt N es fl pot i e xx pu pv un vn := by
  obtain ⟨hl, hr, hin⟩ := within_of hw
  obtain ⟨hpl, hpb⟩ := pot_in hp
  obtain ⟨e, he⟩ := get_some (l := es) (i := i) hi
  obtain ⟨xx, hx⟩ := get_some (l := fl) (i := i) (by omega)
  have hco := edge_of ((right_of hr).2.2.2.1 e (List.mem_of_getElem? he))
  have hxx := hin i e xx he hx
  obtain ⟨un, hun⟩ : ∃ un : Nat, e.f = un := ⟨e.f.toNat, by omega⟩
  obtain ⟨vn, hvn⟩ : ∃ vn : Nat, e.t = vn := ⟨e.t.toNat, by omega⟩
  obtain ⟨pu, hpu⟩ := get_some (l := pot) (i := un) (by omega)
  obtain ⟨pv, hpv⟩ := get_some (l := pot) (i := vn) (by omega)
  refine ⟨e, xx, pu, pv, un, vn, he, hx, hpu, hpv, hun, hvn, by omega, by omega, ?_, ?_, ?_, ?_, getD_of hx, by omega, by omega, hpb _ _ hpu, hpb _ _ hpv, getD_of hpu, getD_of hpv⟩
  · show (es.getD i e0).f.toNat = un; rw [getD_of he, hun]; rfl
  · show (es.getD i e0).t.toNat = vn; rw [getD_of he, hvn]; rfl
  · show (es.getD i e0).cost = e.cost; rw [getD_of he]
  · show (es.getD i e0).cap = e.cap; rw [getD_of he]
theorem Rd.rowE {α : Type} {enc : α → List Value} {w : World} {a : Option Addr} {s : Nat} {xs : List α} (R : Rd w a s enc xs) {i : Nat} {x : α} (hx : xs[i]? = some x) {l : List Value} (he : enc x = l) (hs : l.length = s) : ∀ j v, l[j]? = some v → w.cell? ⟨(adr a).block, (adr a).off + i * s + j, none⟩ = some v := by
  subst he; exact R.row hx hs
section
variable {N : Int} {es : List Ed} {fl pot : List Int} {i : Nat} {e : Ed} {xx pu pv : Int} {un vn : Nat}
theorem EAt.enc (h : EAt N es fl pot i e xx pu pv un vn) : encE e = [.int .i64 (un : Int), .int .i64 (vn : Int), .int .i64 e.cap, .int .i64 e.cost] := by
  unfold encE; rw [h.f, h.t]
theorem EAt.fwd (h : EAt N es fl pot i e xx pu pv un vn) : rowA (grE N es) (potE pot) (2 * i) = [.int .i64 ((2 * i : Nat) : Int), .int .i64 (un : Int), .int .i64 (vn : Int), .int .i64 (e.cost + pu - pv)] := by
  unfold rowA Gr.len Gr.u Gr.v Gr.c
  rw [show 2 * i % 2 = 0 by omega, show 2 * i / 2 = i by omega]
  simp only [if_true]
  rw [h.gf, h.gt, h.co, h.pu', h.pv']
theorem EAt.bwd (h : EAt N es fl pot i e xx pu pv un vn) : rowA (grE N es) (potE pot) (2 * i + 1) = [.int .i64 ((2 * i + 1 : Nat) : Int), .int .i64 (vn : Int), .int .i64 (un : Int), .int .i64 (-(e.cost + pu - pv))] := by
  unfold rowA Gr.len Gr.u Gr.v Gr.c
  rw [show (2 * i + 1) % 2 = 1 by omega, show (2 * i + 1) / 2 = i by omega]
  simp only [if_false, Nat.one_ne_zero]
  rw [h.gf, h.gt, h.co, h.pu', h.pv', show -e.cost + pv - pu = -(e.cost + pu - pv) by omega]
theorem EAt.room0 (h : EAt N es fl pot i e xx pu pv un vn) : roomA (capE es) (flE fl) (2 * i) = e.cap - xx := by
  unfold roomA
  rw [show 2 * i % 2 = 0 by omega, show 2 * i / 2 = i by omega, if_pos rfl, h.cap, h.fx]
theorem EAt.room1 (h : EAt N es fl pot i e xx pu pv un vn) : roomA (capE es) (flE fl) (2 * i + 1) = xx := by
  unfold roomA
  rw [show (2 * i + 1) % 2 = 1 by omega, show (2 * i + 1) / 2 = i by omega, if_neg (by omega), h.fx]
end

theorem arcs_ok (N : Int) (a b p : Option Addr) (n c m d q r : Nat) (w : World) : Ret Tryz.prog 189 #[netV N a n c, .slice b m d, .slice p q r] w fun v w' => ∃ b1 b2 b3, v = .func (.func 212) #[] #[ptr b1, ptr b2, ptr b3] ∧ w'.heap[b1]? = some (Bl 28 [.int .i64 N, .slice a n c]) ∧ w'.heap[b2]? = some (Bl 29 [.slice p q r]) ∧ w'.heap[b3]? = some (Bl 29 [.slice b m d]) ∧ w.heap.size ≤ b1 ∧ w.heap.size ≤ b2 ∧ w.heap.size ≤ b3 ∧ Ext [] w w' := by
  obtain ⟨w0, rfl⟩ : ∃ w0, w0 = w := ⟨_, rfl⟩
  have H := Ctx.start w0 []
  refine ret_of_W (fn := Tryz.f189) Tryz.func189 rfl [netV N a n c, .slice b m d, .slice p q r] rfl (by kernel_rfl) ?_
  refine W_rseq ?_
  refine op_box rfl [.int .i64 N, .slice a n c] (.agg _) rfl rfl H ?_
  rintro b3 w - H
  refine op_box rfl _ (.slice _ _ _) rfl rfl H ?_
  rintro b4 w - H
  refine op_box rfl _ (.slice _ _ _) rfl rfl H ?_
  rintro b5 w - H
  refine op_assign rfl .nilFunc rfl ?_
  refine op_nil (at_then ?_)
  refine W_rseq ?_
  refine op_makeFuncL rfl [.pointer _, .pointer _, .pointer _] rfl ?_
  refine op_assign rfl (.func _ _ _) rfl ?_
  refine op_nil (at_then ?_)
  refine W_ret (leave1 (v := (.func _ _ _)) rfl rfl rfl ?_)
  have ho : ∀ x ∈ [(b5, Bl 29 [.slice p q r]), (b4, Bl 29 [.slice b m d]), (b3, Bl 28 [.int .i64 N, .slice a n c])], w0.heap.size ≤ x.1 := fun x hx => (H.own x hx).elim (fun h => by cases h) id
  exact ⟨b3, b5, b4, rfl, H.get at2, H.get at0, H.get at1, ho (b3, _) (List.mem_of_getElem? (i := 2) rfl), ho (b5, _) (List.mem_of_getElem? (i := 0) rfl), ho (b4, _) (List.mem_of_getElem? (i := 1) rfl), H.ext⟩
/-- What the rounds leave. -/
structure ArcK (b1 b2 b3 : Nat) (N : Int) (a b p : Option Addr) (c d r : Nat) (es : List Ed) (fl pot : List Int) (M : Mt) (w : World) : Prop where
  h1 : w.heap[b1]? = some (Bl 28 [.int .i64 N, .slice a es.length c])
  h2 : w.heap[b2]? = some (Bl 29 [.slice p pot.length r])
  h3 : w.heap[b3]? = some (Bl 29 [.slice b fl.length d])
  R : Rd w a 4 encE es
  Rf : Rd w b 1 I1 fl
  Rp : Rd w p 1 I1 pot

set_option maxRecDepth 20000 in
set_option maxHeartbeats 8000000 in
theorem arcs1_ok {b1 b2 b3 : Nat} {N : Int} {a b p : Option Addr} {c d r : Nat} {es : List Ed} {fl pot : List Int} (hw : withinN N es fl = true) (hp : potN N pot = true) :
    IterOk Tryz.prog 212 #[ptr b1, ptr b2, ptr b3] [] (ArcK b1 b2 b3 N a b p c d r es fl pot) (arcsV (grE N es) (potE pot) (roomL (capE es) (flE fl) es.length)) := by
  intro l w J E hJ0 hJs hEs hK hY
  obtain ⟨M0, hJ0⟩ := hJ0
  obtain ⟨hl, hri, -⟩ := within_of hw
  obtain ⟨hN1, hN40, hn200, -⟩ := right_of hri
  obtain ⟨hpl, -⟩ := pot_in hp
  obtain ⟨w0, rfl⟩ : ∃ w0, w0 = w := ⟨_, rfl⟩
  refine ret_of_W (fn := Tryz.f212) Tryz.func212 rfl [.func (.yield l) #[] #[], .pointer (some ⟨b1, 0, none⟩), .pointer (some ⟨b2, 0, none⟩), .pointer (some ⟨b3, 0, none⟩)] rfl (by kernel_rfl) ?_
  have K0 := (hK _ _ _ hJ0).2
  refine W_rseq ?_
  refine op_fieldAddr rfl fo_28_1_SeH rfl ?_
  first | refine op_ldb rfl ag_26_SeH rfl H (by first | exact at0 | exact at1 | exact at2 | exact at3 | exact at4 | exact at5 | exact at6 | exact at7 | exact at8 | exact at9) rfl ?_ | refine op_ld rfl ag_26_SeH rfl ((by rw [cell_bl K0.h1]; rfl)) ?_
  refine op_len rfl el_26_SeH rfl ?_
  refine op_move rfl (.int _ _) rfl ?_
  refine op_nil (at_then ?_)
  refine W_block ?_
  refine W_loop 2361183241434822605024 (α := Nat) (fun i => [(11, .int .i64 (i : Int))]) (fun i w' => i ≤ es.length ∧ ∃ M, J (roomL (capE es) (flE fl) i).length M w') (fun i => es.length - i) 0 rfl ?_ ?_ ?_
  · exact ⟨rfl, trivial⟩
  · exact ⟨Nat.zero_le _, M0, hJ0⟩
  · rintro i j w ⟨hi, M, hJ⟩
    refine W_rseq ?_
    refine op_lss rfl rfl rfl ?_
    refine op_nil (at_then ?_)
    refine W_seq ?_
    refine W_cond _ rfl ?_ ?_
    · intro h1
      replace h1 := dec_t h1
      obtain ⟨e, xx, pu, pv, un, vn, A⟩ := eat (i := i) hw hp (by omega)
      obtain ⟨he, hfx, hpu, hpv, hf, ht, hun, hvn, -, -, -, -, -, hxb, hcb, hub, hvb, -, -⟩ := id A
      have hrs := room_succ (capE es) (flE fl) i
      rw [A.room0, A.room1] at hrs
      obtain ⟨w1, rfl⟩ : ∃ w1, w1 = w := ⟨_, rfl⟩
      have KR : ∀ {z}, Ext [] w1 z → ArcK b1 b2 b3 N a b p c d r es fl pot M z := fun hz => (hK _ _ _ (hJs _ _ _ _ hJ hz)).2
      have R := (KR (.refl _ _)).R
      have Rf := (KR (.refl _ _)).Rf
      have Rp := (KR (.refl _ _)).Rp
      have H := Ctx.start w1 []
      refine W_skip (at_then ?_)
      refine W_seq ?_
      refine W_block ?_
      refine W_rseq ?_
      refine op_move rfl (.int _ _) rfl ?_
      first | refine op_indexRd R rfl el_26_SeH sz_92_SeH rfl rfl (by omega) (by omega) (by first | rfl | omega) ?_ | refine op_indexRd Rf rfl el_26_SeH sz_92_SeH rfl rfl (by omega) (by omega) (by first | rfl | omega) ?_ | refine op_indexRd Rp rfl el_26_SeH sz_92_SeH rfl rfl (by omega) (by omega) (by first | rfl | omega) ?_ | refine op_indexAddr rfl el_26_SeH sz_92_SeH rfl rfl (by omega) (by omega) ?_
      first | refine op_ldN _ rfl ag_92_SeH sz_92_SeH rfl rfl (Rd.rowE (KR H.ext).R he A.enc rfl) ?_ | refine op_ldbN rfl ag_92_SeH sz_92_SeH rfl H (by first | exact at0 | exact at1 | exact at2 | exact at3 | exact at4 | exact at5 | exact at6 | exact at7 | exact at8 | exact at9) rfl ?_
      refine op_alloc rfl zc_92_SeH H ?_
      rintro b6 w - H
      refine op_assign rfl (.int _ _) rfl ?_
      refine op_stb0 rfl sz_92_SeH rfl rfl rfl (by simp [oneCell]) H (by first | exact at0 | exact at1 | exact at2 | exact at3 | exact at4 | exact at5 | exact at6 | exact at7 | exact at8 | exact at9) rfl ?_
      rintro w H
      refine op_nil (at_then ?_)
      refine W_qseq (fun x => x = _) mixed_SeH (by kernel_rfl) rfl ?_
      refine q_fieldAddr rfl fo_92_3_SeH rfl ?_
      first | refine q_ldb rfl ag_2_SeH rfl (by rintro _ rfl; exact H.drew) (by first | exact at0 | exact at1 | exact at2 | exact at3 | exact at4 | exact at5 | exact at6 | exact at7 | exact at8 | exact at9) rfl ?_ | refine q_ld rfl ag_2_SeH rfl (by rintro _ rfl; exact ((by rw [cell_bl K0.h1]; rfl))) ?_ | refine q_ld rfl ag_2_SeH rfl (by rintro _ rfl; exact ((by rw [cell_bl (KR H.drew.ext).h2]; rfl))) ?_ | refine q_ld rfl ag_2_SeH rfl (by rintro _ rfl; exact (((KR H.drew.ext).Rp.fld hpu rfl (j := 0) rfl))) ?_ | refine q_ld rfl ag_2_SeH rfl (by rintro _ rfl; exact (((KR H.drew.ext).Rp.fld hpv rfl (j := 0) rfl))) ?_
      first | refine q_ldb rfl ag_29_SeH rfl (by rintro _ rfl; exact H.drew) (by first | exact at0 | exact at1 | exact at2 | exact at3 | exact at4 | exact at5 | exact at6 | exact at7 | exact at8 | exact at9) rfl ?_ | refine q_ld rfl ag_29_SeH rfl (by rintro _ rfl; exact ((by rw [cell_bl K0.h1]; rfl))) ?_ | refine q_ld rfl ag_29_SeH rfl (by rintro _ rfl; exact ((by rw [cell_bl (KR H.drew.ext).h2]; rfl))) ?_ | refine q_ld rfl ag_29_SeH rfl (by rintro _ rfl; exact (((KR H.drew.ext).Rp.fld hpu rfl (j := 0) rfl))) ?_ | refine q_ld rfl ag_29_SeH rfl (by rintro _ rfl; exact (((KR H.drew.ext).Rp.fld hpv rfl (j := 0) rfl))) ?_
      refine q_fieldAddr rfl fo_92_0_SeH rfl ?_
      first | refine q_ldb rfl ag_3_SeH rfl (by rintro _ rfl; exact H.drew) (by first | exact at0 | exact at1 | exact at2 | exact at3 | exact at4 | exact at5 | exact at6 | exact at7 | exact at8 | exact at9) rfl ?_ | refine q_ld rfl ag_3_SeH rfl (by rintro _ rfl; exact ((by rw [cell_bl K0.h1]; rfl))) ?_ | refine q_ld rfl ag_3_SeH rfl (by rintro _ rfl; exact ((by rw [cell_bl (KR H.drew.ext).h2]; rfl))) ?_ | refine q_ld rfl ag_3_SeH rfl (by rintro _ rfl; exact (((KR H.drew.ext).Rp.fld hpu rfl (j := 0) rfl))) ?_ | refine q_ld rfl ag_3_SeH rfl (by rintro _ rfl; exact (((KR H.drew.ext).Rp.fld hpv rfl (j := 0) rfl))) ?_
      first | refine q_indexRd R rfl el_29_SeH sz_2_SeH rfl rfl (by omega) (by omega) (by first | rfl | omega) ?_ | refine q_indexRd Rf rfl el_29_SeH sz_2_SeH rfl rfl (by omega) (by omega) (by first | rfl | omega) ?_ | refine q_indexRd Rp rfl el_29_SeH sz_2_SeH rfl rfl (by omega) (by omega) (by first | rfl | omega) ?_ | refine q_indexAddr rfl el_29_SeH sz_2_SeH rfl rfl (by omega) (by omega) ?_
      first | refine q_ldb rfl ag_2_SeH rfl (by rintro _ rfl; exact H.drew) (by first | exact at0 | exact at1 | exact at2 | exact at3 | exact at4 | exact at5 | exact at6 | exact at7 | exact at8 | exact at9) rfl ?_ | refine q_ld rfl ag_2_SeH rfl (by rintro _ rfl; exact ((by rw [cell_bl K0.h1]; rfl))) ?_ | refine q_ld rfl ag_2_SeH rfl (by rintro _ rfl; exact ((by rw [cell_bl (KR H.drew.ext).h2]; rfl))) ?_ | refine q_ld rfl ag_2_SeH rfl (by rintro _ rfl; exact (((KR H.drew.ext).Rp.fld hpu rfl (j := 0) rfl))) ?_ | refine q_ld rfl ag_2_SeH rfl (by rintro _ rfl; exact (((KR H.drew.ext).Rp.fld hpv rfl (j := 0) rfl))) ?_
      refine q_add_i64 rfl rfl rfl (by omega) (by omega) ?_
      first | refine q_ldb rfl ag_29_SeH rfl (by rintro _ rfl; exact H.drew) (by first | exact at0 | exact at1 | exact at2 | exact at3 | exact at4 | exact at5 | exact at6 | exact at7 | exact at8 | exact at9) rfl ?_ | refine q_ld rfl ag_29_SeH rfl (by rintro _ rfl; exact ((by rw [cell_bl K0.h1]; rfl))) ?_ | refine q_ld rfl ag_29_SeH rfl (by rintro _ rfl; exact ((by rw [cell_bl (KR H.drew.ext).h2]; rfl))) ?_ | refine q_ld rfl ag_29_SeH rfl (by rintro _ rfl; exact (((KR H.drew.ext).Rp.fld hpu rfl (j := 0) rfl))) ?_ | refine q_ld rfl ag_29_SeH rfl (by rintro _ rfl; exact (((KR H.drew.ext).Rp.fld hpv rfl (j := 0) rfl))) ?_
      refine q_fieldAddr rfl fo_92_1_SeH rfl ?_
      first | refine q_ldb rfl ag_3_SeH rfl (by rintro _ rfl; exact H.drew) (by first | exact at0 | exact at1 | exact at2 | exact at3 | exact at4 | exact at5 | exact at6 | exact at7 | exact at8 | exact at9) rfl ?_ | refine q_ld rfl ag_3_SeH rfl (by rintro _ rfl; exact ((by rw [cell_bl K0.h1]; rfl))) ?_ | refine q_ld rfl ag_3_SeH rfl (by rintro _ rfl; exact ((by rw [cell_bl (KR H.drew.ext).h2]; rfl))) ?_ | refine q_ld rfl ag_3_SeH rfl (by rintro _ rfl; exact (((KR H.drew.ext).Rp.fld hpu rfl (j := 0) rfl))) ?_ | refine q_ld rfl ag_3_SeH rfl (by rintro _ rfl; exact (((KR H.drew.ext).Rp.fld hpv rfl (j := 0) rfl))) ?_
      first | refine q_indexRd R rfl el_29_SeH sz_2_SeH rfl rfl (by omega) (by omega) (by first | rfl | omega) ?_ | refine q_indexRd Rf rfl el_29_SeH sz_2_SeH rfl rfl (by omega) (by omega) (by first | rfl | omega) ?_ | refine q_indexRd Rp rfl el_29_SeH sz_2_SeH rfl rfl (by omega) (by omega) (by first | rfl | omega) ?_ | refine q_indexAddr rfl el_29_SeH sz_2_SeH rfl rfl (by omega) (by omega) ?_
      first | refine q_ldb rfl ag_2_SeH rfl (by rintro _ rfl; exact H.drew) (by first | exact at0 | exact at1 | exact at2 | exact at3 | exact at4 | exact at5 | exact at6 | exact at7 | exact at8 | exact at9) rfl ?_ | refine q_ld rfl ag_2_SeH rfl (by rintro _ rfl; exact ((by rw [cell_bl K0.h1]; rfl))) ?_ | refine q_ld rfl ag_2_SeH rfl (by rintro _ rfl; exact ((by rw [cell_bl (KR H.drew.ext).h2]; rfl))) ?_ | refine q_ld rfl ag_2_SeH rfl (by rintro _ rfl; exact (((KR H.drew.ext).Rp.fld hpu rfl (j := 0) rfl))) ?_ | refine q_ld rfl ag_2_SeH rfl (by rintro _ rfl; exact (((KR H.drew.ext).Rp.fld hpv rfl (j := 0) rfl))) ?_
      refine q_sub_i64 rfl rfl rfl (by omega) (by omega) ?_
      refine q_assign rfl (.int _ _) rfl ?_
      refine q_nil ?_
      rintro _ rfl
      replace H := H.drew
      refine W_seq ?_
      obtain ⟨len, hlen⟩ : ∃ len, len = e.cost + pu - pv := ⟨_, rfl⟩
      rw [← hlen]
      have hf7 := A.fwd
      have hb7 := A.bwd
      rw [← hlen] at hf7 hb7
      have hb6 := (H.own _ (List.mem_cons_self ..)).elim (fun h => by cases h) id
      have hM := (hK _ _ _ hJ).1
      have hn6 : ¬ M b6 := fun h => by have := hM _ h; omega
      have hk6 := H.drew.get at0
      have hJ6 := hJs _ _ _ _ hJ H.drew.ext
      refine W_join 1125898833100800 (α := Bool) (fun z => [(49, .bool z)]) (fun z w' => (z = true → E w') ∧ (z = false → w'.heap[b6]? = some (Bl 92 [.int .i64 (un : Int), .int .i64 (vn : Int), .int .i64 e.cap, .int .i64 e.cost]) ∧ ∃ M', ¬ M' b6 ∧ J (roomL (capE es) (flE fl) i ++ (if 0 < e.cap - xx then [2 * i] else [])).length M' w')) rfl ?_ ?_
      · skip
        refine W_tail 17 mixed_SeH (by kernel_rfl) rfl rfl ?_
        first | refine q_ldb rfl ag_29_SeH rfl (by rintro _ rfl; exact H.drew) (by first | exact at0 | exact at1 | exact at2 | exact at3 | exact at4 | exact at5 | exact at6 | exact at7 | exact at8 | exact at9) rfl ?_ | refine q_ld rfl ag_29_SeH rfl (by rintro _ rfl; exact ((by rw [cell_bl (KR H.drew.ext).h3]; rfl))) ?_ | refine q_ld rfl ag_29_SeH rfl (by rintro _ rfl; exact (((KR H.drew.ext).Rf.fld hfx rfl (j := 0) rfl))) ?_
        refine q_move rfl (.int _ _) rfl ?_
        first | refine q_indexRd R rfl el_29_SeH sz_2_SeH rfl rfl (by omega) (by omega) (by first | rfl | omega) ?_ | refine q_indexRd Rf rfl el_29_SeH sz_2_SeH rfl rfl (by omega) (by omega) (by first | rfl | omega) ?_ | refine q_indexRd Rp rfl el_29_SeH sz_2_SeH rfl rfl (by omega) (by omega) (by first | rfl | omega) ?_ | refine q_indexAddr rfl el_29_SeH sz_2_SeH rfl rfl (by omega) (by omega) ?_
        first | refine q_ldb rfl ag_2_SeH rfl (by rintro _ rfl; exact H.drew) (by first | exact at0 | exact at1 | exact at2 | exact at3 | exact at4 | exact at5 | exact at6 | exact at7 | exact at8 | exact at9) rfl ?_ | refine q_ld rfl ag_2_SeH rfl (by rintro _ rfl; exact ((by rw [cell_bl (KR H.drew.ext).h3]; rfl))) ?_ | refine q_ld rfl ag_2_SeH rfl (by rintro _ rfl; exact (((KR H.drew.ext).Rf.fld hfx rfl (j := 0) rfl))) ?_
        refine q_fieldAddr rfl fo_92_2_SeH rfl ?_
        first | refine q_ldb rfl ag_2_SeH rfl (by rintro _ rfl; exact H.drew) (by first | exact at0 | exact at1 | exact at2 | exact at3 | exact at4 | exact at5 | exact at6 | exact at7 | exact at8 | exact at9) rfl ?_ | refine q_ld rfl ag_2_SeH rfl (by rintro _ rfl; exact ((by rw [cell_bl (KR H.drew.ext).h3]; rfl))) ?_ | refine q_ld rfl ag_2_SeH rfl (by rintro _ rfl; exact (((KR H.drew.ext).Rf.fld hfx rfl (j := 0) rfl))) ?_
        refine q_lss rfl rfl rfl ?_
        refine q_move rfl (.bool _) rfl ?_
        refine Wq_split 37 rfl ?_ ?_
        · intro h2
          replace h2 := dec_t h2
          refine q_move rfl (.func _ _ _) rfl ?_
          refine q_move rfl (.int _ _) rfl ?_
          refine q_mul_i64 rfl rfl rfl (by omega) (by omega) ?_
          refine q_fieldAddr rfl fo_92_0_SeH rfl ?_
          first | refine q_ldb rfl ag_3_SeH rfl (by rintro _ rfl; exact H.drew) (by first | exact at0 | exact at1 | exact at2 | exact at3 | exact at4 | exact at5 | exact at6 | exact at7 | exact at8 | exact at9) rfl ?_ | refine q_ld rfl ag_3_SeH rfl (by rintro _ rfl; exact ((by rw [cell_bl (KR H.drew.ext).h3]; rfl))) ?_ | refine q_ld rfl ag_3_SeH rfl (by rintro _ rfl; exact (((KR H.drew.ext).Rf.fld hfx rfl (j := 0) rfl))) ?_
          refine q_fieldAddr rfl fo_92_1_SeH rfl ?_
          first | refine q_ldb rfl ag_3_SeH rfl (by rintro _ rfl; exact H.drew) (by first | exact at0 | exact at1 | exact at2 | exact at3 | exact at4 | exact at5 | exact at6 | exact at7 | exact at8 | exact at9) rfl ?_ | refine q_ld rfl ag_3_SeH rfl (by rintro _ rfl; exact ((by rw [cell_bl (KR H.drew.ext).h3]; rfl))) ?_ | refine q_ld rfl ag_3_SeH rfl (by rintro _ rfl; exact (((KR H.drew.ext).Rf.fld hfx rfl (j := 0) rfl))) ?_
          refine q_move rfl (.int _ _) rfl ?_
          refine q_buildS (rowA (grE N es) (potE pot) (2 * i)) rfl pl_229_SeH zc_229_SeH (by rw [hf7]; kernel_rfl) ?_
          refine q_nil ?_
          replace H := H.drew
          refine op_yield (vs := [.agg (rowA (grE N es) (potE pot) (2 * i)).toArray]) rfl rfl (hY _ _ M _ (arcs_at (l := roomL (capE es) (flE fl) i) (k := i) (by omega) (by rw [hrs, if_pos (by omega)]; rfl)) hJ6) rfl ?_
          rintro u w hu
          obtain ⟨bb, rfl, hu1, hu0⟩ : ∃ bb, u = .bool bb ∧ (bb = true → w.heap[b6]? = some (Bl 92 [.int .i64 (un : Int), .int .i64 (vn : Int), .int .i64 e.cap, .int .i64 e.cost]) ∧ ∃ M', ¬ M' b6 ∧ J ((roomL (capE es) (flE fl) i).length + 1) M' w) ∧ (bb = false → E w) := hu.elim (fun h => ⟨true, h.1, fun _ => let ⟨M', h1, g⟩ := h.2; ⟨g.to hk6 hn6, M', g.not (heap_lt hk6) hn6, h1⟩, fun h => by cases h⟩) (fun h => ⟨false, h.1, (fun h => by cases h), fun _ => h.2⟩)
          refine op_not rfl rfl ?_
          refine op_pick1 rfl rfl (.bool _) rfl ?_
          refine op_nil (at_then ?_)
          exact ⟨!bb, rfl, ⟨rfl, trivial⟩, fun h => hu0 (by simpa using h), fun h => by rw [if_pos (by omega), List.length_append]; exact hu1 (by simpa using h)⟩
        · intro h2
          replace h2 := dec_f h2
          refine q_skip rfl ?_
          refine q_skip rfl ?_
          refine q_skip rfl ?_
          refine q_skip rfl ?_
          refine q_skip rfl ?_
          refine q_skip rfl ?_
          refine q_skip rfl ?_
          refine q_skip rfl ?_
          refine q_skip rfl ?_
          refine q_nil ?_
          replace H := H.drew
          refine op_skip rfl ?_
          refine op_skip rfl ?_
          refine op_pick0 rfl rfl (.bool _) rfl ?_
          refine op_nil (at_then ?_)
          exact ⟨false, rfl, ⟨rfl, trivial⟩, (fun h => by cases h), fun _ => ⟨hk6, M, hn6, by rw [if_neg (by omega), List.append_nil]; exact hJ6⟩⟩
      · rintro z j2 w ⟨hz1, hz0⟩
        refine W_cond _ rfl ?_ ?_
        · intro h2
          refine W_ret (ret_then (ret_block (ret_then (ret_then (ret_block (leave0 rfl rfl ?_))))))
          exact .inr (hz1 h2)
        · intro h2
          obtain ⟨hk7, M7, hn7, hJ7⟩ := hz0 h2
          obtain ⟨w7, rfl⟩ : ∃ z, z = w := ⟨_, rfl⟩
          have K7 := (hK _ _ _ hJ7).2
          have H := Ctx.start w7 []
          refine W_skip (at_then ?_)
          refine W_rseq ?_
          first | refine op_ldb rfl ag_29_SeH rfl H (by first | exact at0 | exact at1 | exact at2 | exact at3 | exact at4 | exact at5 | exact at6 | exact at7 | exact at8 | exact at9) rfl ?_ | refine op_ld rfl ag_29_SeH rfl ((by rw [cell_bl K7.h3]; rfl)) ?_ | refine op_ld rfl ag_29_SeH rfl ((K7.Rf.fld hfx rfl (j := 0) rfl)) ?_ | refine op_ld rfl ag_29_SeH rfl ((by rw [cell_bl hk7]; rfl)) ?_
          refine op_move rfl (.int _ _) rfl ?_
          first | refine op_indexRd Rf rfl el_29_SeH sz_2_SeH rfl rfl (by omega) (by omega) (by first | rfl | omega) ?_ | refine op_indexAddr rfl el_29_SeH sz_2_SeH rfl rfl (by omega) (by omega) ?_
          first | refine op_ldb rfl ag_2_SeH rfl H (by first | exact at0 | exact at1 | exact at2 | exact at3 | exact at4 | exact at5 | exact at6 | exact at7 | exact at8 | exact at9) rfl ?_ | refine op_ld rfl ag_2_SeH rfl ((by rw [cell_bl K7.h3]; rfl)) ?_ | refine op_ld rfl ag_2_SeH rfl ((K7.Rf.fld hfx rfl (j := 0) rfl)) ?_ | refine op_ld rfl ag_2_SeH rfl ((by rw [cell_bl hk7]; rfl)) ?_
          refine op_gtr rfl rfl rfl ?_
          refine op_move rfl (.bool _) rfl ?_
          refine Wops_split 55 rfl ?_ ?_
          · intro h3
            replace h3 := dec_t h3
            have hat := arcs_at (g := grE N es) (p := potE pot) (cap := capE es) (x := flE fl) (m := es.length) (l := roomL (capE es) (flE fl) i ++ (if 0 < e.cap - xx then [2 * i] else [])) (k := i) (a := 2 * i + 1) (r := []) (by omega) (by rw [hrs, if_pos h3, List.append_assoc])
            refine op_move rfl (.func _ _ _) rfl ?_
            refine op_move rfl (.int _ _) rfl ?_
            refine op_mul_i64 rfl rfl rfl (by omega) (by omega) ?_
            refine op_add_i64 rfl rfl rfl (by omega) (by omega) ?_
            refine op_fieldAddr rfl fo_92_1_SeH rfl ?_
            first | refine op_ldb rfl ag_3_SeH rfl H (by first | exact at0 | exact at1 | exact at2 | exact at3 | exact at4 | exact at5 | exact at6 | exact at7 | exact at8 | exact at9) rfl ?_ | refine op_ld rfl ag_3_SeH rfl ((by rw [cell_bl K7.h3]; rfl)) ?_ | refine op_ld rfl ag_3_SeH rfl ((K7.Rf.fld hfx rfl (j := 0) rfl)) ?_ | refine op_ld rfl ag_3_SeH rfl ((by rw [cell_bl hk7]; rfl)) ?_
            refine op_fieldAddr rfl fo_92_0_SeH rfl ?_
            first | refine op_ldb rfl ag_3_SeH rfl H (by first | exact at0 | exact at1 | exact at2 | exact at3 | exact at4 | exact at5 | exact at6 | exact at7 | exact at8 | exact at9) rfl ?_ | refine op_ld rfl ag_3_SeH rfl ((by rw [cell_bl K7.h3]; rfl)) ?_ | refine op_ld rfl ag_3_SeH rfl ((K7.Rf.fld hfx rfl (j := 0) rfl)) ?_ | refine op_ld rfl ag_3_SeH rfl ((by rw [cell_bl hk7]; rfl)) ?_
            refine op_move rfl (.int _ _) rfl ?_
            refine op_neg_i64 rfl rfl (by omega) (by omega) ?_
            refine op_buildS (rowA (grE N es) (potE pot) (2 * i + 1)) rfl pl_229_SeH zc_229_SeH (by rw [hb7]; kernel_rfl) ?_
            refine op_yield (vs := [.agg (rowA (grE N es) (potE pot) (2 * i + 1)).toArray]) rfl rfl (hY _ _ M7 _ hat hJ7) rfl ?_
            rintro u w hu
            obtain ⟨bb, rfl, hu1, hu0⟩ : ∃ bb, u = .bool bb ∧ (bb = true → ∃ M', J ((roomL (capE es) (flE fl) i ++ (if 0 < e.cap - xx then [2 * i] else [])).length + 1) M' w) ∧ (bb = false → E w) := hu.elim (fun h => ⟨true, h.1, fun _ => let ⟨M', h1, _⟩ := h.2; ⟨M', h1⟩, fun h => by cases h⟩) (fun h => ⟨false, h.1, (fun h => by cases h), fun _ => h.2⟩)
            refine op_not rfl rfl ?_
            refine op_pick1 rfl rfl (.bool _) rfl ?_
            refine op_nil (at_then ?_)
            refine W_cond _ rfl ?_ ?_
            · intro h4
              replace h4 := nvar_t h4
              refine W_ret (ret_block (ret_then (ret_then (ret_block (leave0 rfl rfl ?_)))))
              exact .inr (hu0 (by simpa using h4))
            · intro h4
              replace h4 := nvar_f h4
              refine W_skip (at_block (at_then ?_))
              refine W_region ?_
              refine op_add_i64 rfl rfl rfl (by omega) (by omega) ?_
              refine op_move rfl (.int _ _) rfl ?_
              refine op_nil (at_then ?_)
              refine ⟨i + 1, rfl, ⟨rfl, trivial⟩, ⟨by omega, ?_⟩, by omega⟩
              rw [hrs, if_pos h3, ← List.append_assoc, List.length_append]
              exact hu1 (by simpa using h4)
          · intro h3
            replace h3 := dec_f h3
            refine op_skip rfl ?_
            refine op_skip rfl ?_
            refine op_skip rfl ?_
            refine op_skip rfl ?_
            refine op_skip rfl ?_
            refine op_skip rfl ?_
            refine op_skip rfl ?_
            refine op_skip rfl ?_
            refine op_skip rfl ?_
            refine op_skip rfl ?_
            refine op_skip rfl ?_
            refine op_skip rfl ?_
            refine op_skip rfl ?_
            refine op_pick0 rfl rfl (.bool _) rfl ?_
            refine op_nil (at_then ?_)
            refine W_cond0 rfl ?_
            refine W_skip (at_block (at_then ?_))
            refine W_region ?_
            refine op_add_i64 rfl rfl rfl (by omega) (by omega) ?_
            refine op_move rfl (.int _ _) rfl ?_
            refine op_nil (at_then ?_)
            refine ⟨i + 1, rfl, ⟨rfl, trivial⟩, ⟨by omega, M7, ?_⟩, by omega⟩
            rw [hrs, if_neg h3, List.append_nil]
            exact hJ7
    · intro h1
      replace h1 := dec_f h1
      refine W_exit (exit_then (exit_then (exit_here (leave0n rfl rfl ?_))))
      obtain rfl : i = es.length := by omega
      exact .inl ⟨M, by unfold arcsV; rw [List.length_map]; exact hJ⟩

end Go.Proofs.YtapphbmlkdhnmaaGreat

/- Whether numbers fit what flows: the walk. -/
namespace Go.Proofs.YtapphbmlkdhnmaaGreat
open Go.GV
theorem ag_28_SeI : aggB Tryz.prog 28 = some true := by kernel_rfl
theorem ag_2_SeI : aggB Tryz.prog 2 = some false := by kernel_rfl
theorem ag_3_SeI : aggB Tryz.prog 3 = some false := by kernel_rfl
theorem ag_4_SeI : aggB Tryz.prog 4 = some false := by kernel_rfl
theorem ca_178_SeI : callable Tryz.prog 178 = true := by kernel_rfl
theorem ca_189_SeI : callable Tryz.prog 189 = true := by kernel_rfl
theorem ca_212_SeI : callable Tryz.prog 212 = true := by kernel_rfl
theorem el_29_SeI : elemT Tryz.prog 29 = some 2 := by kernel_rfl
theorem fo_229_3_SeI : fieldO Tryz.prog 229 3 = some 3 := by kernel_rfl
theorem fo_28_0_SeI : fieldO Tryz.prog 28 0 = some 0 := by kernel_rfl
theorem sz_229_SeI : tsize Tryz.prog 229 = some 4 := by kernel_rfl
theorem sz_28_SeI : tsize Tryz.prog 28 = some 2 := by kernel_rfl
theorem sz_2_SeI : tsize Tryz.prog 2 = some 1 := by kernel_rfl
theorem sz_4_SeI : tsize Tryz.prog 4 = some 1 := by kernel_rfl
theorem zc_229_SeI : zcells Tryz.prog 229 = some ([.int .i64 0, .int .i64 0, .int .i64 0, .int .i64 0]) := by kernel_rfl
theorem zc_4_SeI : zcells Tryz.prog 4 = some ([.bool false]) := by kernel_rfl
attribute [local irreducible] Wops W Wq Wt

def arcB (g : Gr) (p : Nat → Int) (a : Nat) : Bool := decide (0 ≤ g.len p a)
def fitsN (N : Int) (es : List Ed) (fl pot : List Int) : Bool := withinN N es fl && (potN N pot && (roomL (capE es) (flE fl) es.length).all (arcB (grE N es) (potE pot)))

set_option maxRecDepth 20000 in
set_option maxHeartbeats 8000000 in
theorem fits_ok (N : Int) (a b p : Option Addr) (n c m d q r : Nat) (es : List Ed) (fl pot : List Int) (w : World) (R : Rd w a 4 encE es) (hn : es.length = n) (hN : I64 N) (Rf : Rd w b 1 I1 fl) (hm : fl.length = m) (hm2 : m ≤ 9223372036854775000) (Rp : Rd w p 1 I1 pot) (hq : pot.length = q) (hq2 : q ≤ 9223372036854775000) :
    Ret Tryz.prog 188 #[netV N a n c, .slice b m d, .slice p q r] w fun v w' => v = .bool (fitsN N es fl pot) ∧ Ext [] w w' := by
  subst hn hm hq
  obtain ⟨w0, rfl⟩ : ∃ w0, w0 = w := ⟨_, rfl⟩
  have H := Ctx.start w0 []
  refine ret_of_WM (fn := Tryz.f188) Tryz.func188 rfl [netV N a es.length c, .slice b fl.length d, .slice p pot.length r] rfl (by kernel_rfl) ?_
  refine W_rseq ?_
  refine op_box rfl [.int .i64 N, .slice a es.length c] (.agg _) rfl rfl H ?_
  rintro b3 w - H
  refine op_alloc rfl zc_4_SeI H ?_
  rintro b6 w - H
  refine op_nil (at_then ?_)
  refine W_seq ?_
  refine W_rseq ?_
  refine op_ldbN rfl ag_28_SeI sz_28_SeI rfl H (by first | exact at0 | exact at1 | exact at2 | exact at3 | exact at4 | exact at5 | exact at6 | exact at7 | exact at8 | exact at9) rfl ?_
  refine op_move rfl (.slice _ _ _) rfl ?_
  refine op_call rfl ca_178_SeI (within_ok N a b es.length c fl.length d es fl _ (R.ext0 H.ext) rfl hN (Rf.ext0 H.ext) rfl hm2) rfl ?_
  rintro v w ⟨rfl, hx12⟩
  replace H := H.call hx12
  refine op_not rfl rfl ?_
  refine op_move rfl (.bool _) rfl ?_
  refine Wops_split 14 rfl ?_ ?_
  · intro h1
    replace h1 := nvar_t h1
    refine op_skip rfl ?_
    refine op_skip rfl ?_
    refine op_skip rfl ?_
    refine op_skip rfl ?_
    refine op_skip rfl ?_
    refine op_pick1 rfl rfl (.bool _) rfl ?_
    refine op_nil (at_then ?_)
    refine W_cond1 rfl ?_
    refine W_rseq ?_
    refine op_stb (.bool _) rfl sz_4_SeI rfl rfl rfl H (by first | exact at0 | exact at1 | exact at2 | exact at3 | exact at4 | exact at5 | exact at6 | exact at7 | exact at8 | exact at9) (by first | decide | (simp; done) | (simp; omega)) ?_
    rintro w H
    refine op_nil (at_then ?_)
    refine W_ret (ret_then (leaveM1c rfl rfl ?_))
    have h1' : withinN N es fl = false := by simpa using h1
    exact ⟨_, run_load1 ag_4_SeI (by rw [cell_bl (H.get at0)]; rfl), congrArg Value.bool (by unfold fitsN; rw [h1']; rfl), H.ext⟩
  · intro h1
    replace h1 := nvar_f h1
    have h1' : withinN N es fl = true := by simpa using h1
    refine op_move rfl (.slice _ _ _) rfl ?_
    refine op_len rfl el_29_SeI rfl ?_
    refine op_fieldAddr rfl fo_28_0_SeI rfl ?_
    refine op_ldb rfl ag_3_SeI rfl H (by first | exact at0 | exact at1 | exact at2 | exact at3 | exact at4 | exact at5 | exact at6 | exact at7 | exact at8 | exact at9) rfl ?_
    refine op_neq rfl rfl rfl ?_
    refine op_pick0 rfl rfl (.bool _) rfl ?_
    refine op_nil (at_then ?_)
    refine W_cond _ rfl ?_ ?_
    · intro h2
      replace h2 := ndec_t h2
      refine W_rseq ?_
      refine op_stb (.bool _) rfl sz_4_SeI rfl rfl rfl H (by first | exact at0 | exact at1 | exact at2 | exact at3 | exact at4 | exact at5 | exact at6 | exact at7 | exact at8 | exact at9) (by first | decide | (simp; done) | (simp; omega)) ?_
      rintro w H
      refine op_nil (at_then ?_)
      refine W_ret (ret_then (leaveM1c rfl rfl ?_))
      have h2' : potN N pot = false := by unfold potN; rw [decide_eq_false h2, Bool.and_false]
      exact ⟨_, run_load1 ag_4_SeI (by rw [cell_bl (H.get at0)]; rfl), congrArg Value.bool (by unfold fitsN; rw [h2', Bool.false_and, Bool.and_false]), H.ext⟩
    · intro h2
      replace h2 := ndec_f h2
      have hpl : (pot.length : Int) = N := by simpa using h2
      refine W_skip (at_then ?_)
      refine W_seq ?_
      refine W_rseq ?_
      refine op_move rfl (.slice _ _ _) rfl ?_
      refine op_len rfl el_29_SeI rfl ?_
      refine op_move rfl (.int _ _) rfl ?_
      refine op_nil (at_then ?_)
      refine W_block ?_
      refine W_loop 17171480832 (α := Nat) (fun i => [(23, .int .i64 (i : Int))]) (fun i w' => i ≤ pot.length ∧ Ctx w0 [] w' [(b6, Bl 4 [.bool false]), (b3, Bl 28 [.int .i64 N, .slice a es.length c])] ∧ ∀ (k : Nat) (x : Int), k < i → pot[k]? = some x → farB x = true) (fun i => pot.length - i) 0 rfl ?_ ?_ ?_
      · exact ⟨rfl, trivial⟩
      · exact ⟨Nat.zero_le _, H, fun k x h => absurd h (Nat.not_lt_zero _)⟩
      · rintro i j w ⟨hi, H, hb⟩
        refine W_rseq ?_
        refine op_lss rfl rfl rfl ?_
        refine op_nil (at_then ?_)
        refine W_seq ?_
        refine W_cond _ rfl ?_ ?_
        · intro h3
          replace h3 := dec_t h3
          obtain ⟨x, h7x⟩ := get_some (l := pot) (i := i) (by omega)
          refine W_skip (at_then ?_)
          refine W_seq ?_
          refine W_block ?_
          refine W_rseq ?_
          first | refine op_indexRd Rp rfl el_29_SeI sz_2_SeI rfl rfl (by omega) (by omega) (by first | rfl | omega) ?_ | refine op_indexAddr rfl el_29_SeI sz_2_SeI rfl rfl (by omega) (by omega) ?_
          first | refine op_ldb rfl ag_2_SeI rfl H (by first | exact at0 | exact at1 | exact at2 | exact at3 | exact at4 | exact at5 | exact at6 | exact at7 | exact at8 | exact at9) rfl ?_ | refine op_ld rfl ag_2_SeI rfl (((Rp.ext0 H.ext).fld h7x rfl (j := 0) rfl)) ?_
          refine op_assign rfl (.int _ _) rfl ?_
          refine op_nil (at_then ?_)
          refine W_rseq (Wops_join (α := Unit) 8455716864 (fun _ => [(32, .bool (!farB x))]) (fun _ w' => Ctx w0 [] w' [(b6, Bl 4 [.bool false]), (b3, Bl 28 [.int .i64 N, .slice a es.length c])]) rfl ?_ ?_)
          · refine op_move rfl (.int _ _) rfl ?_
            refine op_lss rfl rfl rfl ?_
            refine op_move rfl (.bool _) rfl ?_
            refine Wops_split 29 rfl ?_ ?_
            · intro h1
              replace h1 := dec_t h1
              refine op_skip rfl ?_
              refine op_skip rfl ?_
              refine op_pick1 rfl rfl (.bool _) rfl ?_
              refine op_nil ?_
              exact ⟨rfl, (), rfl, ⟨congrArg Value.bool (by unfold farB; rw [Bool.eq_iff_iff]; simp_all; try omega), trivial⟩, H⟩
            · intro h2
              replace h2 := dec_f h2
              refine op_move rfl (.int _ _) rfl ?_
              refine op_gtr rfl rfl rfl ?_
              refine op_pick0 rfl rfl (.bool _) rfl ?_
              refine op_nil ?_
              exact ⟨rfl, (), rfl, ⟨congrArg Value.bool (by unfold farB; rw [Bool.eq_iff_iff]; simp_all; try omega), trivial⟩, H⟩
          rintro - j32 w H
          refine W_cond _ rfl ?_ ?_
          · intro h4
            replace h4 := nvar_t h4
            refine W_rseq ?_
            refine op_stb (.bool _) rfl sz_4_SeI rfl rfl rfl H (by first | exact at0 | exact at1 | exact at2 | exact at3 | exact at4 | exact at5 | exact at6 | exact at7 | exact at8 | exact at9) (by first | decide | (simp; done) | (simp; omega)) ?_
            rintro w H
            refine op_nil (at_then ?_)
            refine W_ret (ret_block (ret_then (ret_then (ret_block (ret_then (leaveM1c rfl rfl ?_))))))
            have h2' : potN N pot = false := by unfold potN; rw [all_false h7x (by simpa using h4), Bool.false_and]
            exact ⟨_, run_load1 ag_4_SeI (by rw [cell_bl (H.get at0)]; rfl), congrArg Value.bool (by unfold fitsN; rw [h2', Bool.false_and, Bool.and_false]), H.ext⟩
          · intro h4
            replace h4 := nvar_f h4
            refine W_skip (at_block (at_then ?_))
            refine W_region ?_
            refine op_add_i64 rfl rfl rfl (by omega) (by omega) ?_
            refine op_move rfl (.int _ _) rfl ?_
            refine op_nil (at_then ?_)
            refine ⟨i + 1, rfl, ⟨rfl, trivial⟩, ⟨by omega, H, fun k y hk hy => ?_⟩, by omega⟩
            rcases Nat.lt_or_ge k i with h7 | h7
            · exact hb k y h7 hy
            · obtain rfl : k = i := by omega
              rw [h7x] at hy
              cases hy
              simpa using h4
        · intro h3
          replace h3 := dec_f h3
          have hp : potN N pot = true := by
            unfold potN
            rw [all_true fun k x hk hx => hb k x (by omega) hx, decide_eq_true hpl]; rfl
          obtain ⟨hl, hri, -⟩ := within_of h1'
          obtain ⟨hN1, hN40, hn200, -⟩ := right_of hri
          have hfN : fitsN N es fl pot = (roomL (capE es) (flE fl) es.length).all (arcB (grE N es) (potE pot)) := by unfold fitsN; rw [h1', hp]; rfl
          refine W_exit (exit_then (exit_then (exit_here (at_then ?_))))
          refine W_seq ?_
          refine W_rseq ?_
          refine op_ldbN rfl ag_28_SeI sz_28_SeI rfl H (by first | exact at0 | exact at1 | exact at2 | exact at3 | exact at4 | exact at5 | exact at6 | exact at7 | exact at8 | exact at9) rfl ?_
          refine op_move rfl (.slice _ _ _) rfl ?_
          refine op_move rfl (.slice _ _ _) rfl ?_
          have hlt := H.lt (k := 0) rfl
          have hlt1 := H.lt (k := 1) rfl
          refine op_call rfl ca_189_SeI (arcs_ok N a b p es.length c fl.length d pot.length r _) rfl ?_
          rintro v w ⟨x1, x2, x3, rfl, hb1, hb2, hb3, hs1, hs2, hs3, hx37⟩
          have hbb := (H.call hx37)
          have hx7 := H.ext.trans hx37
          have hs07 := H.size
          refine op_nil (at_then ?_)
          refine W_block ?_
          obtain ⟨ws, rfl⟩ : ∃ z, z = w := ⟨_, rfl⟩
          have hk6 := hbb.lt (k := 0) rfl
          have hk1 := heap_lt hb1
          have hk2 := heap_lt hb2
          have hk3 := heap_lt hb3
          have hk66 := hbb.get at0
          have hs0 := hbb.size
          have h60 : w0.heap.size ≤ b6 := (hbb.own _ (List.mem_cons_self ..)).elim (fun h => by cases h) id
          refine W_range (gf := 212) rfl ca_212_SeI (arcs1_ok (b1 := x1) (b2 := x2) (b3 := x3) (a := a) (b := b) (p := p) (c := c) (d := d) (r := r) h1' hp) (by kernel_rfl) (by kernel_rfl) (fun v hv => by obtain ⟨p, -, rfl⟩ := List.mem_map.1 hv; rfl)
            (fun i M w' => (M = fun _ => False) ∧ Ext [] w0 w' ∧ w'.heap[b6]? = some (Bl 4 [.bool false]) ∧ w'.heap[x1]? = some (Bl 28 [.int .i64 N, .slice a es.length c]) ∧ w'.heap[x2]? = some (Bl 29 [.slice p pot.length r]) ∧ w'.heap[x3]? = some (Bl 29 [.slice b fl.length d]) ∧ ∀ (k : Nat) (y : Nat), k < i → (roomL (capE es) (flE fl) es.length)[k]? = some y → arcB (grE N es) (potE pot) y = true)
            (fun w' => Ext [] w0 w' ∧ w'.heap[b6]? = some (Bl 4 [.bool false]) ∧ (roomL (capE es) (flE fl) es.length).all (arcB (grE N es) (potE pot)) = false) (by simp)
            (fun w2 hx2 _ => ⟨_, rfl, hx7.trans hx2, hx2.to hk66 (by simp), hx2.to hb1 (by simp), hx2.to hb2 (by simp), hx2.to hb3 (by simp), fun k y h => absurd h (Nat.not_lt_zero _)⟩)
            (fun i M w' w'' hJ hx => ⟨hJ.1, hJ.2.1.then hx (fun z hz => .inr (by simp only [List.mem_cons, List.not_mem_nil, or_false] at hz; omega)), hx.to hJ.2.2.1 (by simp; omega), hx.to hJ.2.2.2.1 (by simp; omega), hx.to hJ.2.2.2.2.1 (by simp; omega), hx.to hJ.2.2.2.2.2.1 (by simp; omega), hJ.2.2.2.2.2.2⟩)
            (fun w' w'' hE hx => ⟨hE.1.then hx (fun z hz => .inr (by simp only [List.mem_cons, List.not_mem_nil, or_false] at hz; omega)), hx.to hE.2.1 (by simp; omega), hE.2.2⟩)
            (fun i M w' hJ => ⟨fun y hy => by rw [hJ.1] at hy; exact hy.elim, hJ.2.2.2.1, hJ.2.2.2.2.1, hJ.2.2.2.2.2.1, R.ext0 hJ.2.1, Rf.ext0 hJ.2.1, Rp.ext0 hJ.2.1⟩) ?_ ?_ ?_
          · rintro i v _ w hxv ⟨rfl, hx0, g6, g1, g2, g3, hall⟩ hsz
            unfold arcsV at hxv
            rw [List.getElem?_map] at hxv
            obtain ⟨y, hy, rfl⟩ := Option.map_eq_some_iff.1 hxv
            obtain ⟨w1, rfl⟩ : ∃ z, z = w := ⟨_, rfl⟩
            have H := Ctx.start w1 []
            refine W_region ?_
            refine op_alloc rfl zc_229_SeI H ?_
            rintro b9 w - H
            refine op_stb0 rfl sz_229_SeI rfl rfl rfl (by first | exact rowA_one _ _ _ | simp [oneCell]) H (by first | exact at0 | exact at1 | exact at2 | exact at3 | exact at4 | exact at5 | exact at6 | exact at7 | exact at8 | exact at9) rfl ?_
            rintro w H
            refine op_nil ?_
            refine ⟨H.ext, fun wB hxB => ?_⟩
            have hb9 := (H.own _ (List.mem_cons_self ..)).elim (fun h => by cases h) id
            have k9 := hxB.to (H.get at0) (by rw [List.mem_singleton]; omega)
            have k6 := hxB.to (H.ext.to g6 (by simp)) (by rw [List.mem_singleton]; omega)
            have k1 := hxB.to (H.ext.to g1 (by simp)) (by rw [List.mem_singleton]; omega)
            have k2 := hxB.to (H.ext.to g2 (by simp)) (by rw [List.mem_singleton]; omega)
            have k3 := hxB.to (H.ext.to g3 (by simp)) (by rw [List.mem_singleton]; omega)
            have hx0B := (hx0.trans H.ext).then hxB fun z hz => .inr (by rw [List.mem_singleton.1 hz]; omega)
            obtain ⟨w2, rfl⟩ : ∃ z, z = wB := ⟨_, rfl⟩
            replace H := Ctx.start1 k6
            have hn9 : b9 ∉ [b6] := by rw [List.mem_singleton]; omega
            refine W_block ?_
            refine W_rseq ?_
            refine op_fieldAddr rfl fo_229_3_SeI rfl ?_
            first | refine op_ldb rfl ag_2_SeI rfl H (by first | exact at0 | exact at1 | exact at2 | exact at3 | exact at4 | exact at5 | exact at6 | exact at7 | exact at8 | exact at9) rfl ?_ | refine op_ld rfl ag_2_SeI rfl (((Rp.ext0 H.ext).fld h7x rfl (j := 0) rfl)) ?_ | refine op_ld rfl ag_2_SeI rfl ((H.old (cell_bl k9 _) hn9)) ?_
            refine op_lss rfl rfl rfl ?_
            refine op_nil (at_then ?_)
            refine W_cond _ rfl ?_ ?_
            · intro h5
              replace h5 := dec_t h5
              refine W_rseq ?_
              refine op_stb (.bool _) rfl sz_4_SeI rfl rfl rfl H (by first | exact at0 | exact at1 | exact at2 | exact at3 | exact at4 | exact at5 | exact at6 | exact at7 | exact at8 | exact at9) (by first | decide | (simp; done) | (simp; omega)) ?_
              rintro w H
              refine op_nil (at_then ?_)
              refine W_ret (ret_block ?_)
              exact ⟨⟨hx0B.then H.ext fun z hz => .inr (by rw [List.mem_singleton.1 hz]; exact h60), H.get at0, all_false hy (decide_eq_false (by omega))⟩, _, H.ext, by rw [List.mem_singleton]; omega, by rw [List.mem_singleton]; omega⟩
            · intro h5
              replace h5 := dec_f h5
              refine W_skip (at_block ?_)
              refine ⟨_, ⟨rfl, hx0B, k6, k1, k2, k3, fun k z hk hz => ?_⟩, fun _ h => h.elim, [], .refl _ _, fun _ h => by cases h⟩
              rcases Nat.lt_or_ge k i with h7 | h7
              · exact hall k z h7 hz
              · obtain rfl : k = i := by omega
                rw [hy] at hz
                cases hz
                exact decide_eq_true (by omega)
          · rintro M w ⟨-, hx0, g6, -, -, -, hall⟩ hD
            have hlen : (arcsV (grE N es) (potE pot) (roomL (capE es) (flE fl) es.length)).length = (roomL (capE es) (flE fl) es.length).length := by unfold arcsV; rw [List.length_map]
            rw [hlen] at hall
            replace H := Ctx.start1 g6
            refine at_block (at_then ?_)
            refine W_rseq ?_
            refine op_stb (.bool _) rfl sz_4_SeI rfl rfl rfl H (by first | exact at0 | exact at1 | exact at2 | exact at3 | exact at4 | exact at5 | exact at6 | exact at7 | exact at8 | exact at9) (by first | decide | (simp; done) | (simp; omega)) ?_
            rintro w H
            refine op_nil (at_then ?_)
            refine W_ret (leaveM1c rfl rfl ?_)
            refine marks_one (by rw [H.ext.block _ (heap_lt hD) (by rw [List.mem_singleton]; omega)]; exact hD) rfl fun wF hxF => ?_
            exact ⟨_, run_load1 ag_4_SeI (by rw [cell_bl (hxF.to (H.get at0) (by rw [List.mem_singleton]; omega))]; rfl), congrArg Value.bool (by rw [hfN, all_true fun k x hk hx => hall k x hk hx]), (hx0.then H.ext fun z hz => .inr (by rw [List.mem_singleton.1 hz]; exact h60)).then hxF fun z hz => .inr (by rw [List.mem_singleton.1 hz]; omega)⟩
          · rintro w ⟨hx0, g6, hall⟩ hD
            refine ret_block (ret_then (leaveM1c rfl rfl ?_))
            refine marks_one hD rfl fun wF hxF => ?_
            exact ⟨_, run_load1 ag_4_SeI (by rw [cell_bl (hxF.to g6 (by rw [List.mem_singleton]; omega))]; rfl), congrArg Value.bool (by rw [hfN, hall]), hx0.then hxF fun z hz => .inr (by rw [List.mem_singleton.1 hz]; omega)⟩

end Go.Proofs.YtapphbmlkdhnmaaGreat
