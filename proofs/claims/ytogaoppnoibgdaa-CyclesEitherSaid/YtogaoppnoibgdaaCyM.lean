/- The plain law: a ring, or an order, not both; what calls hand back, each in one form. -/
import Derived.Test.YtogaoppnoibgdaaCyL
namespace Go.Proofs.Ytogaoppnoibgdaa
open Go.GV

def ordX (banks : Int) (l : List Due) : List Int := match orderD banks l with | none => [] | some out => out.map fun (x : Nat) => (x : Int)
def netX (banks : Int) (l : List Due) : List Int := bif decide (netsE banks l = 0) then (List.range banks.toNat).map (netB l) else []

theorem order_uni {banks : Int} {l : List Due} {w w' : World} {v : Value} (h : OrderPost banks l w v w') : ∃ a c, v = .tuple #[.slice a (ordX banks l).length c, .bool (orderD banks l).isSome] ∧ Ext [] w w' ∧ Rd w' a 1 I64 (ordX banks l) := by
  unfold OrderPost at h
  unfold ordX
  cases ho : orderD banks l with
  | none => rw [ho] at h; exact ⟨none, 0, h.1, h.2, Rd.nil⟩
  | some out =>
    rw [ho] at h
    obtain ⟨s, hv, hf⟩ := h
    have hf' : Fresh w w' 3 1 s ((out.map fun (x : Nat) => (x : Int)).map iv) := by rw [List.map_map]; exact hf
    obtain ⟨a, c, rfl, R⟩ := Fresh.rd hf'
    exact ⟨a, c, hv, hf.ext, R⟩

theorem nets_uni {banks : Int} {l : List Due} {w w' : World} {v : Value} (h : NetsPost banks l w v w') : ∃ a c, v = .tuple #[.slice a (netX banks l).length c, .int .i64 (netsE banks l)] ∧ Ext [] w w' ∧ Rd w' a 1 I64 (netX banks l) := by
  rcases h with ⟨h0, hv, hx⟩ | ⟨h0, s, hv, hf⟩
  · exact ⟨none, 0, by rw [hv, netX, decide_eq_false h0]; rfl, hx, by rw [netX, decide_eq_false h0]; exact Rd.nil⟩
  · have hn : netX banks l = (List.range banks.toNat).map (netB l) := by rw [netX, decide_eq_true h0]; rfl
    have hf' : Fresh w w' 2 1 s ((netX banks l).map iv) := by rw [hn, List.map_map]; exact hf
    obtain ⟨a, c, rfl, R⟩ := Fresh.rd hf'
    exact ⟨a, c, by rw [hv, h0], hf.ext, R⟩

structure Found (l : List Due) (b : Bool) (r : List Int) : Prop where
  yes : b = true → allD l = true ∧ ringB l r = true
  no : b = false → r = [] ∧ (allD l = true → ∃ D, Topo l D ∧ ∀ q, q < 16 → q ∈ D)

theorem find_uni {l : List Due} {w w' : World} {v : Value} (h : FindPost l w v w') : ∃ a c r b, v = .tuple #[.slice a r.length c, .bool b] ∧ Ext [] w w' ∧ Rd w' a 1 I64 r ∧ Found l b r := by
  rcases h with ⟨ha, s, r, hr, hv, hf⟩ | ⟨hv, hx, hD⟩
  · obtain ⟨a, c, rfl, R⟩ := Fresh.rd hf
    exact ⟨a, c, r, true, hv, hf.ext, R, fun _ => ⟨ha, hr⟩, fun h => by cases h⟩
  · exact ⟨none, 0, [], false, hv, hx, Rd.nil, (fun h => by cases h), fun _ => ⟨rfl, hD⟩⟩

theorem may_all (l : List Due) : mayD 16 l = allD l := by
  rw [may_split, belowD]
  cases ha : allD l with
  | false => rfl
  | true =>
    have F := (all_facts ha).2
    have : (l.all fun d => decide (d.fr < 16) && decide (d.to < 16)) = true := List.all_eq_true.2 fun d hd => by
      have := F d hd
      simp; omega
    rw [this]; rfl

/-! ### An order, or banks that wait for one another -/
theorem go_some {l : List Due} {nb : Nat} : ∀ (k : Nat) (out o : List Nat), orderGo l nb k out = some o → o.length = out.length + k ∧ (out.Nodup → o.Nodup) ∧ ((∀ x ∈ out, x < nb) → ∀ x ∈ o, x < nb) ∧ (∃ t, o = out ++ t)
  | 0, out, o, h => by
    rw [orderGo] at h; injection h with h; subst h
    exact ⟨rfl, id, id, [], by simp⟩
  | k + 1, out, o, h => by
    rw [orderGo] at h
    cases hn : nextB l nb out with
    | none => rw [hn] at h; cases h
    | some b =>
      rw [hn] at h
      obtain ⟨h1, h2, h3, t, h4⟩ := go_some k _ o h
      obtain ⟨hb, hc, _⟩ := next_lt hn
      refine ⟨by rw [h1]; simp; omega, fun hd => h2 ?_, fun hl => h3 ?_, b :: t, by rw [h4]; simp⟩
      · rw [List.nodup_append]
        refine ⟨hd, by simp, fun x hx y hy he => ?_⟩
        simp at hy; subst hy; subst he
        simp at hc; exact hc hx
      · intro x hx
        rcases List.mem_append.1 hx with hx | hx
        · exact hl x hx
        · simp at hx; omega

theorem full_mem {nb : Nat} {o : List Nat} (hd : o.Nodup) (hl : ∀ x ∈ o, x < nb) (hn : o.length = nb) (q : Nat) (hq : q < nb) : q ∈ o := by
  by_cases h : q ∈ o
  · exact h
  · have := pigeon nb (q :: o) (List.nodup_cons.2 ⟨h, hd⟩) (fun x hx => by
      rcases List.mem_cons.1 hx with rfl | hx
      · exact hq
      · exact hl x hx)
    simp at this; omega

/-- Banks each of which has an open due of one of them are never out. -/
theorem go_stuck {l : List Due} {nb : Nat} (U : Nat → Prop) (hU : ∀ b, U b → ∃ d ∈ l, d.held = false ∧ d.to = (b : Int) ∧ U d.fr.toNat) :
    ∀ (k : Nat) (out o : List Nat), orderGo l nb k out = some o → (∀ b, U b → b ∉ out) → ∀ b, U b → b ∉ o
  | 0, out, o, h, ho => by rw [orderGo] at h; injection h with h; subst h; exact ho
  | k + 1, out, o, h, ho => by
    rw [orderGo] at h
    cases hn : nextB l nb out with
    | none => rw [hn] at h; cases h
    | some c =>
      rw [hn] at h
      refine go_stuck U hU k _ o h fun b hb hm => ?_
      rcases List.mem_append.1 hm with hm | hm
      · exact ho b hb hm
      · simp at hm; subst hm
        obtain ⟨d, hd, hh, ht, hf⟩ := hU b hb
        have := (next_lt hn).2.2
        rw [List.any_eq_false] at this
        have h2 := this d hd
        have h3 := ho _ hf
        simp [waitsB, hh, ht, h3] at h2

theorem stuck_none {l : List Due} {nb : Nat} (U : Nat → Prop) (hU : ∀ b, U b → ∃ d ∈ l, d.held = false ∧ d.to = (b : Int) ∧ U d.fr.toNat) {b : Nat} (hb : U b) (hlt : b < nb) : orderGo l nb nb [] = none := by
  cases h : orderGo l nb nb [] with
  | none => rfl
  | some o =>
    obtain ⟨h1, h2, h3, _⟩ := go_some nb [] o h
    have := go_stuck U hU nb [] o h (by simp) b hb
    exact absurd (full_mem (h2 (by simp)) (h3 (by simp)) (by simpa using h1) b hlt) this

/-- Where no order goes on, banks wait for one another. -/
theorem none_stuck {l : List Due} {nb : Nat} : ∀ (k : Nat) (out : List Nat), orderGo l nb k out = none → out.Nodup → (∀ x ∈ out, x < nb) → out.length + k = nb →
    ∃ out' : List Nat, (∃ b, b < nb ∧ b ∉ out') ∧ ∀ b, b < nb → b ∉ out' → ∃ d ∈ l, d.held = false ∧ d.to = (b : Int) ∧ d.fr.toNat ∉ out'
  | 0, out, h, _, _, _ => by rw [orderGo] at h; cases h
  | k + 1, out, h, hd, hl, hk => by
    rw [orderGo] at h
    cases hn : nextB l nb out with
    | none =>
      refine ⟨out, ?_, fun b hb ho => ?_⟩
      · refine Classical.byContradiction fun hc => ?_
        have hall : ∀ q, q < nb → q ∈ out := fun q hq => Classical.byContradiction fun hq2 => hc ⟨q, hq, hq2⟩
        have h1 : nb ≤ out.length := by
          have h2 : (List.range nb).length ≤ out.length := (List.nodup_range).length_le_of_subset (fun q hq => hall q (List.mem_range.1 hq))
          simpa using h2
        omega
      · unfold nextB at hn
        have h1 := List.find?_eq_none.1 hn b (List.mem_range.2 hb)
        simp only [freeB, Bool.and_eq_true, Bool.not_eq_true', not_and] at h1
        have h2 := h1 (by simpa using ho)
        rw [Bool.not_eq_false, List.any_eq_true] at h2
        obtain ⟨d, hd', hw⟩ := h2
        simp only [waitsB, Bool.and_eq_true, Bool.not_eq_true', decide_eq_true_eq] at hw
        exact ⟨d, hd', hw.1, hw.2.1, by simpa using hw.2.2⟩
    | some b =>
      rw [hn] at h
      obtain ⟨hb, hc, _⟩ := next_lt hn
      refine none_stuck k _ h ?_ ?_ (by simp; omega)
      · rw [List.nodup_append]
        refine ⟨hd, by simp, fun x hx y hy he => ?_⟩
        simp at hy; subst hy; subst he
        simp at hc; exact hc hx
      · intro x hx
        rcases List.mem_append.1 hx with hx | hx
        · exact hl x hx
        · simp at hx; omega

theorem topo_order {l : List Due} (ha : allD l = true) {D : List Nat} (hT : Topo l D) (hD : ∀ q, q < 16 → q ∈ D) : (orderD 16 l).isSome = true := by
  have F := (all_facts ha).2
  rw [orderD, may_all, ha]
  show (orderGo l 16 16 []).isSome = true
  cases h : orderGo l 16 16 [] with
  | some _ => rfl
  | none =>
    obtain ⟨out, ⟨b, hb, hbo⟩, hU⟩ := none_stuck 16 [] h (by simp) (by simp) rfl
    exact (Topo.noIn (fun d hd => by have := F d hd; omega) (fun b => b < 16 ∧ b ∉ out) hT (fun b hb => hD b hb.1) (fun b hb => by
      obtain ⟨d, hd, hh, ht, hf⟩ := hU b hb.1 hb.2
      have := F d hd
      exact ⟨d, hd, hh, by omega, by omega, hf⟩) b ⟨hb, hbo⟩).elim

/-- The banks of a ring. -/
def onR (l : List Due) (r : List Int) (b : Nat) : Prop := ∃ i, i < r.length ∧ (dq l r i).fr = (b : Int)

theorem ring_out {l : List Due} {r : List Int} (ha : allD l = true) (h : ringB l r = true) (b : Nat) (hb : onR l r b) : ∃ d ∈ l, d.held = false ∧ d.fr = (b : Int) ∧ onR l r d.to.toNat := by
  obtain ⟨i, hi, hf⟩ := hb
  obtain ⟨x, d, hx, _, _, hd, hq, hh⟩ := ring_get h hi
  have F := (all_facts ha).2 d (List.mem_of_getElem? hd)
  refine ⟨d, List.mem_of_getElem? hd, hh, by rw [← hq]; exact hf, (i + 1) % r.length, Nat.mod_lt _ (ring_parts h).2.2, ?_⟩
  have h2 := all_at (ring_parts h).2.1 hi
  rw [ring2, decide_eq_true_eq, hq] at h2
  rw [← h2]; omega
theorem ring_in {l : List Due} {r : List Int} (ha : allD l = true) (h : ringB l r = true) (b : Nat) (hb : onR l r b) : ∃ d ∈ l, d.held = false ∧ d.to = (b : Int) ∧ onR l r d.fr.toNat := by
  obtain ⟨i, hi, hf⟩ := hb
  obtain ⟨j, hj, hji⟩ : ∃ j, j < r.length ∧ (j + 1) % r.length = i := by
    cases i with
    | zero => exact ⟨r.length - 1, by omega, by rw [show r.length - 1 + 1 = r.length by omega, Nat.mod_self]⟩
    | succ i => exact ⟨i, by omega, Nat.mod_eq_of_lt hi⟩
  obtain ⟨x, d, hx, _, _, hd, hq, hh⟩ := ring_get h hj
  have F := (all_facts ha).2 d (List.mem_of_getElem? hd)
  have h2 := all_at (ring_parts h).2.1 hj
  rw [ring2, decide_eq_true_eq, hq, hji, hf] at h2
  exact ⟨d, List.mem_of_getElem? hd, hh, h2, j, hj, by rw [hq]; omega⟩
theorem ring_on {l : List Due} {r : List Int} (ha : allD l = true) (h : ringB l r = true) : ∃ b, b < 16 ∧ onR l r b := by
  have h0 := (ring_parts h).2.2
  obtain ⟨x, d, hx, _, _, hd, hq, hh⟩ := ring_get h h0
  have F := (all_facts ha).2 d (List.mem_of_getElem? hd)
  exact ⟨d.fr.toNat, by omega, 0, h0, by rw [hq]; omega⟩

theorem ring_order {l : List Due} {r : List Int} (ha : allD l = true) (h : ringB l r = true) : (orderD 16 l).isSome = false := by
  obtain ⟨b, hb, ho⟩ := ring_on ha h
  rw [orderD, may_all, ha]
  show (orderGo l 16 16 []).isSome = false
  rw [stuck_none (onR l r) (ring_in ha h) ho hb]; rfl

theorem found_order {l : List Due} {b : Bool} {r : List Int} (ha : allD l = true) (h : Found l b r) : b = !(orderD 16 l).isSome := by
  cases b with
  | true => rw [ring_order ha (h.yes rfl).2]; rfl
  | false =>
    obtain ⟨D, hT, hD⟩ := (h.no rfl).2 ha
    rw [topo_order ha hT hD]; rfl

end Go.Proofs.Ytogaoppnoibgdaa
