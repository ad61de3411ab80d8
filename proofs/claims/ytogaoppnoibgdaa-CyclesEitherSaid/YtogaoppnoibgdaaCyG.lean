/- The plain law of rings: what the search of cycles.Find keeps. -/
import Derived.Test.YtogaoppnoibgdaaCyE
import Derived.Test.YtogaoppnoibgdaaCyF
namespace Go.Proofs.Ytogaoppnoibgdaa
open Go.GV

/-- Nodes of which each one's open dues lead to those behind it. -/
def Topo (l : List Due) : List Nat → Prop
  | [] => True
  | b :: D => (∀ d ∈ l, d.held = false → d.fr = (b : Int) → d.to.toNat ∈ D) ∧ b ∉ D ∧ Topo l D

theorem pigeon : ∀ (n : Nat) (l : List Nat), l.Nodup → (∀ x ∈ l, x < n) → l.length ≤ n
  | 0, l, _, h => by
    cases l with
    | nil => exact Nat.le_refl _
    | cons x l => exact absurd (h x (by simp)) (Nat.not_lt_zero _)
  | n + 1, l, hd, h => by
    have h1 := pigeon n (l.filter (· != n)) (hd.filter _) (fun x hx => by
      have := h x (List.mem_filter.1 hx).1
      have h2 := (List.mem_filter.1 hx).2
      simp at h2; omega)
    have h2 : l.length = (l.filter (· != n)).length + l.count n := by
      clear hd h h1
      induction l with
      | nil => rfl
      | cons x l ih =>
        rw [List.count_cons, List.filter_cons]
        by_cases hx : x = n
        · subst hx; simp; omega
        · simp [hx]; omega
    have h3 : l.count n ≤ 1 := List.nodup_iff_count.1 hd n
    omega

theorem Topo.closed {l : List Due} : ∀ {D : List Nat}, Topo l D → ∀ d ∈ l, d.held = false → 0 ≤ d.fr → d.fr.toNat ∈ D → d.to.toNat ∈ D
  | [], _, d, _, _, _, h => absurd h (by simp)
  | b :: D, ⟨h1, _, h3⟩, d, hd, hh, h0, h => by
    rcases List.mem_cons.1 h with h | h
    · exact List.mem_cons_of_mem _ (h1 d hd hh (by omega))
    · exact List.mem_cons_of_mem _ (Topo.closed h3 d hd hh h0 h)

/-- Banks each of which has an open due of one of them: none where the search is over. -/
theorem Topo.noIn {l : List Due} (hn : ∀ d ∈ l, d.fr ≠ d.to ∧ 0 ≤ d.fr ∧ 0 ≤ d.to) (U : Nat → Prop) : ∀ {D : List Nat}, Topo l D → (∀ b, U b → b ∈ D) →
    (∀ b, U b → ∃ d ∈ l, d.held = false ∧ d.to.toNat = b ∧ U d.fr.toNat) → ∀ b, ¬ U b
  | [], _, hU, _, b, hb => absurd (hU b hb) (by simp)
  | c :: D, ⟨h1, h2, h3⟩, hU, hin, b, hb => by
    have hc : ¬ U c := fun hc => by
      obtain ⟨d, hd, hh, ht, hf⟩ := hin c hc
      have hne := hn d hd
      rcases List.mem_cons.1 (hU _ hf) with h | h
      · omega
      · have := Topo.closed h3 d hd hh hne.2.1 h
        rw [ht] at this
        exact h2 this
    exact Topo.noIn hn U h3 (fun b hb => by
      rcases List.mem_cons.1 (hU b hb) with h | h
      · subst h; exact absurd hb hc
      · exact h) hin b hb

theorem Topo.noOut {l : List Due} (hn : ∀ d ∈ l, d.fr ≠ d.to ∧ 0 ≤ d.fr ∧ 0 ≤ d.to) : ∀ {D : List Nat} (U : Nat → Prop), Topo l D → (∀ b, U b → b ∈ D) →
    (∀ b, U b → ∃ d ∈ l, d.held = false ∧ d.fr.toNat = b ∧ U d.to.toNat) → ∀ b, ¬ U b
  | [], _, _, hU, _, b, hb => absurd (hU b hb) (by simp)
  | c :: D, U, ⟨h1, h2, h3⟩, hU, hout, b, hb => by
    have hD : ∀ b, ¬ (U b ∧ b ∈ D) := Topo.noOut hn (fun b => U b ∧ b ∈ D) h3 (fun b h => h.2) (fun b hb => by
      obtain ⟨d, hd, hh, hf, ht⟩ := hout b hb.1
      exact ⟨d, hd, hh, hf, ht, Topo.closed h3 d hd hh (hn d hd).2.1 (by rw [hf]; exact hb.2)⟩)
    rcases List.mem_cons.1 (hU b hb) with h | h
    · subst h
      obtain ⟨d, hd, hh, hf, ht⟩ := hout b hb
      exact hD _ ⟨ht, h1 d hd hh (by have := (hn d hd).2.1; omega)⟩
    · exact hD b ⟨hb, h⟩

/-! ### Ways -/
structure Walk (l : List Due) (way : List Int) (ds : List Due) : Prop where
  len : ds.length = way.length
  at' : ∀ (i : Nat) (d : Due), ds[i]? = some d → ∃ x : Int, way[i]? = some x ∧ 0 ≤ x ∧ l[x.toNat]? = some d ∧ d.held = false

theorem Walk.dq {l : List Due} {way : List Int} {ds : List Due} (h : Walk l way ds) {i : Nat} {d : Due} (hd : ds[i]? = some d) : dq l way i = d := by
  obtain ⟨x, h1, _, h2, _⟩ := h.at' i d hd
  simp [Proofs.Ytogaoppnoibgdaa.dq, h1, h2]
theorem Walk.ok {l : List Due} {way : List Int} {ds : List Due} (h : Walk l way ds) {i : Nat} {d : Due} (hd : ds[i]? = some d) : okI l way i = true := by
  obtain ⟨x, h1, h0, h2, h3⟩ := h.at' i d hd
  have hl := get_lt h2
  rw [okI, h.dq hd, h1, h3]
  simp; omega
theorem Walk.drop {l : List Due} {way : List Int} {ds : List Due} (h : Walk l way ds) (k : Nat) : Walk l (way.drop k) (ds.drop k) :=
  ⟨by rw [List.length_drop, List.length_drop, h.len], fun i d hd => by
    rw [List.getElem?_drop] at hd
    obtain ⟨x, h1, h2⟩ := h.at' _ d hd
    exact ⟨x, by rw [List.getElem?_drop]; exact h1, h2⟩⟩
theorem Walk.snoc {l : List Due} {way : List Int} {ds : List Due} {k : Nat} {d : Due} (h : Walk l way ds) (hd : l[k]? = some d) (hh : d.held = false) : Walk l (way ++ [(k : Int)]) (ds ++ [d]) :=
  ⟨by simp [h.len], fun i e he => by
    rw [List.getElem?_append] at he
    split at he
    · obtain ⟨x, h1, h2⟩ := h.at' i e he
      exact ⟨x, by rw [List.getElem?_append_left (get_lt h1)]; exact h1, h2⟩
    · rename_i hi
      have h1 : i = ds.length := by
        have := get_lt he
        simp at this; omega
      subst h1
      simp at he
      subst he
      exact ⟨k, by rw [h.len]; simp, by omega, by simpa using hd, hh⟩⟩

/-- A way whose dues lead one to the next, of banks that differ. -/
structure Path (ds : List Due) (bank : Int) : Prop where
  chain : ∀ i d e, ds[i]? = some d → ds[i + 1]? = some e → d.to = e.fr
  last : ∀ d, ds[ds.length - 1]? = some d → d.to = bank
  nd : (ds.map (·.fr)).Nodup
  new : ∀ d ∈ ds, d.fr ≠ bank

theorem Path.nil (bank : Int) : Path [] bank := ⟨by simp, by simp, by simp, by simp⟩
theorem Path.snoc {ds : List Due} {d : Due} (h : Path ds d.fr) (hn : ∀ e ∈ ds ++ [d], e.fr ≠ d.to) : Path (ds ++ [d]) d.to := by
  refine ⟨?_, ?_, ?_, hn⟩
  · intro i a b ha hb
    rw [List.getElem?_append] at hb
    split at hb
    · rename_i hi
      rw [List.getElem?_append_left (by omega)] at ha
      exact h.chain i a b ha hb
    · rename_i hi
      have hl := get_lt hb
      simp at hl
      have hi' : i + 1 = ds.length := by omega
      rw [hi', Nat.sub_self] at hb
      simp at hb; subst hb
      rw [List.getElem?_append_left (by omega)] at ha
      exact h.last a (by rw [show ds.length - 1 = i by omega]; exact ha)
  · intro a ha
    simp at ha
    rw [ha]
  · rw [List.map_append, List.nodup_append]
    refine ⟨h.nd, by simp, ?_⟩
    intro a ha b hb hab
    simp at hb; subst hb; subst hab
    obtain ⟨e, he, hf⟩ := List.mem_map.1 ha
    exact h.new e he hf
theorem Path.short {ds : List Due} {bank : Int} (h : Path ds bank) (hb : ∀ d ∈ ds, 0 ≤ d.fr ∧ d.fr < 16) (h0 : 0 ≤ bank) (h1 : bank < 16) : ds.length ≤ 15 := by
  have hm : ((bank :: ds.map (·.fr)).map Int.toNat).Nodup := by
    rw [List.nodup_iff_pairwise_ne, List.pairwise_map]
    have : (bank :: ds.map (·.fr)).Nodup := List.nodup_cons.2 ⟨fun hm => by
      obtain ⟨d, hd, he⟩ := List.mem_map.1 hm
      exact h.new d hd he, h.nd⟩
    have hall : ∀ x ∈ bank :: ds.map (·.fr), 0 ≤ x := fun x hx => by
      rcases List.mem_cons.1 hx with hx | hx
      · omega
      · obtain ⟨d, hd, he⟩ := List.mem_map.1 hx
        have := hb d hd; omega
    refine List.Pairwise.imp_of_mem ?_ this
    intro a b ha hb' hab he
    have := hall a ha; have := hall b hb'
    omega
  have := pigeon 16 _ hm (fun x hx => by
    obtain ⟨y, hy, rfl⟩ := List.mem_map.1 hx
    rcases List.mem_cons.1 hy with hy | hy
    · omega
    · obtain ⟨d, hd, he⟩ := List.mem_map.1 hy
      have := hb d hd; omega)
  simp at this
  omega

/-- Where the way comes back to a bank of its own, it goes round from there. -/
theorem ring_of_path {l : List Due} {way : List Int} {ds : List Due} {d : Due} {k i : Nat} {e : Due} (hw : Walk l way ds) (hp : Path ds d.fr) (hd : l[k]? = some d) (hh : d.held = false)
    (he : (ds ++ [d])[i]? = some e) (hb : e.fr = d.to) : ringB l ((way ++ [(k : Int)]).drop i) = true := by
  have hW := (hw.snoc hd hh).drop i
  have hil := get_lt he
  simp only [List.length_append, List.length_singleton] at hil
  have hlen := hW.len
  simp only [List.length_drop, List.length_append, List.length_singleton] at hlen
  have hnd : ((ds ++ [d]).map (·.fr)).Nodup := by
    rw [List.map_append, List.nodup_append]
    refine ⟨hp.nd, by simp, ?_⟩
    intro a ha b hb' hab
    simp at hb'; subst hb'; subst hab
    obtain ⟨x, hx, hf⟩ := List.mem_map.1 ha
    exact hp.new x hx hf
  have hget : ∀ j, j < ((way ++ [(k : Int)]).drop i).length → ∃ x, ((ds ++ [d]).drop i)[j]? = some x := fun j hj => get_some (by rw [hW.len]; exact hj)
  have hpos : 0 < ((way ++ [(k : Int)]).drop i).length := by
    rw [← hW.len, List.length_drop, List.length_append, List.length_singleton]; omega
  rw [ringB, decide_eq_true hpos, Bool.and_true, Bool.and_eq_true, List.all_eq_true, List.all_eq_true]
  refine ⟨fun j hj => ?_, fun j hj => ?_⟩
  · obtain ⟨x, hx⟩ := hget j (List.mem_range.1 hj)
    rw [ring1, hW.ok hx, Bool.true_and, List.all_eq_true]
    intro q hq
    obtain ⟨y, hy⟩ := hget q (Nat.lt_trans (List.mem_range.1 hq) (List.mem_range.1 hj))
    rw [hW.dq hx, hW.dq hy]
    simp only [Bool.not_eq_true', decide_eq_false_iff_not]
    intro hxy
    rw [List.getElem?_drop] at hx hy
    have h1 : ((ds ++ [d]).map (·.fr))[i + j]? = some x.fr := by rw [List.getElem?_map, hx]; rfl
    have h2 : ((ds ++ [d]).map (·.fr))[i + q]? = some x.fr := by rw [List.getElem?_map, hy, ← hxy]; rfl
    have := (List.getElem?_inj (get_lt h1) hnd).1 (h1.trans h2.symm)
    have := List.mem_range.1 hq
    omega
  · obtain ⟨x, hx⟩ := hget j (List.mem_range.1 hj)
    have hjl := List.mem_range.1 hj
    rw [ring2, hW.dq hx, decide_eq_true_eq]
    by_cases hl : j + 1 < ((way ++ [(k : Int)]).drop i).length
    · obtain ⟨y, hy⟩ := hget (j + 1) hl
      rw [Nat.mod_eq_of_lt hl, hW.dq hy]
      rw [List.getElem?_drop] at hx hy
      have hP : ∀ (m : Nat) (a b : Due), (ds ++ [d])[m]? = some a → (ds ++ [d])[m + 1]? = some b → a.to = b.fr := by
        intro m a b ha hb'
        rw [List.getElem?_append] at hb'
        split at hb'
        · rw [List.getElem?_append_left (by omega)] at ha
          exact hp.chain m a b ha hb'
        · have hl2 := get_lt hb'
          simp at hl2
          have hm : m + 1 = ds.length := by omega
          rw [hm, Nat.sub_self] at hb'
          simp at hb'; subst hb'
          rw [List.getElem?_append_left (by omega)] at ha
          exact hp.last a (by rw [show ds.length - 1 = m by omega]; exact ha)
      exact hP _ _ _ hx hy
    · have hje : j + 1 = ((way ++ [(k : Int)]).drop i).length := by omega
      obtain ⟨y, hy⟩ := hget 0 hpos
      rw [hje, Nat.mod_self, hW.dq hy]
      rw [List.getElem?_drop] at hx hy
      rw [Nat.add_zero, he] at hy
      injection hy with hy
      subst hy
      rw [← hW.len, List.length_drop, List.length_append, List.length_singleton] at hje
      rw [show i + j = ds.length by omega] at hx
      simp at hx
      rw [← hx, hb]

end Go.Proofs.Ytogaoppnoibgdaa
