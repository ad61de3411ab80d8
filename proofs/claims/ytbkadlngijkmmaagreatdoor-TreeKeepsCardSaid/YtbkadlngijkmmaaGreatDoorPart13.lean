/- Part 13 of the proof. -/
import Derived.Test.YtbkadlngijkmmaaGreatDoorPart12
/- Arguments that are read, with their weights: slices of structs that hold slices. It holds for every program. -/
namespace Go.GV
open Go Go.ChangeShapes Go.WideShapes

section
variable {P : Program} {H : Type} {enc : TypeId × Value → H} {w : World} {base : Nat} {spare : Nat → Bool} {held : Bool}

/-- No part of it is of more bytes than any machine has. -/
def Light (P : Program) (t : TypeId) (d : DataW H) : Prop := ∀ x ∈ d.weights P t, x ≤ reachBytes

theorem weightsAll_mem {e : TypeId} {l : List (DataW H)} {d : DataW H} (h : d ∈ l) : ∀ x ∈ d.weights P e, x ∈ DataW.weightsAll P e l := by
  induction l with
  | nil => cases h
  | cons y l ih =>
    intro x hx
    unfold DataW.weightsAll
    rcases List.mem_cons.1 h with rfl | h
    · exact List.mem_append_left _ hx
    · exact List.mem_append_right _ (ih h x hx)
theorem weightsEach_mem : ∀ {ts : List TypeId} {l : List (DataW H)} {i : Nat} {t : TypeId} {d : DataW H}, ts[i]? = some t → l[i]? = some d → ∀ x ∈ d.weights P t, x ∈ DataW.weightsEach P ts l
  | [], _, i, _, _, h, _ => by simp at h
  | _ :: _, [], i, _, _, _, h => by simp at h
  | t :: ts, d :: l, 0, _, _, h1, h2 => by
    simp only [List.getElem?_cons_zero, Option.some.injEq] at h1 h2
    subst h1 h2
    intro x hx
    unfold DataW.weightsEach
    exact List.mem_append_left _ hx
  | t :: ts, d :: l, i + 1, _, _, h1, h2 => by
    intro x hx
    unfold DataW.weightsEach
    exact List.mem_append_right _ (weightsEach_mem (by simpa using h1) (by simpa using h2) x hx)
theorem Light.elems {t e : TypeId} {es sp : List (DataW H)} (ht : P.underlying t = some (.slice e)) (h : Light P t (.slice es sp)) : es.length * P.bytesOf e ≤ reachBytes ∧ ∀ d ∈ es, Light P e d := by
  unfold Light at h
  unfold DataW.weights at h
  rw [ht] at h
  refine ⟨?_, fun d hd x hx => h x (List.mem_cons_of_mem _ (List.mem_append_left _ (weightsAll_mem hd x hx)))⟩
  have h1 := h _ (List.mem_cons_self ..)
  rw [Nat.add_mul] at h1
  omega
theorem Light.part {t : TypeId} {fs : Array Field} {ps : List (DataW H)} (ht : P.underlying t = some (.struct fs)) (h : Light P t (.agg ps)) {i : Nat} {f : Field} {d : DataW H} (hf : fs[i]? = some f) (hd : ps[i]? = some d) : Light P f.type d := by
  intro x hx
  refine h x ?_
  unfold DataW.weights
  rw [ht]
  exact weightsEach_mem (ts := fs.toList.map (·.type)) (i := i) (by rw [List.getElem?_map, Array.getElem?_toList, hf]; rfl) hd x hx

theorem light_of {ts : List TypeId} {ds : List (DataW H)} (h : ((DataW.weightsEach P ts ds).all fun x => decide (x ≤ reachBytes)) = true) {i : Nat} {t : TypeId} {d : DataW H} (ht : ts[i]? = some t) (hd : ds[i]? = some d) : Light P t d :=
  fun x hx => of_decide_eq_true (List.all_eq_true.1 h x (weightsEach_mem ht hd x hx))
theorem rdw_of {α : Type} {t e : TypeId} {s fuel : Nat} {cs : List Value} {x : DataW H × List MemPlace} {encd : α → List Value} {Good : α → Prop} (ht : P.underlying t = some (.slice e)) (hs : P.cellsOf e = s) (h0 : 0 < s)
    (dec : ∀ n cs y, DataW.trod enc P w base spare held n e cs = some y → Light P e y.1 → ∃ d, cs = encd d ∧ Good d) (h : DataW.trod enc P w base spare held fuel t cs = some x) (hL : Light P t x.1) :
    ∃ (a : Option Addr) (c : Nat) (l : List α), cs = [.slice a l.length c] ∧ Rd w a s encd l ∧ l.length ≤ c ∧ c ≤ maxLen ∧ l.length * P.bytesOf e ≤ reachBytes ∧ (∀ d ∈ l, Good d) := by
  rcases Go.Deep.open_slice ht h with ⟨hc, hx⟩ | ⟨a, len, cap, m, n, D, Pl, hc, _, hl, hm, hmm, rfl, hx⟩
  · exact ⟨none, 0, [], hc, Rd.nil, Nat.le_refl _, Nat.zero_le _, by simp, by simp⟩
  · have hle : len ≤ m := by rw [hmm]; split <;> omega
    obtain ⟨hb, hLe⟩ := hL.elems ht
    rw [List.length_map, List.length_range] at hb
    have hd : ∀ i, i < len → ∃ d : α, (w.cells? base (a.add (i * s)) s = some (encd d)) ∧ Good d := fun i hi => by
      obtain ⟨cs', h1, h2⟩ := hx i (by omega)
      obtain ⟨d, rfl, hg⟩ := dec _ _ _ h2 (hLe _ (List.mem_map.2 ⟨i, List.mem_range.2 hi, rfl⟩))
      exact ⟨d, by rw [← hs]; exact h1, hg⟩
    have hlist : ∀ k, k ≤ len → ∃ l : List α, l.length = k ∧ ∀ i d, l[i]? = some d → w.cells? base (a.add (i * s)) s = some (encd d) ∧ Good d := by
      intro k
      induction k with
      | zero => intro _; exact ⟨[], rfl, fun i d h => by simp at h⟩
      | succ k ih =>
        intro hk
        obtain ⟨l, h1, h2⟩ := ih (by omega)
        obtain ⟨d, hd1, hd2⟩ := hd k (by omega)
        refine ⟨l ++ [d], by simp [h1], fun i d' hi => ?_⟩
        rw [List.getElem?_append] at hi
        split at hi
        · exact h2 i d' hi
        · rename_i hlt
          have : i = k := by
            have := (List.getElem?_eq_some_iff.1 hi).1
            simp at this; omega
          subst this
          rw [h1, Nat.sub_self] at hi
          simp at hi; subst hi
          exact ⟨hd1, hd2⟩
    obtain ⟨l, h1, h2⟩ := hlist len (Nat.le_refl _)
    subst h1
    refine ⟨some a, cap, l, hc, ⟨fun hne => ?_, fun i d hi j u hu hj => ?_⟩, hl, hm, hb, fun d hd => ?_⟩
    · cases l with
      | nil => exact absurd rfl hne
      | cons d l =>
        obtain ⟨h3, _⟩ := h2 0 d rfl
        obtain ⟨h4, h5⟩ := cells_at h3
        obtain ⟨u, hu⟩ := get_some (l := encd d) (i := 0) (by omega)
        have h6 := h5 0 u hu
        rw [Nat.zero_mul] at h6
        have h7 : (a.add 0).add 0 = a := by simp [Addr.add]
        rw [h7] at h6
        exact ⟨a.block, a.off, by rw [← cell_none h6]⟩
    · obtain ⟨h3, _⟩ := h2 i d hi
      have h5 := (cells_at h3).2 j u hu
      rw [Go.Deep.add_add] at h5
      have h6 := cell_none h5
      rw [h6] at h5
      have hblk : ∀ q, (a.add q).block = a.block ∧ (a.add q).off = a.off + q := by
        intro q; unfold Addr.add
        by_cases hq : q = 0 <;> simp [hq]
      rw [(hblk _).1, (hblk _).2, ← Nat.add_assoc] at h5
      obtain ⟨b, o, sp⟩ := a
      exact h5
    · obtain ⟨i, hi⟩ := List.getElem?_of_mem hd
      exact (h2 i d hi).2
theorem rdw_of_T {α : Type} {t e : TypeId} {s : Nat} {v : Value} {d : DataW H} {ps : List MemPlace} {encd : α → List Value} {Good : α → Prop} (ht : P.underlying t = some (.slice e)) (hs : P.cellsOf e = s) (h0 : 0 < s)
    (dec : ∀ n cs y, DataW.trod enc P w base spare held n e cs = some y → Light P e y.1 → ∃ d, cs = encd d ∧ Good d) (hv : ∃ a n c, v = .slice a n c) (h : DataW.Trod enc P w base spare held t v d ps) (hL : Light P t d) :
    ∃ (a : Option Addr) (c : Nat) (l : List α), v = .slice a l.length c ∧ Rd w a s encd l ∧ l.length ≤ c ∧ c ≤ maxLen ∧ l.length * P.bytesOf e ≤ reachBytes ∧ (∀ d ∈ l, Good d) := by
  obtain ⟨fuel, hf⟩ := h
  obtain ⟨a, n, c, rfl⟩ := hv
  obtain ⟨a', c', l, h1, h2⟩ := rdw_of ht hs h0 dec (x := (d, ps)) (by simpa [Value.cells] using hf) hL
  simp only [List.cons.injEq, and_true] at h1
  exact ⟨a', c', l, h1, h2⟩
/-- A field that is a slice. -/
theorem fld_slice {α : Type} {fuel : Nat} {t u e : TypeId} {s : Nat} {cs : List Value} {x : DataW H × List MemPlace} {fs : Array Field} {encd : α → List Value} {Good : α → Prop} (ht : P.underlying t = some (.struct fs)) (h : DataW.trod enc P w base spare held fuel t cs = some x) (hL : Light P t x.1) (i o : Nat)
    (hf : (fs[i]?.map fun f => (f.type, f.offset)) = some (u, o)) (hu : P.underlying u = some (.slice e)) (hc : P.cellsOf u = 1) (hs : P.cellsOf e = s) (h0 : 0 < s)
    (dec : ∀ n cs y, DataW.trod enc P w base spare held n e cs = some y → Light P e y.1 → ∃ d, cs = encd d ∧ Good d) :
    ∃ (a : Option Addr) (c : Nat) (l : List α), cs[o]? = some (.slice a l.length c) ∧ Rd w a s encd l ∧ l.length ≤ c ∧ c ≤ maxLen ∧ l.length * P.bytesOf e ≤ reachBytes ∧ (∀ d ∈ l, Good d) := by
  cases he : fs[i]? with
  | none => rw [he] at hf; cases hf
  | some f =>
    rw [he] at hf
    simp only [Option.map_some, Option.some.injEq, Prod.mk.injEq] at hf
    obtain ⟨rfl, rfl⟩ := hf
    obtain ⟨xs, n, _, hx, _, hl, hxs⟩ := DataW.trod_struct ht h
    have h1 := hxs i f he
    have hi : i < xs.length := by rw [hl]; exact (Array.getElem?_eq_some_iff.1 he).1
    rw [List.getElem?_eq_getElem hi] at h1
    rw [hx] at hL
    have hL' : Light P f.type xs[i].1 := hL.part ht he (by rw [List.getElem?_map, List.getElem?_eq_getElem hi]; rfl)
    obtain ⟨a, c, l, h2, h3⟩ := rdw_of hu hs h0 dec h1 hL'
    rw [hc] at h2
    exact ⟨a, c, l, take_one h2, h3⟩
end
end Go.GV

/- What the form reads of the steps of the laws of trees. -/
namespace Go.Proofs.YtbkadlngijkmmaaGreatDoor
open Go.GV Go.ChangeShapes Go.WideShapes Go.ChangeAt Go.RowKit

theorem step7Struct : ∃ fs, Tryz.prog.underlying 30 = some (.struct fs) ∧ (List.range 4).map (fun i => fs[i]?.map fun f => (f.type, f.offset)) = [some (4, 0), some (23, 1), some (23, 2), some (4, 3)] := ⟨_, Tryz.underlying30, by kernel_rfl⟩
theorem step7Cells : Tryz.prog.cellsOf 30 = 4 := by kernel_rfl
theorem bytesCells : Tryz.prog.cellsOf 23 = 1 := by kernel_rfl
theorem nat_of {k : Int} {m : Nat} (h1 : 0 ≤ k) (h2 : k ≤ m) : ∃ n : Nat, k = n ∧ n ≤ m := ⟨k.toNat, by omega, by omega⟩

set_option maxRecDepth 100000 in
theorem dec_step7 {H : Type} {enc : TypeId × Value → H} {w : World} {base : Nat} {spare : Nat → Bool} {held : Bool} : ∀ n cs y, DataW.trod enc Tryz.prog w base spare held n 30 cs = some y → Light Tryz.prog 30 y.1 → ∃ d : Sm, cs = d.enc ∧ d.In w := by
  intro n cs y h hL
  obtain ⟨fs, ht, hf⟩ := step7Struct
  have hl := trod_slen ht h
  rw [step7Cells] at hl
  simp only [List.range, List.range.loop, List.map_cons, List.map_nil, List.cons.injEq, and_true] at hf
  obtain ⟨f0, f1, f2, f3⟩ := hf
  obtain ⟨a, ha⟩ := fld_bool ht h 0 0 f0 Tryz.underlying4
  obtain ⟨ca, cc, cl, hc, cR, cle, _, cw, _⟩ := fld_slice ht h hL 1 1 f1 Tryz.underlying23 bytesCells byteCells (by decide) (fun n cs y h _ => dec_byte n cs y h)
  obtain ⟨ga, gc, gl, hg, gR, gle, _, gw, _⟩ := fld_slice ht h hL 2 2 f2 Tryz.underlying23 bytesCells byteCells (by decide) (fun n cs y h _ => dec_byte n cs y h)
  obtain ⟨e, he⟩ := fld_bool ht h 3 3 f3 Tryz.underlying4
  refine ⟨⟨ca, cc, ga, gc, ⟨a, cl, gl, e⟩⟩, ?_, ⟨cR, gR, cle, gle⟩⟩
  match cs, hl with
  | [_, _, _, _], _ =>
    simp at ha hc hg he
    simp [Sm.enc, ha, hc, hg, he]

end Go.Proofs.YtbkadlngijkmmaaGreatDoor
