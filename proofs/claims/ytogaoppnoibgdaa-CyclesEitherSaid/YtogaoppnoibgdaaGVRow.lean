/- From the form's readings of arguments to ours, and the post of a law that answers true and turns nothing. It holds for every program. -/
import Derived.Test.YtogaoppnoibgdaaGVBuild
import Derived.ProofKit
import Derived.Deep.Slices
import Derived.OpenShut
namespace Go.GV
open Go Go.ChangeShapes Go.WideShapes Go.RowKit

theorem Ext.below {w w' : World} (h : Ext [] w w') : Below w.heap.size w w' := ⟨h.os, h.tape, h.output, h.size, fun k hk => h.block k hk (by simp)⟩

section
variable {H : Type} {enc : TypeId × Value → H} {P : Program} {w : World} {base : Nat} {spare : Nat → Bool} {held : Bool}

theorem trodAll_length : ∀ {ts : List TypeId} {vs : List Value} {ds : List (DataW H)} {ps : List MemPlace}, DataW.TrodAll enc P w base spare held ts vs ds ps → ds.length = ts.length
  | [], vs, ds, ps, h => by obtain ⟨_, rfl, _⟩ := trodAll_nil h; rfl
  | t :: ts, vs, ds, ps, h => by
    obtain ⟨v, vs', d, ds', p, q, rfl, rfl, rfl, _, hr⟩ := trodAll_cons h
    simp [trodAll_length hr]

theorem trodAll_stays {W W' : World} {sp' : Nat → Bool} (hl : laidOutB P = true) (hsp : ∀ b, b < W.heap.size → sp' b = true) (hb : Below W.heap.size W W') :
    ∀ {ts : List TypeId} {vs : List Value} {ds : List (DataW H)} {ps : List MemPlace}, (∀ t ∈ ts, P.readableRec t = true ∧ t < P.types.size) → (∀ x ∈ ps, x.block < W.heap.size) →
      DataW.TrodAll enc P W 0 (fun _ => true) true ts vs ds ps → DataW.TrodAll enc P W' 0 sp' true ts vs ds ps
  | [], vs, ds, ps, _, _, h => by obtain ⟨rfl, rfl, rfl⟩ := trodAll_nil h; rfl
  | t :: ts, vs, ds, ps, hr, hp, h => by
    obtain ⟨v, vs', d, ds', p, q, rfl, rfl, rfl, h0, h1⟩ := trodAll_cons h
    refine ⟨p, q, WideElems.Trod_stays hl (hr t (by simp)).1 (hr t (by simp)).2 h0 (fun x hx => hb.same (hp x (by simp [hx]))) (fun x hx => hsp _ (hp x (by simp [hx]))), ?_, rfl⟩
    exact trodAll_stays hl hsp hb (fun t ht => hr t (by simp [ht])) (fun x hx => hp x (by simp [hx])) h1

/-- The post of a law. -/
theorem law_post {f : Func} {s : ChangeSpec} {W W' : World} {args : Array Value} {ds gs : List (DataW H)} {before : List MemPlace} {tb : TypeId} (hl : laidOutB P = true) (hv : s.vars = [])
    (hr : (f.params.toList.all fun t => P.readableRec t && decide (t < P.types.size)) = true) (hres : f.resultTypes = #[tb]) (htb : P.underlying tb = some .bool)
    (hs : ∀ ds : List (DataW H), ds.length = f.params.size → s.fn H ds = { results := [.lit (.bool true)], args := ds })
    (hW : DataW.Whole enc P f.params.toList s.vars false W args.toList ds gs before) (hx : Ext [] W W') : s.post enc P f false true false false W args (.bool true) W' := by
  have hW' := hW
  obtain ⟨p, q, hA, hV, rfl, _, _⟩ := hW
  rw [hv] at hV
  obtain ⟨rfl, rfl⟩ := trodVars_none hV
  have hlen : ds.length = f.params.size := by rw [trodAll_length hA]; simp
  refine ⟨ds, [], p ++ [], [], p, [], hW', ?_, ?_, ?_, hx.below.frame _, fun h => by cases h⟩
  · rw [List.append_nil, hs ds hlen, hres]
    exact trodAll_mk1 ⟨1, by simp [DataW.trod, Value.cells, htb]⟩
  · rw [List.append_nil, hs ds hlen]
    refine trodAll_stays hl (fun b hb => by simpa using hb) hx.below (fun t ht => ?_) (fun x hxp => ?_) hA
    · have := List.all_eq_true.1 hr t ht
      simpa using this
    · exact hW'.lt x (by simp [hxp])
  · rw [hv, List.append_nil, hs ds hlen]
    rfl

theorem wf_bounds {k : IntKind} {n : Int} (h : (Lit.int k n).wf = true) : k.min ≤ n ∧ n ≤ k.max := by
  simpa [Lit.wf] using h

/-! ### Decoding -/

/-- What a piece of a struct reads as. -/
theorem trod_fld {fuel : Nat} {t : TypeId} {cs : List Value} {x : DataW H × List MemPlace} {fs : Array Field} (ht : P.underlying t = some (.struct fs)) (h : DataW.trod enc P w base spare held fuel t cs = some x) (i : Nat) (f : Field) (hf : fs[i]? = some f) :
    ∃ n y, DataW.trod enc P w base spare held n f.type ((cs.drop f.offset).take (P.cellsOf f.type)) = some y := by
  obtain ⟨xs, n, _, _, _, hl, hx⟩ := DataW.trod_struct ht h
  have h1 := hx i f hf
  have hi : i < xs.length := by rw [hl]; exact (Array.getElem?_eq_some_iff.1 hf).1
  rw [List.getElem?_eq_getElem hi] at h1
  exact ⟨n, _, h1⟩
theorem trod_slen {fuel : Nat} {t : TypeId} {cs : List Value} {x : DataW H × List MemPlace} {fs : Array Field} (ht : P.underlying t = some (.struct fs)) (h : DataW.trod enc P w base spare held fuel t cs = some x) : cs.length = P.cellsOf t := by
  obtain ⟨xs, n, _, _, hl, _, _⟩ := DataW.trod_struct ht h
  exact hl

theorem take_one {l : List Value} {o m : Nat} {v : Value} (h : (l.drop o).take m = [v]) : l[o]? = some v := by
  have h1 : ((l.drop o).take m)[0]? = some v := by rw [h]; rfl
  rw [List.getElem?_take] at h1
  split at h1
  · rw [List.getElem?_drop] at h1; simpa using h1
  · cases h1

theorem fld_int {fuel : Nat} {t u : TypeId} {cs : List Value} {x : DataW H × List MemPlace} {fs : Array Field} {k : IntKind} (ht : P.underlying t = some (.struct fs)) (h : DataW.trod enc P w base spare held fuel t cs = some x) (i o : Nat)
    (hf : (fs[i]?.map fun f => (f.type, f.offset)) = some (u, o)) (hu : P.underlying u = some (.int k)) : ∃ n, cs[o]? = some (.int k n) ∧ k.min ≤ n ∧ n ≤ k.max := by
  cases he : fs[i]? with
  | none => rw [he] at hf; cases hf
  | some f =>
    rw [he] at hf
    simp only [Option.map_some, Option.some.injEq, Prod.mk.injEq] at hf
    obtain ⟨rfl, rfl⟩ := hf
    obtain ⟨n, y, hy⟩ := trod_fld ht h i f he
    obtain ⟨m, h1, _, h2⟩ := DataW.trod_int hu hy
    exact ⟨m, take_one h1, wf_bounds h2⟩
theorem fld_bool {fuel : Nat} {t u : TypeId} {cs : List Value} {x : DataW H × List MemPlace} {fs : Array Field} (ht : P.underlying t = some (.struct fs)) (h : DataW.trod enc P w base spare held fuel t cs = some x) (i o : Nat)
    (hf : (fs[i]?.map fun f => (f.type, f.offset)) = some (u, o)) (hu : P.underlying u = some .bool) : ∃ b, cs[o]? = some (.bool b) := by
  cases he : fs[i]? with
  | none => rw [he] at hf; cases hf
  | some f =>
    rw [he] at hf
    simp only [Option.map_some, Option.some.injEq, Prod.mk.injEq] at hf
    obtain ⟨rfl, rfl⟩ := hf
    obtain ⟨n, y, hy⟩ := trod_fld ht h i f he
    obtain ⟨b, h1, _⟩ := DataW.trod_bool hu hy
    exact ⟨b, take_one h1⟩
/-- A field that is of whatever type. -/
theorem fld_any {fuel : Nat} {t u : TypeId} {cs : List Value} {x : DataW H × List MemPlace} {fs : Array Field} (ht : P.underlying t = some (.struct fs)) (h : DataW.trod enc P w base spare held fuel t cs = some x) (i o : Nat)
    (hf : (fs[i]?.map fun f => (f.type, f.offset)) = some (u, o)) : ∃ n y, DataW.trod enc P w base spare held n u ((cs.drop o).take (P.cellsOf u)) = some y := by
  cases he : fs[i]? with
  | none => rw [he] at hf; cases hf
  | some f =>
    rw [he] at hf
    simp only [Option.map_some, Option.some.injEq, Prod.mk.injEq] at hf
    obtain ⟨rfl, rfl⟩ := hf
    exact trod_fld ht h i f he

theorem cells_at {a : Addr} {n : Nat} {cs : List Value} (h : w.cells? base a n = some cs) : cs.length = n ∧ ∀ j v, cs[j]? = some v → w.cell? (a.add j) = some v := by
  unfold World.cells? at h
  split at h
  · have h1 : ∀ (l : List Nat) (cs : List Value), l.mapM (fun i => w.cell? (a.add i)) = some cs → cs.length = l.length ∧ ∀ (j i : Nat) (v : Value), l[j]? = some i → cs[j]? = some v → w.cell? (a.add i) = some v := by
      intro l
      induction l with
      | nil => intro cs h; simp at h; subst h; exact ⟨rfl, fun j i v h => by simp at h⟩
      | cons k l ih =>
        intro cs h
        rw [List.mapM_cons] at h
        obtain ⟨v, hv, h⟩ := Option.bind_eq_some_iff.1 h
        obtain ⟨cs', hcs, h⟩ := Option.bind_eq_some_iff.1 h
        simp only [Option.pure_def, Option.some.injEq] at h
        subst h
        obtain ⟨h1, h2⟩ := ih cs' hcs
        refine ⟨by simp [h1], fun j i u hi hu => ?_⟩
        cases j with
        | zero => simp at hi hu; subst hi hu; exact hv
        | succ j => exact h2 j i u (by simpa using hi) (by simpa using hu)
    obtain ⟨h2, h3⟩ := h1 _ _ h
    refine ⟨by simpa using h2, fun j v hv => h3 j j v ?_ hv⟩
    have : j < cs.length := (List.getElem?_eq_some_iff.1 hv).1
    rw [List.getElem?_range (by rw [h2] at this; simpa using this)]
  · cases h

theorem cell_none {a : Addr} {v : Value} (h : w.cell? a = some v) : a = ⟨a.block, a.off, none⟩ := by
  unfold World.cell? at h
  split at h
  · split at h
    · cases h
    · rename_i hs
      obtain ⟨b, o, s⟩ := a
      cases s with
      | none => rfl
      | some x => simp at hs
  · cases h

/-- A slice that is read: ours. -/
theorem rd_of {α : Type} {t e : TypeId} {s fuel : Nat} {v : Value} {x : DataW H × List MemPlace} {encd : α → List Value} {Good : α → Prop} (ht : P.underlying t = some (.slice e)) (hs : P.cellsOf e = s) (h0 : 0 < s)
    (dec : ∀ n cs y, DataW.trod enc P w base spare held n e cs = some y → ∃ d, cs = encd d ∧ Good d) (h : DataW.trod enc P w base spare held fuel t [v] = some x) :
    ∃ (a : Option Addr) (c : Nat) (l : List α), v = .slice a l.length c ∧ Rd w a s encd l ∧ l.length ≤ c ∧ c ≤ maxLen ∧ (∀ d ∈ l, Good d) := by
  rcases Go.Deep.open_slice ht h with ⟨hc, _⟩ | ⟨a, len, cap, m, n, D, Pl, hc, _, hl, hm, hmm, _, hx⟩
  · simp only [List.cons.injEq, and_true] at hc
    exact ⟨none, 0, [], hc, Rd.nil, Nat.le_refl _, Nat.zero_le _, by simp⟩
  · simp only [List.cons.injEq, and_true] at hc
    have hle : len ≤ m := by rw [hmm]; split <;> omega
    have hd : ∀ i, i < len → ∃ d : α, (w.cells? base (a.add (i * s)) s = some (encd d)) ∧ Good d := fun i hi => by
      obtain ⟨cs', h1, h2⟩ := hx i (by omega)
      obtain ⟨d, rfl, hg⟩ := dec _ _ _ h2
      exact ⟨d, by rw [← hs]; exact h1, hg⟩
    have hlist : ∀ k, k ≤ len → ∃ l : List α, l.length = k ∧ ∀ i d, l[i]? = some d → w.cells? base (a.add (i * s)) s = some (encd d) ∧ Good d := by
      intro k
      induction k with
      | zero => intro _; exact ⟨[], rfl, fun i d h => by simp at h⟩
      | succ k ih =>
        intro hk
        obtain ⟨l, h1, h2⟩ := ih (by omega)
        obtain ⟨d, hd1, hd2⟩ := hd k (by omega)
        refine ⟨l ++ [d], by simp [h1], fun i d' hi => ?_⟩
        rw [List.getElem?_append] at hi
        split at hi
        · exact h2 i d' hi
        · rename_i hlt
          have : i = k := by
            have := (List.getElem?_eq_some_iff.1 hi).1
            simp at this; omega
          subst this
          rw [h1, Nat.sub_self] at hi
          simp at hi; subst hi
          exact ⟨hd1, hd2⟩
    obtain ⟨l, h1, h2⟩ := hlist len (Nat.le_refl _)
    subst h1
    refine ⟨some a, cap, l, hc, ⟨fun hne => ?_, fun i d hi j u hu hj => ?_⟩, hl, hm, fun d hd => ?_⟩
    · cases l with
      | nil => exact absurd rfl hne
      | cons d l =>
        obtain ⟨h3, _⟩ := h2 0 d rfl
        obtain ⟨h4, h5⟩ := cells_at h3
        obtain ⟨u, hu⟩ := get_some (l := encd d) (i := 0) (by omega)
        have h6 := h5 0 u hu
        rw [Nat.zero_mul] at h6
        have h7 : (a.add 0).add 0 = a := by simp [Addr.add]
        rw [h7] at h6
        exact ⟨a.block, a.off, by rw [← cell_none h6]⟩
    · obtain ⟨h3, _⟩ := h2 i d hi
      have h5 := (cells_at h3).2 j u hu
      rw [Go.Deep.add_add] at h5
      have h6 := cell_none h5
      rw [h6] at h5
      have hblk : ∀ q, (a.add q).block = a.block ∧ (a.add q).off = a.off + q := by
        intro q; unfold Addr.add
        by_cases hq : q = 0 <;> simp [hq]
      rw [(hblk _).1, (hblk _).2, ← Nat.add_assoc] at h5
      obtain ⟨b, o, sp⟩ := a
      exact h5
    · obtain ⟨i, hi⟩ := List.getElem?_of_mem hd
      exact (h2 i d hi).2
theorem rd_of_T {α : Type} {t e : TypeId} {s : Nat} {v : Value} {d : DataW H} {ps : List MemPlace} {encd : α → List Value} {Good : α → Prop} (ht : P.underlying t = some (.slice e)) (hs : P.cellsOf e = s) (h0 : 0 < s)
    (dec : ∀ n cs y, DataW.trod enc P w base spare held n e cs = some y → ∃ d, cs = encd d ∧ Good d) (hv : ∃ a n c, v = .slice a n c) (h : DataW.Trod enc P w base spare held t v d ps) :
    ∃ (a : Option Addr) (c : Nat) (l : List α), v = .slice a l.length c ∧ Rd w a s encd l ∧ l.length ≤ c ∧ c ≤ maxLen ∧ (∀ d ∈ l, Good d) := by
  obtain ⟨fuel, hf⟩ := h
  obtain ⟨a, n, c, rfl⟩ := hv
  exact rd_of ht hs h0 dec (by simpa [Value.cells] using hf)
theorem dec_int {e : TypeId} {k : IntKind} (he : P.underlying e = some (.int k)) : ∀ n cs y, DataW.trod enc P w base spare held n e cs = some y → ∃ d : Int, cs = [Value.int k d] ∧ (k.min ≤ d ∧ d ≤ k.max) := by
  intro n cs y h
  obtain ⟨m, h1, _, h2⟩ := DataW.trod_int he h
  exact ⟨m, h1, wf_bounds h2⟩
end
end Go.GV
