/- Part 10 of the proof. The last text: TreeNil: for every input the law answers true, and turns nothing. The tables that its row lists are premises, and tied to the text by its card. -/
import Derived.Test.YtbkadlngijkmmaaGreatDoorPart9
/- Arguments that are read, with their weights: slices of structs that hold slices. It holds for every program. -/
namespace Go.GV
open Go Go.ChangeShapes Go.WideShapes

section
variable {P : Program} {H : Type} {enc : TypeId × Value → H} {w : World} {base : Nat} {spare : Nat → Bool} {held : Bool}

/-- No part of it is of more bytes than any machine has. -/
def Light (P : Program) (t : TypeId) (d : DataW H) : Prop := ∀ x ∈ d.weights P t, x ≤ reachBytes

theorem weightsAll_mem {e : TypeId} {l : List (DataW H)} {d : DataW H} (h : d ∈ l) : ∀ x ∈ d.weights P e, x ∈ DataW.weightsAll P e l := by
  induction l with
  | nil => cases h
  | cons y l ih =>
    intro x hx
    unfold DataW.weightsAll
    rcases List.mem_cons.1 h with rfl | h
    · exact List.mem_append_left _ hx
    · exact List.mem_append_right _ (ih h x hx)
theorem weightsEach_mem : ∀ {ts : List TypeId} {l : List (DataW H)} {i : Nat} {t : TypeId} {d : DataW H}, ts[i]? = some t → l[i]? = some d → ∀ x ∈ d.weights P t, x ∈ DataW.weightsEach P ts l
  | [], _, i, _, _, h, _ => by simp at h
  | _ :: _, [], i, _, _, _, h => by simp at h
  | t :: ts, d :: l, 0, _, _, h1, h2 => by
    simp only [List.getElem?_cons_zero, Option.some.injEq] at h1 h2
    subst h1 h2
    intro x hx
    unfold DataW.weightsEach
    exact List.mem_append_left _ hx
  | t :: ts, d :: l, i + 1, _, _, h1, h2 => by
    intro x hx
    unfold DataW.weightsEach
    exact List.mem_append_right _ (weightsEach_mem (by simpa using h1) (by simpa using h2) x hx)
theorem Light.elems {t e : TypeId} {es sp : List (DataW H)} (ht : P.underlying t = some (.slice e)) (h : Light P t (.slice es sp)) : es.length * P.bytesOf e ≤ reachBytes ∧ ∀ d ∈ es, Light P e d := by
  unfold Light at h
  unfold DataW.weights at h
  rw [ht] at h
  refine ⟨?_, fun d hd x hx => h x (List.mem_cons_of_mem _ (List.mem_append_left _ (weightsAll_mem hd x hx)))⟩
  have h1 := h _ (List.mem_cons_self ..)
  rw [Nat.add_mul] at h1
  omega
theorem Light.part {t : TypeId} {fs : Array Field} {ps : List (DataW H)} (ht : P.underlying t = some (.struct fs)) (h : Light P t (.agg ps)) {i : Nat} {f : Field} {d : DataW H} (hf : fs[i]? = some f) (hd : ps[i]? = some d) : Light P f.type d := by
  intro x hx
  refine h x ?_
  unfold DataW.weights
  rw [ht]
  exact weightsEach_mem (ts := fs.toList.map (·.type)) (i := i) (by rw [List.getElem?_map, Array.getElem?_toList, hf]; rfl) hd x hx

theorem light_of {ts : List TypeId} {ds : List (DataW H)} (h : ((DataW.weightsEach P ts ds).all fun x => decide (x ≤ reachBytes)) = true) {i : Nat} {t : TypeId} {d : DataW H} (ht : ts[i]? = some t) (hd : ds[i]? = some d) : Light P t d :=
  fun x hx => of_decide_eq_true (List.all_eq_true.1 h x (weightsEach_mem ht hd x hx))
theorem rdw_of {α : Type} {t e : TypeId} {s fuel : Nat} {cs : List Value} {x : DataW H × List MemPlace} {encd : α → List Value} {Good : α → Prop} (ht : P.underlying t = some (.slice e)) (hs : P.cellsOf e = s) (h0 : 0 < s)
    (dec : ∀ n cs y, DataW.trod enc P w base spare held n e cs = some y → Light P e y.1 → ∃ d, cs = encd d ∧ Good d) (h : DataW.trod enc P w base spare held fuel t cs = some x) (hL : Light P t x.1) :
    ∃ (a : Option Addr) (c : Nat) (l : List α), cs = [.slice a l.length c] ∧ Rd w a s encd l ∧ l.length ≤ c ∧ c ≤ maxLen ∧ l.length * P.bytesOf e ≤ reachBytes ∧ (∀ d ∈ l, Good d) := by
  rcases Go.Deep.open_slice ht h with ⟨hc, hx⟩ | ⟨a, len, cap, m, n, D, Pl, hc, _, hl, hm, hmm, rfl, hx⟩
  · exact ⟨none, 0, [], hc, Rd.nil, Nat.le_refl _, Nat.zero_le _, by simp, by simp⟩
  · have hle : len ≤ m := by rw [hmm]; split <;> omega
    obtain ⟨hb, hLe⟩ := hL.elems ht
    rw [List.length_map, List.length_range] at hb
    have hd : ∀ i, i < len → ∃ d : α, (w.cells? base (a.add (i * s)) s = some (encd d)) ∧ Good d := fun i hi => by
      obtain ⟨cs', h1, h2⟩ := hx i (by omega)
      obtain ⟨d, rfl, hg⟩ := dec _ _ _ h2 (hLe _ (List.mem_map.2 ⟨i, List.mem_range.2 hi, rfl⟩))
      exact ⟨d, by rw [← hs]; exact h1, hg⟩
    have hlist : ∀ k, k ≤ len → ∃ l : List α, l.length = k ∧ ∀ i d, l[i]? = some d → w.cells? base (a.add (i * s)) s = some (encd d) ∧ Good d := by
      intro k
      induction k with
      | zero => intro _; exact ⟨[], rfl, fun i d h => by simp at h⟩
      | succ k ih =>
        intro hk
        obtain ⟨l, h1, h2⟩ := ih (by omega)
        obtain ⟨d, hd1, hd2⟩ := hd k (by omega)
        refine ⟨l ++ [d], by simp [h1], fun i d' hi => ?_⟩
        rw [List.getElem?_append] at hi
        split at hi
        · exact h2 i d' hi
        · rename_i hlt
          have : i = k := by
            have := (List.getElem?_eq_some_iff.1 hi).1
            simp at this; omega
          subst this
          rw [h1, Nat.sub_self] at hi
          simp at hi; subst hi
          exact ⟨hd1, hd2⟩
    obtain ⟨l, h1, h2⟩ := hlist len (Nat.le_refl _)
    subst h1
    refine ⟨some a, cap, l, hc, ⟨fun hne => ?_, fun i d hi j u hu hj => ?_⟩, hl, hm, hb, fun d hd => ?_⟩
    · cases l with
      | nil => exact absurd rfl hne
      | cons d l =>
        obtain ⟨h3, _⟩ := h2 0 d rfl
        obtain ⟨h4, h5⟩ := cells_at h3
        obtain ⟨u, hu⟩ := get_some (l := encd d) (i := 0) (by omega)
        have h6 := h5 0 u hu
        rw [Nat.zero_mul] at h6
        have h7 : (a.add 0).add 0 = a := by simp [Addr.add]
        rw [h7] at h6
        exact ⟨a.block, a.off, by rw [← cell_none h6]⟩
    · obtain ⟨h3, _⟩ := h2 i d hi
      have h5 := (cells_at h3).2 j u hu
      rw [Go.Deep.add_add] at h5
      have h6 := cell_none h5
      rw [h6] at h5
      have hblk : ∀ q, (a.add q).block = a.block ∧ (a.add q).off = a.off + q := by
        intro q; unfold Addr.add
        by_cases hq : q = 0 <;> simp [hq]
      rw [(hblk _).1, (hblk _).2, ← Nat.add_assoc] at h5
      obtain ⟨b, o, sp⟩ := a
      exact h5
    · obtain ⟨i, hi⟩ := List.getElem?_of_mem hd
      exact (h2 i d hi).2
theorem rdw_of_T {α : Type} {t e : TypeId} {s : Nat} {v : Value} {d : DataW H} {ps : List MemPlace} {encd : α → List Value} {Good : α → Prop} (ht : P.underlying t = some (.slice e)) (hs : P.cellsOf e = s) (h0 : 0 < s)
    (dec : ∀ n cs y, DataW.trod enc P w base spare held n e cs = some y → Light P e y.1 → ∃ d, cs = encd d ∧ Good d) (hv : ∃ a n c, v = .slice a n c) (h : DataW.Trod enc P w base spare held t v d ps) (hL : Light P t d) :
    ∃ (a : Option Addr) (c : Nat) (l : List α), v = .slice a l.length c ∧ Rd w a s encd l ∧ l.length ≤ c ∧ c ≤ maxLen ∧ l.length * P.bytesOf e ≤ reachBytes ∧ (∀ d ∈ l, Good d) := by
  obtain ⟨fuel, hf⟩ := h
  obtain ⟨a, n, c, rfl⟩ := hv
  obtain ⟨a', c', l, h1, h2⟩ := rdw_of ht hs h0 dec (x := (d, ps)) (by simpa [Value.cells] using hf) hL
  simp only [List.cons.injEq, and_true] at h1
  exact ⟨a', c', l, h1, h2⟩
end
end Go.GV

/- What the form reads of the steps of the laws of trees. -/
namespace Go.Proofs.YtbkadlngijkmmaaGreatDoor
open Go.GV Go.ChangeShapes Go.WideShapes Go.ChangeAt Go.RowKit

theorem byteBytes : Tryz.prog.bytesOf 5 = 1 := by kernel_rfl

end Go.Proofs.YtbkadlngijkmmaaGreatDoor

/- TreeNil: for every input the law answers true, and turns nothing. The tables that its row lists are premises, and tied to the text by its card. -/
namespace Go.Proofs.YtbkadlngijkmmaaGreatDoor.treeNil
open Go.GV Go.ChangeShapes Go.WideShapes Go.ChangeAt Go.RowKit

theorem laid_met (os : Os) : laidMet Tryz.prog Rows.treeNilRow.laid ((laidWorld os).forCall (fun _ _ => 0) ⟨#[], #[.int .i64 0, .int .i64 0, .slice none 0 0, .slice none 0 0], []⟩).memory :=
  laidMet_of_run' 8 (by kernel_rfl) (by kernel_rfl)
theorem reads (os : Os) {H : Type} (enc : TypeId × Value → H) : ∃ ds places, DataW.whole enc Tryz.prog ((laidWorld os).forCall (fun _ _ => 0) ⟨#[], #[.int .i64 0, .int .i64 0, .slice none 0 0, .slice none 0 0], []⟩).memory Tryz.f4.params.toList Rows.treeNilSpec.vars false (#[.int .i64 0, .int .i64 0, .slice none 0 0, .slice none 0 0] : Array Value).toList 8 = some (ds, [], places) :=
  ⟨[.lit (.int .i64 0), .lit (.int .i64 0), .nil, .nil], [], by kernel_rfl⟩

set_option maxRecDepth 100000 in
theorem lifted (os : Os) (started : os.Started) (H : Type) (enc : TypeId × Value → H) (F : Stop.Interp) :
    ReturnsInHanded {} Tryz.checked os 4 .any ((OpenSpec.ofChange Rows.treeNilSpec).preRow enc Tryz.prog Tryz.f4 Rows.treeNilRow.domain false Rows.treeNilRow.laid) (((OpenSpec.ofChange Rows.treeNilSpec).at F).post enc Tryz.prog Tryz.f4 false true false false) := by
  obtain ⟨ds, places, hx⟩ := reads os enc
  refine returnsInHanded_of_row (C := Tryz.checked) (s := OpenSpec.ofChange Rows.treeNilSpec) own started (by kernel_rfl) Tryz.func4
    (witness_row_at (enc := enc) (C := Tryz.checked) false (laidWorld os) #[.int .i64 0, .int .i64 0, .slice none 0 0, .slice none 0 0] rfl (by kernel_rfl) (by kernel_rfl) (by kernel_rfl)
      (OpenSpec.preRow_of_cond 8 hx (by kernel_rfl) (fun k hk => by cases hk) (by kernel_rfl) (laid_met os))) ?_
  intro W base args ds gs before hval0 hW _ _ hLt _ _ _
  have hval : ∀ (j : Nat) t v, Tryz.f4.params[j]? = some t → args[j]? = some v → Value.okWide Tryz.prog W .any base t v := hval0
  have hW' := hW
  obtain ⟨p, q, hA0, hV, rfl, hfz, hnd⟩ := hW
  have hA : DataW.TrodAll enc Tryz.prog W 0 (fun _ => true) true Tryz.f4.params.toList args.toList ds p := hA0
  rw [Tryz.params4] at hA hval
  obtain ⟨v0, vs0, d0, ds0, p0, q0, hargs, rfl, rfl, h0, r0⟩ := trodAll_cons hA
  obtain ⟨v1, vs1, d1, ds1, p1, q1, rfl, rfl, rfl, h1, r1⟩ := trodAll_cons r0
  obtain ⟨v2, vs2, d2, ds2, p2, q2, rfl, rfl, rfl, h2, r2⟩ := trodAll_cons r1
  obtain ⟨v3, vs3, d3, ds3, p3, q3, rfl, rfl, rfl, h3, r3⟩ := trodAll_cons r2
  obtain ⟨rfl, rfl, rfl⟩ := trodAll_nil r3
  obtain rfl : args = #[v0, v1, v2, v3] := by cases args; simp_all
  obtain ⟨k0, rfl, rfl, rfl, hg0⟩ := open_int Tryz.underlying3 (hval 0 _ v0 rfl rfl) h0
  have hb0 : -9223372036854775808 ≤ k0 ∧ k0 ≤ 9223372036854775807 := wf_bounds hg0
  obtain ⟨k1, rfl, rfl, rfl, hg1⟩ := open_int Tryz.underlying3 (hval 1 _ v1 rfl rfl) h1
  have hb1 : -9223372036854775808 ≤ k1 ∧ k1 ≤ 9223372036854775807 := wf_bounds hg1
  have hL2 : Light Tryz.prog 23 d2 := light_of hLt (i := 2) rfl rfl
  obtain ⟨a2, c2, l2, rfl, R2, hc2, _, hw2, _⟩ := rdw_of_T Tryz.underlying23 byteCells (by decide) (fun n cs y h _ => dec_byte n cs y h) (okWide_slice Tryz.underlying23 (hval 2 _ v2 rfl rfl)) h2 hL2
  rw [byteBytes] at hw2
  unfold reachBytes at hw2
  have hL3 : Light Tryz.prog 23 d3 := light_of hLt (i := 3) rfl rfl
  obtain ⟨a3, c3, l3, rfl, R3, hc3, _, hw3, _⟩ := rdw_of_T Tryz.underlying23 byteCells (by decide) (fun n cs y h _ => dec_byte n cs y h) (okWide_slice Tryz.underlying23 (hval 3 _ v3 rfl rfl)) h3 hL3
  rw [byteBytes] at hw3
  unfold reachBytes at hw3
  refine (treeNil_ok k0 k1 a2 a3 c2 c3 l2.length l3.length hb1.1 hb1.2 W).calls.mono ?_
  rintro e W' ⟨v, rfl, rfl, hx⟩
  exact ⟨_, rfl, law_post laidOut rfl (by kernel_rfl) rfl Tryz.underlying4 (fun ds h => match ds, h with | [_, _, _, _], _ => rfl) hW' hx⟩

theorem said : Rows.TreeNilSaid :=
  OpenClaim.holds_of_cond 4 Tryz.f4 rfl rfl rfl rfl rfl rfl rfl ⟨rfl, rfl, rfl, rfl, rfl⟩ rfl rfl rfl rfl rfl (by kernel_rfl) Tryz.func4 (by kernel_rfl)
    (of_decide_eq_true (by kernel_rfl)) (by unfold Func.isWrapper; first | (rw [if_pos (by decide +kernel)]; kernel_rfl) | (rw [if_neg (by decide +kernel)]; exact ⟨rfl, rfl⟩))
    (fun os started H enc _ F => by rw [OpenClaim.pre_eq_preRow]; exact lifted os started H enc F)

theorem plain (f : FuncId) (fn : Func) (hf : Tryz.pinned.checked.prog.funcNamed "gablet/gabletlaw07.TreeNil" = some f) (hfn : Tryz.pinned.checked.prog.funcs[f]? = some fn) :
    false = Tryz.pinned.checked.prog.looks [] ∧ ∀ (j : Nat) t, fn.params[j]? = some t → Tryz.pinned.checked.prog.wantsStandIn t = false := by
  obtain rfl : f = 4 := Option.some.inj ((show Tryz.prog.funcNamed "gablet/gabletlaw07.TreeNil" = some 4 by kernel_rfl).symm.trans hf) |>.symm
  obtain rfl : fn = Tryz.f4 := (Option.some.inj (Tryz.func4.symm.trans hfn)).symm
  refine ⟨by kernel_rfl, fun j t ht => ?_⟩
  rw [Tryz.params4] at ht
  have hm := Array.mem_of_getElem? ht
  exact List.all_eq_true.1 (show (Tryz.f4.params.toList.all fun t => !Tryz.prog.wantsStandIn t) = true by kernel_rfl) t (by rw [Tryz.params4]; simpa using hm) |> fun h => (Bool.not_eq_true' _).mp h

theorem card : Rows.TreeNilCardSaid :=
  Claim7.holds_tied_plain_at .later [] _ _ _ _ said (fun _ h => by cases h) (by kernel_rfl) (fun _ h => by cases h) treeNil_row_tie rfl ⟨rfl, rfl⟩ (by kernel_rfl) rfl plain (by kernel_rfl)
end Go.Proofs.YtbkadlngijkmmaaGreatDoor.treeNil
namespace Go.Proofs.YtbkadlngijkmmaaGreatDoor
theorem treeNil_holds : Rows.TreeNilCardSaid := treeNil.card
#print axioms treeNil_holds
end Go.Proofs.YtbkadlngijkmmaaGreatDoor
