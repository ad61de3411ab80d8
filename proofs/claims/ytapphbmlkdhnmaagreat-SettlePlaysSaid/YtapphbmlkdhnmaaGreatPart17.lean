/- Part 17 of the proof. -/
import Derived.Test.YtapphbmlkdhnmaaGreatPart16
import Derived.Test.YtapphbmlkdhnmaaGreatPart3
/- What flows in a round, and what that shifts: plain law. -/
namespace Go.Proofs.YtapphbmlkdhnmaaGreat
open Go.GV

theorem rnd_len (rs : List Int) (os : List Du) (net : Bool) : (roundE rs os net).length = os.length + if net = true then 0 else 2 * rs.length := by
  unfold roundE
  rw [List.length_append, List.length_map]
  split
  · rfl
  · rw [hub_len]
theorem rnd_due {rs : List Int} {os : List Du} {net : Bool} {i : Nat} {d : Du} (h : os[i]? = some d) : (roundE rs os net)[i]? = some (dueE d) := by
  unfold roundE
  have hl := get_lt h
  rw [List.getElem?_append_left (by rw [List.length_map]; exact hl), List.getElem?_map, h]; rfl
theorem rnd_hub {rs : List Int} {os : List Du} {j : Nat} {e : Ed} (h : (hubE rs)[j]? = some e) : (roundE rs os false)[os.length + j]? = some e := by
  unfold roundE
  rw [List.getElem?_append_right (by rw [List.length_map]; omega), List.length_map, show os.length + j - os.length = j by omega, if_neg (by decide), h]
/-- What dues may be in a round of n banks. -/
def DueIn (n : Nat) (d : Du) : Prop := mayD d = true ∧ d.fr < n ∧ d.to < n
theorem prods_due {n : Nat} : ∀ {os : List Du}, (∀ d ∈ os, DueIn n d) → ((((os.map dueE).map prodE).sum : Nat) : Int) ≤ 1000 * sumM (os.map Du.am)
  | [], _ => by show (0 : Int) ≤ 1000 * 0; omega
  | d :: os, h => by
    have ih := prods_due (os := os) fun e he => h e (List.mem_cons_of_mem _ he)
    have hm := mayD_am (h d (List.mem_cons_self ..)).1
    rw [List.map_cons, List.map_cons, List.sum_cons, List.map_cons, sumM_cons]
    have h1 : prodE (dueE d) ≤ d.am.toNat * 1000 := Nat.mul_le_mul_left _ (by show (-d.we).natAbs ≤ 1000; omega)
    have h2 : ((d.am.toNat : Nat) : Int) = d.am := Int.toNat_of_nonneg (by omega)
    have h3 : ((prodE (dueE d) : Nat) : Int) ≤ d.am * 1000 := by omega
    rw [Int.natCast_add, Int.mul_add]; omega
theorem rnd_right {rs : List Int} {os : List Du} {net : Bool} (hn : rs.length ≤ 16) (hm : os.length ≤ 64) (hrs : ∀ x ∈ rs, mayM x = true) (hos : ∀ d ∈ os, DueIn rs.length d) (hsum : sumM (os.map Du.am) ≤ 4503599627370496) : rightN ((rs.length + 1 : Nat) : Int) (roundE rs os net) = true := by
  have hl := rnd_len rs os net
  have hE : (roundE rs os net).length ≤ 200 := by rw [hl]; split <;> omega
  have hall : (roundE rs os net).all (edgeB ((rs.length + 1 : Nat) : Int)) = true := by
    rw [List.all_eq_true]
    intro e he
    unfold roundE at he
    rcases List.mem_append.1 he with he | he
    · obtain ⟨d, hd, rfl⟩ := List.mem_map.1 he
      obtain ⟨h1, h2, h3⟩ := hos d hd
      have := mayD_am h1
      unfold edgeB nodeB dueE
      simp only [Bool.and_eq_true, decide_eq_true_eq]
      omega
    · split at he
      · cases he
      · unfold hubE at he
        obtain ⟨j, hj, rfl⟩ := List.mem_map.1 he
        rw [List.mem_range] at hj
        obtain ⟨r, hr⟩ := get_some (l := rs) (i := j / 2) (by omega)
        have hr2 := mayM_iff.1 (hrs r (List.mem_of_getElem? hr))
        unfold edgeB nodeB
        rw [getD_of hr]
        split
        · simp only [Bool.and_eq_true, decide_eq_true_eq]; omega
        · simp only [Bool.and_eq_true, decide_eq_true_eq]; omega
  have hp : prods (roundE rs os net) ≤ 4611686018427387904 := by
    unfold prods roundE
    rw [List.map_append, List.sum_append]
    have h1 := prods_due hos
    have h2 : ((if net = true then [] else hubE rs).map prodE).sum = 0 := by
      split
      · rfl
      · unfold hubE
        rw [List.map_map]
        have : ∀ l : List Nat, (l.map (prodE ∘ fun j => if j % 2 = 0 then (⟨rs.length, (j / 2 : Nat), rs.getD (j / 2) 0, 0⟩ : Ed) else ⟨(j / 2 : Nat), rs.length, 4503599627370496, 0⟩)).sum = 0 := by
          intro l
          induction l with
          | nil => rfl
          | cons j l ih =>
            rw [List.map_cons, List.sum_cons, ih]
            show prodE (if j % 2 = 0 then _ else _) + 0 = 0
            split <;> rfl
        exact this _
    rw [h2]; omega
  unfold rightN
  rw [hall, decide_eq_true hE, decide_eq_true hp, decide_eq_true (show (1 : Int) ≤ ((rs.length + 1 : Nat) : Int) by omega), decide_eq_true (show ((rs.length + 1 : Nat) : Int) ≤ 40 by omega)]; rfl
theorem hub_over {g : Gr} {x : Nat → Int} {n m : Nat} (hE : ∀ k, k < n → (g.f (m + 2 * k) = n ∧ g.t (m + 2 * k) = k) ∧ g.f (m + 2 * k + 1) = k ∧ g.t (m + 2 * k + 1) = n) {v : Nat} (hv : v < n) : ∀ j, j ≤ n → overK g x (m + 2 * j) v = overK g x m v + if v < j then x (m + 2 * v) - x (m + 2 * v + 1) else 0
  | 0, _ => by rw [if_neg (by omega)]; simp
  | j + 1, hj => by
    obtain ⟨⟨h1, h2⟩, h3, h4⟩ := hE j (by omega)
    rw [show m + 2 * (j + 1) = m + 2 * j + 1 + 1 by omega, over_step, over_step, h1, h2, h3, h4, hub_over hE hv j (by omega), one_f (show ¬ n = v by omega)]
    by_cases e : j = v
    · subst e
      rw [one_t rfl, if_neg (by omega), if_pos (by omega)]; omega
    · rw [one_f e]
      by_cases h : v < j
      · rw [if_pos h, if_pos (by omega)]; omega
      · rw [if_neg h, if_neg (by omega)]; omega
theorem gr_f {N : Int} {es : List Ed} {i : Nat} {e : Ed} (h : es[i]? = some e) : (grE N es).f i = e.f.toNat := by show (es.getD i e0).f.toNat = _; rw [getD_of h]
theorem gr_t {N : Int} {es : List Ed} {i : Nat} {e : Ed} (h : es[i]? = some e) : (grE N es).t i = e.t.toNat := by show (es.getD i e0).t.toNat = _; rw [getD_of h]
theorem gr_co {N : Int} {es : List Ed} {i : Nat} {e : Ed} (h : es[i]? = some e) : (grE N es).co i = e.cost := by show (es.getD i e0).cost = _; rw [getD_of h]
/-- What is paid to a bank, less what it pays. -/
def byK (rs : List Int) (os : List Du) (net : Bool) (fl : List Int) (k : Nat) : Int := overK (grE ((rs.length + 1 : Nat) : Int) (roundE rs os net)) (flE fl) os.length k
theorem rnd_flow {rs : List Int} {os : List Du} {net : Bool} {fl : List Int} (hrs : ∀ x ∈ rs, 0 ≤ x) (hos : ∀ d ∈ os, DueIn rs.length d) (hf : flowsN ((rs.length + 1 : Nat) : Int) (roundE rs os net) fl = true) :
    PayIn os (fl.take os.length) ∧ fl.length = (roundE rs os net).length ∧ (∀ (k : Nat) (r : Int), rs[k]? = some r → (net = true → byK rs os net fl k = 0) ∧ -r ≤ byK rs os net fl k ∧ byK rs os net fl k ≤ 4503599627370496) ∧ sumTo (byK rs os net fl) rs.length = 0 := by
  obtain ⟨hw, hz⟩ := flows_of hf
  obtain ⟨hl, hr, hin⟩ := within_of hw
  have hlen := rnd_len rs os net
  refine ⟨⟨by rw [List.length_take]; omega, fun i d x hd hx => ?_⟩, hl, fun k r hk => ?_, ?_⟩
  · have hi := get_lt hd
    rw [List.getElem?_take, if_pos hi] at hx
    exact hin i (dueE d) x (rnd_due hd) hx
  · have hkn := get_lt hk
    have h0 := hz k (by omega)
    have hE : (grE ((rs.length + 1 : Nat) : Int) (roundE rs os net)).E = (roundE rs os net).length := rfl
    unfold over7 at h0
    rw [hE, hlen] at h0
    have hr0 := hrs r (List.mem_of_getElem? hk)
    cases net with
    | true =>
      rw [if_pos rfl, Nat.add_zero] at h0
      have h0' : byK rs os true fl k = 0 := h0
      exact ⟨fun _ => h0', by omega, by omega⟩
    | false =>
      rw [if_neg (by decide), hub_over (x := flE fl) (n := rs.length) (fun j hj => ?_) hkn rs.length (Nat.le_refl _), if_pos hkn] at h0
      · obtain ⟨y, hy⟩ := get_some (l := fl) (i := os.length + 2 * k) (by rw [hl, hlen, if_neg (by decide)]; omega)
        obtain ⟨z, hzz⟩ := get_some (l := fl) (i := os.length + 2 * k + 1) (by rw [hl, hlen, if_neg (by decide)]; omega)
        have h1 := hin _ _ y (rnd_hub (hub_even hk)) hy
        have h2 := hin _ _ z (by rw [Nat.add_assoc]; exact rnd_hub (hub_odd hkn)) hzz
        rw [show flE fl (os.length + 2 * k) = y from getD_of hy, show flE fl (os.length + 2 * k + 1) = z from getD_of hzz] at h0
        have h0' : byK rs os false fl k + (y - z) = 0 := h0
        dsimp only at h1 h2
        exact ⟨(fun h => by cases h), by omega, by omega⟩
      · obtain ⟨r', hr'⟩ := get_some hj
        have e1 : (roundE rs os false)[os.length + 2 * j]? = _ := rnd_hub (hub_even hr')
        have e2 : (roundE rs os false)[os.length + 2 * j + 1]? = some ⟨j, rs.length, 4503599627370496, 0⟩ := by rw [Nat.add_assoc]; exact rnd_hub (hub_odd hj)
        rw [gr_f e1, gr_t e1, gr_f e2, gr_t e2]
        dsimp only
        omega
  · have := over_all ⟨rs.length, os.length, (grE ((rs.length + 1 : Nat) : Int) (roundE rs os net)).f, (grE ((rs.length + 1 : Nat) : Int) (roundE rs os net)).t, fun _ => 0⟩ ⟨fun i hi => ?_, fun i hi => ?_⟩ (flE fl)
    · exact this
    · obtain ⟨d, hd⟩ := get_some (l := os) (i := i) hi
      obtain ⟨h1, h2, h3⟩ := hos d (List.mem_of_getElem? hd)
      have := mayD_am h1
      dsimp only
      rw [gr_f (rnd_due hd)]
      unfold dueE
      dsimp only
      omega
    · obtain ⟨d, hd⟩ := get_some (l := os) (i := i) hi
      obtain ⟨h1, h2, h3⟩ := hos d (List.mem_of_getElem? hd)
      have := mayD_am h1
      dsimp only
      rw [gr_t (rnd_due hd)]
      unfold dueE
      dsimp only
      omega
theorem shiftC_of {xs ys : List Int} (hl : xs.length = ys.length) (hx : ∀ x ∈ xs, mayM x = true) (hy : ∀ y ∈ ys, smallM y = true) (hs : sumM ys = 0) (hz : ∀ z ∈ shiftM xs ys, mayM z = true) : shiftC xs ys = 0 := by
  unfold shiftC evenM
  rw [decide_eq_true hl, List.all_eq_true.2 hx, List.all_eq_true.2 hy, decide_eq_true hs, if_neg (by decide), if_neg, if_neg]
  · rw [List.all_eq_true.2 hz]; decide
  · rw [List.all_eq_true.2 fun z h => decide_eq_true (mayM_iff.1 (hz z h)).1]; decide
theorem sumM_shift : ∀ {xs ys : List Int}, xs.length = ys.length → sumM (shiftM xs ys) = sumM xs + sumM ys
  | [], [], _ => rfl
  | [], _ :: _, h => by cases h
  | _ :: _, [], h => by cases h
  | x :: xs, y :: ys, h => by
    have ih := sumM_shift (xs := xs) (ys := ys) (by simpa using h)
    show sumM ((x + y) :: shiftM xs ys) = _
    rw [sumM_cons, sumM_cons, sumM_cons, ih]; omega
theorem sumM_mem {xs : List Int} (h : ∀ x ∈ xs, 0 ≤ x) : ∀ x ∈ xs, x ≤ sumM xs := by
  induction xs with
  | nil => intro x hx; cases hx
  | cons y xs ih =>
    intro x hx
    rw [sumM_cons]
    have h0 := h y (List.mem_cons_self ..)
    have h1 := sumM_nonneg fun z hz => h z (List.mem_cons_of_mem _ hz)
    rcases List.mem_cons.1 hx with rfl | hx
    · omega
    · have := ih (fun z hz => h z (List.mem_cons_of_mem _ hz)) x hx
      omega
theorem aofC_iff {acs : List Ac} : aofC acs = 0 ↔ acs.length ≤ 16 ∧ (∀ a ∈ acs, acMay a = true) ∧ (totM (acs.map Ac.ba)).2 = 0 := by
  unfold aofC
  by_cases h1 : 16 < acs.length
  · rw [if_pos h1]; exact ⟨fun h => by simp at h, fun h => absurd h.1 (by omega)⟩
  rw [if_neg h1]
  cases h2 : acs.all acMay with
  | false =>
    rw [if_pos rfl]
    refine ⟨fun h => by simp at h, fun h => ?_⟩
    rw [List.all_eq_true.2 h.2.1] at h2; cases h2
  | true =>
    rw [if_neg (by decide)]
    rw [List.all_eq_true] at h2
    exact ⟨fun h => ⟨by omega, h2, h⟩, fun h => h.2.2⟩
theorem acMay_iff {a : Ac} : acMay a = true ↔ (0 ≤ a.ba ∧ a.ba ≤ 4503599627370496) ∧ 0 ≤ a.re ∧ a.re ≤ 4503599627370496 := by
  unfold acMay; rw [Bool.and_eq_true, mayM_iff, mayM_iff]
theorem shA_get {acs : List Ac} {by' : Nat → Int} (hs : shiftC (acs.map Ac.ba) (tab by' acs.length) = 0) {k : Nat} {a : Ac} (hk : acs[k]? = some a) : (shA acs (tab by' acs.length))[k]? = some ⟨a.ba + by' k, a.re⟩ := by
  unfold shA
  rw [if_pos hs, List.getElem?_zipWith, hk, tab_get (get_lt hk)]
theorem shA_len {acs : List Ac} {by' : Nat → Int} : (shA acs (tab by' acs.length)).length = acs.length := by
  unfold shA
  split
  · rw [List.length_zipWith, tab_len]; omega
  · rfl
theorem round_shift {acs : List Ac} {by' : Nat → Int} (ha : aofC acs = 0) (hb : ∀ (k : Nat) (a : Ac), acs[k]? = some a → -(roomV a) ≤ by' k ∧ by' k ≤ 4503599627370496) (hs : sumTo by' acs.length = 0) :
    shiftC (acs.map Ac.ba) (tab by' acs.length) = 0 ∧ aofC (shA acs (tab by' acs.length)) = 0 := by
  obtain ⟨h1, h2, h3⟩ := aofC_iff.1 ha
  obtain ⟨h4, h5⟩ := totM_zero.1 h3
  have hl : (acs.map Ac.ba).length = (tab by' acs.length).length := by rw [List.length_map, tab_len]
  have hsum : sumM (tab by' acs.length) = 0 := by rw [sumM_tab]; exact hs
  have hat : ∀ z ∈ shiftM (acs.map Ac.ba) (tab by' acs.length), ∃ k a, acs[k]? = some a ∧ z = a.ba + by' k := fun z hz => by
    obtain ⟨k, hk⟩ := List.mem_iff_getElem?.1 hz
    have hkl := get_lt hk
    unfold shiftM at hkl
    rw [List.length_zipWith, List.length_map, tab_len] at hkl
    obtain ⟨a, hka⟩ := get_some (l := acs) (i := k) (by omega)
    rw [shift_at (x := a.ba) (y := by' k) (by rw [List.getElem?_map, hka]; rfl) (tab_get (by omega))] at hk
    injection hk with hk
    exact ⟨k, a, hka, hk.symm⟩
  have hnn : ∀ z ∈ shiftM (acs.map Ac.ba) (tab by' acs.length), 0 ≤ z := fun z hz => by
    obtain ⟨k, a, hk, rfl⟩ := hat z hz
    have := hb k a hk
    have h6 := acMay_iff.1 (h2 a (List.mem_of_getElem? hk))
    unfold roomV at this
    omega
  have htot := sumM_shift hl
  rw [hsum] at htot
  have hmay : ∀ z ∈ shiftM (acs.map Ac.ba) (tab by' acs.length), mayM z = true := fun z hz => by
    have := sumM_mem hnn z hz
    exact mayM_iff.2 ⟨hnn z hz, by omega⟩
  have hC : shiftC (acs.map Ac.ba) (tab by' acs.length) = 0 := by
    refine shiftC_of hl h4 (fun y hy => ?_) hsum hmay
    obtain ⟨k, hk⟩ := List.mem_iff_getElem?.1 hy
    obtain ⟨hkl, rfl⟩ := tab_at hk
    obtain ⟨a, hka⟩ := get_some (l := acs) (i := k) hkl
    have := hb k a hka
    have h6 := acMay_iff.1 (h2 a (List.mem_of_getElem? hka))
    unfold roomV at this
    unfold smallM
    rw [Bool.and_eq_true, decide_eq_true_eq, decide_eq_true_eq]
    omega
  have hmap : (shA acs (tab by' acs.length)).map Ac.ba = shiftM (acs.map Ac.ba) (tab by' acs.length) := by
    unfold shA shiftM
    rw [if_pos hC, List.map_zipWith, List.zipWith_map_left]
  refine ⟨hC, aofC_iff.2 ⟨by rw [shA_len]; exact h1, fun a' ha' => ?_, totM_zero.2 ⟨by rw [hmap]; exact hmay, by rw [hmap]; omega⟩⟩⟩
  obtain ⟨k, hk⟩ := List.mem_iff_getElem?.1 ha'
  have hkl := get_lt hk
  rw [shA_len] at hkl
  obtain ⟨a, hka⟩ := get_some (l := acs) (i := k) hkl
  have h7 := shA_get hC hka
  rw [h7] at hk
  injection hk with hk
  subst hk
  have h8 : mayM (a.ba + by' k) = true := hmay _ (List.mem_of_getElem? (i := k) (shift_at (by rw [List.getElem?_map, hka]; rfl) (tab_get hkl)))
  unfold acMay at *
  rw [Bool.and_eq_true]
  have := h2 a (List.mem_of_getElem? hka)
  rw [Bool.and_eq_true] at this
  exact ⟨h8, this.2⟩
/-- What a round that may be built says. -/
structure Bright (rs : List Int) (ds : List Du) : Prop where
  n16 : rs.length ≤ 16
  may : ∀ x ∈ rs, mayM x = true
  m64 : ds.length ≤ 64
  due : ∀ d ∈ ds, DueIn rs.length d
  tot : sumM (ds.map Du.am) ≤ 4503599627370496
theorem bright_iff {rs : List Int} {ds : List Du} (hl : ds.length ≤ 1000000) : brightB rs ds = true ↔ Bright rs ds := by
  rw [← r19_eq rs ds hl]
  unfold r19B
  simp only [Bool.and_eq_true, decide_eq_true_eq, List.all_eq_true, dueB]
  constructor
  · rintro ⟨⟨h1, h2⟩, h3, h4, h5⟩
    exact ⟨h1, h3, h2, fun d hd => ⟨(h4 d hd).1, (h4 d hd).2.1, (h4 d hd).2.2⟩, (totM_zero.1 h5).2⟩
  · rintro ⟨h1, h3, h2, h4, h5⟩
    refine ⟨⟨h1, h2⟩, h3, fun d hd => ⟨(h4 d hd).1, (h4 d hd).2.1, (h4 d hd).2.2⟩, totM_zero.2 ⟨fun x hx => ?_, h5⟩⟩
    obtain ⟨d, hd, rfl⟩ := List.mem_map.1 hx
    have := (mayD_am (h4 d hd).1).2.2.2.1
    exact mayM_iff.2 ⟨by omega, this.2⟩
theorem opn_mem {ds : List Du} {d : Du} (h : d ∈ opn ds) : d ∈ ds ∧ d.held = false := by
  unfold opn at h
  rw [List.mem_filter] at h
  exact ⟨h.1, by simpa using h.2⟩
theorem opn_len (ds : List Du) : (opn ds).length ≤ ds.length := List.length_filter_le _ _
theorem opn_sum {ds : List Du} (h : ∀ d ∈ ds, 0 ≤ d.am) : sumM ((opn ds).map Du.am) ≤ sumM (ds.map Du.am) := by
  induction ds with
  | nil => exact Int.le_refl _
  | cons d ds ih =>
    have h0 := h d (List.mem_cons_self ..)
    have ih := ih fun e he => h e (List.mem_cons_of_mem _ he)
    rw [opn_cons, List.map_cons, sumM_cons]
    split
    · rw [List.nil_append]; omega
    · show sumM (d.am :: (opn ds).map Du.am) ≤ _
      rw [sumM_cons]; omega
theorem Bright.open' {rs : List Int} {ds : List Du} (h : Bright rs ds) : Bright rs (opn ds) :=
  ⟨h.n16, h.may, Nat.le_trans (opn_len ds) h.m64, fun d hd => h.due d (opn_mem hd).1, Int.le_trans (opn_sum fun d hd => by have := (mayD_am (h.due d hd).1).2.2.2.1; omega) h.tot⟩
theorem Bright.right {rs : List Int} {ds : List Du} (h : Bright rs ds) (net : Bool) : rightN ((rs.length + 1 : Nat) : Int) (roundE rs (opn ds) net) = true :=
  rnd_right h.n16 h.open'.m64 h.may h.open'.due h.open'.tot
end Go.Proofs.YtapphbmlkdhnmaaGreat

/- Slices that are read, whatever else turns; slices that a call has made. It holds for every program. -/
namespace Go.GV
open Go
section
variable {α : Type} {w w' : World} {a : Option Addr} {s : Nat} {enc : α → List Value} {xs : List α} {S : List Nat}
theorem Rd.ext' (h : Rd w a s enc xs) (he : Ext S w w') (hn : xs ≠ [] → (adr a).block ∉ S) : Rd w' a s enc xs :=
  ⟨h.some', fun i x hx j v hv hj => he.cell (h.cell i x hx j v hv hj) (hn (by rintro rfl; simp at hx))⟩
theorem Rd.lt' (h : Rd w a s enc xs) (hs : ∀ x ∈ xs, (enc x).length = s) (h0 : 0 < s) (hne : xs ≠ []) : (adr a).block < w.heap.size := by
  cases xs with
  | nil => exact absurd rfl hne
  | cons x xs =>
    obtain ⟨v, hv⟩ := get_some (l := enc x) (i := 0) (by rw [hs x (List.mem_cons_self ..)]; exact h0)
    exact World.block_lt_of_cell? w ⟨(adr a).block, (adr a).off + 0 * s + 0, none⟩ (h.cell 0 x rfl 0 v hv h0)
end
/-- A slice that a call has made, to be read. -/
structure Sl (w w' : World) (v : Value) (s : Nat) {α : Type} (enc : α → List Value) (xs : List α) : Prop where
  ex : ∃ a c, v = .slice a xs.length c ∧ xs.length ≤ c ∧ Rd w' a s enc xs ∧ (xs ≠ [] → w.heap.size ≤ (adr a).block)
theorem Sl.of {w w' : World} {el s : Nat} {v : Value} {α : Type} {enc : α → List Value} {xs : List α} (F : Fresh w w' el s v (xs.flatMap enc)) (hs : ∀ x ∈ xs, (enc x).length = s) (h0 : 0 < s) : Sl w w' v s enc xs := by
  obtain ⟨a, n, c, full, rfl, O, hb⟩ := F.ex
  obtain rfl := O.numN hs h0
  refine ⟨a, c, rfl, O.le, OS.rd O (fun x hx => (hb x hx).1) hs h0, fun hne => ?_⟩
  obtain ⟨q, rfl⟩ := O.form (List.length_pos_iff.2 hne)
  exact (hb (q, Bl el full) (List.mem_singleton.2 rfl)).2
theorem Sl.nil {w w' : World} {s : Nat} {α : Type} {enc : α → List Value} : Sl w w' (.slice none 0 0) s enc ([] : List α) := ⟨none, 0, rfl, Nat.le_refl _, Rd.nil, fun h => absurd rfl h⟩
end Go.GV

/- A round's net, built: the walk. -/
namespace Go.Proofs.YtapphbmlkdhnmaaGreat
open Go.GV
theorem ag_24_SqC : aggB Tryz.prog 24 = some false := by kernel_rfl
theorem ag_26_SqC : aggB Tryz.prog 26 = some false := by kernel_rfl
theorem ag_28_SqC : aggB Tryz.prog 28 = some true := by kernel_rfl
theorem ag_62_SqC : aggB Tryz.prog 62 = some true := by kernel_rfl
theorem ag_92_SqC : aggB Tryz.prog 92 = some true := by kernel_rfl
theorem by_24_SqC : tbytes Tryz.prog 24 = some 8 := by kernel_rfl
theorem by_92_SqC : tbytes Tryz.prog 92 = some 32 := by kernel_rfl
theorem ca_104_SqC : callable Tryz.prog 104 = true := by kernel_rfl
theorem ca_105_SqC : callable Tryz.prog 105 = true := by kernel_rfl
theorem ca_116_SqC : callable Tryz.prog 116 = true := by kernel_rfl
theorem ca_162_SqC : callable Tryz.prog 162 = true := by kernel_rfl
theorem el_23_SqC : elemT Tryz.prog 23 = some 62 := by kernel_rfl
theorem el_25_SqC : elemT Tryz.prog 25 = some 24 := by kernel_rfl
theorem el_26_SqC : elemT Tryz.prog 26 = some 92 := by kernel_rfl
theorem el_29_SqC : elemT Tryz.prog 29 = some 2 := by kernel_rfl
theorem fo_28_0_SqC : fieldO Tryz.prog 28 0 = some 0 := by kernel_rfl
theorem fo_28_1_SqC : fieldO Tryz.prog 28 1 = some 1 := by kernel_rfl
theorem fo_62_0_SqC : fieldO Tryz.prog 62 0 = some 0 := by kernel_rfl
theorem sz_24_SqC : tsize Tryz.prog 24 = some 1 := by kernel_rfl
theorem sz_26_SqC : tsize Tryz.prog 26 = some 1 := by kernel_rfl
theorem sz_28_SqC : tsize Tryz.prog 28 = some 2 := by kernel_rfl
theorem sz_3_SqC : tsize Tryz.prog 3 = some 1 := by kernel_rfl
theorem sz_62_SqC : tsize Tryz.prog 62 = some 7 := by kernel_rfl
theorem sz_92_SqC : tsize Tryz.prog 92 = some 4 := by kernel_rfl
theorem zc_24_SqC : zcells Tryz.prog 24 = some ([.int .u64 0]) := by kernel_rfl
theorem zc_28_SqC : zcells Tryz.prog 28 = some ([.int .i64 0, .slice none 0 0]) := by kernel_rfl
theorem zc_62_SqC : zcells Tryz.prog 62 = some ([.int .u64 0, .int .i64 0, .int .i64 0, .int .i64 0, .int .i64 0, .int .i64 0, .bool false]) := by kernel_rfl
theorem zc_92_SqC : zcells Tryz.prog 92 = some ([.int .i64 0, .int .i64 0, .int .i64 0, .int .i64 0]) := by kernel_rfl
attribute [local irreducible] Wops W Wq Wt

/-- Three results, the first in a cell, behind marks. -/
theorem leaveM3c {P : Program} {e : Env} {w : World} {fn : Func} {R : Value → World → Prop} {a s2 s3 : Tmp} {t : TypeId} {p : Addr} {v2 v3 : Value} (hr : fn.results = #[.cell a t, .tmp s2, .tmp s3]) (ha : e.g a = .pointer (some p)) (h2 : e.g s2 = v2) (h3 : e.g s3 = v3) (h : Marks e.ds w fun w' => ∃ v, (loadVar t p).run P w' = .ok v w' ∧ R (.tuple #[v, v2, v3]) w') : QretM P fn R .ret e w :=
  Marks.mono (fun w ⟨v, hv, h⟩ tmps ht => by
    have h1 := (ht a).trans ha
    have g2 := (ht s2).trans h2
    have g3 := (ht s3).trans h3
    rw [Array.getD_eq_getD_getElem?] at h1 g2 g3
    exact ⟨.tuple #[v, v2, v3], by simp [results, hr, h1, g2, g3, asAddr, hv], h⟩) h
/-- What a round's net is. -/
def RoundRes (w : World) (rs : List Int) (ds : List Du) (net : Bool) (v : Value) (w' : World) : Prop :=
  Ext [] w w' ∧ ((brightB rs ds = false ∧ v = .tuple #[netV 0 none 0 0, .slice none 0 0, .int .i64 1]) ∨
    (brightB rs ds = true ∧ ∃ aE nE cE vI, v = .tuple #[netV ((rs.length + 1 : Nat) : Int) aE nE cE, vI, .int .i64 0] ∧ Sl w w' (.slice aE nE cE) 4 encE (roundE rs (opn ds) net) ∧ Sl w w' vI 1 U1 ((opn ds).map Du.id)))
/-- What the rounds leave. -/
def rndJ (ws : World) (b6 : Nat) (N : Int) (es : List Ed) (i : Nat) (M : Mt) (w : World) : Prop :=
  ∃ a c full, (M = fun y => y ∈ ((b6, Bl 28 [.int .i64 N, .slice a i c]) :: ent a 92 full).map (·.1)) ∧ Ctx ws [b6] w ((b6, Bl 28 [.int .i64 N, .slice a i c]) :: ent a 92 full) ∧
    OS a i c 4 full ((es.take i).flatMap encE) ∧ ∀ y ∈ ((b6, Bl 28 [.int .i64 N, .slice a i c]) :: ent a 92 full).map (·.1), y ≠ ws.heap.size ∧ y ≠ ws.heap.size + 1
set_option maxRecDepth 20000 in
set_option maxHeartbeats 4000000 in
theorem bround_ok (a b : Option Addr) (n c m e : Nat) (rs : List Int) (ds : List Du) (net : Bool) (w : World) (R : Rd w a 1 I1 rs) (hn : rs.length = n) (hn2 : n ≤ 1000000) (Rd' : Rd w b 7 encD ds) (hm : ds.length = m) (hm2 : m ≤ 1000000) :
    Ret Tryz.prog 58 #[.slice a n c, .slice b m e, .bool net] w (RoundRes w rs ds net) := by
  subst hn hm
  obtain ⟨w0, rfl⟩ : ∃ w0, w0 = w := ⟨_, rfl⟩
  have H := Ctx.start w0 []
  obtain ⟨bb, hbb⟩ : ∃ bb, bb = brightB rs ds := ⟨_, rfl⟩
  obtain ⟨os, hos⟩ : ∃ os, os = opn ds := ⟨_, rfl⟩
  have hol : os.length ≤ ds.length := by rw [hos]; exact opn_len ds
  refine ret_of_WM (fn := Tryz.f58) Tryz.func58 rfl [.slice a rs.length c, .slice b ds.length e, .bool net] rfl (by kernel_rfl) ?_
  refine W_rseq ?_
  refine op_alloc rfl zc_28_SqC H ?_
  rintro b6 w - H
  refine op_assign rfl (.slice _ _ _) rfl ?_
  refine op_assign rfl (.int _ _) rfl ?_
  refine op_nil (at_then ?_)
  refine W_seq ?_
  refine W_rseq ?_
  refine op_move rfl (.slice _ _ _) rfl ?_
  refine op_move rfl (.slice _ _ _) rfl ?_
  refine op_call rfl ca_104_SqC (bright_ok a b _ c _ e rs ds _ (R.ext0 H.ext) rfl hn2 (Rd'.ext0 H.ext) rfl hm2) rfl ?_
  rintro v w ⟨rfl, hx14⟩
  replace H := H.call hx14
  rw [← hbb]
  refine op_not rfl rfl ?_
  refine op_nil (at_then ?_)
  refine W_cond _ rfl ?_ ?_
  · intro h1
    replace h1 := nvar_t h1
    refine W_rseq ?_
    refine op_ldbN rfl ag_28_SqC sz_28_SqC rfl H (by first | exact at0 | exact at1 | exact at2 | exact at3 | exact at4 | exact at5 | exact at6 | exact at7 | exact at8 | exact at9) rfl ?_
    refine op_stb0 rfl sz_28_SqC rfl rfl rfl (by simp [oneCell]) H (by first | exact at0 | exact at1 | exact at2 | exact at3 | exact at4 | exact at5 | exact at6 | exact at7 | exact at8 | exact at9) rfl ?_
    rintro w H
    refine op_assign rfl (.slice _ _ _) rfl ?_
    refine op_assign rfl (.int _ _) rfl ?_
    refine op_nil (at_then ?_)
    refine W_ret (ret_then ?_)
    refine leaveM3c rfl rfl rfl rfl ?_
    exact ⟨_, run_loadN ag_28_SqC sz_28_SqC rfl (fun j v hv => by rw [cell_bl (H.get at0), Nat.zero_add]; exact hv), H.ext, .inl ⟨by rw [← hbb]; exact h1, rfl⟩⟩
  · intro h1
    replace h1 := nvar_f h1
    refine W_skip (at_then ?_)
    refine W_rseq ?_
    refine op_move rfl (.slice _ _ _) rfl ?_
    refine op_len rfl el_29_SqC rfl ?_
    refine op_add_i64 rfl rfl rfl (by omega) (by omega) ?_
    refine op_fieldAddr rfl fo_28_0_SqC rfl ?_
    refine op_stb (.int _ _) rfl sz_3_SqC rfl rfl rfl H (by first | exact at0 | exact at1 | exact at2 | exact at3 | exact at4 | exact at5 | exact at6 | exact at7 | exact at8 | exact at9) (by first | decide | (simp; done) | (simp; omega)) ?_
    rintro w H
    refine op_nil (at_then ?_)
    refine W_rseq ?_
    refine op_move rfl (.slice _ _ _) rfl ?_
    refine op_call rfl ca_105_SqC (open_ok b _ e ds _ (Rd'.ext0 H.ext) rfl hm2) rfl ?_
    rintro v w F
    rw [← hos] at F
    obtain ⟨a4, n4, c4, f4, rfl, O4, hb4⟩ := F.ex
    have hl4 := O4.llen
    rw [encD_len] at hl4
    obtain rfl : os.length = n4 := by omega
    refine op_assign rfl (.slice _ _ _) rfl ?_
    refine op_nil (at_then ?_)
    refine W_seq ?_
    have hb6 := H.lt at0
    have RO : Rd w a4 7 encD os := OS.rd O4 (fun y hy => (hb4 y hy).1) (fun _ _ => rfl) (by omega)
    have hROn : os ≠ [] → (adr a4).block ∉ [b6] := fun hne => by
      obtain ⟨q, rfl⟩ := O4.form (List.length_pos_iff.2 hne)
      have := (hb4 (q, Bl 62 f4) (List.mem_singleton.2 rfl)).2
      rw [List.mem_singleton]
      show q ≠ b6
      dsimp only at this
      omega
    have H4 := H.call F.ext
    have hs4 := H4.size
    have hl64 := H4.lt at0
    obtain ⟨w4, rfl⟩ : ∃ z, z = w := ⟨_, rfl⟩
    have H := Ctx.lend (L1 := [_]) (L2 := []) H4
    dsimp only [List.map] at H
    refine W_rseq ?_
    refine op_move rfl (.slice _ _ _) rfl ?_
    refine op_len rfl el_23_SqC rfl ?_
    refine op_move rfl (.int _ _) rfl ?_
    refine op_nil (at_then ?_)
    refine W_block ?_
    refine W_loop 34326185088 (α := LSt) (fun t => [(7, .slice t.a t.i t.c), (25, .int .i64 (t.i : Int))]) (fun t w' => t.i ≤ os.length ∧ OS t.a t.i t.c 1 t.full (((os.take t.i).map Du.id).map u64v) ∧ Ctx w4 [b6] w' ((b6, Bl 28 [.int .i64 ((rs.length : Int) + 1), .slice none 0 0]) :: ent t.a 24 t.full)) (fun t => os.length - t.i) ⟨0, none, 0, []⟩ rfl ?_ ?_ ?_
    · exact ⟨rfl, rfl, trivial⟩
    · exact ⟨Nat.zero_le _, OS.nil, H⟩
    · clear H
      rintro ⟨i, a2, c2, full⟩ jj w ⟨hi, O, H⟩; dsimp only at hi O H; dsimp only
      refine W_rseq ?_
      refine op_lss rfl rfl rfl ?_
      refine op_nil (at_then ?_)
      refine W_seq ?_
      refine W_cond _ rfl ?_ ?_
      · intro h3
        replace h3 := dec_t h3
        obtain ⟨d, hd⟩ := get_some (l := os) (i := i) (by omega)
        refine W_skip (at_then ?_)
        refine W_seq ?_
        refine W_block ?_
        refine W_rseq ?_
        first | refine op_indexRd RO rfl el_23_SqC sz_62_SqC rfl rfl (by omega) (by omega) (by first | rfl | omega) ?_ | refine op_indexAddr rfl el_23_SqC sz_62_SqC rfl rfl (by omega) (by omega) ?_
        first | refine op_ldN _ rfl ag_62_SqC sz_62_SqC rfl rfl ((RO.ext' H.ext hROn).row hd rfl) ?_ | refine op_ldbN rfl ag_62_SqC sz_62_SqC rfl H (by first | exact at0 | exact at1 | exact at2 | exact at3 | exact at4 | exact at5 | exact at6 | exact at7 | exact at8 | exact at9) rfl ?_
        refine op_alloc rfl zc_62_SqC H ?_
        rintro b10 w - H
        refine op_stb0 rfl sz_62_SqC rfl rfl rfl (by first | exact encD_one _ | simp [oneCell]) H (by first | exact at0 | exact at1 | exact at2 | exact at3 | exact at4 | exact at5 | exact at6 | exact at7 | exact at8 | exact at9) rfl ?_
        rintro w H
        refine op_nil (at_then ?_)
        refine W_region ?_
        refine op_move rfl (.slice _ _ _) rfl ?_
        refine op_fieldAddr rfl fo_62_0_SqC rfl ?_
        refine op_ldb rfl ag_24_SqC rfl H (by first | exact at0 | exact at1 | exact at2 | exact at3 | exact at4 | exact at5 | exact at6 | exact at7 | exact at8 | exact at9) rfl ?_
        refine op_build1 _ (.int _ _) rfl el_25_SqC sz_24_SqC zc_24_SqC rfl (by decide) (by decide) rfl rfl rfl H ?_
        rintro b32 w - H
        refine op_appendb (L := [_, _]) rfl el_25_SqC el_25_SqC sz_24_SqC by_24_SqC zc_24_SqC rfl (by decide) rfl rfl H O rfl (by simp [oneCell]) (by omega) ?_
        rintro a' c' full' w H O
        refine op_assign rfl (.slice _ _ _) rfl ?_
        refine op_nil (at_block (at_then ?_))
        refine W_region ?_
        refine op_add_i64 rfl rfl rfl (by omega) (by omega) ?_
        refine op_move rfl (.int _ _) rfl ?_
        refine op_nil (at_then ?_)
        exact ⟨⟨i + 1, a', c', full'⟩, rfl, ⟨rfl, rfl, trivial⟩, ⟨by dsimp only; omega, by dsimp only; rw [take_map hd, List.map_append]; exact O, H.tail⟩, by dsimp only; omega⟩
      · intro h3
        replace h3 := dec_f h3
        obtain rfl : i = os.length := by omega
        rw [List.take_length] at O
        refine W_exit (exit_then (exit_then (exit_here (at_then ?_))))
        refine W_seq ?_
        refine W_rseq ?_
        refine op_move rfl (.slice _ _ _) rfl ?_
        refine op_move rfl (.slice _ _ _) rfl ?_
        refine op_move rfl (.bool _) rfl ?_
        refine op_call rfl ca_116_SqC (redges_ok a a4 _ c _ c4 net _) rfl ?_
        rintro v w ⟨x1, x2, x3, rfl, H10⟩
        have H5 := H.call H10.ext
        refine op_nil (at_then ?_)
        refine W_block ?_
        have RI0 : Rd w a2 1 U1 (os.map Du.id) := O.rd1 fun x hx => H5.blk x (List.mem_cons_of_mem _ hx)
        have hRIn : os.map Du.id ≠ [] → w4.heap.size ≤ (adr a2).block := fun hne => by
          obtain ⟨q, rfl⟩ := O.form (by have := List.length_pos_iff.2 hne; rw [List.length_map] at this; exact this)
          rcases H.own (q, Bl 24 full) (List.mem_cons_of_mem _ (List.mem_singleton.2 rfl)) with h | h
          · exact absurd (List.mem_singleton.1 h) fun h => H.ne (i := 1) (j := 0) rfl rfl (by decide) h
          · exact h
        have hk1 := H10.get at1
        have hk2 := H10.get at0
        have hk3 := H10.get at2
        have ho1 := (H10.own _ (List.mem_of_getElem? at1)).elim (fun h => by cases h) id
        have ho2 := (H10.own _ (List.mem_of_getElem? at0)).elim (fun h => by cases h) id
        have ho3 := (H10.own _ (List.mem_of_getElem? at2)).elim (fun h => by cases h) id
        dsimp only at ho1 ho2 ho3
        have hl6 := H.lt at0
        have hs5 := H5.size
        have hx5 := H4.ext.then H5.ext fun x hx => .inr (by rw [List.mem_singleton.1 hx]; exact (H4.own _ (List.mem_of_getElem? at0)).elim (fun h => by cases h) id)
        have hb60 : w0.heap.size ≤ b6 := (H4.own _ (List.mem_of_getElem? at0)).elim (fun h => by cases h) id
        have RR := R.ext0 hx5
        have RO5 := RO.ext' H5.ext hROn
        have hwe : ∀ d ∈ os, -1000000000 ≤ d.we ∧ d.we ≤ 1000000000 := fun d hd => by
          rw [hbb] at h1
          have hB := (bright_iff (by omega)).1 h1
          rw [hos] at hd
          have := (mayD_am (hB.due d (opn_mem hd).1).1).2.2.2.2.1
          omega
        obtain ⟨ws, rfl⟩ : ∃ z, z = w := ⟨_, rfl⟩
        have H := Ctx.lend (L1 := [_]) (L2 := _) H5
        dsimp only [List.map] at H
        obtain ⟨es, hes⟩ : ∃ es, es = roundE rs os net := ⟨_, rfl⟩
        have hnR : rs ≠ [] → (adr a).block ∉ [b6] := fun hne => by
          have := R.lt' (fun _ _ => rfl) (by decide) hne
          rw [List.mem_singleton]; omega
        have heL : es.length ≤ 3000000 := by rw [hes, rnd_len]; split <;> omega
        refine W_range (gf := 162) rfl ca_162_SqC (redges1_ok (b1 := x1) (b2 := x2) (b3 := x3) (a := a) (b := a4) (c := c) (e := c4) (rs := rs) (ds := os) (net := net) rfl rfl hn2 (by omega) hwe) (by kernel_rfl) (by kernel_rfl) (fun v hv => by obtain ⟨p, -, rfl⟩ := List.mem_map.1 hv; rfl)
          (rndJ ws b6 ((rs.length : Int) + 1) es) (fun _ => False) (by simp)
          (fun w2 hx2 _ => ⟨_, none, 0, [], rfl, H.call hx2, OS.nil, by simp [ent]; omega⟩)
          (fun i M w' w'' hJ hx => ?_) (fun _ _ h _ => h) (fun i M w' hJ => ?_) ?_ ?_ (fun _ h _ => h.elim)
        · obtain ⟨a7, c7, f7, hM, HJ, O7, hne⟩ := hJ
          refine ⟨a7, c7, f7, hM, HJ.step hx (fun y hy hy2 => ?_) (fun x hx => .inr ?_), O7, hne⟩
          · have := hne _ (List.mem_map_of_mem (f := (·.1)) hy)
            simp only [List.mem_cons, List.not_mem_nil, or_false] at hy2
            omega
          · simp only [List.mem_cons, List.not_mem_nil, or_false] at hx
            omega
        · obtain ⟨a7, c7, f7, hM, HJ, O7, hne⟩ := hJ
          refine ⟨fun x hx => ?_, HJ.ext.to hk1 (by rw [List.mem_singleton]; omega), HJ.ext.to hk2 (by rw [List.mem_singleton]; omega), HJ.ext.to hk3 (by rw [List.mem_singleton]; omega), RR.ext' HJ.ext hnR, RO5.ext' HJ.ext hROn⟩
          rw [hM] at hx
          obtain ⟨y, hy, rfl⟩ := List.mem_map.1 hx
          exact ⟨heap_lt (HJ.blk y hy), hne _ hx⟩
        · rintro i v M w hxv ⟨a7, c7, f7, rfl, HJ, O7, hne⟩ hsz
          rw [List.getElem?_map] at hxv
          obtain ⟨ed, hed, rfl⟩ := Option.map_eq_some_iff.1 hxv
          rw [← hes] at hed
          have hil := get_lt hed
          obtain ⟨w1, rfl⟩ : ∃ z, z = w := ⟨_, rfl⟩
          have H := Ctx.start w1 []
          refine W_region ?_
          refine op_alloc rfl zc_92_SqC H ?_
          rintro b11 w - H
          refine op_stb0 rfl sz_92_SqC rfl rfl rfl (by first | exact encD_one _ | exact encE_one _ | simp [oneCell]) H (by first | exact at0 | exact at1 | exact at2 | exact at3 | exact at4 | exact at5 | exact at6 | exact at7 | exact at8 | exact at9) rfl ?_
          rintro w H
          refine op_nil ?_
          refine ⟨H.ext, fun wB hxB => ?_⟩
          have hb11 := (H.own _ (List.mem_cons_self ..)).elim (fun h => by cases h) id
          dsimp only at hb11
          have hs1 := H.size
          have hsB := hxB.size
          have HB := (HJ.callAdd H.ext (H.get at0) hb11).step hxB (fun y hy => by
            rw [List.mem_singleton]
            rcases List.mem_cons.1 hy with rfl | hy
            · dsimp only; omega
            · exact (hne _ (List.mem_map_of_mem (f := (·.1)) hy)).2) (fun z hz => .inr (by rw [List.mem_singleton.1 hz]; omega))
          obtain ⟨w2, rfl⟩ : ∃ z, z = wB := ⟨_, rfl⟩
          rw [← List.append_nil (_ :: _ :: ent a7 92 f7)] at HB
          have H := Ctx.lend (L1 := _ :: _ :: ent a7 92 f7) (L2 := []) HB
          obtain ⟨SS, hSS⟩ : ∃ SS, SS = ((b11, Bl 92 (encE ed)) :: (b6, Bl 28 [.int .i64 ((rs.length : Int) + 1), .slice a7 i c7]) :: ent a7 92 f7).map (·.1) := ⟨_, rfl⟩
          rw [← hSS] at H
          refine W_block ?_
          refine W_region ?_
          refine op_fieldAddr rfl fo_28_1_SqC rfl ?_
          refine op_ldb rfl ag_26_SqC rfl H (by first | exact at0 | exact at1 | exact at2 | exact at3 | exact at4 | exact at5 | exact at6 | exact at7 | exact at8 | exact at9) rfl ?_
          first | refine op_ldN _ rfl ag_92_SqC sz_92_SqC rfl rfl ((RO.ext' H.ext hROn).row hd rfl) ?_ | refine op_ldbN rfl ag_92_SqC sz_92_SqC rfl H (by first | exact at0 | exact at1 | exact at2 | exact at3 | exact at4 | exact at5 | exact at6 | exact at7 | exact at8 | exact at9) rfl ?_
          refine op_build1 _ (.agg _) rfl el_26_SqC sz_92_SqC zc_92_SqC rfl (by decide) (by decide) rfl rfl rfl H ?_
          rintro b43 w - H
          refine op_appendb (L := [_, _]) rfl el_26_SqC el_26_SqC sz_92_SqC by_92_SqC zc_92_SqC rfl (by decide) rfl rfl H O7 rfl (encE_one ed) (by omega) ?_
          rintro a' c' full' w H O
          refine op_fieldAddr rfl fo_28_1_SqC rfl ?_
          refine op_stb (.slice _ _ _) rfl sz_26_SqC rfl rfl rfl H (by first | exact at0 | exact at1 | exact at2 | exact at3 | exact at4 | exact at5 | exact at6 | exact at7 | exact at8 | exact at9) (by first | decide | (simp; done) | (simp; omega)) ?_
          rintro w H
          refine op_nil (at_block ?_)
          rw [hSS] at H
          have HE := H.ext
          have HH := Ctx.back HB H
          rw [List.append_nil] at HH
          refine ⟨_, ⟨a', c', full', rfl, HH.tail, by rw [List.take_succ, hed, List.flatMap_append]; exact O, fun y hy => ?_⟩, fun y hy => ?_, _, HE, fun y hy => ?_⟩
          · obtain ⟨z, hz, rfl⟩ := List.mem_map.1 hy
            rcases H.own z (List.mem_cons_of_mem _ hz) with h | h
            · rcases List.mem_cons.1 h with h | h
              · dsimp only at h; omega
              · exact hne _ h
            · have := hxB.size; have := H.ext.size; omega
          · obtain ⟨z, hz, rfl⟩ := List.mem_map.1 hy
            rcases H.own z (List.mem_cons_of_mem _ hz) with h | h
            · rcases List.mem_cons.1 h with h | h
              · exact .inr (by dsimp only at h; omega)
              · exact .inl h
            · exact .inr (by have := hxB.size; omega)
          · rcases List.mem_cons.1 hy with h | h
            · exact .inr (by dsimp only at h; omega)
            · exact .inl h
        · rintro M w ⟨a7, c7, f7, rfl, HJ, O7, hne⟩ hD
          rw [List.length_map, ← hes] at HJ O7 hne
          rw [List.take_length] at O7
          have H := HJ
          obtain ⟨w1, rfl⟩ : ∃ z, z = w := ⟨_, rfl⟩
          rw [← List.append_nil (_ :: ent a7 92 f7)] at HJ
          have H := Ctx.lend (L1 := _ :: ent a7 92 f7) (L2 := []) HJ
          obtain ⟨SS, hSS⟩ : ∃ SS, SS = ((b6, Bl 28 [.int .i64 ((rs.length : Int) + 1), .slice a7 es.length c7]) :: ent a7 92 f7).map (·.1) := ⟨_, rfl⟩
          rw [← hSS] at H hne
          have hDn : ws.heap.size ∉ SS := fun h => (hne _ h).1 rfl
          refine at_block (at_then ?_)
          refine W_rseq ?_
          first | refine op_ldN _ rfl ag_28_SqC sz_28_SqC rfl rfl ((RO.ext' H.ext hROn).row hd rfl) ?_ | refine op_ldbN rfl ag_28_SqC sz_28_SqC rfl H (by first | exact at0 | exact at1 | exact at2 | exact at3 | exact at4 | exact at5 | exact at6 | exact at7 | exact at8 | exact at9) rfl ?_
          refine op_move rfl (.slice _ _ _) rfl ?_
          refine op_stb0 rfl sz_28_SqC rfl rfl rfl (by first | exact encD_one _ | exact encE_one _ | simp [oneCell]) H (by first | exact at0 | exact at1 | exact at2 | exact at3 | exact at4 | exact at5 | exact at6 | exact at7 | exact at8 | exact at9) rfl ?_
          rintro w H
          refine op_assign rfl (.slice _ _ _) rfl ?_
          refine op_assign rfl (.int _ _) rfl ?_
          refine op_nil (at_then ?_)
          refine W_ret ?_
          refine leaveM3c rfl rfl rfl rfl ?_
          refine marks_one (H.ext.to hD hDn) rfl fun wF hxF => ?_
          rw [hSS] at H
          have HH := Ctx.back HJ H
          rw [List.append_nil] at HH
          rw [hSS] at hne
          have HF := HH.step hxF (fun y hy h => (hne _ (List.mem_map_of_mem (f := (·.1)) hy)).1 (List.mem_singleton.1 h)) (fun z hz => .inr (by rw [List.mem_singleton.1 hz]; omega))
          have hown : ∀ y ∈ ((b6, Bl 28 [.int .i64 ((rs.length : Int) + 1), .slice a7 es.length c7]) :: ent a7 92 f7), w0.heap.size ≤ y.1 := fun y hy => by
            rcases HF.own y hy with h | h
            · rw [List.mem_singleton.1 h]; exact hb60
            · have := hx5.size; omega
          have hxx := hx5.then HF.ext fun x hx => .inr (by rw [List.mem_singleton.1 hx]; exact hb60)
          refine ⟨_, run_loadN ag_28_SqC sz_28_SqC rfl (fun j v hv => by rw [cell_bl (HF.get at0), Nat.zero_add]; exact hv), hxx, .inr ⟨by rw [← hbb]; exact h1, a7, es.length, c7, .slice a2 os.length c2, rfl, ?_, ?_⟩⟩
          · rw [← hos, ← hes]
            refine ⟨a7, c7, rfl, O7.le, OS.rd O7 (fun x hx => HF.blk x (List.mem_cons_of_mem _ hx)) (fun _ _ => rfl) (by decide), fun hne' => ?_⟩
            obtain ⟨q, rfl⟩ := O7.form (List.length_pos_iff.2 hne')
            exact hown (q, Bl 92 f7) (List.mem_cons_of_mem _ (List.mem_singleton.2 rfl))
          · rw [← hos]
            have hd4 : os.map Du.id ≠ [] → w4.heap.size ≤ (adr a2).block := hRIn
            refine ⟨a2, c2, by rw [List.length_map], by rw [List.length_map]; exact O.le, RI0.ext' HF.ext (fun hne' => ?_), fun hne' => ?_⟩
            · have := hRIn hne'
              rw [List.mem_singleton]; omega
            · have := hRIn hne'
              omega
end Go.Proofs.YtapphbmlkdhnmaaGreat

/- Nets, as the reference has them: Right, Within. -/
namespace Go.Proofs.YtapphbmlkdhnmaaGreat
open Go.GV
theorem ag_26_SqD : aggB Tryz.prog 26 = some false := by kernel_rfl
theorem ag_28_SqD : aggB Tryz.prog 28 = some true := by kernel_rfl
theorem ag_2_SqD : aggB Tryz.prog 2 = some false := by kernel_rfl
theorem ag_3_SqD : aggB Tryz.prog 3 = some false := by kernel_rfl
theorem ag_92_SqD : aggB Tryz.prog 92 = some true := by kernel_rfl
theorem ca_124_SqD : callable Tryz.prog 124 = true := by kernel_rfl
theorem ca_63_SqD : callable Tryz.prog 63 = true := by kernel_rfl
theorem el_26_SqD : elemT Tryz.prog 26 = some 92 := by kernel_rfl
theorem el_29_SqD : elemT Tryz.prog 29 = some 2 := by kernel_rfl
theorem fo_28_0_SqD : fieldO Tryz.prog 28 0 = some 0 := by kernel_rfl
theorem fo_28_1_SqD : fieldO Tryz.prog 28 1 = some 1 := by kernel_rfl
theorem fo_92_0_SqD : fieldO Tryz.prog 92 0 = some 0 := by kernel_rfl
theorem fo_92_1_SqD : fieldO Tryz.prog 92 1 = some 1 := by kernel_rfl
theorem fo_92_2_SqD : fieldO Tryz.prog 92 2 = some 2 := by kernel_rfl
theorem fo_92_3_SqD : fieldO Tryz.prog 92 3 = some 3 := by kernel_rfl
theorem mixed_SqD : Tryz.prog.follows .mixedOrders = true := by kernel_rfl
theorem sz_28_SqD : tsize Tryz.prog 28 = some 2 := by kernel_rfl
theorem sz_2_SqD : tsize Tryz.prog 2 = some 1 := by kernel_rfl
theorem sz_92_SqD : tsize Tryz.prog 92 = some 4 := by kernel_rfl
theorem zc_92_SqD : zcells Tryz.prog 92 = some ([.int .i64 0, .int .i64 0, .int .i64 0, .int .i64 0]) := by kernel_rfl
attribute [local irreducible] Wops W Wq Wt

set_option maxRecDepth 20000 in
set_option maxHeartbeats 4000000 in
theorem r11right_ok (N : Int) (a : Option Addr) (n c : Nat) (es : List Ed) (w : World) (R : Rd w a 4 encE es) (hn : es.length = n) (hn2 : n ≤ 1000000) : Ret Tryz.prog 63 #[netV N a n c] w fun v w' => v = .bool (rightN N es) ∧ Ext [] w w' := by
  subst hn
  obtain ⟨w0, rfl⟩ : ∃ w0, w0 = w := ⟨_, rfl⟩
  have H := Ctx.start w0 []
  refine ret_of_W (fn := Tryz.f63) Tryz.func63 rfl [netV N a es.length c] rfl (by kernel_rfl) ?_
  refine W_rseq ?_
  refine op_box rfl [.int .i64 N, .slice a es.length c] (.agg _) rfl rfl H ?_
  rintro b1 w - H
  refine op_assign rfl (.bool _) rfl ?_
  refine op_nil (at_then ?_)
  refine W_seq ?_
  refine W_rseq (Wops_join (α := Unit) 1048512 (fun _ => [(19, .bool (!((decide (1 ≤ N) && decide (N ≤ 40)) && decide (es.length ≤ 200))))]) (fun _ w' => Ctx w0 [] w' [(b1, Bl 28 [.int .i64 N, .slice a es.length c])]) rfl ?_ ?_)
  · refine op_fieldAddr rfl fo_28_0_SqD rfl ?_
    refine op_ldb rfl ag_3_SqD rfl H (by first | exact at0 | exact at1 | exact at2 | exact at3 | exact at4 | exact at5 | exact at6 | exact at7 | exact at8 | exact at9) rfl ?_
    refine op_lss rfl rfl rfl ?_
    refine op_move rfl (.bool _) rfl ?_
    refine Wops_split 9 rfl ?_ ?_
    · intro h1
      replace h1 := dec_t h1
      refine op_skip rfl ?_
      refine op_skip rfl ?_
      refine op_skip rfl ?_
      refine op_pick1 rfl rfl (.bool _) rfl ?_
      refine op_move rfl (.bool _) rfl ?_
      refine op_skip rfl ?_
      refine op_skip rfl ?_
      refine op_skip rfl ?_
      refine op_skip rfl ?_
      refine op_pick1 rfl rfl (.bool _) rfl ?_
      refine op_nil ?_
      exact ⟨rfl, (), rfl, ⟨congrArg Value.bool (by rw [Bool.eq_iff_iff]; simp_all; try omega), trivial⟩, H⟩
    · intro h2
      replace h2 := dec_f h2
      refine op_fieldAddr rfl fo_28_0_SqD rfl ?_
      refine op_ldb rfl ag_3_SqD rfl H (by first | exact at0 | exact at1 | exact at2 | exact at3 | exact at4 | exact at5 | exact at6 | exact at7 | exact at8 | exact at9) rfl ?_
      refine op_gtr rfl rfl rfl ?_
      refine op_pick0 rfl rfl (.bool _) rfl ?_
      refine op_move rfl (.bool _) rfl ?_
      refine Wops_split 14 rfl ?_ ?_
      · intro h3
        replace h3 := dec_t h3
        refine op_skip rfl ?_
        refine op_skip rfl ?_
        refine op_skip rfl ?_
        refine op_skip rfl ?_
        refine op_pick1 rfl rfl (.bool _) rfl ?_
        refine op_nil ?_
        exact ⟨rfl, (), rfl, ⟨congrArg Value.bool (by rw [Bool.eq_iff_iff]; simp_all; try omega), trivial⟩, H⟩
      · intro h4
        replace h4 := dec_f h4
        refine op_fieldAddr rfl fo_28_1_SqD rfl ?_
        refine op_ldb rfl ag_26_SqD rfl H (by first | exact at0 | exact at1 | exact at2 | exact at3 | exact at4 | exact at5 | exact at6 | exact at7 | exact at8 | exact at9) rfl ?_
        refine op_len rfl el_26_SqD rfl ?_
        refine op_gtr rfl rfl rfl ?_
        refine op_pick0 rfl rfl (.bool _) rfl ?_
        refine op_nil ?_
        exact ⟨rfl, (), rfl, ⟨congrArg Value.bool (by rw [Bool.eq_iff_iff]; simp_all; try omega), trivial⟩, H⟩
  rintro - j19 w H
  refine W_cond _ rfl ?_ ?_
  · intro h1
    replace h1 := nvar_t h1
    refine W_rseq ?_
    refine op_assign rfl (.bool _) rfl ?_
    refine op_nil (at_then ?_)
    refine W_ret (ret_then (leave1 (v := (.bool _)) rfl rfl rfl ?_))
    exact ⟨congrArg Value.bool (by unfold rightN; rw [← Bool.and_assoc, show ((decide (1 ≤ N) && decide (N ≤ 40)) && decide (es.length ≤ 200)) = false by simpa using h1]; rfl), H.ext⟩
  · intro h1
    replace h1 := nvar_f h1
    have h1' : ((decide (1 ≤ N) && decide (N ≤ 40)) && decide (es.length ≤ 200)) = true := by simpa using h1
    have hrN : rightN N es = (es.all (edgeB N) && decide (prods es ≤ 4611686018427387904)) := by unfold rightN; rw [← Bool.and_assoc, h1']; rfl
    refine W_skip (at_then ?_)
    refine W_rseq ?_
    refine op_assign rfl (.int _ _) rfl ?_
    refine op_nil (at_then ?_)
    refine W_seq ?_
    refine W_rseq ?_
    refine op_assign rfl (.int _ _) rfl ?_
    refine op_nil (at_then ?_)
    refine W_block ?_
    refine W_loop 2417851639229258348363836 (α := Nat) (fun i => [(3, .int .i64 ((prods (es.take i) : Nat) : Int)), (4, .int .i64 (i : Int))]) (fun i w' => i ≤ es.length ∧ Ctx w0 [] w' [(b1, Bl 28 [.int .i64 N, .slice a es.length c])] ∧ prods (es.take i) ≤ 4611686018427387904 ∧ ∀ (k : Nat) (e : Ed), k < i → es[k]? = some e → edgeB N e = true) (fun i => es.length - i) 0 rfl ?_ ?_ ?_
    · exact ⟨rfl, rfl, trivial⟩
    · exact ⟨Nat.zero_le _, H, Nat.zero_le _, fun k e h => absurd h (Nat.not_lt_zero _)⟩
    · rintro i j w ⟨hi, H, hpr, hb⟩
      refine W_seq ?_
      refine W_rseq ?_
      refine op_move rfl (.int _ _) rfl ?_
      refine op_fieldAddr rfl fo_28_1_SqD rfl ?_
      refine op_ldb rfl ag_26_SqD rfl H (by first | exact at0 | exact at1 | exact at2 | exact at3 | exact at4 | exact at5 | exact at6 | exact at7 | exact at8 | exact at9) rfl ?_
      refine op_len rfl el_26_SqD rfl ?_
      refine op_lss rfl rfl rfl ?_
      refine op_nil (at_then ?_)
      refine W_cond _ rfl ?_ ?_
      · intro h2
        replace h2 := dec_t h2
        obtain ⟨e, he⟩ := get_some (l := es) (i := i) (by omega)
        have hps := prods_snoc he
        have hpt := prods_take es (i + 1)
        refine W_skip (at_then ?_)
        refine W_seq ?_
        refine W_block ?_
        refine W_rseq ?_
        refine op_fieldAddr rfl fo_28_1_SqD rfl ?_
        refine op_ldb rfl ag_26_SqD rfl H (by first | exact at0 | exact at1 | exact at2 | exact at3 | exact at4 | exact at5 | exact at6 | exact at7 | exact at8 | exact at9) rfl ?_
        refine op_move rfl (.int _ _) rfl ?_
        first | refine op_indexRd R rfl el_26_SqD sz_92_SqD rfl rfl (by omega) (by omega) (by first | rfl | omega) ?_ | refine op_indexAddr rfl el_26_SqD sz_92_SqD rfl rfl (by omega) (by omega) ?_
        first | refine op_ldN _ rfl ag_92_SqD sz_92_SqD rfl rfl ((R.ext0 H.ext).row he rfl) ?_ | refine op_ldbN rfl ag_92_SqD sz_92_SqD rfl H (by first | exact at0 | exact at1 | exact at2 | exact at3 | exact at4 | exact at5 | exact at6 | exact at7 | exact at8 | exact at9) rfl ?_
        refine op_alloc rfl zc_92_SqD H ?_
        rintro b5 w - H
        refine op_stb0 rfl sz_92_SqD rfl rfl rfl (by first | exact encE_one _ | simp [oneCell]) H (by first | exact at0 | exact at1 | exact at2 | exact at3 | exact at4 | exact at5 | exact at6 | exact at7 | exact at8 | exact at9) rfl ?_
        rintro w H
        refine op_nil (at_then ?_)
        refine W_seq ?_
        refine W_rseq (Wops_join (α := Unit) 18446744069414584320 (fun _ => [(63, .bool (!edgeB N e))]) (fun _ w' => Ctx w0 [] w' [(b5, Bl 92 (encE e)), (b1, Bl 28 [.int .i64 N, .slice a es.length c])]) rfl ?_ ?_)
        · first | refine op_ldN _ rfl ag_28_SqD sz_28_SqD rfl rfl ((R.ext0 H.ext).row he rfl) ?_ | refine op_ldbN rfl ag_28_SqD sz_28_SqD rfl H (by first | exact at0 | exact at1 | exact at2 | exact at3 | exact at4 | exact at5 | exact at6 | exact at7 | exact at8 | exact at9) rfl ?_
          refine op_fieldAddr rfl fo_92_0_SqD rfl ?_
          refine op_ldb rfl ag_3_SqD rfl H (by first | exact at0 | exact at1 | exact at2 | exact at3 | exact at4 | exact at5 | exact at6 | exact at7 | exact at8 | exact at9) rfl ?_
          refine op_call rfl ca_124_SqD (rnode_ok N a es.length c e.f _) rfl ?_
          rintro v w ⟨rfl, hx35⟩
          replace H := H.call hx35
          refine op_not rfl rfl ?_
          refine op_move rfl (.bool _) rfl ?_
          refine Wops_split 37 rfl ?_ ?_
          · intro h5
            replace h5 := nvar_t h5
            refine op_skip rfl ?_
            refine op_skip rfl ?_
            refine op_skip rfl ?_
            refine op_skip rfl ?_
            refine op_skip rfl ?_
            refine op_pick1 rfl rfl (.bool _) rfl ?_
            refine op_move rfl (.bool _) rfl ?_
            refine op_skip rfl ?_
            refine op_skip rfl ?_
            refine op_skip rfl ?_
            refine op_pick1 rfl rfl (.bool _) rfl ?_
            refine op_move rfl (.bool _) rfl ?_
            refine op_skip rfl ?_
            refine op_skip rfl ?_
            refine op_skip rfl ?_
            refine op_pick1 rfl rfl (.bool _) rfl ?_
            refine op_move rfl (.bool _) rfl ?_
            refine op_skip rfl ?_
            refine op_skip rfl ?_
            refine op_skip rfl ?_
            refine op_pick1 rfl rfl (.bool _) rfl ?_
            refine op_move rfl (.bool _) rfl ?_
            refine op_skip rfl ?_
            refine op_skip rfl ?_
            refine op_skip rfl ?_
            refine op_pick1 rfl rfl (.bool _) rfl ?_
            refine op_nil ?_
            exact ⟨rfl, (), rfl, ⟨congrArg Value.bool (by unfold edgeB; unfold nodeR at *; unfold nodeB; rw [Bool.eq_iff_iff]; simp_all; try omega), trivial⟩, H⟩
          · intro h6
            replace h6 := nvar_f h6
            first | refine op_ldN _ rfl ag_28_SqD sz_28_SqD rfl rfl ((R.ext0 H.ext).row he rfl) ?_ | refine op_ldbN rfl ag_28_SqD sz_28_SqD rfl H (by first | exact at0 | exact at1 | exact at2 | exact at3 | exact at4 | exact at5 | exact at6 | exact at7 | exact at8 | exact at9) rfl ?_
            refine op_fieldAddr rfl fo_92_1_SqD rfl ?_
            refine op_ldb rfl ag_3_SqD rfl H (by first | exact at0 | exact at1 | exact at2 | exact at3 | exact at4 | exact at5 | exact at6 | exact at7 | exact at8 | exact at9) rfl ?_
            refine op_call rfl ca_124_SqD (rnode_ok N a es.length c e.t _) rfl ?_
            rintro v w ⟨rfl, hx41⟩
            replace H := H.call hx41
            refine op_not rfl rfl ?_
            refine op_pick0 rfl rfl (.bool _) rfl ?_
            refine op_move rfl (.bool _) rfl ?_
            refine Wops_split 44 rfl ?_ ?_
            · intro h7
              replace h7 := nvar_t h7
              refine op_skip rfl ?_
              refine op_skip rfl ?_
              refine op_skip rfl ?_
              refine op_pick1 rfl rfl (.bool _) rfl ?_
              refine op_move rfl (.bool _) rfl ?_
              refine op_skip rfl ?_
              refine op_skip rfl ?_
              refine op_skip rfl ?_
              refine op_pick1 rfl rfl (.bool _) rfl ?_
              refine op_move rfl (.bool _) rfl ?_
              refine op_skip rfl ?_
              refine op_skip rfl ?_
              refine op_skip rfl ?_
              refine op_pick1 rfl rfl (.bool _) rfl ?_
              refine op_move rfl (.bool _) rfl ?_
              refine op_skip rfl ?_
              refine op_skip rfl ?_
              refine op_skip rfl ?_
              refine op_pick1 rfl rfl (.bool _) rfl ?_
              refine op_nil ?_
              exact ⟨rfl, (), rfl, ⟨congrArg Value.bool (by unfold edgeB; unfold nodeR at *; unfold nodeB; rw [Bool.eq_iff_iff]; simp_all; try omega), trivial⟩, H⟩
            · intro h8
              replace h8 := nvar_f h8
              refine op_fieldAddr rfl fo_92_2_SqD rfl ?_
              refine op_ldb rfl ag_2_SqD rfl H (by first | exact at0 | exact at1 | exact at2 | exact at3 | exact at4 | exact at5 | exact at6 | exact at7 | exact at8 | exact at9) rfl ?_
              refine op_lss rfl rfl rfl ?_
              refine op_pick0 rfl rfl (.bool _) rfl ?_
              refine op_move rfl (.bool _) rfl ?_
              refine Wops_split 49 rfl ?_ ?_
              · intro h9
                replace h9 := dec_t h9
                refine op_skip rfl ?_
                refine op_skip rfl ?_
                refine op_skip rfl ?_
                refine op_pick1 rfl rfl (.bool _) rfl ?_
                refine op_move rfl (.bool _) rfl ?_
                refine op_skip rfl ?_
                refine op_skip rfl ?_
                refine op_skip rfl ?_
                refine op_pick1 rfl rfl (.bool _) rfl ?_
                refine op_move rfl (.bool _) rfl ?_
                refine op_skip rfl ?_
                refine op_skip rfl ?_
                refine op_skip rfl ?_
                refine op_pick1 rfl rfl (.bool _) rfl ?_
                refine op_nil ?_
                exact ⟨rfl, (), rfl, ⟨congrArg Value.bool (by unfold edgeB; unfold nodeR at *; unfold nodeB; rw [Bool.eq_iff_iff]; simp_all; try omega), trivial⟩, H⟩
              · intro h10
                replace h10 := dec_f h10
                refine op_fieldAddr rfl fo_92_2_SqD rfl ?_
                refine op_ldb rfl ag_2_SqD rfl H (by first | exact at0 | exact at1 | exact at2 | exact at3 | exact at4 | exact at5 | exact at6 | exact at7 | exact at8 | exact at9) rfl ?_
                refine op_gtr rfl rfl rfl ?_
                refine op_pick0 rfl rfl (.bool _) rfl ?_
                refine op_move rfl (.bool _) rfl ?_
                refine Wops_split 54 rfl ?_ ?_
                · intro h11
                  replace h11 := dec_t h11
                  refine op_skip rfl ?_
                  refine op_skip rfl ?_
                  refine op_skip rfl ?_
                  refine op_pick1 rfl rfl (.bool _) rfl ?_
                  refine op_move rfl (.bool _) rfl ?_
                  refine op_skip rfl ?_
                  refine op_skip rfl ?_
                  refine op_skip rfl ?_
                  refine op_pick1 rfl rfl (.bool _) rfl ?_
                  refine op_nil ?_
                  exact ⟨rfl, (), rfl, ⟨congrArg Value.bool (by unfold edgeB; unfold nodeR at *; unfold nodeB; rw [Bool.eq_iff_iff]; simp_all; try omega), trivial⟩, H⟩
                · intro h12
                  replace h12 := dec_f h12
                  refine op_fieldAddr rfl fo_92_3_SqD rfl ?_
                  refine op_ldb rfl ag_2_SqD rfl H (by first | exact at0 | exact at1 | exact at2 | exact at3 | exact at4 | exact at5 | exact at6 | exact at7 | exact at8 | exact at9) rfl ?_
                  refine op_lss rfl rfl rfl ?_
                  refine op_pick0 rfl rfl (.bool _) rfl ?_
                  refine op_move rfl (.bool _) rfl ?_
                  refine Wops_split 59 rfl ?_ ?_
                  · intro h13
                    replace h13 := dec_t h13
                    refine op_skip rfl ?_
                    refine op_skip rfl ?_
                    refine op_skip rfl ?_
                    refine op_pick1 rfl rfl (.bool _) rfl ?_
                    refine op_nil ?_
                    exact ⟨rfl, (), rfl, ⟨congrArg Value.bool (by unfold edgeB; unfold nodeR at *; unfold nodeB; rw [Bool.eq_iff_iff]; simp_all; try omega), trivial⟩, H⟩
                  · intro h14
                    replace h14 := dec_f h14
                    refine op_fieldAddr rfl fo_92_3_SqD rfl ?_
                    refine op_ldb rfl ag_2_SqD rfl H (by first | exact at0 | exact at1 | exact at2 | exact at3 | exact at4 | exact at5 | exact at6 | exact at7 | exact at8 | exact at9) rfl ?_
                    refine op_gtr rfl rfl rfl ?_
                    refine op_pick0 rfl rfl (.bool _) rfl ?_
                    refine op_nil ?_
                    exact ⟨rfl, (), rfl, ⟨congrArg Value.bool (by unfold edgeB; unfold nodeR at *; unfold nodeB; rw [Bool.eq_iff_iff]; simp_all; try omega), trivial⟩, H⟩
        rintro - j63 w H
        refine W_cond _ rfl ?_ ?_
        · intro h3
          replace h3 := nvar_t h3
          refine W_rseq ?_
          refine op_assign rfl (.bool _) rfl ?_
          refine op_nil (at_then ?_)
          refine W_ret (ret_then (ret_block (ret_then (ret_then (ret_block (ret_then (leave1 (v := (.bool _)) rfl rfl rfl ?_)))))))
          exact ⟨congrArg Value.bool (by rw [hrN, all_false he (by simpa using h3)]; rfl), H.ext⟩
        · intro h3
          replace h3 := nvar_f h3
          have h3' : edgeB N e = true := by simpa using h3
          obtain ⟨-, -, -, -, q1, q2, q3, q4⟩ := edge_of h3'
          obtain ⟨cp, hcp⟩ : ∃ cp : Nat, e.cap = (cp : Int) := ⟨e.cap.toNat, by omega⟩
          have hpe : prodE e = cp * e.cost.natAbs := by unfold prodE; rw [hcp, Int.toNat_natCast]
          have hpm : prodE e ≤ 4503599627370496 * 1000 := by rw [hpe]; exact Nat.mul_le_mul (by omega) (by omega)
          have hmx : e.cap * max e.cost (-e.cost) = ((prodE e : Nat) : Int) := by
            rw [hpe, hcp, Int.natCast_mul]
            congr 1
            omega
          refine W_skip (at_then ?_)
          refine W_rseq ?_
          refine op_move rfl (.int _ _) rfl ?_
          refine op_fieldAddr rfl fo_92_2_SqD rfl ?_
          refine op_ldb rfl ag_2_SqD rfl H (by first | exact at0 | exact at1 | exact at2 | exact at3 | exact at4 | exact at5 | exact at6 | exact at7 | exact at8 | exact at9) rfl ?_
          refine op_fieldAddr rfl fo_92_3_SqD rfl ?_
          refine op_ldb rfl ag_2_SqD rfl H (by first | exact at0 | exact at1 | exact at2 | exact at3 | exact at4 | exact at5 | exact at6 | exact at7 | exact at8 | exact at9) rfl ?_
          refine op_fieldAddr rfl fo_92_3_SqD rfl ?_
          refine op_ldb rfl ag_2_SqD rfl H (by first | exact at0 | exact at1 | exact at2 | exact at3 | exact at4 | exact at5 | exact at6 | exact at7 | exact at8 | exact at9) rfl ?_
          refine op_neg_i64 rfl rfl (by omega) (by omega) ?_
          refine op_max2 rfl rfl rfl ?_
          refine op_mul_i64 rfl rfl rfl (by rw [hmx]; omega) (by rw [hmx]; omega) ?_
          rw [hmx]
          refine op_add_i64 rfl rfl rfl (by omega) (by omega) ?_
          rw [← Int.natCast_add, ← hps]
          refine op_assign rfl (.int _ _) rfl ?_
          refine op_nil (at_then ?_)
          refine W_rseq (Wops_join (α := Unit) 2380072707366301187702784 (fun _ => [(80, .bool (!decide (prods (es.take (i + 1)) ≤ 4611686018427387904)))]) (fun _ w' => Ctx w0 [] w' [(b5, Bl 92 (encE e)), (b1, Bl 28 [.int .i64 N, .slice a es.length c])]) rfl ?_ ?_)
          · refine op_move rfl (.int _ _) rfl ?_
            refine op_lss rfl rfl rfl ?_
            refine op_move rfl (.bool _) rfl ?_
            refine Wops_split 77 rfl ?_ ?_
            · intro h15
              replace h15 := dec_t h15
              refine op_skip rfl ?_
              refine op_skip rfl ?_
              refine op_pick1 rfl rfl (.bool _) rfl ?_
              refine op_nil ?_
              exact ⟨rfl, (), rfl, ⟨congrArg Value.bool (by rw [Bool.eq_iff_iff]; simp_all; try omega), trivial⟩, H⟩
            · intro h16
              replace h16 := dec_f h16
              refine op_move rfl (.int _ _) rfl ?_
              refine op_gtr rfl rfl rfl ?_
              refine op_pick0 rfl rfl (.bool _) rfl ?_
              refine op_nil ?_
              exact ⟨rfl, (), rfl, ⟨congrArg Value.bool (by rw [Bool.eq_iff_iff]; simp_all; try omega), trivial⟩, H⟩
          rintro - j80 w H
          refine W_cond _ rfl ?_ ?_
          · intro h4
            replace h4 := nvar_t h4
            refine W_rseq ?_
            refine op_assign rfl (.bool _) rfl ?_
            refine op_nil (at_then ?_)
            refine W_ret (ret_block (ret_then (ret_then (ret_block (ret_then (leave1 (v := (.bool _)) rfl rfl rfl ?_))))))
            have h4' : ¬ prods (es.take (i + 1)) ≤ 4611686018427387904 := by simpa using h4
            exact ⟨congrArg Value.bool (by rw [hrN, decide_eq_false (show ¬ prods es ≤ 4611686018427387904 by omega), Bool.and_false]), H.ext⟩
          · intro h4
            replace h4 := nvar_f h4
            have h4' : prods (es.take (i + 1)) ≤ 4611686018427387904 := by simpa using h4
            refine W_skip (at_block (at_then ?_))
            refine W_region ?_
            refine op_move rfl (.int _ _) rfl ?_
            refine op_add_i64 rfl rfl rfl (by omega) (by omega) ?_
            refine op_assign rfl (.int _ _) rfl ?_
            refine op_nil (at_then ?_)
            refine ⟨i + 1, rfl, ⟨rfl, rfl, trivial⟩, ⟨by omega, H.tail, h4', fun k y hk hy => ?_⟩, by omega⟩
            rcases Nat.lt_or_ge k i with h7 | h7
            · exact hb k y h7 hy
            · obtain rfl : k = i := by omega
              rw [he] at hy
              cases hy
              exact h3'
      · intro h2
        replace h2 := dec_f h2
        refine W_exit (exit_then (exit_then (exit_here (at_then ?_))))
        refine W_rseq ?_
        refine op_assign rfl (.bool _) rfl ?_
        refine op_nil (at_then ?_)
        refine W_ret (leave1 (v := (.bool _)) rfl rfl rfl ?_)
        rw [List.take_of_length_le (by omega)] at hpr
        exact ⟨congrArg Value.bool (by rw [hrN, all_true fun k x hk hx => hb k x (by omega) hx, decide_eq_true hpr]; rfl), H.ext⟩
set_option maxRecDepth 20000 in
set_option maxHeartbeats 4000000 in
theorem r11within_ok (N : Int) (a b : Option Addr) (n c m d : Nat) (es : List Ed) (fl : List Int) (w : World) (R : Rd w a 4 encE es) (hn : es.length = n) (hn2 : n ≤ 1000000) (Rf : Rd w b 1 I1 fl) (hm : fl.length = m) (hm2 : m ≤ 1000000) :
    Ret Tryz.prog 125 #[netV N a n c, .slice b m d] w fun v w' => v = .bool (withinN N es fl) ∧ Ext [] w w' := by
  subst hn hm
  obtain ⟨w0, rfl⟩ : ∃ w0, w0 = w := ⟨_, rfl⟩
  have H := Ctx.start w0 []
  refine ret_of_W (fn := Tryz.f125) Tryz.func125 rfl [netV N a es.length c, .slice b fl.length d] rfl (by kernel_rfl) ?_
  refine W_rseq ?_
  refine op_box rfl [.int .i64 N, .slice a es.length c] (.agg _) rfl rfl H ?_
  rintro b2 w - H
  refine op_assign rfl (.bool _) rfl ?_
  refine op_nil (at_then ?_)
  refine W_seq ?_
  refine W_rseq (Wops_join (α := Unit) 131008 (fun _ => [(16, .bool (!(decide (fl.length = es.length) && rightN N es)))]) (fun _ w' => Ctx w0 [] w' [(b2, Bl 28 [.int .i64 N, .slice a es.length c])]) rfl ?_ ?_)
  · refine op_ldbN rfl ag_28_SqD sz_28_SqD rfl H (by first | exact at0 | exact at1 | exact at2 | exact at3 | exact at4 | exact at5 | exact at6 | exact at7 | exact at8 | exact at9) rfl ?_
    refine op_call rfl ca_63_SqD (r11right_ok N a es.length c es _ (R.ext0 H.ext) rfl hn2) rfl ?_
    rintro v w ⟨rfl, hx7⟩
    replace H := H.call hx7
    refine op_not rfl rfl ?_
    refine op_move rfl (.bool _) rfl ?_
    refine Wops_split 9 rfl ?_ ?_
    · intro h1
      replace h1 := nvar_t h1
      refine op_skip rfl ?_
      refine op_skip rfl ?_
      refine op_skip rfl ?_
      refine op_skip rfl ?_
      refine op_skip rfl ?_
      refine op_skip rfl ?_
      refine op_pick1 rfl rfl (.bool _) rfl ?_
      refine op_nil ?_
      exact ⟨rfl, (), rfl, ⟨congrArg Value.bool (by rw [Bool.eq_iff_iff]; simp_all; try omega), trivial⟩, H⟩
    · intro h2
      replace h2 := nvar_f h2
      refine op_move rfl (.slice _ _ _) rfl ?_
      refine op_len rfl el_29_SqD rfl ?_
      refine op_fieldAddr rfl fo_28_1_SqD rfl ?_
      refine op_ldb rfl ag_26_SqD rfl H (by first | exact at0 | exact at1 | exact at2 | exact at3 | exact at4 | exact at5 | exact at6 | exact at7 | exact at8 | exact at9) rfl ?_
      refine op_len rfl el_26_SqD rfl ?_
      refine op_neq rfl rfl rfl ?_
      refine op_pick0 rfl rfl (.bool _) rfl ?_
      refine op_nil ?_
      exact ⟨rfl, (), rfl, ⟨congrArg Value.bool (by rw [Bool.eq_iff_iff]; simp_all; try omega), trivial⟩, H⟩
  rintro - j16 w H
  refine W_cond _ rfl ?_ ?_
  · intro h1
    replace h1 := nvar_t h1
    refine W_rseq ?_
    refine op_assign rfl (.bool _) rfl ?_
    refine op_nil (at_then ?_)
    refine W_ret (ret_then (leave1 (v := (.bool _)) rfl rfl rfl ?_))
    exact ⟨congrArg Value.bool (by unfold withinN; rw [show (decide (fl.length = es.length) && rightN N es) = false by simpa using h1]; rfl), H.ext⟩
  · intro h1
    replace h1 := nvar_f h1
    have h1' : (decide (fl.length = es.length) && rightN N es) = true := by simpa using h1
    have hw : withinN N es fl = (List.zipWith inB es fl).all id := by unfold withinN; rw [h1']; rfl
    have hle : fl.length = es.length := by simp only [Bool.and_eq_true, decide_eq_true_eq] at h1'; exact h1'.1
    refine W_skip (at_then ?_)
    refine W_seq ?_
    refine W_rseq ?_
    refine op_assign rfl (.int _ _) rfl ?_
    refine op_nil (at_then ?_)
    refine W_block ?_
    refine W_loop 2199023124528 (α := Nat) (fun i => [(5, .int .i64 (i : Int))]) (fun i w' => i ≤ fl.length ∧ Ctx w0 [] w' [(b2, Bl 28 [.int .i64 N, .slice a es.length c])] ∧ ∀ (k : Nat) (e : Ed) (x : Int), k < i → es[k]? = some e → fl[k]? = some x → inB e x = true) (fun i => fl.length - i) 0 rfl ?_ ?_ ?_
    · exact ⟨rfl, trivial⟩
    · exact ⟨Nat.zero_le _, H, fun k e x h => absurd h (Nat.not_lt_zero _)⟩
    · rintro i j w ⟨hi, H, hb⟩
      refine W_seq ?_
      refine W_rseq ?_
      refine op_move rfl (.int _ _) rfl ?_
      refine op_move rfl (.slice _ _ _) rfl ?_
      refine op_len rfl el_29_SqD rfl ?_
      refine op_lss rfl rfl rfl ?_
      refine op_nil (at_then ?_)
      refine W_cond _ rfl ?_ ?_
      · intro h2
        replace h2 := dec_t h2
        obtain ⟨e, he⟩ := get_some (l := es) (i := i) (by omega)
        obtain ⟨x, hx⟩ := get_some (l := fl) (i := i) (by omega)
        have hnext : inB e x = true → ∀ (k : Nat) (f : Ed) (y : Int), k < i + 1 → es[k]? = some f → fl[k]? = some y → inB f y = true := fun h3 k f y hk hf hy => by
          rcases Nat.lt_or_ge k i with h7 | h7
          · exact hb k f y h7 hf hy
          · obtain rfl : k = i := by omega
            rw [he] at hf; rw [hx] at hy
            cases hf; cases hy
            exact h3
        have hbad : inB e x = false → withinN N es fl = false := fun h3 => by rw [hw, all_false (zip_at he hx) (show id (inB e x) = false from h3)]
        have hxf := hx
        refine W_skip (at_then ?_)
        refine W_seq ?_
        refine W_block ?_
        refine W_sseqz [([0, 1, 2, 3, 4, 5, 6, 7, 8, 9, 10, 11, 12, 13, 14, 15, 16], 17)] (fun z => Ext [] w0 z ∧ z.heap[b2]? = some (Bl 28 [.int .i64 N, .slice a es.length c])) [] mixed_SqD (by kernel_rfl) (⟨H.drew.ext, H.drew.get at0⟩) ?_
        refine seg_cons rfl rfl ?_
        refine t_move rfl (.slice _ _ _) rfl ?_
        refine t_move rfl (.int _ _) rfl ?_
        first | refine t_indexRd R rfl el_29_SqD sz_2_SqD rfl rfl (by omega) (by omega) (by first | rfl | omega) ?_ | refine t_indexRd Rf rfl el_29_SqD sz_2_SqD rfl rfl (by omega) (by omega) (by first | rfl | omega) ?_ | refine t_indexAddr rfl el_29_SqD sz_2_SqD rfl rfl (by omega) (by omega) ?_
        first | refine t_ldb rfl ag_2_SqD rfl True.intro (by first | exact at0 | exact at1 | exact at2 | exact at3 | exact at4 | exact at5 | exact at6 | exact at7 | exact at8 | exact at9) rfl ?_ | refine t_ld rfl ag_2_SqD rfl (fun _ hx => (by rw [cell_bl (hx.2)]; rfl)) ?_ | refine t_ld rfl ag_2_SqD rfl (fun _ hx => ((R.ext0 hx.1).fld he rfl (j := 2) rfl)) ?_ | refine t_ld rfl ag_2_SqD rfl (fun _ hx => ((Rf.ext0 hx.1).fld hxf rfl (j := 0) rfl)) ?_
        refine t_lss rfl rfl rfl ?_
        refine t_move rfl (.bool _) rfl ?_
        refine Wt_split 28 rfl ?_ ?_
        · intro g1
          replace g1 := dec_t g1
          refine t_skip rfl ?_
          refine t_skip rfl ?_
          refine t_skip rfl ?_
          refine t_skip rfl ?_
          refine t_skip rfl ?_
          refine t_skip rfl ?_
          refine t_skip rfl ?_
          refine t_skip rfl ?_
          refine t_skip rfl ?_
          refine t_skip rfl ?_
          refine t_skip rfl ?_
          refine t_nil ?_
          replace H := H.drew
          refine op_pick1 rfl rfl (.bool _) rfl ?_
          refine op_nil (at_seg (⟨H.ext, H.get at0⟩) ?_)
          refine seg_nil ?_
          refine W_cond1 rfl ?_
          refine W_rseq ?_
          refine op_assign rfl (.bool _) rfl ?_
          refine op_nil (at_then ?_)
          refine W_ret (ret_block (ret_then (ret_then (ret_block (ret_then (leave1 (v := (.bool _)) rfl rfl rfl ?_))))))
          exact ⟨congrArg Value.bool (hbad (by unfold inB; rw [decide_eq_false (show ¬ 0 ≤ x by omega)]; rfl)).symm, H.ext⟩
        · intro g1
          replace g1 := dec_f g1
          refine t_move rfl (.slice _ _ _) rfl ?_
          refine t_move rfl (.int _ _) rfl ?_
          first | refine t_indexRd R rfl el_29_SqD sz_2_SqD rfl rfl (by omega) (by omega) (by first | rfl | omega) ?_ | refine t_indexRd Rf rfl el_29_SqD sz_2_SqD rfl rfl (by omega) (by omega) (by first | rfl | omega) ?_ | refine t_indexAddr rfl el_29_SqD sz_2_SqD rfl rfl (by omega) (by omega) ?_
          first | refine t_ldb rfl ag_2_SqD rfl True.intro (by first | exact at0 | exact at1 | exact at2 | exact at3 | exact at4 | exact at5 | exact at6 | exact at7 | exact at8 | exact at9) rfl ?_ | refine t_ld rfl ag_2_SqD rfl (fun _ hx => (by rw [cell_bl (hx.2)]; rfl)) ?_ | refine t_ld rfl ag_2_SqD rfl (fun _ hx => ((R.ext0 hx.1).fld he rfl (j := 2) rfl)) ?_ | refine t_ld rfl ag_2_SqD rfl (fun _ hx => ((Rf.ext0 hx.1).fld hxf rfl (j := 0) rfl)) ?_
          refine t_fieldAddr rfl fo_28_1_SqD rfl ?_
          first | refine t_ldb rfl ag_26_SqD rfl True.intro (by first | exact at0 | exact at1 | exact at2 | exact at3 | exact at4 | exact at5 | exact at6 | exact at7 | exact at8 | exact at9) rfl ?_ | refine t_ld rfl ag_26_SqD rfl (fun _ hx => (by rw [cell_bl (hx.2)]; rfl)) ?_ | refine t_ld rfl ag_26_SqD rfl (fun _ hx => ((R.ext0 hx.1).fld he rfl (j := 2) rfl)) ?_ | refine t_ld rfl ag_26_SqD rfl (fun _ hx => ((Rf.ext0 hx.1).fld hxf rfl (j := 0) rfl)) ?_
          refine t_move rfl (.int _ _) rfl ?_
          first | refine t_indexRd R rfl el_26_SqD sz_92_SqD rfl rfl (by omega) (by omega) (by first | rfl | omega) ?_ | refine t_indexRd Rf rfl el_26_SqD sz_92_SqD rfl rfl (by omega) (by omega) (by first | rfl | omega) ?_ | refine t_indexAddr rfl el_26_SqD sz_92_SqD rfl rfl (by omega) (by omega) ?_
          refine t_fieldAddr rfl fo_92_2_SqD rfl ?_
          first | refine t_ldb rfl ag_2_SqD rfl True.intro (by first | exact at0 | exact at1 | exact at2 | exact at3 | exact at4 | exact at5 | exact at6 | exact at7 | exact at8 | exact at9) rfl ?_ | refine t_ld rfl ag_2_SqD rfl (fun _ hx => (by rw [cell_bl (hx.2)]; rfl)) ?_ | refine t_ld rfl ag_2_SqD rfl (fun _ hx => ((R.ext0 hx.1).fld he rfl (j := 2) rfl)) ?_ | refine t_ld rfl ag_2_SqD rfl (fun _ hx => ((Rf.ext0 hx.1).fld hxf rfl (j := 0) rfl)) ?_
          refine t_gtr rfl rfl rfl ?_
          refine t_nil ?_
          replace H := H.drew
          refine op_pick0 rfl rfl (.bool _) rfl ?_
          refine op_nil (at_seg (⟨H.ext, H.get at0⟩) ?_)
          refine seg_nil ?_
          refine W_cond _ rfl ?_ ?_
          · intro g2
            replace g2 := dec_t g2
            refine W_rseq ?_
            refine op_assign rfl (.bool _) rfl ?_
            refine op_nil (at_then ?_)
            refine W_ret (ret_block (ret_then (ret_then (ret_block (ret_then (leave1 (v := (.bool _)) rfl rfl rfl ?_))))))
            exact ⟨congrArg Value.bool (hbad (by unfold inB; rw [decide_eq_false (show ¬ x ≤ e.cap by omega), Bool.and_false])).symm, H.ext⟩
          · intro g2
            replace g2 := dec_f g2
            refine W_skip (at_block (at_then ?_))
            refine W_region ?_
            refine op_move rfl (.int _ _) rfl ?_
            refine op_add_i64 rfl rfl rfl (by omega) (by omega) ?_
            refine op_assign rfl (.int _ _) rfl ?_
            refine op_nil (at_then ?_)
            exact ⟨i + 1, rfl, ⟨rfl, trivial⟩, ⟨by omega, H, hnext (by unfold inB; rw [decide_eq_true (show 0 ≤ x by omega), decide_eq_true (show x ≤ e.cap by omega)]; rfl)⟩, by omega⟩
      · intro h2
        replace h2 := dec_f h2
        refine W_exit (exit_then (exit_then (exit_here (at_then ?_))))
        refine W_rseq ?_
        refine op_assign rfl (.bool _) rfl ?_
        refine op_nil (at_then ?_)
        refine W_ret (leave1 (v := (.bool _)) rfl rfl rfl ?_)
        refine ⟨congrArg Value.bool ?_, H.ext⟩
        rw [hw, all_true fun k x hk hx => ?_]
        rw [List.length_zipWith] at hk
        obtain ⟨e, he⟩ := get_some (l := es) (i := k) (by omega)
        obtain ⟨y, hy⟩ := get_some (l := fl) (i := k) (by omega)
        rw [zip_at he hy] at hx
        cases hx
        exact hb k e y (by omega) he hy
end Go.Proofs.YtapphbmlkdhnmaaGreat

/- Flows, as the reference has them: Over, Flows. -/
namespace Go.Proofs.YtapphbmlkdhnmaaGreat
open Go.GV
theorem ag_26_SqE : aggB Tryz.prog 26 = some false := by kernel_rfl
theorem ag_28_SqE : aggB Tryz.prog 28 = some true := by kernel_rfl
theorem ag_2_SqE : aggB Tryz.prog 2 = some false := by kernel_rfl
theorem ag_3_SqE : aggB Tryz.prog 3 = some false := by kernel_rfl
theorem by_2_SqE : tbytes Tryz.prog 2 = some 8 := by kernel_rfl
theorem ca_125_SqE : callable Tryz.prog 125 = true := by kernel_rfl
theorem ca_126_SqE : callable Tryz.prog 126 = true := by kernel_rfl
theorem el_26_SqE : elemT Tryz.prog 26 = some 92 := by kernel_rfl
theorem el_29_SqE : elemT Tryz.prog 29 = some 2 := by kernel_rfl
theorem fo_28_0_SqE : fieldO Tryz.prog 28 0 = some 0 := by kernel_rfl
theorem fo_28_1_SqE : fieldO Tryz.prog 28 1 = some 1 := by kernel_rfl
theorem fo_92_0_SqE : fieldO Tryz.prog 92 0 = some 0 := by kernel_rfl
theorem fo_92_1_SqE : fieldO Tryz.prog 92 1 = some 1 := by kernel_rfl
theorem mixed_SqE : Tryz.prog.follows .mixedOrders = true := by kernel_rfl
theorem sz_28_SqE : tsize Tryz.prog 28 = some 2 := by kernel_rfl
theorem sz_2_SqE : tsize Tryz.prog 2 = some 1 := by kernel_rfl
theorem sz_92_SqE : tsize Tryz.prog 92 = some 4 := by kernel_rfl
theorem zc_2_SqE : zcells Tryz.prog 2 = some ([.int .i64 0]) := by kernel_rfl
attribute [local irreducible] Wops W Wq Wt

/-- What is over at the first nodes. -/
def ovI (g : Gr) (x : Nat → Int) (v i q : Nat) : Int := if q < v then over7 g x q else if q = v then overK g x i v else 0
theorem ovI_zero (g : Gr) (x : Nat → Int) (q : Nat) : ovI g x 0 0 q = 0 := by
  unfold ovI
  rw [if_neg (by omega)]
  split
  · rfl
  · rfl
theorem ovI_end (g : Gr) (x : Nat → Int) (v q : Nat) : ovI g x v g.E q = ovI g x (v + 1) 0 q := by
  unfold ovI
  by_cases h : q < v
  · rw [if_pos h, if_pos (by omega)]
  · rw [if_neg h]
    by_cases h2 : q = v
    · subst h2
      rw [if_pos rfl, if_pos (by omega)]; rfl
    · rw [if_neg h2, if_neg (by omega)]
      split <;> rfl
theorem ovI_at (g : Gr) (x : Nat → Int) (v i : Nat) : ovI g x v i v = overK g x i v := by unfold ovI; rw [if_neg (by omega), if_pos rfl]
theorem ovI_ne (g : Gr) (x : Nat → Int) (v i j : Nat) {q : Nat} (h : q ≠ v) : ovI g x v i q = ovI g x v j q := by unfold ovI; rw [if_neg h, if_neg h]
set_option maxRecDepth 20000 in
set_option maxHeartbeats 8000000 in
theorem r11over_ok (N : Int) (a b : Option Addr) (n c m d : Nat) (es : List Ed) (fl : List Int) (w : World) (R : Rd w a 4 encE es) (hn : es.length = n) (hn2 : n ≤ 1000000) (Rf : Rd w b 1 I1 fl) (hm : fl.length = m) (hm2 : m ≤ 1000000) (hwi : withinN N es fl = true) :
    Ret Tryz.prog 126 #[netV N a n c, .slice b m d] w fun v w' => ∃ b', v = .slice (some ⟨b', 0, none⟩) N.toNat N.toNat ∧ Ctx w [] w' [(b', Bl 2 (tabV (over7 (grE N es) (flE fl)) N.toNat))] := by
  subst hn hm
  obtain ⟨w0, rfl⟩ : ∃ w0, w0 = w := ⟨_, rfl⟩
  have H := Ctx.start w0 []
  obtain ⟨hl, hr, hin⟩ := within_of hwi
  obtain ⟨h1, h40, hE, hall, -⟩ := right_of hr
  obtain ⟨nn, hnn⟩ : ∃ nn : Nat, N = (nn : Int) := ⟨N.toNat, by omega⟩
  obtain ⟨g, hg⟩ : ∃ g, g = grE N es := ⟨_, rfl⟩
  obtain ⟨x, hx⟩ : ∃ x, x = flE fl := ⟨_, rfl⟩
  have hgE : g.E = es.length := by rw [hg]; rfl
  rw [← hg, ← hx]
  subst hnn
  rw [show ((nn : Int)).toNat = nn from rfl]
  have hxb : ∀ j, j < es.length → 0 ≤ x j ∧ x j ≤ 4503599627370496 := fun j hj => by
    obtain ⟨e', he'⟩ := get_some (l := es) (i := j) hj
    obtain ⟨y, hy⟩ := get_some (l := fl) (i := j) (by omega)
    have h3 := hin j e' y he' hy
    have h4 := edge_of (hall e' (List.mem_of_getElem? he'))
    rw [hx]
    show 0 ≤ fl.getD j 0 ∧ fl.getD j 0 ≤ 4503599627370496
    rw [getD_of hy]
    omega
  refine ret_of_W (fn := Tryz.f126) Tryz.func126 rfl [netV (nn : Int) a es.length c, .slice b fl.length d] rfl (by kernel_rfl) ?_
  refine W_rseq ?_
  refine op_box rfl [.int .i64 (nn : Int), .slice a es.length c] (.agg _) rfl rfl H ?_
  rintro b2 w - H
  refine op_assign rfl (.slice _ _ _) rfl ?_
  refine op_nil (at_then ?_)
  refine W_seq ?_
  refine W_rseq ?_
  refine op_ldbN rfl ag_28_SqE sz_28_SqE rfl H (by first | exact at0 | exact at1 | exact at2 | exact at3 | exact at4 | exact at5 | exact at6 | exact at7 | exact at8 | exact at9) rfl ?_
  refine op_move rfl (.slice _ _ _) rfl ?_
  refine op_call rfl ca_125_SqE (r11within_ok (nn : Int) a b es.length c fl.length d es fl _ (R.ext0 H.ext) rfl hn2 (Rf.ext0 H.ext) rfl hm2) rfl ?_
  rintro v w ⟨rfl, hx10⟩
  replace H := H.call hx10
  rw [hwi]
  refine op_not rfl rfl ?_
  refine op_nil (at_then ?_)
  refine W_cond _ rfl ?_ ?_
  · intro g1
    replace g1 := nvar_t g1
    cases g1
  · intro g1
    replace g1 := nvar_f g1
    refine W_skip (at_then ?_)
    refine W_rseq ?_
    refine op_fieldAddr rfl fo_28_0_SqE rfl ?_
    refine op_ldb rfl ag_3_SqE rfl H (by first | exact at0 | exact at1 | exact at2 | exact at3 | exact at4 | exact at5 | exact at6 | exact at7 | exact at8 | exact at9) rfl ?_
    refine op_make rfl el_29_SqE sz_2_SqE by_2_SqE zc_2_SqE rfl rfl (by omega) (by omega) (by omega) (by omega) H ?_
    rintro b14 w - H
    rw [show ((nn : Int)).toNat = nn from rfl, rep_range] at H
    refine op_assign rfl (.slice _ _ _) rfl ?_
    refine op_nil (at_then ?_)
    refine W_seq ?_
    refine W_rseq ?_
    refine op_assign rfl (.int _ _) rfl ?_
    refine op_nil (at_then ?_)
    refine W_block ?_
    refine W_loop 147573952589676380352 (α := Nat) (fun v => [(6, .int .i64 (v : Int))]) (fun v w' => v ≤ nn ∧ Ctx w0 [] w' [(b14, Bl 2 (tabV (ovI g x v 0) nn)), (b2, Bl 28 [.int .i64 (nn : Int), .slice a es.length c])]) (fun v => nn - v) 0 rfl ?_ ?_ ?_
    · exact ⟨rfl, trivial⟩
    · refine ⟨Nat.zero_le _, ?_⟩
      rw [show tabV (ovI g x 0 0) nn = tabV (fun _ => 0) nn from List.map_congr_left fun q _ => by rw [ovI_zero]]
      exact H
    · clear H
      rintro v j6 w ⟨hv, H⟩
      refine W_seq ?_
      refine W_rseq ?_
      refine op_move rfl (.int _ _) rfl ?_
      refine op_fieldAddr rfl fo_28_0_SqE rfl ?_
      refine op_ldb rfl ag_3_SqE rfl H (by first | exact at0 | exact at1 | exact at2 | exact at3 | exact at4 | exact at5 | exact at6 | exact at7 | exact at8 | exact at9) rfl ?_
      refine op_lss rfl rfl rfl ?_
      refine op_nil (at_then ?_)
      refine W_cond _ rfl ?_ ?_
      · intro g2
        replace g2 := dec_t g2
        refine W_skip (at_then ?_)
        refine W_seq ?_
        refine W_block ?_
        refine W_rseq ?_
        refine op_assign rfl (.int _ _) rfl ?_
        refine op_nil (at_then ?_)
        refine W_block ?_
        refine W_loop 147573952589674315904 (α := Nat) (fun i => [(7, .int .i64 (i : Int))]) (fun i w' => i ≤ es.length ∧ Ctx w0 [] w' [(b14, Bl 2 (tabV (ovI g x v i) nn)), (b2, Bl 28 [.int .i64 (nn : Int), .slice a es.length c])]) (fun i => es.length - i) 0 rfl ?_ ?_ ?_
        · exact ⟨rfl, trivial⟩
        · exact ⟨Nat.zero_le _, H⟩
        · clear H
          rintro i j7 w ⟨hi, H⟩
          refine W_seq ?_
          refine W_rseq ?_
          refine op_move rfl (.int _ _) rfl ?_
          refine op_move rfl (.slice _ _ _) rfl ?_
          refine op_len rfl el_29_SqE rfl ?_
          refine op_lss rfl rfl rfl ?_
          refine op_nil (at_then ?_)
          refine W_cond _ rfl ?_ ?_
          · intro g3
            replace g3 := dec_t g3
            obtain ⟨e, he⟩ := get_some (l := es) (i := i) (by omega)
            obtain ⟨y, hy⟩ := get_some (l := fl) (i := i) (by omega)
            have hxi : x i = y := by rw [hx]; exact getD_of hy
            obtain ⟨hf0, hfN, ht0, htN, -⟩ := edge_of (hall e (List.mem_of_getElem? he))
            have hgf : g.f i = e.f.toNat := by rw [hg]; exact gr_f he
            have hgt : g.t i = e.t.toNat := by rw [hg]; exact gr_t he
            have hbi := over_bnd (g := g) (x := x) (c := 4503599627370496) v (k := i) fun j hj => hxb j (by omega)
            have hyb := hxb i (by omega)
            rw [hxi] at hyb
            obtain ⟨z, hz⟩ : ∃ z, z = overK g x i v + if e.t = (v : Int) then y else 0 := ⟨_, rfl⟩
            have hzb : -(300 * 4503599627370496) ≤ z ∧ z ≤ 300 * 4503599627370496 := by
              rw [hz]; split <;> omega
            have hst : overK g x (i + 1) v = z - if e.f = (v : Int) then y else 0 := by
              rw [over_step, hgf, hgt, hxi, hz]
              by_cases h1 : e.t = (v : Int)
              · rw [one_t (show e.t.toNat = v by omega), if_pos h1]
                by_cases h2 : e.f = (v : Int)
                · rw [one_t (show e.f.toNat = v by omega), if_pos h2]; omega
                · rw [one_f (show ¬ e.f.toNat = v by omega), if_neg h2]; omega
              · rw [one_f (show ¬ e.t.toNat = v by omega), if_neg h1]
                by_cases h2 : e.f = (v : Int)
                · rw [one_t (show e.f.toNat = v by omega), if_pos h2]; omega
                · rw [one_f (show ¬ e.f.toNat = v by omega), if_neg h2]; omega
            refine W_skip (at_then ?_)
            refine W_seq ?_
            refine W_block ?_
            refine W_seq ?_
            refine W_rseq ?_
            refine op_fieldAddr rfl fo_28_1_SqE rfl ?_
            first | refine op_ldb rfl ag_26_SqE rfl H (by first | exact at0 | exact at1 | exact at2 | exact at3 | exact at4 | exact at5 | exact at6 | exact at7 | exact at8 | exact at9) rfl ?_ | refine op_ld rfl ag_26_SqE rfl (((R.ext0 H.ext).fld he rfl (j := 1) rfl)) ?_ | refine op_ld rfl ag_26_SqE rfl (((R.ext0 H.ext).fld he rfl (j := 0) rfl)) ?_ | refine op_ld rfl ag_26_SqE rfl (((Rf.ext0 H.drew.ext).fld hy rfl (j := 0) rfl)) ?_
            refine op_move rfl (.int _ _) rfl ?_
            first | refine op_indexRd R rfl el_26_SqE sz_92_SqE rfl rfl (by omega) (by omega) (by first | rfl | omega) ?_ | refine op_indexRd Rf rfl el_26_SqE sz_92_SqE rfl rfl (by omega) (by omega) (by first | rfl | omega) ?_ | refine op_indexAddr rfl el_26_SqE sz_92_SqE rfl rfl (by omega) (by omega) ?_
            refine op_fieldAddr rfl fo_92_1_SqE rfl ?_
            first | refine op_ldb rfl ag_3_SqE rfl H (by first | exact at0 | exact at1 | exact at2 | exact at3 | exact at4 | exact at5 | exact at6 | exact at7 | exact at8 | exact at9) rfl ?_ | refine op_ld rfl ag_3_SqE rfl (((R.ext0 H.ext).fld he rfl (j := 1) rfl)) ?_ | refine op_ld rfl ag_3_SqE rfl (((R.ext0 H.ext).fld he rfl (j := 0) rfl)) ?_ | refine op_ld rfl ag_3_SqE rfl (((Rf.ext0 H.drew.ext).fld hy rfl (j := 0) rfl)) ?_
            refine op_move rfl (.int _ _) rfl ?_
            refine op_eql rfl rfl rfl ?_
            refine op_nil (at_then ?_)
            refine W_joinK 140703128616960 (α := Unit) (fun _ => []) (fun _ w' => Ctx w0 [] w' [(b14, Bl 2 (tabV (fun q => if q = v then z else ovI g x v i q) nn)), (b2, Bl 28 [.int .i64 (nn : Int), .slice a es.length c])]) rfl ?_ ?_
            · skip
              refine W_cond _ rfl ?_ ?_
              · intro g4
                replace g4 := dec_t g4
                refine W_tail 12 mixed_SqE (by kernel_rfl) rfl rfl ?_
                refine q_move rfl (.slice _ _ _) rfl ?_
                refine q_move rfl (.int _ _) rfl ?_
                refine q_move rfl (.slice _ _ _) rfl ?_
                refine q_move rfl (.int _ _) rfl ?_
                first | refine q_indexRd R rfl el_29_SqE sz_2_SqE rfl rfl (by omega) (by omega) (by first | rfl | omega) ?_ | refine q_indexRd Rf rfl el_29_SqE sz_2_SqE rfl rfl (by omega) (by omega) (by first | rfl | omega) ?_ | refine q_indexAddr rfl el_29_SqE sz_2_SqE rfl rfl (by omega) (by omega) ?_
                refine q_ldr v _ rfl ag_2_SqE rfl (by rintro _ rfl; exact H.drew) at0 (by simp) (by omega) (congrArg (Value.int .i64) (ovI_at g x v i)) ?_
                refine q_move rfl (.slice _ _ _) rfl ?_
                refine q_move rfl (.int _ _) rfl ?_
                first | refine q_indexRd R rfl el_29_SqE sz_2_SqE rfl rfl (by omega) (by omega) (by first | rfl | omega) ?_ | refine q_indexRd Rf rfl el_29_SqE sz_2_SqE rfl rfl (by omega) (by omega) (by first | rfl | omega) ?_ | refine q_indexAddr rfl el_29_SqE sz_2_SqE rfl rfl (by omega) (by omega) ?_
                first | refine q_ldb rfl ag_2_SqE rfl (by rintro _ rfl; exact H.drew) (by first | exact at0 | exact at1 | exact at2 | exact at3 | exact at4 | exact at5 | exact at6 | exact at7 | exact at8 | exact at9) rfl ?_ | refine q_ld rfl ag_2_SqE rfl (by rintro _ rfl; exact (((R.ext0 H.ext).fld he rfl (j := 1) rfl))) ?_ | refine q_ld rfl ag_2_SqE rfl (by rintro _ rfl; exact (((R.ext0 H.ext).fld he rfl (j := 0) rfl))) ?_ | refine q_ld rfl ag_2_SqE rfl (by rintro _ rfl; exact (((Rf.ext0 H.drew.ext).fld hy rfl (j := 0) rfl))) ?_
                refine q_add_i64 rfl rfl rfl (by omega) (by omega) ?_
                first | refine q_indexRd R rfl el_29_SqE sz_2_SqE rfl rfl (by omega) (by omega) (by first | rfl | omega) ?_ | refine q_indexRd Rf rfl el_29_SqE sz_2_SqE rfl rfl (by omega) (by omega) (by first | rfl | omega) ?_ | refine q_indexAddr rfl el_29_SqE sz_2_SqE rfl rfl (by omega) (by omega) ?_
                refine q_nil ?_
                replace H := H.drew
                refine op_str v (fun q => .int .i64 (if q = v then z else ovI g x v i q)) (.int _ _) rfl sz_2_SqE rfl rfl rfl H at0 (by simp) (by omega) (by rw [if_pos rfl, hz, if_pos g4]) (fun q _ hq => by rw [if_neg hq]) ?_
                rintro w H
                refine op_nil (at_then ?_)
                exact ⟨(), rfl, trivial, H⟩
              · intro g4
                replace g4 := dec_f g4
                refine W_skip (at_then ?_)
                refine ⟨(), rfl, trivial, ?_⟩
                rw [show tabV (fun q => if q = v then z else ovI g x v i q) nn = tabV (ovI g x v i) nn from List.map_congr_left fun q _ => by
                  dsimp only
                  split
                  · rename_i h; subst h; rw [ovI_at, hz, if_neg g4, Int.add_zero]
                  · rfl]
                exact H
            · rintro - j34 w H
              refine W_rseq ?_
              refine op_fieldAddr rfl fo_28_1_SqE rfl ?_
              first | refine op_ldb rfl ag_26_SqE rfl H (by first | exact at0 | exact at1 | exact at2 | exact at3 | exact at4 | exact at5 | exact at6 | exact at7 | exact at8 | exact at9) rfl ?_ | refine op_ld rfl ag_26_SqE rfl (((R.ext0 H.ext).fld he rfl (j := 1) rfl)) ?_ | refine op_ld rfl ag_26_SqE rfl (((R.ext0 H.ext).fld he rfl (j := 0) rfl)) ?_ | refine op_ld rfl ag_26_SqE rfl (((Rf.ext0 H.drew.ext).fld hy rfl (j := 0) rfl)) ?_
              refine op_move rfl (.int _ _) rfl ?_
              first | refine op_indexRd R rfl el_26_SqE sz_92_SqE rfl rfl (by omega) (by omega) (by first | rfl | omega) ?_ | refine op_indexRd Rf rfl el_26_SqE sz_92_SqE rfl rfl (by omega) (by omega) (by first | rfl | omega) ?_ | refine op_indexAddr rfl el_26_SqE sz_92_SqE rfl rfl (by omega) (by omega) ?_
              refine op_fieldAddr rfl fo_92_0_SqE rfl ?_
              first | refine op_ldb rfl ag_3_SqE rfl H (by first | exact at0 | exact at1 | exact at2 | exact at3 | exact at4 | exact at5 | exact at6 | exact at7 | exact at8 | exact at9) rfl ?_ | refine op_ld rfl ag_3_SqE rfl (((R.ext0 H.ext).fld he rfl (j := 1) rfl)) ?_ | refine op_ld rfl ag_3_SqE rfl (((R.ext0 H.ext).fld he rfl (j := 0) rfl)) ?_ | refine op_ld rfl ag_3_SqE rfl (((Rf.ext0 H.drew.ext).fld hy rfl (j := 0) rfl)) ?_
              refine op_move rfl (.int _ _) rfl ?_
              refine op_eql rfl rfl rfl ?_
              refine op_nil (at_then ?_)
              refine W_cond _ rfl ?_ ?_
              · intro g5
                replace g5 := dec_t g5
                refine W_tail 12 mixed_SqE (by kernel_rfl) rfl rfl ?_
                refine q_move rfl (.slice _ _ _) rfl ?_
                refine q_move rfl (.int _ _) rfl ?_
                refine q_move rfl (.slice _ _ _) rfl ?_
                refine q_move rfl (.int _ _) rfl ?_
                first | refine q_indexRd R rfl el_29_SqE sz_2_SqE rfl rfl (by omega) (by omega) (by first | rfl | omega) ?_ | refine q_indexRd Rf rfl el_29_SqE sz_2_SqE rfl rfl (by omega) (by omega) (by first | rfl | omega) ?_ | refine q_indexAddr rfl el_29_SqE sz_2_SqE rfl rfl (by omega) (by omega) ?_
                refine q_ldr v _ rfl ag_2_SqE rfl (by rintro _ rfl; exact H.drew) at0 (by simp) (by omega) (congrArg (Value.int .i64) (if_pos rfl)) ?_
                refine q_move rfl (.slice _ _ _) rfl ?_
                refine q_move rfl (.int _ _) rfl ?_
                first | refine q_indexRd R rfl el_29_SqE sz_2_SqE rfl rfl (by omega) (by omega) (by first | rfl | omega) ?_ | refine q_indexRd Rf rfl el_29_SqE sz_2_SqE rfl rfl (by omega) (by omega) (by first | rfl | omega) ?_ | refine q_indexAddr rfl el_29_SqE sz_2_SqE rfl rfl (by omega) (by omega) ?_
                first | refine q_ldb rfl ag_2_SqE rfl (by rintro _ rfl; exact H.drew) (by first | exact at0 | exact at1 | exact at2 | exact at3 | exact at4 | exact at5 | exact at6 | exact at7 | exact at8 | exact at9) rfl ?_ | refine q_ld rfl ag_2_SqE rfl (by rintro _ rfl; exact (((R.ext0 H.ext).fld he rfl (j := 1) rfl))) ?_ | refine q_ld rfl ag_2_SqE rfl (by rintro _ rfl; exact (((R.ext0 H.ext).fld he rfl (j := 0) rfl))) ?_ | refine q_ld rfl ag_2_SqE rfl (by rintro _ rfl; exact (((Rf.ext0 H.drew.ext).fld hy rfl (j := 0) rfl))) ?_
                refine q_sub_i64 rfl rfl rfl (by omega) (by omega) ?_
                first | refine q_indexRd R rfl el_29_SqE sz_2_SqE rfl rfl (by omega) (by omega) (by first | rfl | omega) ?_ | refine q_indexRd Rf rfl el_29_SqE sz_2_SqE rfl rfl (by omega) (by omega) (by first | rfl | omega) ?_ | refine q_indexAddr rfl el_29_SqE sz_2_SqE rfl rfl (by omega) (by omega) ?_
                refine q_nil ?_
                replace H := H.drew
                refine op_str v (fun q => .int .i64 (ovI g x v (i + 1) q)) (.int _ _) rfl sz_2_SqE rfl rfl rfl H at0 (by simp) (by omega) (by rw [ovI_at, hst, if_pos g5]) (fun q _ hq => by dsimp only; rw [if_neg hq, ovI_ne g x v (i + 1) i hq]) ?_
                rintro w H
                refine op_nil (at_block (at_then ?_))
                refine W_region ?_
                refine op_move rfl (.int _ _) rfl ?_
                refine op_add_i64 rfl rfl rfl (by omega) (by omega) ?_
                refine op_assign rfl (.int _ _) rfl ?_
                refine op_nil (at_then ?_)
                exact ⟨i + 1, rfl, ⟨rfl, trivial⟩, ⟨by omega, H⟩, by omega⟩
              · intro g5
                replace g5 := dec_f g5
                refine W_skip (at_block (at_then ?_))
                refine W_region ?_
                refine op_move rfl (.int _ _) rfl ?_
                refine op_add_i64 rfl rfl rfl (by omega) (by omega) ?_
                refine op_assign rfl (.int _ _) rfl ?_
                refine op_nil (at_then ?_)
                refine ⟨i + 1, rfl, ⟨rfl, trivial⟩, ⟨by omega, ?_⟩, by omega⟩
                rw [show tabV (ovI g x v (i + 1)) nn = tabV (fun q => if q = v then z else ovI g x v i q) nn from List.map_congr_left fun q _ => by
                  dsimp only
                  split
                  · rename_i h; subst h; rw [ovI_at, hst, if_neg g5, Int.sub_zero]
                  · rename_i h; rw [ovI_ne g x v (i + 1) i h]]
                exact H
          · intro g3
            replace g3 := dec_f g3
            refine W_exit (exit_then (exit_then (exit_here (at_block (at_then ?_)))))
            refine W_region ?_
            refine op_move rfl (.int _ _) rfl ?_
            refine op_add_i64 rfl rfl rfl (by omega) (by omega) ?_
            refine op_assign rfl (.int _ _) rfl ?_
            refine op_nil (at_then ?_)
            obtain rfl : i = es.length := by omega
            refine ⟨v + 1, rfl, ⟨rfl, trivial⟩, ⟨by omega, ?_⟩, by omega⟩
            rw [show tabV (ovI g x (v + 1) 0) nn = tabV (ovI g x v es.length) nn from List.map_congr_left fun q _ => by rw [← ovI_end, hgE]]
            exact H
      · intro g2
        replace g2 := dec_f g2
        refine W_exit (exit_then (exit_then (exit_here (at_then ?_))))
        refine W_rseq ?_
        refine op_move rfl (.slice _ _ _) rfl ?_
        refine op_assign rfl (.slice _ _ _) rfl ?_
        refine op_nil (at_then ?_)
        refine W_ret (leave1 (v := (.slice _ _ _)) rfl rfl rfl ?_)
        obtain rfl : v = nn := by omega
        rw [show tabV (ovI g x v 0) v = tabV (over7 g x) v from List.map_congr_left fun q hq => by
          rw [List.mem_range] at hq
          unfold ovI
          rw [if_pos hq]] at H
        exact ⟨b14, rfl, H.left (L := [_]) (L' := [_])⟩
set_option maxRecDepth 20000 in
set_option maxHeartbeats 2000000 in
theorem r11flows_ok (N : Int) (a b : Option Addr) (n c m d : Nat) (es : List Ed) (fl : List Int) (w : World) (R : Rd w a 4 encE es) (hn : es.length = n) (hn2 : n ≤ 1000000) (Rf : Rd w b 1 I1 fl) (hm : fl.length = m) (hm2 : m ≤ 1000000) :
    Ret Tryz.prog 64 #[netV N a n c, .slice b m d] w fun v w' => v = .bool (flowsN N es fl) ∧ Ext [] w w' := by
  subst hn hm
  obtain ⟨w0, rfl⟩ : ∃ w0, w0 = w := ⟨_, rfl⟩
  have H := Ctx.start w0 []
  obtain ⟨bw, hbw⟩ : ∃ bw, bw = withinN N es fl := ⟨_, rfl⟩
  refine ret_of_W (fn := Tryz.f64) Tryz.func64 rfl [netV N a es.length c, .slice b fl.length d] rfl (by kernel_rfl) ?_
  refine W_rseq ?_
  refine op_box rfl [.int .i64 N, .slice a es.length c] (.agg _) rfl rfl H ?_
  rintro b2 w - H
  refine op_assign rfl (.bool _) rfl ?_
  refine op_nil (at_then ?_)
  refine W_seq ?_
  refine W_rseq ?_
  refine op_ldbN rfl ag_28_SqE sz_28_SqE rfl H (by first | exact at0 | exact at1 | exact at2 | exact at3 | exact at4 | exact at5 | exact at6 | exact at7 | exact at8 | exact at9) rfl ?_
  refine op_move rfl (.slice _ _ _) rfl ?_
  refine op_call rfl ca_125_SqE (r11within_ok N a b es.length c fl.length d es fl _ (R.ext0 H.ext) rfl hn2 (Rf.ext0 H.ext) rfl hm2) rfl ?_
  rintro v w ⟨rfl, hx9⟩
  replace H := H.call hx9
  rw [← hbw]
  refine op_not rfl rfl ?_
  refine op_nil (at_then ?_)
  refine W_cond _ rfl ?_ ?_
  · intro h1
    replace h1 := nvar_t h1
    refine W_rseq ?_
    refine op_assign rfl (.bool _) rfl ?_
    refine op_nil (at_then ?_)
    refine W_ret (ret_then (leave1 (v := (.bool _)) rfl rfl rfl ?_))
    exact ⟨congrArg Value.bool (by unfold flowsN; rw [← hbw, show bw = false by simpa using h1]; rfl), H.ext⟩
  · intro h1
    replace h1 := nvar_f h1
    have h1' : bw = true := by simpa using h1
    have hw : withinN N es fl = true := by rw [← hbw]; exact h1'
    have hf : flowsN N es fl = (overL N es fl).all fun x => decide (x = 0) := by unfold flowsN; rw [hw]; rfl
    obtain ⟨h40a, h40, -⟩ := right_of (within_of hw).2.1
    obtain ⟨nn, hnn⟩ : ∃ nn : Nat, N = (nn : Int) := ⟨N.toNat, by omega⟩
    have hov : overL N es fl = tab (over7 (grE N es) (flE fl)) nn := by rw [hnn]; rfl
    refine W_skip (at_then ?_)
    refine W_rseq ?_
    refine op_ldbN rfl ag_28_SqE sz_28_SqE rfl H (by first | exact at0 | exact at1 | exact at2 | exact at3 | exact at4 | exact at5 | exact at6 | exact at7 | exact at8 | exact at9) rfl ?_
    refine op_move rfl (.slice _ _ _) rfl ?_
    refine op_call rfl ca_126_SqE (r11over_ok N a b es.length c fl.length d es fl _ (R.ext0 H.ext) rfl hn2 (Rf.ext0 H.ext) rfl hm2 hw) rfl ?_
    rintro v w ⟨b', rfl, H13⟩
    replace H := Ctx.back (L1 := []) (L2 := [_]) H H13
    rw [show N.toNat = nn by omega] at H ⊢
    refine op_assign rfl (.slice _ _ _) rfl ?_
    refine op_nil (at_then ?_)
    refine W_seq ?_
    refine W_rseq ?_
    refine op_assign rfl (.int _ _) rfl ?_
    refine op_nil (at_then ?_)
    refine W_block ?_
    obtain ⟨z, hz⟩ : ∃ z, z = over7 (grE N es) (flE fl) := ⟨_, rfl⟩
    rw [hf, hov, ← hz]
    rw [← hz] at H
    have RT : Rd w (some ⟨b', 0, none⟩) 1 I1 (tab z nn) := tab_rd (H.get at0)
    obtain ⟨w1, rfl⟩ : ∃ q, q = w := ⟨_, rfl⟩
    have hx1 := H.ext
    have H := Ctx.start w1 []
    refine W_loop 33538128 (α := Nat) (fun i => [(6, .int .i64 (i : Int))]) (fun i w' => i ≤ nn ∧ Ctx w1 [] w' [] ∧ ∀ k, k < i → z k = 0) (fun i => nn - i) 0 rfl ?_ ?_ ?_
    · exact ⟨rfl, trivial⟩
    · exact ⟨Nat.zero_le _, H, fun k h => absurd h (Nat.not_lt_zero _)⟩
    · clear H
      rintro i j w ⟨hi, H, hb⟩
      refine W_seq ?_
      refine W_rseq ?_
      refine op_move rfl (.int _ _) rfl ?_
      refine op_move rfl (.slice _ _ _) rfl ?_
      refine op_len rfl el_29_SqE rfl ?_
      refine op_lss rfl rfl rfl ?_
      refine op_nil (at_then ?_)
      refine W_cond _ rfl ?_ ?_
      · intro h2
        replace h2 := dec_t h2
        refine W_skip (at_then ?_)
        refine W_seq ?_
        refine W_block ?_
        refine W_rseq ?_
        refine op_move rfl (.slice _ _ _) rfl ?_
        refine op_move rfl (.int _ _) rfl ?_
        first | refine op_indexRd RT rfl el_29_SqE sz_2_SqE rfl rfl (by omega) (by omega) (by first | rfl | omega) ?_ | refine op_indexAddr rfl el_29_SqE sz_2_SqE rfl rfl (by omega) (by omega) ?_
        first | refine op_ldb rfl ag_2_SqE rfl H (by first | exact at0 | exact at1 | exact at2 | exact at3 | exact at4 | exact at5 | exact at6 | exact at7 | exact at8 | exact at9) rfl ?_ | refine op_ld rfl ag_2_SqE rfl (((RT.ext0 H.ext).fld (tab_get (f := z) (show i < nn by omega)) rfl (j := 0) rfl)) ?_
        refine op_neq rfl rfl rfl ?_
        refine op_nil (at_then ?_)
        refine W_cond _ rfl ?_ ?_
        · intro h3
          replace h3 := ndec_t h3
          refine W_rseq ?_
          refine op_assign rfl (.bool _) rfl ?_
          refine op_nil (at_then ?_)
          refine W_ret (ret_block (ret_then (ret_then (ret_block (ret_then (leave1 (v := (.bool _)) rfl rfl rfl ?_))))))
          exact ⟨congrArg Value.bool (all_false (tab_get (f := z) (show i < nn by omega)) (decide_eq_false h3)).symm, hx1.trans H.ext⟩
        · intro h3
          replace h3 := ndec_f h3
          refine W_skip (at_block (at_then ?_))
          refine W_region ?_
          refine op_move rfl (.int _ _) rfl ?_
          refine op_add_i64 rfl rfl rfl (by omega) (by omega) ?_
          refine op_assign rfl (.int _ _) rfl ?_
          refine op_nil (at_then ?_)
          refine ⟨i + 1, rfl, ⟨rfl, trivial⟩, ⟨by omega, H, fun k hk => ?_⟩, by omega⟩
          rcases Nat.lt_or_ge k i with h7 | h7
          · exact hb k h7
          · obtain rfl : k = i := by omega
            exact h3
      · intro h2
        replace h2 := dec_f h2
        refine W_exit (exit_then (exit_then (exit_here (at_then ?_))))
        refine W_rseq ?_
        refine op_assign rfl (.bool _) rfl ?_
        refine op_nil (at_then ?_)
        refine W_ret (leave1 (v := (.bool _)) rfl rfl rfl ?_)
        have hin : i = nn := by omega
        refine ⟨congrArg Value.bool (all_true fun k x hk hx => ?_).symm, hx1.trans H.ext⟩
        obtain ⟨h7, rfl⟩ := tab_at hx
        exact decide_eq_true (hb k (by omega))
end Go.Proofs.YtapphbmlkdhnmaaGreat
