/- The plain law of dues turned round, of other numbers for the banks, and of held dues. -/
import Derived.Test.YtogaoppnoibgdaaCyM
namespace Go.Proofs.Ytogaoppnoibgdaa
open Go.GV

def swapD (d : Due) : Due := { d with fr := d.to, to := d.fr }
def moveD (k : Int) (d : Due) : Due := { d with fr := (d.fr + k) % 16, to := (d.to + k) % 16 }
def openL (l : List Due) : List Due := l.filter fun d => !d.held

/-- Banks each of which has an open due of one of them, and one to one of them. -/
def Loops (l : List Due) : Prop := ∃ U : Nat → Prop, (∃ b, b < 16 ∧ U b) ∧ ∀ b, U b → (∃ d ∈ l, d.held = false ∧ d.to = (b : Int) ∧ U d.fr.toNat) ∧ (∃ d ∈ l, d.held = false ∧ d.fr = (b : Int) ∧ U d.to.toNat)

theorem found_loops {l : List Due} {b : Bool} {r : List Int} (ha : allD l = true) (h : Found l b r) : b = true ↔ Loops l := by
  constructor
  · intro hb
    have hr := (h.yes hb).2
    exact ⟨onR l r, ring_on ha hr, fun q hq => ⟨ring_in ha hr q hq, ring_out ha hr q hq⟩⟩
  · rintro ⟨U, ⟨q, hq, hu⟩, hU⟩
    have hn : orderD 16 l = none := by
      rw [orderD, may_all, ha]
      exact stuck_none U (fun x hx => (hU x hx).1) hu hq
    rw [found_order ha h, hn]; rfl

theorem loops_swap {l : List Due} (h : Loops l) : Loops (l.map swapD) := by
  obtain ⟨U, h0, hU⟩ := h
  refine ⟨U, h0, fun b hb => ?_⟩
  obtain ⟨⟨d, hd, hh, ht, hf⟩, ⟨e, he, hh2, hf2, ht2⟩⟩ := hU b hb
  exact ⟨⟨swapD e, List.mem_map_of_mem he, hh2, hf2, ht2⟩, ⟨swapD d, List.mem_map_of_mem hd, hh, ht, hf⟩⟩
theorem swap_swap (l : List Due) : (l.map swapD).map swapD = l := by
  rw [List.map_map]
  exact (List.map_congr_left (fun d _ => rfl)).trans (List.map_id l)
theorem loops_swap_iff (l : List Due) : Loops (l.map swapD) ↔ Loops l :=
  ⟨fun h => by have := loops_swap h; rwa [swap_swap] at this, loops_swap⟩

theorem loops_move_iff {l : List Due} {k : Int} (F : ∀ d ∈ l, 0 ≤ d.fr ∧ d.fr < 16 ∧ 0 ≤ d.to ∧ d.to < 16) (h0 : 0 ≤ k) (h1 : k < 16) : Loops (l.map (moveD k)) ↔ Loops l := by
  constructor
  · rintro ⟨U, ⟨q, hq, hu⟩, hU⟩
    refine ⟨fun b => b < 16 ∧ U (((b : Int) + k) % 16).toNat, ⟨(((q : Int) + (16 - k)) % 16).toNat, by omega, by omega, ?_⟩, ?_⟩
    · rw [show (((((((q : Int) + (16 - k)) % 16).toNat : Nat) : Int) + k) % 16).toNat = q by omega]; exact hu
    · rintro b ⟨hb, hb2⟩
      obtain ⟨⟨d', hd', hh, ht, hf⟩, ⟨e', he', hh2, hf2, ht2⟩⟩ := hU _ hb2
      obtain ⟨d, hd, rfl⟩ := List.mem_map.1 hd'
      obtain ⟨e, he, rfl⟩ := List.mem_map.1 he'
      have Fd := F d hd
      have Fe := F e he
      simp only [moveD] at hh ht hf hh2 hf2 ht2
      refine ⟨⟨d, hd, hh, by omega, by omega, ?_⟩, ⟨e, he, hh2, by omega, by omega, ?_⟩⟩
      · rw [show ((d.fr.toNat : Nat) : Int) = d.fr by omega]; exact hf
      · rw [show ((e.to.toNat : Nat) : Int) = e.to by omega]; exact ht2
  · rintro ⟨U, ⟨q, hq, hu⟩, hU⟩
    refine ⟨fun b => ∃ c, U c ∧ (b : Int) = ((c : Int) + k) % 16, ⟨(((q : Int) + k) % 16).toNat, by omega, q, hu, by omega⟩, ?_⟩
    rintro b ⟨c, hc, hbc⟩
    obtain ⟨⟨d, hd, hh, ht, hf⟩, ⟨e, he, hh2, hf2, ht2⟩⟩ := hU c hc
    have Fd := F d hd
    have Fe := F e he
    refine ⟨⟨moveD k d, List.mem_map_of_mem hd, hh, ?_, d.fr.toNat, hf, ?_⟩, ⟨moveD k e, List.mem_map_of_mem he, hh2, ?_, e.to.toNat, ht2, ?_⟩⟩
    all_goals (simp only [moveD]; omega)

theorem loops_open_iff (l : List Due) : Loops (openL l) ↔ Loops l := by
  have hm : ∀ d, (d ∈ openL l ∧ d.held = false) ↔ (d ∈ l ∧ d.held = false) := fun d => by
    simp only [openL, List.mem_filter, Bool.not_eq_true']
    exact ⟨fun h => ⟨h.1.1, h.2⟩, fun h => ⟨⟨h.1, h.2⟩, h.2⟩⟩
  constructor
  · rintro ⟨U, h0, hU⟩
    refine ⟨U, h0, fun b hb => ?_⟩
    obtain ⟨⟨d, hd, hh, ht⟩, ⟨e, he, hh2, hf2⟩⟩ := hU b hb
    exact ⟨⟨d, ((hm d).1 ⟨hd, hh⟩).1, hh, ht⟩, ⟨e, ((hm e).1 ⟨he, hh2⟩).1, hh2, hf2⟩⟩
  · rintro ⟨U, h0, hU⟩
    refine ⟨U, h0, fun b hb => ?_⟩
    obtain ⟨⟨d, hd, hh, ht⟩, ⟨e, he, hh2, hf2⟩⟩ := hU b hb
    exact ⟨⟨d, ((hm d).2 ⟨hd, hh⟩).1, hh, ht⟩, ⟨e, ((hm e).2 ⟨he, hh2⟩).1, hh2, hf2⟩⟩

/-! ### What may be -/
theorem fine_iff (d : Due) : d.fine = true ↔ d.fr ≠ d.to ∧ (0 ≤ d.fr ∧ d.fr < 16) ∧ (0 ≤ d.to ∧ d.to < 16) ∧ 1 ≤ d.am ∧ d.am ≤ 4503599627370496 ∧ 1 ≤ d.wt ∧ d.wt ≤ 1000 ∧ 0 ≤ d.un := by
  simp only [Due.fine, bankB, Bool.and_eq_true, Bool.not_eq_true', decide_eq_false_iff_not, decide_eq_true_eq, ne_eq]
theorem fine_swap (d : Due) (h : d.fine = true) : (swapD d).fine = true := by
  rw [fine_iff] at h ⊢
  obtain ⟨h1, h2, h3, h4⟩ := h
  exact ⟨fun e => h1 e.symm, h3, h2, h4⟩
theorem fine_move (k : Int) (d : Due) (h : d.fine = true) : (moveD k d).fine = true := by
  rw [fine_iff] at h ⊢
  obtain ⟨h1, h2, h3, h4⟩ := h
  refine ⟨fun e => h1 ?_, ?_, ?_, h4⟩
  · simp only [moveD] at e; omega
  · simp only [moveD]; omega
  · simp only [moveD]; omega
theorem all_map {l : List Due} (f : Due → Due) (hf : ∀ d, d.fine = true → (f d).fine = true) (h : allD l = true) : allD (l.map f) = true := by
  simp only [allD, Bool.and_eq_true, decide_eq_true_eq, List.all_eq_true, List.length_map] at h ⊢
  refine ⟨h.1, fun d hd => ?_⟩
  obtain ⟨e, he, rfl⟩ := List.mem_map.1 hd
  exact hf e (h.2 e he)
theorem all_open {l : List Due} (h : allD l = true) : allD (openL l) = true := by
  simp only [allD, Bool.and_eq_true, decide_eq_true_eq, List.all_eq_true] at h ⊢
  exact ⟨Nat.le_trans (List.length_filter_le _ _) h.1, fun d hd => h.2 d (List.mem_filter.1 hd).1⟩

/-! ### Nets -/
theorem netsE_all {l : List Due} (ha : allD l = true) : netsE 16 l = bif decide (4503599627370496 < sumA l) then 13 else 0 := nets_may (by rw [may_all, ha])
theorem sumA_map (f : Due → Due) (hf : ∀ d, (f d).am = d.am) (l : List Due) : sumA (l.map f) = sumA l := by
  induction l with
  | nil => rfl
  | cons d l ih => simp only [List.map_cons, sumA, ih, hf]
theorem am_pos {l : List Due} (ha : allD l = true) : ∀ d ∈ l, 1 ≤ d.am := by
  intro d hd
  simp only [allD, Bool.and_eq_true, decide_eq_true_eq, List.all_eq_true] at ha
  have hf := ha.2 d hd
  simp only [Due.fine, bankB, Bool.and_eq_true, Bool.not_eq_true', decide_eq_false_iff_not, decide_eq_true_eq] at hf
  omega
theorem sumA_open {l : List Due} (h : ∀ d ∈ l, 1 ≤ d.am) : sumA (openL l) ≤ sumA l := by
  induction l with
  | nil => exact Int.le_refl _
  | cons d l ih =>
    have h1 := h d (by simp)
    have h2 := ih (fun x hx => h x (by simp [hx]))
    unfold openL at h2 ⊢
    rw [List.filter_cons]
    split
    · simp only [sumA]; omega
    · simp only [sumA]; omega
theorem netB_swap (l : List Due) (b : Nat) : netB (l.map swapD) b = - netB l b := by
  induction l with
  | nil => rfl
  | cons d l ih => simp only [List.map_cons, netB, ih, addB, subB, swapD]; omega
theorem netB_move {l : List Due} {k : Int} (F : ∀ d ∈ l, 0 ≤ d.fr ∧ d.fr < 16 ∧ 0 ≤ d.to ∧ d.to < 16) (b : Nat) (hb : b < 16) : netB (l.map (moveD k)) (((b : Int) + k) % 16).toNat = netB l b := by
  induction l with
  | nil => rfl
  | cons d l ih =>
    have Fd := F d (by simp)
    have ih := ih (fun x hx => F x (by simp [hx]))
    simp only [List.map_cons, netB, ih, addB, subB, moveD]
    congr 2
    · have : ((d.to + k) % 16 = (((((b : Int) + k) % 16).toNat : Nat) : Int)) ↔ d.to = (b : Int) := by omega
      simp only [this]
    · have : ((d.fr + k) % 16 = (((((b : Int) + k) % 16).toNat : Nat) : Int)) ↔ d.fr = (b : Int) := by omega
      simp only [this]
theorem netB_open (l : List Due) (b : Nat) : netB (openL l) b = netB l b := by
  induction l with
  | nil => rfl
  | cons d l ih =>
    unfold openL at ih ⊢
    rw [List.filter_cons]
    cases hh : d.held with
    | false => simp only [Bool.not_false, if_true, netB, ih]
    | true =>
      simp only [Bool.not_true, Bool.false_eq_true, if_false, netB, ih, addB, subB, hh, Bool.true_eq_false, false_and]
      omega
def sumN (l : List Due) : Nat → Int
  | 0 => 0
  | n + 1 => sumN l n + netB l n
theorem sumN_le {l : List Due} (h : ∀ d ∈ l, 1 ≤ d.am) : ∀ n : Nat, - ((n : Int) * sumA l) ≤ sumN l n ∧ sumN l n ≤ (n : Int) * sumA l
  | 0 => by simp [sumN]
  | n + 1 => by
    have h1 := sumN_le h n
    have h2 := netB_le h n
    have h3 : ((n + 1 : Nat) : Int) * sumA l = (n : Int) * sumA l + sumA l := by rw [Int.natCast_add, Int.add_mul]; simp
    simp only [sumN]; omega
def inN (x : Int) (n : Nat) (a : Int) : Int := if 0 ≤ x ∧ x < n then a else 0
theorem sumN_cons (d : Due) (l : List Due) : ∀ n : Nat, sumN (d :: l) n = sumN l n + (bif d.held then 0 else inN d.to n d.am - inN d.fr n d.am)
  | 0 => by
    have h : ∀ x : Int, inN x 0 d.am = 0 := fun x => by unfold inN; rw [if_neg (by omega)]
    rw [h, h]; cases d.held <;> simp [sumN]
  | n + 1 => by
    have h : ∀ x : Int, inN x (n + 1) d.am = inN x n d.am + if x = (n : Int) then d.am else 0 := fun x => by
      unfold inN; split <;> split <;> split <;> omega
    simp only [sumN, sumN_cons d l n, netB, addB, subB, h]
    cases d.held <;> simp <;> omega
theorem sumN_zero {l : List Due} (F : ∀ d ∈ l, 0 ≤ d.fr ∧ d.fr < 16 ∧ 0 ≤ d.to ∧ d.to < 16) : sumN l 16 = 0 := by
  induction l with
  | nil => simp [sumN, netB]
  | cons d l ih =>
    have Fd := F d (by simp)
    rw [sumN_cons, ih (fun x hx => F x (by simp [hx]))]
    unfold inN
    rw [if_pos (by omega), if_pos (by omega)]
    cases d.held <;> simp

/-! ### A ring under other numbers is one -/
theorem ring_map {l : List Due} {r : List Int} (f : Due → Due) (hh : ∀ d, (f d).held = d.held) (he : ∀ d ∈ l, ∀ e ∈ l, ((f d).fr = (f e).fr ↔ d.fr = e.fr) ∧ ((f d).to = (f e).fr ↔ d.to = e.fr)) (h : ringB (l.map f) r = true) : ringB l r = true := by
  obtain ⟨h1, h2, h0⟩ := ring_parts h
  have hg : ∀ i, i < r.length → ∃ d, d ∈ l ∧ dq l r i = d ∧ dq (l.map f) r i = f d ∧ okI l r i = true := fun i hi => by
    obtain ⟨x, d', hx, hx0, hxl, hd', hq, hhd⟩ := ring_get h hi
    rw [List.getElem?_map] at hd'
    cases hd : l[x.toNat]? with
    | none => rw [hd] at hd'; cases hd'
    | some d =>
      rw [hd] at hd'
      injection hd' with hd'
      subst hd'
      have hqd : dq l r i = d := by simp [dq, hx, hd]
      refine ⟨d, List.mem_of_getElem? hd, hqd, hq, ?_⟩
      have := get_lt hd
      rw [hh] at hhd
      simp only [okI, hx, hqd, hhd, Option.getD_some, Bool.and_eq_true, decide_eq_true_eq, Bool.not_false, and_true]
      omega
  unfold ringB
  rw [Bool.and_eq_true, Bool.and_eq_true, decide_eq_true_eq]
  refine ⟨List.all_eq_true.2 fun i hi => ?_, List.all_eq_true.2 fun i hi => ?_, h0⟩
  · have hi := List.mem_range.1 hi
    obtain ⟨d, hd, hq, hqf, hok⟩ := hg i hi
    have h3 := all_at h1 hi
    rw [ring1, Bool.and_eq_true, List.all_eq_true] at h3
    rw [ring1, hok, Bool.true_and, List.all_eq_true]
    intro q hqi
    have h4 := h3.2 q hqi
    obtain ⟨e, he', heq, heqf, _⟩ := hg q (by have := List.mem_range.1 hqi; omega)
    rw [heq, hq]
    rw [heqf, hqf] at h4
    simp only [Bool.not_eq_true', decide_eq_false_iff_not] at h4 ⊢
    exact fun hc => h4 ((he e he' d hd).1.2 hc)
  · have hi := List.mem_range.1 hi
    obtain ⟨d, hd, hq, hqf, _⟩ := hg i hi
    obtain ⟨e, he', heq, heqf, _⟩ := hg ((i + 1) % r.length) (Nat.mod_lt _ h0)
    have h3 := all_at h2 hi
    rw [ring2, decide_eq_true_eq] at h3 ⊢
    rw [hqf, heqf] at h3
    rw [hq, heq]
    exact (he d hd e he').2.1 h3
theorem ring_move {l : List Due} {r : List Int} {k : Int} (F : ∀ d ∈ l, 0 ≤ d.fr ∧ d.fr < 16 ∧ 0 ≤ d.to ∧ d.to < 16) (h : ringB (l.map (moveD k)) r = true) : ringB l r = true :=
  ring_map (moveD k) (fun _ => rfl) (fun d hd e he => by
    have Fd := F d hd
    have Fe := F e he
    simp only [moveD]
    constructor <;> constructor <;> intro h <;> omega) h

end Go.Proofs.Ytogaoppnoibgdaa
