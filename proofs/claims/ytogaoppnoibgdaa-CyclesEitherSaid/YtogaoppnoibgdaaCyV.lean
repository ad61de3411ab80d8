/- The plain law of a ring that is paid: one due less at least, the same nets; what an order says of dues. -/
import Derived.Test.YtogaoppnoibgdaaCyS
import Derived.Test.YtogaoppnoibgdaaCyL
namespace Go.Proofs.Ytogaoppnoibgdaa
open Go.GV

def subD (x : Int) (d : Due) : Due := { d with am := d.am - x }
def payF (x : Int) : List Due → List Int → List Due
  | m, [] => m
  | m, i :: r => payF x (m.modify i.toNat (subD x)) r
/-- What the code makes: each due less what is paid of it. -/
def paidD (m : List Due) (r : List Int) (x : Int) (i : Nat) : Due := subD (if (i : Int) ∈ r then x else 0) ((m[i]?).getD ⟨0, 0, 0, 0, 0, 0, false⟩)
def paidL (m : List Due) (r : List Int) (x : Int) : List Due := (List.range m.length).map (paidD m r x)
def nextL (m : List Due) (r : List Int) (x : Int) : List Due := (paidL m r x).filter fun d => decide (0 < d.am)

theorem payF_length (x : Int) : ∀ (r : List Int) (m : List Due), (payF x m r).length = m.length
  | [], m => rfl
  | i :: r, m => by rw [payF, payF_length x r, List.length_modify]
theorem payF_get (x : Int) : ∀ (r : List Int) (m : List Due), r.Nodup → (∀ i ∈ r, 0 ≤ i) → ∀ k : Nat, (payF x m r)[k]? = (m[k]?).map fun d => if (k : Int) ∈ r then subD x d else d
  | [], m, _, _, k => by cases h : m[k]? <;> simp [payF, h]
  | i :: r, m, hn, h0, k => by
    rw [List.nodup_cons] at hn
    rw [payF, payF_get x r _ hn.2 (fun j hj => h0 j (by simp [hj])) k, List.getElem?_modify]
    have hi := h0 i (by simp)
    by_cases hk : i.toNat = k
    · have hki : (k : Int) = i := by omega
      have hnr : ¬ (k : Int) ∈ r := by rw [hki]; exact hn.1
      cases m[k]? <;> simp [hk, hki]
      exact fun h => absurd (by rw [hki]; exact h) hnr
    · have hki : ¬ (k : Int) = i := by omega
      cases m[k]? <;> simp [hk, hki]
theorem paid_eq {m : List Due} {r : List Int} {x : Int} (hn : r.Nodup) (h0 : ∀ i ∈ r, 0 ≤ i) : paidL m r x = payF x m r := by
  apply List.ext_getElem?
  intro k
  rw [payF_get x r m hn h0 k]
  by_cases hk : k < m.length
  · rw [paidL, range_get hk, paidD, List.getElem?_eq_getElem hk]
    simp only [Option.getD_some, Option.map_some]
    by_cases h : (k : Int) ∈ r
    · simp [h]
    · simp [h, subD]
  · rw [paidL, List.getElem?_eq_none (by simp; omega), List.getElem?_eq_none (by omega)]; rfl

/-! ### Nets -/
def uB (b : Nat) (d : Due) : Int := (if d.to = (b : Int) then 1 else 0) - (if d.fr = (b : Int) then 1 else 0)
theorem netB_modify (b : Nat) (f : Due → Due) : ∀ (m : List Due) (i : Nat) (d : Due), m[i]? = some d → netB (m.modify i f) b = netB m b + ((addB b (f d) - subB b (f d)) - (addB b d - subB b d))
  | [], i, d, h => by simp at h
  | e :: m, 0, d, h => by
    simp at h; subst h
    simp only [List.modify_zero_cons, netB]; omega
  | e :: m, i + 1, d, h => by
    have := netB_modify b f m i d (by simpa using h)
    simp only [List.modify_succ_cons, netB, this]; omega
def sumI (f : Int → Int) : List Int → Int
  | [] => 0
  | i :: r => f i + sumI f r
theorem sumI_congr {f g : Int → Int} : ∀ {r : List Int}, (∀ i ∈ r, f i = g i) → sumI f r = sumI g r
  | [], _ => rfl
  | i :: r, h => by simp only [sumI]; rw [h i (by simp), sumI_congr fun j hj => h j (by simp [hj])]
def gD (m : List Due) (i : Int) : Due := (m[i.toNat]?).getD ⟨0, 0, 0, 0, 0, 0, false⟩
theorem gD_modify (m : List Due) (b : Nat) (x : Int) (i j : Int) : uB b (gD (m.modify j.toNat (subD x)) i) = uB b (gD m i) := by
  unfold gD
  rw [List.getElem?_modify]
  cases m[i.toNat]? with
  | none => simp
  | some d => by_cases h : j.toNat = i.toNat <;> simp [h, uB, subD]
theorem netB_pay (b : Nat) (x : Int) : ∀ (r : List Int) (m : List Due), (∀ i ∈ r, ∃ d, m[i.toNat]? = some d ∧ d.held = false) → netB (payF x m r) b = netB m b - x * sumI (fun i => uB b (gD m i)) r
  | [], m, _ => by simp [payF, sumI]
  | i :: r, m, h => by
    obtain ⟨d, hd, hh⟩ := h i (by simp)
    have hstep : ∀ j ∈ r, ∃ e, (m.modify i.toNat (subD x))[j.toNat]? = some e ∧ e.held = false := fun j hj => by
      obtain ⟨e, he, hhe⟩ := h j (by simp [hj])
      rw [List.getElem?_modify, he]
      by_cases hij : i.toNat = j.toNat
      · exact ⟨subD x e, by simp [hij], hhe⟩
      · exact ⟨e, by simp [hij], hhe⟩
    have hm := netB_modify b (subD x) m i.toNat d hd
    have hu : (addB b (subD x d) - subB b (subD x d)) - (addB b d - subB b d) = - (x * uB b d) := by
      simp only [addB, subB, uB, subD, hh, true_and]
      split <;> split <;> simp <;> omega
    have hg : gD m i = d := by unfold gD; rw [hd]; rfl
    rw [payF, netB_pay b x r _ hstep, hm, hu, sumI_congr (fun j _ => gD_modify m b x j i)]
    simp only [sumI, hg, Int.mul_add]
    omega
def sumR (f : Nat → Int) : Nat → Int
  | 0 => 0
  | n + 1 => sumR f n + f n
theorem sumR_shift (f : Nat → Int) : ∀ n, sumR f (n + 1) = f 0 + sumR (fun j => f (j + 1)) n
  | 0 => by simp [sumR]
  | n + 1 => by rw [sumR, sumR_shift f n]; simp only [sumR]; omega
theorem sumR_congr {f g : Nat → Int} : ∀ {n : Nat}, (∀ j, j < n → f j = g j) → sumR f n = sumR g n
  | 0, _ => rfl
  | n + 1, h => by simp only [sumR]; rw [h n (by omega), sumR_congr fun j hj => h j (by omega)]
theorem sumR_sub (f g : Nat → Int) : ∀ n, sumR (fun j => f j - g j) n = sumR f n - sumR g n
  | 0 => rfl
  | n + 1 => by simp only [sumR, sumR_sub f g n]; omega
theorem sumR_turn (f : Nat → Int) : ∀ n, sumR (fun j => f ((j + 1) % n)) n = sumR f n
  | 0 => rfl
  | n + 1 => by
    rw [sumR_shift f n, sumR]
    rw [sumR_congr (g := fun j => f (j + 1)) (fun j hj => by rw [Nat.mod_eq_of_lt (by omega)]), Nat.mod_self]
    omega
theorem sumI_R (f : Int → Int) : ∀ r : List Int, sumI f r = sumR (fun j => f ((r[j]?).getD 0)) r.length
  | [] => rfl
  | i :: r => by
    rw [List.length_cons, sumR_shift, sumI, sumI_R f r]
    simp
theorem ring_sum {m : List Due} {r : List Int} (h : ringB m r = true) (b : Nat) : sumI (fun i => uB b (gD m i)) r = 0 := by
  rw [sumI_R]
  have h1 : sumR (fun j => uB b (gD m ((r[j]?).getD 0))) r.length = sumR (fun j => (if (dq m r ((j + 1) % r.length)).fr = (b : Int) then 1 else 0) - (if (dq m r j).fr = (b : Int) then 1 else 0)) r.length := by
    refine sumR_congr fun j hj => ?_
    have h2 := all_at (ring_parts h).2.1 hj
    rw [ring2, decide_eq_true_eq] at h2
    show uB b (dq m r j) = _
    rw [uB, h2]
  rw [h1, sumR_sub, sumR_turn (fun j => if (dq m r j).fr = (b : Int) then 1 else 0)]
  omega

/-! ### The least -/
theorem leastTo_le (l : List Due) (r : List Int) : ∀ (k j : Nat), j < k → leastTo l r k ≤ (dq l r j).am
  | 0, j, h => by omega
  | k + 1, j, h => by
    simp only [leastTo]
    by_cases hj : j = k
    · subst hj; omega
    · have := leastTo_le l r k j (by omega); omega
theorem leastTo_is (l : List Due) (r : List Int) : ∀ k : Nat, 0 < k → ∃ j, j < k ∧ leastTo l r k = (dq l r j).am
  | 0, h => by omega
  | k + 1, _ => by
    simp only [leastTo]
    by_cases hk : k = 0
    · subst hk; exact ⟨0, by omega, by simp [leastTo]⟩
    · obtain ⟨j, hj, he⟩ := leastTo_is l r k (by omega)
      by_cases hle : leastTo l r k ≤ (dq l r k).am
      · exact ⟨j, by omega, by rw [Int.min_eq_left hle]; exact he⟩
      · exact ⟨k, by omega, by omega⟩

structure Paid (m : List Due) (r : List Int) (x : Int) : Prop where
  pos : 1 ≤ x
  small : x ≤ 4503599627370496
  amt : ∀ i : Nat, (i : Int) ∈ r → ∀ d, m[i]? = some d → x ≤ d.am
  less : (nextL m r x).length < m.length
  all : allD (nextL m r x) = true
  net : ∀ b, netB (nextL m r x) b = netB m b
  sum : sumA (nextL m r x) ≤ sumA m

theorem sum_filter {l : List Due} (h : ∀ d ∈ l, 0 ≤ d.am) : sumA (l.filter fun d => decide (0 < d.am)) = sumA l := by
  induction l with
  | nil => rfl
  | cons d l ih =>
    have h1 := h d (by simp)
    have h2 := ih fun e he => h e (by simp [he])
    rw [List.filter_cons]
    split
    · simp only [sumA, h2]
    · rename_i hc
      simp at hc
      simp only [sumA, h2]; omega
theorem net_filter {l : List Due} (h : ∀ d ∈ l, 0 ≤ d.am) (b : Nat) : netB (l.filter fun d => decide (0 < d.am)) b = netB l b := by
  induction l with
  | nil => rfl
  | cons d l ih =>
    have h1 := h d (by simp)
    have h2 := ih fun e he => h e (by simp [he])
    rw [List.filter_cons]
    split
    · simp only [netB, h2]
    · rename_i hc
      simp at hc
      have hz : d.am = 0 := by omega
      simp only [netB, h2, addB, subB, hz]; simp
theorem sum_paid {x : Int} (hx : 0 ≤ x) : ∀ (r : List Int) (m : List Due), sumA (payF x m r) ≤ sumA m
  | [], m => Int.le_refl _
  | i :: r, m => by
    have h1 := sum_paid hx r (m.modify i.toNat (subD x))
    have h2 : ∀ (m : List Due) (i : Nat), sumA (m.modify i (subD x)) ≤ sumA m := by
      intro m
      induction m with
      | nil => intro i; simp
      | cons d m ih =>
        intro i
        cases i with
        | zero => simp only [List.modify_zero_cons, sumA, subD]; omega
        | succ i => have := ih i; simp only [List.modify_succ_cons, sumA]; omega
    have := h2 m i.toNat
    rw [payF]; omega

theorem paid_ring {m : List Due} {r : List Int} (ha : allD m = true) (h : ringB m r = true) : Paid m r (leastD m r) := by
  have hn := ring_nd h
  have hr0 : ∀ i ∈ r, 0 ≤ i := fun i hi => (ring_mem h hi).1
  have h0 := (ring_parts h).2.2
  have hp := am_pos ha
  have hfine : ∀ d ∈ m, d.fine = true := fun d hd => by
    simp only [allD, Bool.and_eq_true, List.all_eq_true] at ha
    exact ha.2 d hd
  have hlen : m.length ≤ 64 := by
    simp only [allD, Bool.and_eq_true, decide_eq_true_eq] at ha; exact ha.1
  have hget : ∀ i : Nat, (i : Int) ∈ r → ∃ j, j < r.length ∧ ∃ d, m[i]? = some d ∧ dq m r j = d ∧ d.held = false := fun i hi => by
    obtain ⟨j, hj, he⟩ := List.getElem_of_mem hi
    obtain ⟨y, d, h1, h2, h3, h4, h5, h6⟩ := ring_get h hj
    rw [List.getElem?_eq_getElem hj] at h1
    injection h1 with h1
    have : y.toNat = i := by omega
    rw [this] at h4
    exact ⟨j, hj, d, h4, h5, h6⟩
  obtain ⟨j, hj, hle⟩ := leastTo_is m r r.length h0
  obtain ⟨y, dj, hy, hy0, hyl, hdj, hqj, hhj⟩ := ring_get h hj
  have hx : leastD m r = dj.am := by rw [leastD, hle, hqj]
  have hfj := (fine_iff dj).1 (hfine dj (List.mem_of_getElem? hdj))
  have hamt : ∀ i : Nat, (i : Int) ∈ r → ∀ d, m[i]? = some d → leastD m r ≤ d.am := fun i hi d hd => by
    obtain ⟨q, hq, e, he, hqe, _⟩ := hget i hi
    rw [he] at hd; injection hd with hd; subst hd
    rw [← hqe]
    exact leastTo_le m r r.length q hq
  have hL : paidL m r (leastD m r) = payF (leastD m r) m r := paid_eq hn hr0
  have hmem : ∀ e ∈ paidL m r (leastD m r), 0 ≤ e.am ∧ ∃ d ∈ m, e.am ≤ d.am ∧ e = { d with am := e.am } := fun e he => by
    obtain ⟨i, hi, rfl⟩ := List.mem_map.1 he
    have hi := List.mem_range.1 hi
    obtain ⟨d, hd⟩ := get_some hi
    have hdp := hp d (List.mem_of_getElem? hd)
    simp only [paidD, hd, Option.getD_some, subD]
    by_cases hir : (i : Int) ∈ r
    · have := hamt i hir d hd
      rw [if_pos hir]
      exact ⟨by omega, d, List.mem_of_getElem? hd, by omega, rfl⟩
    · rw [if_neg hir]
      exact ⟨by omega, d, List.mem_of_getElem? hd, by omega, rfl⟩
  have hnet := fun b => netB_pay b (leastD m r) r m (fun i hi => by
    obtain ⟨k, hk⟩ : ∃ k : Nat, i = k := ⟨i.toNat, by have := hr0 i hi; omega⟩
    subst hk
    obtain ⟨_, _, d, hd, _, hh⟩ := hget k hi
    exact ⟨d, by simpa using hd, hh⟩)
  refine ⟨by omega, by omega, hamt, ?_, ?_, ?_, ?_⟩
  · have hl : (paidL m r (leastD m r)).length = m.length := by simp [paidL]
    rw [nextL, ← hl]
    refine List.length_filter_lt_length_iff_exists.2 ⟨paidD m r (leastD m r) y.toNat, List.mem_map.2 ⟨y.toNat, List.mem_range.2 (by omega), rfl⟩, ?_⟩
    have hyr : ((y.toNat : Nat) : Int) ∈ r := by
      rw [show ((y.toNat : Nat) : Int) = y by omega]; exact List.mem_of_getElem? hy
    simp only [paidD, hdj, Option.getD_some, subD, if_pos hyr, hx]
    simp
  · simp only [allD, Bool.and_eq_true, decide_eq_true_eq, List.all_eq_true]
    refine ⟨Nat.le_trans (List.length_filter_le _ _) (by simp [paidL]; omega), fun e he => ?_⟩
    obtain ⟨he1, he2⟩ := List.mem_filter.1 he
    simp only [decide_eq_true_eq] at he2
    obtain ⟨_, d, hd, hle2, hed⟩ := hmem e he1
    have hf := (fine_iff d).1 (hfine d hd)
    rw [fine_iff, hed]
    obtain ⟨g1, g2, g3, g4, g5, g6, g7, g8⟩ := hf
    exact ⟨g1, g2, g3, by simp only; omega, by simp only; omega, g6, g7, g8⟩
  · intro b
    rw [nextL, net_filter (fun e he => (hmem e he).1), hL, hnet b, ring_sum h, Int.mul_zero, Int.sub_zero]
  · rw [nextL, sum_filter (fun e he => (hmem e he).1), hL]
    exact sum_paid (by omega) r m

/-! ### An order's places -/
def Ahead (l : List Due) (out : List Nat) : Prop := ∀ d ∈ l, d.held = false → d.to.toNat ∈ out → d.fr.toNat ∈ out ∧ out.idxOf d.fr.toNat < out.idxOf d.to.toNat
theorem go_ahead {l : List Due} {nb : Nat} (F : ∀ d ∈ l, 0 ≤ d.to) : ∀ (k : Nat) (out o : List Nat), orderGo l nb k out = some o → Ahead l out → Ahead l o
  | 0, out, o, h, ho => by rw [orderGo] at h; injection h with h; subst h; exact ho
  | k + 1, out, o, h, ho => by
    rw [orderGo] at h
    cases hn : nextB l nb out with
    | none => rw [hn] at h; cases h
    | some c =>
      rw [hn] at h
      refine go_ahead F k _ o h fun d hd hh hm => ?_
      obtain ⟨_, hc, hw⟩ := next_lt hn
      have hcn : c ∉ out := by simpa using hc
      by_cases hto : d.to.toNat ∈ out
      · obtain ⟨h1, h2⟩ := ho d hd hh hto
        refine ⟨List.mem_append_left _ h1, ?_⟩
        rw [List.idxOf_append, List.idxOf_append, if_pos h1, if_pos hto]; exact h2
      · have htc : d.to.toNat = c := by
          rcases List.mem_append.1 hm with h | h
          · exact absurd h hto
          · simpa using h
        rw [List.any_eq_false] at hw
        have h3 := hw d hd
        have hF := F d hd
        have h4 : d.fr.toNat ∈ out := by
          refine Classical.byContradiction fun hcc => h3 ?_
          simp only [waitsB, hh, Bool.not_false, Bool.true_and, Bool.and_eq_true, decide_eq_true_eq, Bool.not_eq_true']
          exact ⟨by omega, by simpa using hcc⟩
        refine ⟨List.mem_append_left _ h4, ?_⟩
        rw [List.idxOf_append, List.idxOf_append, if_pos h4, if_neg hto, htc]
        have := List.idxOf_lt_length_of_mem h4
        omega
theorem order_places {l : List Due} (ha : allD l = true) {o : List Nat} (h : orderD 16 l = some o) : Places l o := by
  rw [orderD, may_all, ha] at h
  have h : orderGo l 16 16 [] = some o := h
  obtain ⟨h1, h2, h3, _⟩ := go_some 16 [] o h
  have F := (all_facts ha).2
  have hl : o.length = 16 := by simpa using h1
  have hnd := h2 (by simp)
  have hlt := h3 (by simp)
  have hall := fun q hq => full_mem hnd hlt hl q hq
  refine ⟨hl, hlt, hall, hnd, fun d hd hh => ?_⟩
  have Fd := F d hd
  exact (go_ahead (fun d hd => (F d hd).2.2.1) 16 [] o h (fun d _ _ hm => by simp at hm) d hd hh (hall _ (by omega))).2

end Go.Proofs.Ytogaoppnoibgdaa
