/- Part 2 of the proof. -/
import Derived.Test.YtapphbmlkdhnmaaGreatPart1
import Derived.Laws.Bits
/- Plain law of shortest ways: rounds of relaxing come to an end, where numbers are that fit. -/
namespace Go.Proofs.YtapphbmlkdhnmaaGreat
open Go.GV

/-- An arc: from where, to where, how long. -/
abbrev Ar := Nat × Nat × Int
def upd (p : Nat → Int) (v : Nat) (x : Int) : Nat → Int := fun u => if u = v then x else p u
def rel1 (p : Nat → Int) (a : Ar) : Nat → Int := if p a.1 + a.2.2 < p a.2.1 then upd p a.2.1 (p a.1 + a.2.2) else p
def Fea (A : List Ar) (q : Nat → Int) : Prop := ∀ a ∈ A, q a.2.1 ≤ q a.1 + a.2.2
/-- The least lengths of ways of so many arcs, or less, from anywhere. -/
def step0 (A : List Ar) (d : Nat → Int) (v : Nat) : Int := A.foldl (fun m a => if a.2.1 = v then min m (d a.1 + a.2.2) else m) (d v)
def DD (A : List Ar) : Nat → Nat → Int
  | 0, _ => 0
  | r + 1, v => step0 A (DD A r) v
theorem foldmin_le {d : Nat → Int} {v : Nat} : ∀ {A : List Ar} {m : Int}, A.foldl (fun m a => if a.2.1 = v then min m (d a.1 + a.2.2) else m) m ≤ m
  | [], m => Int.le_refl _
  | a :: A, m => by
    rw [List.foldl_cons]
    refine Int.le_trans foldmin_le ?_
    split
    · exact Int.min_le_left ..
    · exact Int.le_refl _
theorem foldmin_mem {d : Nat → Int} {v : Nat} : ∀ {A : List Ar} {m : Int} {a : Ar}, a ∈ A → a.2.1 = v → A.foldl (fun m a => if a.2.1 = v then min m (d a.1 + a.2.2) else m) m ≤ d a.1 + a.2.2
  | b :: A, m, a, h, hv => by
    rw [List.foldl_cons]
    rcases List.mem_cons.1 h with rfl | h
    · refine Int.le_trans foldmin_le ?_
      rw [if_pos hv]
      exact Int.min_le_right ..
    · exact foldmin_mem h hv
theorem foldmin_or {d : Nat → Int} {v : Nat} : ∀ {A : List Ar} {m : Int}, A.foldl (fun m a => if a.2.1 = v then min m (d a.1 + a.2.2) else m) m = m ∨ ∃ a ∈ A, a.2.1 = v ∧ A.foldl (fun m a => if a.2.1 = v then min m (d a.1 + a.2.2) else m) m = d a.1 + a.2.2
  | [], m => .inl rfl
  | b :: A, m => by
    rw [List.foldl_cons]
    rcases foldmin_or (d := d) (v := v) (A := A) (m := if b.2.1 = v then min m (d b.1 + b.2.2) else m) with h | ⟨a, ha, hv, h⟩
    · rw [h]
      by_cases hb : b.2.1 = v
      · rw [if_pos hb]
        rcases Int.le_total m (d b.1 + b.2.2) with h5 | h5
        · exact .inl (Int.min_eq_left h5)
        · exact .inr ⟨b, List.mem_cons_self .., hb, Int.min_eq_right h5⟩
      · rw [if_neg hb]; exact .inl rfl
    · exact .inr ⟨a, List.mem_cons_of_mem _ ha, hv, h⟩
theorem DD_le (A : List Ar) (r v : Nat) : DD A (r + 1) v ≤ DD A r v := foldmin_le
theorem DD_mono (A : List Ar) (v : Nat) : ∀ {r s : Nat}, r ≤ s → DD A s v ≤ DD A r v
  | r, s, h => by
    obtain ⟨k, rfl⟩ := Nat.exists_eq_add_of_le h
    induction k with
    | zero => exact Int.le_refl _
    | succ k ih => exact Int.le_trans (DD_le A (r + k) v) (ih (by omega))
theorem DD_arc {A : List Ar} {a : Ar} (h : a ∈ A) (r : Nat) : DD A (r + 1) a.2.1 ≤ DD A r a.1 + a.2.2 := foldmin_mem h rfl
theorem DD_or (A : List Ar) (r v : Nat) : DD A (r + 1) v = DD A r v ∨ ∃ a ∈ A, a.2.1 = v ∧ DD A (r + 1) v = DD A r a.1 + a.2.2 := foldmin_or
/-- Whatever gets less so late goes back along arcs. -/
theorem DD_chain {A : List Ar} : ∀ {r v : Nat}, DD A (r + 1) v < DD A r v → ∃ x : Nat → Nat, x (r + 1) = v ∧ ∀ j, j ≤ r → DD A (j + 1) (x (j + 1)) < DD A j (x (j + 1)) ∧ ∃ a ∈ A, a.1 = x j ∧ a.2.1 = x (j + 1) ∧ DD A (j + 1) (x (j + 1)) = DD A j (x j) + a.2.2
  | 0, v, h => by
    rcases DD_or A 0 v with h1 | ⟨a, ha, hv, h1⟩
    · omega
    · refine ⟨fun j => if j = 0 then a.1 else v, rfl, fun j hj => ?_⟩
      obtain rfl : j = 0 := by omega
      exact ⟨h, a, ha, rfl, hv, h1⟩
  | r + 1, v, h => by
    rcases DD_or A (r + 1) v with h1 | ⟨a, ha, hv, h1⟩
    · omega
    · have h2 := DD_le A r a.1
      have h3 := DD_arc ha r
      rw [hv] at h3
      have h4 : DD A (r + 1) a.1 < DD A r a.1 := by omega
      obtain ⟨x, hx, hj⟩ := DD_chain h4
      obtain ⟨y, hy1, hy2⟩ : ∃ y : Nat → Nat, y (r + 2) = v ∧ ∀ j, j ≠ r + 2 → y j = x j := ⟨fun j => if j = r + 2 then v else x j, if_pos rfl, fun j h => if_neg h⟩
      refine ⟨y, hy1, fun j hjr => ?_⟩
      by_cases h5 : j = r + 1
      · subst h5
        rw [show r + 1 + 1 = r + 2 from rfl, hy1, hy2 _ (by omega)]
        exact ⟨h, a, ha, hx.symm, hv, by rw [hx]; exact h1⟩
      · rw [hy2 _ (by omega), hy2 _ (by omega)]
        exact hj j (by omega)
theorem pigeonN : ∀ (n : Nat) (l : List Nat), l.Nodup → (∀ x ∈ l, x < n) → l.length ≤ n
  | 0, l, _, h => by
    cases l with
    | nil => exact Nat.le_refl _
    | cons x l => exact absurd (h x (by simp)) (Nat.not_lt_zero _)
  | n + 1, l, hd, h => by
    have h1 := pigeonN n (l.filter (· != n)) (hd.filter _) (fun x hx => by
      have := h x (List.mem_filter.1 hx).1
      have h2 := (List.mem_filter.1 hx).2
      simp at h2; omega)
    have h2 : l.length = (l.filter (· != n)).length + l.count n := by
      clear hd h h1
      induction l with
      | nil => rfl
      | cons x l ih =>
        rw [List.count_cons, List.filter_cons]
        by_cases hx : x = n
        · subst hx; simp; omega
        · simp [hx]; omega
    have h3 : l.count n ≤ 1 := List.nodup_iff_count.1 hd n
    omega
theorem twice_of {n : Nat} {x : Nat → Nat} (h : ∀ j, j ≤ n → x j < n) : ∃ i j, i < j ∧ j ≤ n ∧ x i = x j := by
  refine Classical.byContradiction fun hn => ?_
  have hd : ((List.range (n + 1)).map x).Nodup := by
    rw [List.nodup_iff_pairwise_ne, List.pairwise_map]
    refine List.Pairwise.imp_of_mem (R := fun a b => a < b) (fun {a b} ha hb hab he => hn ⟨a, b, hab, ?_, he⟩) List.pairwise_lt_range
    have := List.mem_range.1 hb; omega
  have h1 := pigeonN n _ hd fun y hy => by
    obtain ⟨j, hj, rfl⟩ := List.mem_map.1 hy
    exact h j (by have := List.mem_range.1 hj; omega)
  simp at h1
  omega
/-- As many rounds as there are nodes are enough. -/
theorem DD_end {A : List Ar} {n : Nat} {q : Nat → Int} (hq : Fea A q) (hA : ∀ a ∈ A, a.1 < n ∧ a.2.1 < n) (v : Nat) : DD A (n + 1) v = DD A n v := by
  have h1 := DD_le A n v
  refine Classical.byContradiction fun hne => ?_
  obtain ⟨x, -, hx⟩ := DD_chain (show DD A (n + 1) v < DD A n v by omega)
  obtain ⟨i, j, hij, hjn, he⟩ := twice_of (n := n) (x := fun j => x (j + 1)) (fun j hj => by
    obtain ⟨_, a, ha, _, h2, _⟩ := hx j hj
    rw [← h2]; exact (hA a ha).2)
  have hmono : ∀ k, i + k ≤ n → DD A (i + 1) (x (i + 1)) - q (x (i + 1)) ≤ DD A (i + k + 1) (x (i + k + 1)) - q (x (i + k + 1)) := by
    intro k
    induction k with
    | zero => intro _; exact Int.le_refl _
    | succ k ih =>
      intro hk
      have h2 := ih (by omega)
      obtain ⟨_, a, ha, h3, h4, h5⟩ := hx (i + k + 1) hk
      have h6 := hq a ha
      rw [h3, h4] at h6
      show _ ≤ DD A (i + (k + 1) + 1) (x (i + (k + 1) + 1)) - q (x (i + (k + 1) + 1))
      rw [show i + (k + 1) + 1 = i + k + 1 + 1 by omega, h5]
      omega
  have h2 := hmono (j - i) (by omega)
  rw [show i + (j - i) + 1 = j + 1 by omega, ← he] at h2
  have h3 := (hx j hjn).1
  rw [← he] at h3
  have h4 := DD_mono A (x (i + 1)) (show i + 1 ≤ j by omega)
  omega
theorem DD_fea {A : List Ar} {n : Nat} {q : Nat → Int} (hq : Fea A q) (hA : ∀ a ∈ A, a.1 < n ∧ a.2.1 < n) : Fea A (DD A n) := fun a ha => by
  have h1 := DD_arc ha n
  rw [DD_end hq hA] at h1
  exact h1
theorem DD_ge {A : List Ar} {m : Int} (h0 : 0 ≤ m) (hA : ∀ a ∈ A, -m ≤ a.2.2) : ∀ (r v : Nat), -(r * m) ≤ DD A r v
  | 0, v => by simp [DD]
  | r + 1, v => by
    have e : ((r + 1 : Nat) : Int) * m = r * m + m := by rw [Int.natCast_add, Int.add_mul]; simp
    rcases DD_or A r v with h | ⟨a, ha, hv, h⟩
    · rw [h, e]; have := DD_ge h0 hA r v; omega
    · rw [h, e]; have := DD_ge h0 hA r a.1; have := hA a ha; omega
/-! ### Relaxing in place -/
theorem rel1_le (p : Nat → Int) (a : Ar) (v : Nat) : rel1 p a v ≤ p v := by
  unfold rel1
  split
  · unfold upd
    split
    · rename_i h1 h2; subst h2; omega
    · exact Int.le_refl _
  · exact Int.le_refl _
theorem rel1_ge {p f : Nat → Int} {a : Ar} (hf : f a.2.1 ≤ f a.1 + a.2.2) (h : ∀ v, f v ≤ p v) (v : Nat) : f v ≤ rel1 p a v := by
  unfold rel1
  split
  · unfold upd
    split
    · rename_i h1 h2; subst h2; have := h a.1; omega
    · exact h v
  · exact h v
theorem rel1_arc (p : Nat → Int) (a : Ar) : rel1 p a a.2.1 ≤ p a.1 + a.2.2 := by
  unfold rel1
  split
  · unfold upd; rw [if_pos rfl]; exact Int.le_refl _
  · omega
theorem rels_le : ∀ (A : List Ar) (p : Nat → Int) (v : Nat), A.foldl rel1 p v ≤ p v
  | [], _, _ => Int.le_refl _
  | a :: A, p, v => Int.le_trans (rels_le A _ v) (rel1_le p a v)
theorem rels_ge {f : Nat → Int} : ∀ {A : List Ar} {p : Nat → Int}, Fea A f → (∀ v, f v ≤ p v) → ∀ v, f v ≤ A.foldl rel1 p v
  | [], _, _, h, v => h v
  | a :: _, _, hf, h, v => rels_ge (fun b hb => hf b (List.mem_cons_of_mem _ hb)) (rel1_ge (hf a (List.mem_cons_self ..)) h) v
theorem rels_arc {q : Nat → Int} : ∀ {A : List Ar} {p : Nat → Int}, (∀ v, p v ≤ q v) → ∀ a ∈ A, A.foldl rel1 p a.2.1 ≤ q a.1 + a.2.2
  | b :: A, p, h, a, ha => by
    rw [List.foldl_cons]
    rcases List.mem_cons.1 ha with rfl | ha
    · have h1 := rels_le A (rel1 p a) a.2.1
      have h2 := rel1_arc p a
      have := h a.1
      omega
    · exact rels_arc (fun v => Int.le_trans (rel1_le p b v) (h v)) a ha
/-- Rounds. -/
def rounds (A : List Ar) : Nat → (Nat → Int) → Nat → Int
  | 0, p => p
  | r + 1, p => A.foldl rel1 (rounds A r p)
theorem rounds_le (A : List Ar) : ∀ (r : Nat) (v : Nat), rounds A r (fun _ => 0) v ≤ DD A r v
  | 0, v => Int.le_refl _
  | r + 1, v => by
    show A.foldl rel1 (rounds A r fun _ => 0) v ≤ _
    rcases DD_or A r v with h | ⟨a, ha, hv, h⟩
    · rw [h]; exact Int.le_trans (rels_le A _ v) (rounds_le A r v)
    · rw [h, ← hv]; exact rels_arc (rounds_le A r) a ha
theorem rounds_ge {A : List Ar} {f : Nat → Int} (hf : Fea A f) (h0 : ∀ v, f v ≤ 0) : ∀ (r v : Nat), f v ≤ rounds A r (fun _ => 0) v
  | 0, v => h0 v
  | r + 1, v => rels_ge hf (rounds_ge hf h0 r) v
/-- Numbers made anew fit, and are small. -/
theorem anew_fits {A : List Ar} {n : Nat} {q : Nat → Int} (hq : Fea A q) (hA : ∀ a ∈ A, a.1 < n ∧ a.2.1 < n) : Fea A (rounds A n fun _ => 0) := by
  have hf := DD_fea hq hA
  have h0 : ∀ v, DD A n v ≤ 0 := fun v => DD_mono A v (Nat.zero_le n)
  have he : ∀ v, rounds A n (fun _ => 0) v = DD A n v := fun v => Int.le_antisymm (rounds_le A n v) (rounds_ge hf h0 n v)
  intro a ha
  rw [he, he]
  exact hf a ha
theorem anew_bnd {A : List Ar} {n : Nat} {q : Nat → Int} (hq : Fea A q) (hA : ∀ a ∈ A, a.1 < n ∧ a.2.1 < n) {m : Int} (hm : 0 ≤ m) (hc : ∀ a ∈ A, -m ≤ a.2.2) (r v : Nat) : -(n * m) ≤ rounds A r (fun _ => 0) v ∧ rounds A r (fun _ => 0) v ≤ 0 :=
  ⟨Int.le_trans (DD_ge hm hc n v) (rounds_ge (DD_fea hq hA) (fun v => DD_mono A v (Nat.zero_le n)) r v), Int.le_trans (rounds_le A r v) (DD_mono A v (Nat.zero_le r))⟩

end Go.Proofs.YtapphbmlkdhnmaaGreat

/- Plain law of flows: sums, what comes to a node, what stands over; cuts; the best is the least. -/
namespace Go.Proofs.YtapphbmlkdhnmaaGreat
open Go.GV

theorem ltge (a b : Int) : a < b ∨ b ≤ a := by omega
def sumTo (f : Nat → Int) : Nat → Int
  | 0 => 0
  | k + 1 => sumTo f k + f k
theorem sum_congr {f g : Nat → Int} : ∀ {k : Nat}, (∀ i, i < k → f i = g i) → sumTo f k = sumTo g k
  | 0, _ => rfl
  | k + 1, h => by
    show sumTo f k + f k = sumTo g k + g k
    rw [sum_congr fun i hi => h i (by omega), h k (by omega)]
theorem sum_add (f g : Nat → Int) : ∀ k, sumTo (fun i => f i + g i) k = sumTo f k + sumTo g k
  | 0 => rfl
  | k + 1 => by
    show sumTo _ k + (f k + g k) = (sumTo f k + f k) + (sumTo g k + g k)
    rw [sum_add f g k]; omega
theorem sum_neg (f : Nat → Int) : ∀ k, sumTo (fun i => -f i) k = -sumTo f k
  | 0 => rfl
  | k + 1 => by
    show sumTo _ k + -f k = -(sumTo f k + f k)
    rw [sum_neg f k]; omega
theorem sum_sub (f g : Nat → Int) (k : Nat) : sumTo (fun i => f i - g i) k = sumTo f k - sumTo g k := by
  have h := sum_add f (fun i => -g i) k
  rw [sum_neg] at h
  exact h
theorem sum_mul (c : Int) (f : Nat → Int) : ∀ k, sumTo (fun i => c * f i) k = c * sumTo f k
  | 0 => by show (0 : Int) = c * 0; omega
  | k + 1 => by
    show sumTo _ k + c * f k = c * (sumTo f k + f k)
    rw [sum_mul c f k, Int.mul_add]
theorem sum_zero : ∀ k, sumTo (fun _ => 0) k = 0
  | 0 => rfl
  | k + 1 => by show sumTo _ k + 0 = 0; rw [sum_zero k]; rfl
theorem sum_nonneg {f : Nat → Int} : ∀ {k : Nat}, (∀ i, i < k → 0 ≤ f i) → 0 ≤ sumTo f k
  | 0, _ => Int.le_refl _
  | k + 1, h => by
    have := sum_nonneg (k := k) fun i hi => h i (by omega)
    have := h k (by omega)
    show 0 ≤ sumTo f k + f k
    omega
theorem sum_le {f g : Nat → Int} {k : Nat} (h : ∀ i, i < k → f i ≤ g i) : sumTo f k ≤ sumTo g k := by
  have h1 := sum_nonneg (f := fun i => g i - f i) (k := k) fun i hi => by have := h i hi; omega
  rw [sum_sub] at h1
  omega
theorem sum_pos {f : Nat → Int} : ∀ {k : Nat} {j : Nat}, (∀ i, i < k → 0 ≤ f i) → j < k → 0 < f j → 0 < sumTo f k
  | k + 1, j, h, hj, hp => by
    show 0 < sumTo f k + f k
    have h1 := sum_nonneg (k := k) fun i hi => h i (by omega)
    have h2 := h k (by omega)
    by_cases e : j = k
    · subst e; omega
    · have := sum_pos (k := k) (j := j) (fun i hi => h i (by omega)) (by omega) hp
      omega
theorem sum_swap (f : Nat → Nat → Int) (m : Nat) : ∀ k, sumTo (fun i => sumTo (f i) m) k = sumTo (fun j => sumTo (fun i => f i j) k) m
  | 0 => (sum_zero m).symm
  | k + 1 => by
    show sumTo _ k + sumTo (f k) m = sumTo (fun j => sumTo (fun i => f i j) k + f k j) m
    rw [sum_add, sum_swap f m k]
/-- 1 if so. -/
def one (b : Prop) [Decidable b] : Int := if b then 1 else 0
theorem sum_one (g : Nat → Int) {u : Nat} : ∀ {k : Nat}, u < k → sumTo (fun v => one (u = v) * g v) k = g u
  | k + 1, h => by
    show sumTo _ k + one (u = k) * g k = g u
    by_cases e : u = k
    · subst e
      have h1 : sumTo (fun v => one (u = v) * g v) u = sumTo (fun _ => 0) u := sum_congr fun i hi => by
        unfold one; rw [if_neg (by omega)]; omega
      rw [h1, sum_zero, one, if_pos rfl]; omega
    · rw [sum_one g (by omega : u < k), one, if_neg e]; omega

/-- Edges between nodes, at a cost. -/
structure Gr where
  N : Nat
  E : Nat
  f : Nat → Nat
  t : Nat → Nat
  co : Nat → Int
structure Gr.Ok (g : Gr) : Prop where
  f : ∀ i, i < g.E → g.f i < g.N
  t : ∀ i, i < g.E → g.t i < g.N
/-- What comes to a node of the first edges, less what goes. -/
def overK (g : Gr) (x : Nat → Int) (k v : Nat) : Int := sumTo (fun i => (one (g.t i = v) - one (g.f i = v)) * x i) k
def over7 (g : Gr) (x : Nat → Int) (v : Nat) : Int := overK g x g.E v
def costs (g : Gr) (x : Nat → Int) : Int := sumTo (fun i => x i * g.co i) g.E
theorem over_w (g : Gr) (hg : g.Ok) (x r : Nat → Int) : sumTo (fun v => over7 g x v * r v) g.N = sumTo (fun i => (r (g.t i) - r (g.f i)) * x i) g.E := by
  have h1 : sumTo (fun v => over7 g x v * r v) g.N = sumTo (fun v => sumTo (fun i => (one (g.t i = v) - one (g.f i = v)) * x i * r v) g.E) g.N := sum_congr fun v _ => by
    unfold over7 overK
    rw [Int.mul_comm, ← sum_mul]
    exact sum_congr fun i _ => by rw [Int.mul_comm]
  rw [h1, ← sum_swap]
  refine sum_congr fun i hi => ?_
  have h2 : sumTo (fun v => (one (g.t i = v) - one (g.f i = v)) * x i * r v) g.N = sumTo (fun v => one (g.t i = v) * (x i * r v) - one (g.f i = v) * (x i * r v)) g.N := sum_congr fun v _ => by
    rw [Int.mul_assoc, Int.sub_mul]
  rw [h2, sum_sub, sum_one (fun v => x i * r v) (hg.t i hi), sum_one (fun v => x i * r v) (hg.f i hi), Int.sub_mul, Int.mul_comm (r _), Int.mul_comm (r _)]
theorem over_all (g : Gr) (hg : g.Ok) (x : Nat → Int) : sumTo (over7 g x) g.N = 0 := by
  have h := over_w g hg x fun _ => 1
  have h1 : sumTo (fun v => over7 g x v * 1) g.N = sumTo (over7 g x) g.N := sum_congr fun v _ => by omega
  rw [← h1, h]
  have h2 : sumTo (fun i => ((1 : Int) - 1) * x i) g.E = sumTo (fun _ => 0) g.E := sum_congr fun i _ => by omega
  rw [h2, sum_zero]

/-! ### Arcs -/
def Gr.u (g : Gr) (a : Nat) : Nat := if a % 2 = 0 then g.f (a / 2) else g.t (a / 2)
def Gr.v (g : Gr) (a : Nat) : Nat := if a % 2 = 0 then g.t (a / 2) else g.f (a / 2)
def Gr.c (g : Gr) (a : Nat) : Int := if a % 2 = 0 then g.co (a / 2) else -g.co (a / 2)
def roomA (cap x : Nat → Int) (a : Nat) : Int := if a % 2 = 0 then cap (a / 2) - x (a / 2) else x (a / 2)
def Gr.len (g : Gr) (p : Nat → Int) (a : Nat) : Int := g.c a + p (g.u a) - p (g.v a)
/-- A flow within its caps, and numbers that fit it. -/
structure Fine (g : Gr) (cap x p : Nat → Int) : Prop where
  in' : ∀ i, i < g.E → 0 ≤ x i ∧ x i ≤ cap i
  fit : ∀ a, a < 2 * g.E → 0 < roomA cap x a → 0 ≤ g.len p a
theorem Gr.Ok.u {g : Gr} (h : g.Ok) {a : Nat} (ha : a < 2 * g.E) : g.u a < g.N := by
  unfold Gr.u; split
  · exact h.f _ (by omega)
  · exact h.t _ (by omega)
theorem Gr.Ok.v {g : Gr} (h : g.Ok) {a : Nat} (ha : a < 2 * g.E) : g.v a < g.N := by
  unfold Gr.v; split
  · exact h.t _ (by omega)
  · exact h.f _ (by omega)
theorem arc_even (g : Gr) (i : Nat) : g.u (2 * i) = g.f i ∧ g.v (2 * i) = g.t i ∧ g.c (2 * i) = g.co i := by
  unfold Gr.u Gr.v Gr.c
  rw [if_pos (by omega), if_pos (by omega), if_pos (by omega), show 2 * i / 2 = i by omega]
  exact ⟨rfl, rfl, rfl⟩
theorem arc_odd (g : Gr) (i : Nat) : g.u (2 * i + 1) = g.t i ∧ g.v (2 * i + 1) = g.f i ∧ g.c (2 * i + 1) = -g.co i := by
  unfold Gr.u Gr.v Gr.c
  rw [if_neg (by omega), if_neg (by omega), if_neg (by omega), show (2 * i + 1) / 2 = i by omega]
  exact ⟨rfl, rfl, rfl⟩
theorem Fine.fwd {g : Gr} {cap x p : Nat → Int} (h : Fine g cap x p) {i : Nat} (hi : i < g.E) (hr : x i < cap i) : 0 ≤ g.co i + p (g.f i) - p (g.t i) := by
  have h1 := h.fit (2 * i) (by omega) (by unfold roomA; rw [if_pos (by omega), show 2 * i / 2 = i by omega]; omega)
  obtain ⟨a, b, c⟩ := arc_even g i
  unfold Gr.len at h1
  rwa [a, b, c] at h1
theorem Fine.bwd {g : Gr} {cap x p : Nat → Int} (h : Fine g cap x p) {i : Nat} (hi : i < g.E) (hr : 0 < x i) : g.co i + p (g.f i) - p (g.t i) ≤ 0 := by
  have h1 := h.fit (2 * i + 1) (by omega) (by unfold roomA; rw [if_neg (by omega), show (2 * i + 1) / 2 = i by omega]; exact hr)
  obtain ⟨a, b, c⟩ := arc_odd g i
  unfold Gr.len at h1
  rw [a, b, c] at h1
  omega
theorem Fine.of {g : Gr} {cap x p : Nat → Int} (h0 : ∀ i, i < g.E → 0 ≤ x i ∧ x i ≤ cap i) (h1 : ∀ i, i < g.E → x i < cap i → 0 ≤ g.co i + p (g.f i) - p (g.t i)) (h2 : ∀ i, i < g.E → 0 < x i → g.co i + p (g.f i) - p (g.t i) ≤ 0) : Fine g cap x p := by
  refine ⟨h0, fun a ha hr => ?_⟩
  have hm : a % 2 = 0 ∨ a % 2 = 1 := by omega
  unfold Gr.len
  rcases hm with hm | hm
  · obtain ⟨b, c, d⟩ := arc_even g (a / 2)
    rw [show 2 * (a / 2) = a by omega] at b c d
    rw [b, c, d]
    unfold roomA at hr
    rw [if_pos hm] at hr
    exact h1 _ (by omega) (by omega)
  · obtain ⟨b, c, d⟩ := arc_odd g (a / 2)
    rw [show 2 * (a / 2) + 1 = a by omega] at b c d
    rw [b, c, d]
    unfold roomA at hr
    rw [if_neg (by omega)] at hr
    have := h2 _ (by omega) hr
    omega
/-- A flow with numbers that fit costs no more than any other one that goes round. -/
theorem Fine.best {g : Gr} (hg : g.Ok) {cap x p : Nat → Int} (h : Fine g cap x p) (hx : ∀ v, v < g.N → over7 g x v = 0) {y : Nat → Int} (hy : ∀ i, i < g.E → 0 ≤ y i ∧ y i ≤ cap i) (hyo : ∀ v, v < g.N → over7 g y v = 0) : costs g x ≤ costs g y := by
  have hz : ∀ z : Nat → Int, (∀ v, v < g.N → over7 g z v = 0) → costs g z = sumTo (fun i => (g.co i + p (g.f i) - p (g.t i)) * z i) g.E := fun z hz => by
    have h1 := over_w g hg z p
    have h2 : sumTo (fun v => over7 g z v * p v) g.N = sumTo (fun _ => 0) g.N := sum_congr fun v hv => by rw [hz v hv]; omega
    rw [h2, sum_zero] at h1
    have h3 : sumTo (fun i => (g.co i + p (g.f i) - p (g.t i)) * z i) g.E = sumTo (fun i => z i * g.co i - (p (g.t i) - p (g.f i)) * z i) g.E := sum_congr fun i _ => by
      rw [Int.mul_comm (z i), ← Int.sub_mul]; congr 1; omega
    rw [h3, sum_sub, ← h1]
    unfold costs
    omega
  rw [hz x hx, hz y hyo]
  refine sum_le fun i hi => ?_
  obtain ⟨a, b⟩ := h.in' i hi
  obtain ⟨c, d⟩ := hy i hi
  rcases ltge (g.co i + p (g.f i) - p (g.t i)) 0 with h5 | h5
  · have h6 : x i = cap i := by
      rcases ltge (x i) (cap i) with h7 | h7
      · have := h.fwd hi h7; omega
      · omega
    exact Int.mul_le_mul_of_nonpos_left (by omega) (by omega)
  · rcases ltge 0 (g.co i + p (g.f i) - p (g.t i)) with h6 | h6
    · have h7 : x i = 0 := by
        rcases ltge 0 (x i) with h7 | h7
        · have := h.bwd hi h7; omega
        · omega
      exact Int.mul_le_mul_of_nonneg_left (by omega) (by omega)
    · rw [show g.co i + p (g.f i) - p (g.t i) = 0 by omega]; omega

end Go.Proofs.YtapphbmlkdhnmaaGreat

/- Plain law of shortest ways: labels of nodes, set right arc by arc. -/
namespace Go.Proofs.YtapphbmlkdhnmaaGreat
open Go.GV

/-- Labels of nodes: how far (below 0: not reached), over how many arcs. -/
structure Lb where
  d : Nat → Int
  h : Nat → Nat
def le2 (d1 : Int) (h1 : Nat) (d2 : Int) (h2 : Nat) : Prop := d1 < d2 ∨ (d1 = d2 ∧ h1 ≤ h2)
theorem le2.trans {a b c : Int} {x y z : Nat} (h1 : le2 a x b y) (h2 : le2 b y c z) : le2 a x c z := by unfold le2 at *; omega
theorem le2.refl (a : Int) (x : Nat) : le2 a x a x := .inr ⟨rfl, Nat.le_refl _⟩
def betterP (s : Lb) (v : Nat) (d : Int) (h : Nat) : Prop := s.d v = -1 ∨ d < s.d v ∨ (d = s.d v ∧ h < s.h v)
instance (s : Lb) (v : Nat) (d : Int) (h : Nat) : Decidable (betterP s v d h) := by unfold betterP; infer_instance
def putL (s : Lb) (v : Nat) (d : Int) (h : Nat) : Lb := ⟨fun u => if u = v then d else s.d u, fun u => if u = v then h else s.h u⟩
def relS (s : Lb) (a : Ar) : Lb := if betterP s a.2.1 (s.d a.1 + a.2.2) (s.h a.1 + 1) then putL s a.2.1 (s.d a.1 + a.2.2) (s.h a.1 + 1) else s
def relH (s : Lb) (a : Ar) (hp : List (Int × Nat)) : List (Int × Nat) := if betterP s a.2.1 (s.d a.1 + a.2.2) (s.h a.1 + 1) then (s.d a.1 + a.2.2, a.2.1) :: hp else hp
/-- Arcs that may be. -/
def Arcs (A : List Ar) (n : Nat) (m : Int) : Prop := ∀ a ∈ A, a.1 < n ∧ a.2.1 < n ∧ 0 ≤ a.2.2 ∧ a.2.2 ≤ m
structure DJ (A : List Ar) (src : List Nat) (n : Nat) (m : Int) (s : Lb) : Prop where
  low : ∀ v, s.d v = -1 ∨ 0 ≤ s.d v
  src' : ∀ v ∈ src, v < n ∧ s.d v = 0 ∧ s.h v = 0
  zero : ∀ v, s.d v ≠ -1 → s.h v = 0 → v ∈ src
  none' : ∀ v, s.d v = -1 → s.h v = 0
  pre : ∀ v, s.d v ≠ -1 → s.h v ≠ 0 → ∃ a ∈ A, a.2.1 = v ∧ s.d a.1 ≠ -1 ∧ le2 (s.d a.1 + a.2.2) (s.h a.1 + 1) (s.d v) (s.h v)
  walk : ∀ v, s.d v ≠ -1 → ∃ W : List Nat, W.Nodup ∧ W.length = s.h v + 1 ∧ ∀ x ∈ W, x < n ∧ s.d x ≠ -1 ∧ le2 (s.d x) (s.h x) (s.d v) (s.h v)
  bnd : ∀ v, s.d v ≠ -1 → s.d v ≤ s.h v * m
def Rlx (s : Lb) (a : Ar) : Prop := s.d a.2.1 ≠ -1 ∧ le2 (s.d a.2.1) (s.h a.2.1) (s.d a.1 + a.2.2) (s.h a.1 + 1)
/-- Each node's arcs are done, or it waits; of u those of done are. -/
def Clo (A : List Ar) (s : Lb) (hp : List (Int × Nat)) (u : Nat) (done : List Ar) : Prop :=
  ∀ v, s.d v ≠ -1 → (s.d v, v) ∈ hp ∨ ∀ a ∈ A, a.1 = v → (v = u → a ∈ done) → Rlx s a
def valN (n : Nat) (m : Int) (s : Lb) (v : Nat) : Int := if s.d v = -1 then n * m * 64 + 64 else s.d v * 64 + s.h v
def meas (n : Nat) (m : Int) (s : Lb) (hp : List (Int × Nat)) : Int := 2 * sumTo (valN n m s) n + hp.length
theorem DJ.hops {A : List Ar} {src : List Nat} {n : Nat} {m : Int} {s : Lb} (J : DJ A src n m s) {v : Nat} (hv : s.d v ≠ -1) : s.h v + 1 ≤ n := by
  obtain ⟨W, h1, h2, h3⟩ := J.walk v hv
  rw [← h2]
  exact pigeonN n W h1 fun x hx => (h3 x hx).1
section
variable {A : List Ar} {src : List Nat} {n : Nat} {m : Int} {s : Lb} {hp : List (Int × Nat)} {u : Nat} {dn : List Ar} {a : Ar}
theorem DJ.relax (hA : Arcs A n m) (hm : 0 ≤ m) (hn : n ≤ 60) (J : DJ A src n m s) (K : Clo A s hp u dn) (ha : a ∈ A) (hu : a.1 = u) (hd : s.d u ≠ -1) :
    DJ A src n m (relS s a) ∧ Clo A (relS s a) (relH s a hp) u (dn ++ [a]) ∧ (relS s a).d u = s.d u ∧ (relS s a).h u = s.h u ∧ meas n m (relS s a) (relH s a hp) ≤ meas n m s hp := by
  subst hu
  obtain ⟨hu1, hv1, hl0, hlm⟩ := hA a ha
  have hdu := (J.low a.1).resolve_left hd
  by_cases hb : betterP s a.2.1 (s.d a.1 + a.2.2) (s.h a.1 + 1)
  · obtain ⟨d', hd'⟩ : ∃ d', d' = s.d a.1 + a.2.2 := ⟨_, rfl⟩
    obtain ⟨h', hh'⟩ : ∃ h', h' = s.h a.1 + 1 := ⟨_, rfl⟩
    obtain ⟨v, hv⟩ : ∃ v, v = a.2.1 := ⟨_, rfl⟩
    have hS : relS s a = putL s v d' h' := by unfold relS; rw [if_pos hb, hd', hh', hv]
    have hH : relH s a hp = (d', v) :: hp := by unfold relH; rw [if_pos hb, hd', hv]
    rw [← hd', ← hh', ← hv] at hb
    rw [← hv] at hv1
    have hvu : v ≠ a.1 := fun e => by
      unfold betterP at hb; rw [e] at hb
      omega
    rw [hS, hH]
    have p1 : (putL s v d' h').d v = d' := if_pos rfl
    have p2 : (putL s v d' h').h v = h' := if_pos rfl
    have p3 : ∀ x, x ≠ v → (putL s v d' h').d x = s.d x := fun x hx => if_neg hx
    have p4 : ∀ x, x ≠ v → (putL s v d' h').h x = s.h x := fun x hx => if_neg hx
    have hsrc : v ∉ src := fun hs => by
      obtain ⟨_, q1, q2⟩ := J.src' v hs
      unfold betterP at hb; rw [q1, q2] at hb; omega
    -- labels become no greater
    have hless : ∀ x, s.d x ≠ -1 → (putL s v d' h').d x ≠ -1 ∧ le2 ((putL s v d' h').d x) ((putL s v d' h').h x) (s.d x) (s.h x) := fun x hx => by
      by_cases e : x = v
      · subst e
        rw [p1, p2]
        unfold betterP at hb
        exact ⟨by omega, by unfold le2; omega⟩
      · rw [p3 x e, p4 x e]; exact ⟨hx, le2.refl _ _⟩
    have hadd : ∀ {x : Nat} (l : Int), s.d x ≠ -1 → le2 ((putL s v d' h').d x + l) ((putL s v d' h').h x + 1) (s.d x + l) (s.h x + 1) := fun {x} l hx => by
      have := (hless x hx).2; unfold le2 at *; omega
    -- the way to v
    obtain ⟨W, w1, w2, w3⟩ := J.walk a.1 hd
    have hvW : v ∉ W := fun hx => by
      have q := (w3 v hx).2
      unfold betterP at hb; unfold le2 at q
      omega
    have hWn : (W ++ [v]).Nodup := by
      rw [List.nodup_append]
      exact ⟨w1, by simp, fun x hx y hy e => by rw [List.mem_singleton.1 hy] at e; exact hvW (e ▸ hx)⟩
    have hWl : (W ++ [v]).length = h' + 1 := by rw [List.length_append, w2, hh']; rfl
    have hh'n : h' + 1 ≤ n := by
      rw [← hWl]
      exact pigeonN n _ hWn fun x hx => (List.mem_append.1 hx).elim (fun h => (w3 x h).1) fun h => by rw [List.mem_singleton.1 h]; exact hv1
    have hbd : d' ≤ h' * m := by
      have q := J.bnd a.1 hd
      rw [hd', hh', Int.natCast_add, Int.add_mul]; simp; omega
    have J' : DJ A src n m (putL s v d' h') := by
      refine ⟨fun x => ?_, fun x hx => ?_, fun x hx h0 => ?_, fun x hx => ?_, fun x hx h0 => ?_, fun x hx => ?_, fun x hx => ?_⟩
      · by_cases e : x = v
        · subst e; rw [p1]; omega
        · rw [p3 x e]; exact J.low x
      · have e : x ≠ v := fun e => hsrc (e ▸ hx)
        rw [p3 x e, p4 x e]; exact J.src' x hx
      · by_cases e : x = v
        · subst e; rw [p2] at h0; omega
        · rw [p3 x e] at hx; rw [p4 x e] at h0; exact J.zero x hx h0
      · by_cases e : x = v
        · subst e; rw [p1] at hx; omega
        · rw [p3 x e] at hx; rw [p4 x e]; exact J.none' x hx
      · by_cases e : x = v
        · subst e
          refine ⟨a, ha, hv.symm, ?_, ?_⟩
          · rw [p3 _ (Ne.symm hvu)]; exact hd
          · rw [p1, p2, p3 _ (Ne.symm hvu), p4 _ (Ne.symm hvu), ← hd', ← hh']; exact le2.refl _ _
        · rw [p3 x e] at hx ⊢; rw [p4 x e] at h0 ⊢
          obtain ⟨b, hb1, hb2, hb3, hb4⟩ := J.pre x hx h0
          exact ⟨b, hb1, hb2, (hless _ hb3).1, (hadd _ hb3).trans hb4⟩
      · by_cases e : x = v
        · subst e
          refine ⟨W ++ [x], hWn, by rw [hWl, p2], fun y hy => ?_⟩
          rw [p1, p2]
          rcases List.mem_append.1 hy with hy | hy
          · obtain ⟨q1, q2, q3⟩ := w3 y hy
            refine ⟨q1, (hless y q2).1, (hless y q2).2.trans (q3.trans ?_)⟩
            unfold le2; omega
          · rw [List.mem_singleton.1 hy, p1, p2]
            exact ⟨hv1, by omega, le2.refl _ _⟩
        · rw [p3 x e] at hx ⊢; rw [p4 x e]
          obtain ⟨W2, q1, q2, q3⟩ := J.walk x hx
          exact ⟨W2, q1, q2, fun y hy => ⟨(q3 y hy).1, (hless y (q3 y hy).2.1).1, (hless y (q3 y hy).2.1).2.trans (q3 y hy).2.2⟩⟩
      · by_cases e : x = v
        · subst e; rw [p1, p2]; exact hbd
        · rw [p3 x e] at hx ⊢; rw [p4 x e]; exact J.bnd x hx
    have hval : ∀ x, valN n m (putL s v d' h') x ≤ valN n m s x - one (v = x) := fun x => by
      by_cases e : x = v
      · subst e
        unfold one; rw [if_pos rfl]
        unfold valN
        rw [p1, p2, if_neg (show ¬ d' = -1 by omega)]
        split
        · have q : (h' : Int) * m ≤ (n : Int) * m := Int.mul_le_mul_of_nonneg_right (by omega) hm
          omega
        · have q1 := (J.low x).resolve_left ‹_›
          unfold betterP at hb
          omega
      · have e1 : one (v = x) = 0 := if_neg fun h => e h.symm
        unfold valN
        rw [p3 x e, p4 x e, e1, Int.sub_zero]
        exact Int.le_refl _
    refine ⟨J', fun x hx => ?_, p3 _ (Ne.symm hvu), p4 _ (Ne.symm hvu), ?_⟩
    · by_cases e : x = v
      · subst e; left; rw [p1]; exact List.mem_cons_self ..
      · rw [p3 x e] at hx ⊢
        rcases K x hx with q | q
        · exact .inl (List.mem_cons_of_mem _ q)
        · refine .inr fun b hb1 hb2 hb3 => ?_
          by_cases eb : b = a
          · subst eb
            refine ⟨by rw [← hv, p1]; omega, ?_⟩
            rw [← hv, p1, p2, p3 _ (Ne.symm hvu), p4 _ (Ne.symm hvu), ← hd', ← hh']; exact le2.refl _ _
          · obtain ⟨r1, r2⟩ := q b hb1 hb2 fun h => (List.mem_append.1 (hb3 h)).resolve_right fun h => eb (List.mem_singleton.1 h)
            refine ⟨(hless _ r1).1, (hless _ r1).2.trans ?_⟩
            have eb1 : b.1 ≠ v := by rw [hb2]; exact e
            rw [p3 _ eb1, p4 _ eb1]; exact r2
    · unfold meas
      have q1 := sum_le (k := n) fun i _ => hval i
      rw [sum_sub] at q1
      have q2 := sum_one (fun _ => (1 : Int)) hv1
      have q3 : sumTo (fun x => one (v = x)) n = sumTo (fun x => one (v = x) * 1) n := sum_congr fun i _ => by omega
      rw [← q3] at q2
      rw [List.length_cons]
      omega
  · have hS : relS s a = s := by unfold relS; rw [if_neg hb]
    have hH : relH s a hp = hp := by unfold relH; rw [if_neg hb]
    rw [hS, hH]
    refine ⟨J, fun x hx => ?_, rfl, rfl, Int.le_refl _⟩
    rcases K x hx with q | q
    · exact .inl q
    · refine .inr fun b hb1 hb2 hb3 => ?_
      by_cases eb : b = a
      · subst eb
        unfold betterP at hb
        unfold Rlx le2
        omega
      · exact q b hb1 hb2 fun h => (List.mem_append.1 (hb3 h)).resolve_right fun h => eb (List.mem_singleton.1 h)
/-- The first labels: some nodes at no distance. -/
def lb0 (src : List Nat) : Lb := ⟨fun v => if v ∈ src then 0 else -1, fun _ => 0⟩
theorem DJ.start (hs : ∀ v ∈ src, v < n) : DJ A src n m (lb0 src) := by
  have h1 : ∀ v, (lb0 src).d v ≠ -1 → v ∈ src := fun v hv => Classical.byContradiction fun h => hv (if_neg h)
  refine ⟨fun v => ?_, fun v hv => ⟨hs v hv, if_pos hv, rfl⟩, fun v hv _ => h1 v hv, fun v _ => rfl, fun v _ h => absurd rfl h, fun v hv => ⟨[v], by simp, rfl, fun x hx => ?_⟩, fun v hv => ?_⟩
  · unfold lb0; dsimp only; split
    · exact .inr (Int.le_refl _)
    · exact .inl rfl
  · rw [List.mem_singleton.1 hx]; exact ⟨hs v (h1 v hv), hv, le2.refl _ _⟩
  · have : (lb0 src).d v = 0 := if_pos (h1 v hv)
    rw [this]; show (0 : Int) ≤ ((0 : Nat) : Int) * m; omega
/-- What the labels tell in the end. -/
structure Done (A : List Ar) (src : List Nat) (n : Nat) (m : Int) (s : Lb) : Prop where
  J : DJ A src n m s
  arc : ∀ a ∈ A, s.d a.1 ≠ -1 → s.d a.2.1 ≠ -1 ∧ s.d a.2.1 ≤ s.d a.1 + a.2.2
  pre : ∀ v, s.d v ≠ -1 → s.h v ≠ 0 → ∃ a ∈ A, a.2.1 = v ∧ s.d a.1 ≠ -1 ∧ s.d a.1 + a.2.2 = s.d v ∧ s.h a.1 + 1 = s.h v
theorem DJ.ends (J : DJ A src n m s) (K : Clo A s [] u A) : Done A src n m s := by
  have hr : ∀ a ∈ A, s.d a.1 ≠ -1 → Rlx s a := fun a ha h => (K a.1 h).elim (fun h => by cases h) fun h => h a ha rfl fun _ => ha
  refine ⟨J, fun a ha h => ?_, fun v hv h0 => ?_⟩
  · obtain ⟨h1, h2⟩ := hr a ha h
    exact ⟨h1, by unfold le2 at h2; omega⟩
  · obtain ⟨a, ha, h1, h2, h3⟩ := J.pre v hv h0
    obtain ⟨h4, h5⟩ := hr a ha h2
    rw [h1] at h5
    refine ⟨a, ha, h1, h2, ?_, ?_⟩
    · unfold le2 at h3 h5; omega
    · unfold le2 at h3 h5; omega
end

end Go.Proofs.YtapphbmlkdhnmaaGreat

/- Plain law of flows: a way is filled. -/
namespace Go.Proofs.YtapphbmlkdhnmaaGreat
open Go.GV

/-- The arcs with room, with their lengths. -/
def arcL (g : Gr) (cap x p : Nat → Int) : List Ar := ((List.range (2 * g.E)).filter fun a => decide (0 < roomA cap x a)).map fun a => (g.u a, g.v a, g.len p a)
theorem arcL_mem {g : Gr} {cap x p : Nat → Int} {b : Ar} : b ∈ arcL g cap x p ↔ ∃ a, a < 2 * g.E ∧ 0 < roomA cap x a ∧ b = (g.u a, g.v a, g.len p a) := by
  unfold arcL
  rw [List.mem_map]
  constructor
  · rintro ⟨a, ha, rfl⟩
    rw [List.mem_filter, List.mem_range, decide_eq_true_eq] at ha
    exact ⟨a, ha.1, ha.2, rfl⟩
  · rintro ⟨a, h1, h2, rfl⟩
    exact ⟨a, List.mem_filter.2 ⟨List.mem_range.2 h1, decide_eq_true h2⟩, rfl⟩
theorem Fine.arcs {g : Gr} (hg : g.Ok) {cap x p : Nat → Int} (h : Fine g cap x p) {m : Int} (hm : ∀ a, a < 2 * g.E → g.len p a ≤ m) : Arcs (arcL g cap x p) g.N m := fun b hb => by
  obtain ⟨a, h1, h2, rfl⟩ := arcL_mem.1 hb
  exact ⟨hg.u h1, hg.v h1, h.fit a h1 h2, hm a h1⟩
/-- Where there is over somewhere, it is short somewhere that is reached. -/
theorem reach {g : Gr} (hg : g.Ok) {cap x p : Nat → Int} (h : Fine g cap x p) {src : List Nat} {m : Int} {s : Lb} (D : Done (arcL g cap x p) src g.N m s) {v : Nat} (hv : v < g.N) (hd : s.d v ≠ -1) (ho : 0 < over7 g x v) : ∃ w, w < g.N ∧ s.d w ≠ -1 ∧ over7 g x w < 0 := by
  refine Classical.byContradiction fun hn => ?_
  obtain ⟨r, hr⟩ : ∃ r : Nat → Int, r = fun v => if s.d v ≠ -1 then 1 else 0 := ⟨_, rfl⟩
  have hr1 : ∀ {v : Nat}, s.d v ≠ -1 → r v = 1 := fun {v} h => by rw [hr]; exact if_pos h
  have hr0 : ∀ {v : Nat}, s.d v = -1 → r v = 0 := fun {v} h => by rw [hr]; exact if_neg fun h2 => h2 h
  have h1 : 0 < sumTo (fun v => over7 g x v * r v) g.N := by
    refine sum_pos (j := v) (fun w hw => ?_) hv (by rw [hr1 hd]; omega)
    by_cases e : s.d w = -1
    · rw [hr0 e]; omega
    · rw [hr1 e]
      have := Int.not_lt.1 fun h5 => hn ⟨w, hw, e, h5⟩
      omega
  rw [over_w g hg x r] at h1
  have h2 : sumTo (fun i => (r (g.t i) - r (g.f i)) * x i) g.E ≤ sumTo (fun _ => 0) g.E := sum_le fun i hi => by
    obtain ⟨hx0, hx1⟩ := h.in' i hi
    by_cases e1 : s.d (g.t i) = -1
    · rw [hr0 e1]
      by_cases e2 : s.d (g.f i) = -1
      · rw [hr0 e2]; omega
      · rw [hr1 e2]; omega
    · rw [hr1 e1]
      by_cases e2 : s.d (g.f i) = -1
      · have e3 : x i = 0 := by
          rcases ltge 0 (x i) with h5 | h5
          · exfalso
            obtain ⟨a1, a2, a3⟩ := arc_odd g i
            have := D.arc _ (arcL_mem.2 ⟨2 * i + 1, by omega, by unfold roomA; rw [if_neg (by omega), show (2 * i + 1) / 2 = i by omega]; exact h5, rfl⟩) (by dsimp only; rw [a1]; exact e1)
            dsimp only at this
            rw [a2] at this
            exact this.1 e2
          · omega
        rw [e3]; omega
      · rw [hr1 e2]; omega
  rw [sum_zero] at h2
  omega
/-! ### A way back -/
structure Way1 (g : Gr) (cap x p : Nat → Int) (s : Lb) (a : Nat) : Prop where
  lt : a < 2 * g.E
  room : 0 < roomA cap x a
  du : s.d (g.u a) ≠ -1
  dv : s.d (g.v a) ≠ -1
  d : s.d (g.u a) + g.len p a = s.d (g.v a)
  h : s.h (g.u a) + 1 = s.h (g.v a)
/-- Each node's last arc. -/
def Bys (g : Gr) (cap x p : Nat → Int) (s : Lb) (by' : Nat → Option Nat) : Prop :=
  (∀ v, s.d v = -1 ∨ s.h v = 0 → by' v = none) ∧ ∀ v, s.d v ≠ -1 → s.h v ≠ 0 → ∃ a, by' v = some a ∧ Way1 g cap x p s a ∧ g.v a = v
def pathL (by' : Nat → Option Nat) (g : Gr) : Nat → Nat → List Nat
  | 0, _ => []
  | k + 1, v => match by' v with
    | none => []
    | some a => a :: pathL by' g k (g.u a)
def pathS (by' : Nat → Option Nat) (g : Gr) : Nat → Nat → Nat
  | 0, v => v
  | k + 1, v => match by' v with
    | none => v
    | some a => pathS by' g k (g.u a)
section
variable {g : Gr} {cap x p : Nat → Int} {s : Lb} {by' : Nat → Option Nat}
theorem path_succ {k v a : Nat} (h : by' v = some a) : pathL by' g (k + 1) v = a :: pathL by' g k (g.u a) ∧ pathS by' g (k + 1) v = pathS by' g k (g.u a) := by
  constructor
  · show (match by' v with | none => [] | some a => a :: pathL by' g k (g.u a)) = _
    rw [h]
  · show (match by' v with | none => v | some a => pathS by' g k (g.u a)) = _
    rw [h]
theorem path_spec (hB : Bys g cap x p s by') : ∀ {k v : Nat}, s.d v ≠ -1 → s.h v = k → (∀ a ∈ pathL by' g k v, Way1 g cap x p s a ∧ s.h (g.v a) ≤ k) ∧ (pathL by' g k v).Pairwise (fun a b => s.h (g.v b) < s.h (g.v a)) ∧ s.d (pathS by' g k v) ≠ -1 ∧ s.h (pathS by' g k v) = 0
  | 0, v, hd, hk => ⟨(fun a h => by cases h), List.Pairwise.nil, hd, hk⟩
  | k + 1, v, hd, hk => by
    obtain ⟨a, h1, h2, h3⟩ := hB.2 v hd (by omega)
    obtain ⟨e1, e2⟩ := path_succ (g := g) (k := k) h1
    have hh := h2.h
    rw [h3, hk] at hh
    obtain ⟨q1, q2, q3, q4⟩ := path_spec hB (k := k) h2.du (by omega)
    rw [e1, e2]
    refine ⟨fun b hb => ?_, List.Pairwise.cons (fun b hb => ?_) q2, q3, q4⟩
    · rcases List.mem_cons.1 hb with rfl | hb
      · exact ⟨h2, by rw [h3]; omega⟩
      · exact ⟨(q1 b hb).1, by have := (q1 b hb).2; omega⟩
    · have := (q1 b hb).2
      rw [h3]; omega
/-- No edge comes twice. -/
theorem path_edges (hB : Bys g cap x p s by') {k v : Nat} (hd : s.d v ≠ -1) (hk : s.h v = k) : (pathL by' g k v).Pairwise (fun a b => a / 2 ≠ b / 2) := by
  obtain ⟨q1, q2, -, -⟩ := path_spec hB hd hk
  refine List.Pairwise.imp_of_mem (R := fun a b => s.h (g.v b) < s.h (g.v a)) (fun {a b} ha hb hab he => ?_) q2
  have wa := (q1 a ha).1; have wb := (q1 b hb).1
  have h1 := wa.h; have h2 := wb.h
  by_cases e : a = b
  · rw [e] at hab; omega
  · have hm : a % 2 ≠ b % 2 := by omega
    have e1 : g.u a = g.v b := by
      unfold Gr.u Gr.v; rw [he]
      split
      · rw [if_neg (by omega)]
      · rw [if_pos (by omega)]
    have e2 : g.v a = g.u b := by
      unfold Gr.u Gr.v; rw [he]
      split
      · rw [if_neg (by omega)]
      · rw [if_pos (by omega)]
    rw [e1] at h1; rw [e2] at h1 hab
    omega
end
/-! ### Pushing -/
def pushF (m : Int) (x : Nat → Int) (a : Nat) : Nat → Int := fun i => if i = a / 2 then (if a % 2 = 0 then x i + m else x i - m) else x i
def pushL (m : Int) (x : Nat → Int) (l : List Nat) : Nat → Int := l.foldl (pushF m) x
theorem push_over (g : Gr) (m : Int) (x : Nat → Int) {a : Nat} (ha : a < 2 * g.E) (w : Nat) : over7 g (pushF m x a) w = over7 g x w + m * (one (g.v a = w) - one (g.u a = w)) := by
  have hi : a / 2 < g.E := by omega
  have h1 : over7 g (pushF m x a) w = sumTo (fun i => (one (g.t i = w) - one (g.f i = w)) * x i + one (a / 2 = i) * ((one (g.t i = w) - one (g.f i = w)) * (if a % 2 = 0 then m else -m))) g.E := sum_congr fun i _ => by
    by_cases e : i = a / 2
    · have h1 : pushF m x a i = if a % 2 = 0 then x i + m else x i - m := if_pos e
      have h2 : one (a / 2 = i) = 1 := if_pos e.symm
      rw [h1, h2]
      by_cases hp : a % 2 = 0
      · rw [if_pos hp, if_pos hp, Int.mul_add, Int.one_mul]
      · rw [if_neg hp, if_neg hp, Int.mul_sub, Int.one_mul, Int.mul_neg]; omega
    · have h1 : pushF m x a i = x i := if_neg e
      have h2 : one (a / 2 = i) = 0 := if_neg (Ne.symm e)
      rw [h1, h2]; omega
  rw [h1, sum_add, sum_one (fun i => (one (g.t i = w) - one (g.f i = w)) * (if a % 2 = 0 then m else -m)) hi]
  unfold over7 overK Gr.u Gr.v
  split
  · rw [Int.mul_comm m]
  · congr 1
    rw [Int.mul_neg, ← Int.neg_mul, Int.mul_comm m]; congr 1; omega
theorem pushes_over (g : Gr) (m : Int) {cap p : Nat → Int} {x0 : Nat → Int} {s : Lb} {by' : Nat → Option Nat} (hB : Bys g cap x0 p s by') (w : Nat) : ∀ {k v : Nat} (x : Nat → Int), s.d v ≠ -1 → s.h v = k → over7 g (pushL m x (pathL by' g k v)) w = over7 g x w + m * (one (v = w) - one (pathS by' g k v = w))
  | 0, v, x, _, _ => by
    show over7 g x w = over7 g x w + m * (one (v = w) - one (v = w))
    rw [Int.sub_self]; omega
  | k + 1, v, x, hd, hk => by
    obtain ⟨a, h1, h2, h3⟩ := hB.2 v hd (by omega)
    obtain ⟨e1, e2⟩ := path_succ (g := g) (k := k) h1
    have hh := h2.h
    rw [h3, hk] at hh
    rw [e1, e2]
    show over7 g (pushL m (pushF m x a) (pathL by' g k (g.u a))) w = _
    rw [pushes_over g m hB w (k := k) (pushF m x a) h2.du (by omega), push_over g m x h2.lt, h3, Int.add_assoc, ← Int.mul_add]
    congr 2; omega
theorem push_other {m : Int} {x : Nat → Int} : ∀ {l : List Nat} {i : Nat}, (∀ a ∈ l, a / 2 ≠ i) → pushL m x l i = x i
  | [], i, _ => rfl
  | a :: l, i, h => by
    show pushL m (pushF m x a) l i = _
    rw [push_other (l := l) fun b hb => h b (List.mem_cons_of_mem _ hb)]
    exact if_neg fun e => h a (List.mem_cons_self ..) e.symm
theorem push_at {m : Int} : ∀ {l : List Nat} {x : Nat → Int} {a : Nat}, l.Pairwise (fun a b => a / 2 ≠ b / 2) → a ∈ l → pushL m x l (a / 2) = if a % 2 = 0 then x (a / 2) + m else x (a / 2) - m
  | b :: l, x, a, hp, ha => by
    obtain ⟨h1, h2⟩ := List.pairwise_cons.1 hp
    show pushL m (pushF m x b) l (a / 2) = _
    by_cases e : a = b
    · subst e
      rw [push_other fun c hc => Ne.symm (h1 c hc)]
      exact if_pos rfl
    · have ha' := (List.mem_cons.1 ha).resolve_left e
      rw [push_at h2 ha']
      have : pushF m x b (a / 2) = x (a / 2) := if_neg (Ne.symm (h1 a ha'))
      rw [this]
/-- How much numbers are raised. -/
def rais (s : Lb) (D : Int) (v : Nat) : Int := if s.d v < 0 ∨ D < s.d v then D else s.d v
/-- Behind a way that is filled all fits. -/
theorem fill_fine {g : Gr} {cap x p : Nat → Int} (h : Fine g cap x p) {src : List Nat} {m0 : Int} {s : Lb} (D : Done (arcL g cap x p) src g.N m0 s) {by' : Nat → Option Nat} (hB : Bys g cap x p s by') {v : Nat} (hd : s.d v ≠ -1) {m : Int} (hm : 0 ≤ m) (hr : ∀ a ∈ pathL by' g (s.h v) v, m ≤ roomA cap x a) :
    Fine g cap (pushL m x (pathL by' g (s.h v) v)) (fun w => p w + rais s (s.d v) w) := by
  obtain ⟨q1, -, -, -⟩ := path_spec hB hd rfl
  have hpe := path_edges hB hd rfl
  have hlow := D.J.low
  have hdv := (hlow v).resolve_left hd
  have hlen : ∀ a, a < 2 * g.E → 0 < roomA cap x a → 0 ≤ g.len p a + rais s (s.d v) (g.u a) - rais s (s.d v) (g.v a) := fun a ha hra => by
    have h1 := h.fit a ha hra
    have h2 := D.arc _ (arcL_mem.2 ⟨a, ha, hra, rfl⟩)
    dsimp only at h2
    have h3 := hlow (g.u a); have h4 := hlow (g.v a)
    unfold rais
    by_cases e : s.d (g.u a) = -1
    · rw [if_pos (.inl (by omega))]
      split <;> omega
    · obtain ⟨h5, h6⟩ := h2 e
      split <;> split <;> omega
  have htight : ∀ a ∈ pathL by' g (s.h v) v, g.len p a + rais s (s.d v) (g.u a) - rais s (s.d v) (g.v a) = 0 := fun a ha => by
    -- all nodes of the way are no farther
    have hle : ∀ {k w : Nat}, s.d w ≠ -1 → s.h w = k → ∀ a ∈ pathL by' g k w, s.d (g.v a) ≤ s.d w := fun {k} => by
      induction k with
      | zero => intro w _ _ a ha; cases ha
      | succ k ih =>
        intro w hw hk a ha
        obtain ⟨b, h1, h2, h3⟩ := hB.2 w hw (by omega)
        obtain ⟨e1, -⟩ := path_succ (g := g) (k := k) h1
        rw [e1] at ha
        have hh := h2.h
        rw [h3, hk] at hh
        have hfit := h.fit b h2.lt h2.room
        have hdd := h2.d
        rw [h3] at hdd
        rcases List.mem_cons.1 ha with rfl | ha
        · rw [h3]; exact Int.le_refl _
        · have := ih h2.du (by omega) a ha; omega
    have h1 := hle hd rfl a ha
    have w1 := (q1 a ha).1
    have h2 := (hlow (g.u a)).resolve_left w1.du
    have h3 := (hlow (g.v a)).resolve_left w1.dv
    have h4 := w1.d
    have h5 := h.fit a w1.lt w1.room
    unfold rais
    rw [if_neg (by omega), if_neg (by omega)]
    omega
  have hone : ∀ i, i < g.E → (pushL m x (pathL by' g (s.h v) v) i = x i ∧ ∀ a ∈ pathL by' g (s.h v) v, a / 2 ≠ i) ∨ ∃ a ∈ pathL by' g (s.h v) v, a / 2 = i := fun i _ => by
    by_cases e : ∃ a ∈ pathL by' g (s.h v) v, a / 2 = i
    · exact .inr e
    · have : ∀ a ∈ pathL by' g (s.h v) v, a / 2 ≠ i := fun a ha he => e ⟨a, ha, he⟩
      exact .inl ⟨push_other this, this⟩
  have hz : ∀ i, i < g.E → (∃ a ∈ pathL by' g (s.h v) v, a / 2 = i) → g.co i + (p (g.f i) + rais s (s.d v) (g.f i)) - (p (g.t i) + rais s (s.d v) (g.t i)) = 0 := fun i hi ⟨a, ha, he⟩ => by
    have h1 := htight a ha
    unfold Gr.len at h1
    rcases (by omega : a = 2 * i ∨ a = 2 * i + 1) with rfl | rfl
    · obtain ⟨b, c, d⟩ := arc_even g i
      rw [b, c, d] at h1; omega
    · obtain ⟨b, c, d⟩ := arc_odd g i
      rw [b, c, d] at h1; omega
  refine Fine.of (fun i hi => ?_) (fun i hi hx => ?_) (fun i hi hx => ?_)
  · obtain ⟨h1, h2⟩ := h.in' i hi
    rcases hone i hi with ⟨e, _⟩ | ⟨a, ha, he⟩
    · rw [e]; exact ⟨h1, h2⟩
    · have h3 := hr a ha
      have h4 := push_at (m := m) (x := x) hpe ha
      rw [he] at h4
      rw [h4]
      unfold roomA at h3
      rw [he] at h3
      split
      · rename_i e; rw [if_pos e] at h3; omega
      · rename_i e; rw [if_neg e] at h3; omega
  · rcases hone i hi with ⟨e, _⟩ | e
    · rw [e] at hx
      have h1 := hlen (2 * i) (by omega) (by unfold roomA; rw [if_pos (by omega), show 2 * i / 2 = i by omega]; omega)
      obtain ⟨b, c, d⟩ := arc_even g i
      unfold Gr.len at h1
      rw [b, c, d] at h1
      omega
    · have := hz i hi e; omega
  · rcases hone i hi with ⟨e, _⟩ | e
    · rw [e] at hx
      have h1 := hlen (2 * i + 1) (by omega) (by unfold roomA; rw [if_neg (by omega), show (2 * i + 1) / 2 = i by omega]; exact hx)
      obtain ⟨b, c, d⟩ := arc_odd g i
      unfold Gr.len at h1
      rw [b, c, d] at h1
      omega
    · have := hz i hi e; omega
/-! ### How much stands over -/
def posI (x : Int) : Int := if 0 < x then x else 0
def excess (g : Gr) (x : Nat → Int) : Int := sumTo (fun v => posI (over7 g x v)) g.N
theorem excess_zero {g : Gr} (hg : g.Ok) {x : Nat → Int} (h : ∀ v, v < g.N → over7 g x v ≤ 0) : ∀ v, v < g.N → over7 g x v = 0 := fun v hv => by
  have h1 := over_all g hg x
  rcases ltge (over7 g x v) 0 with h2 | h2
  · have h3 := sum_pos (f := fun v => -over7 g x v) (k := g.N) (j := v) (fun i hi => by have := h i hi; omega) hv (by omega)
    rw [sum_neg, h1] at h3
    omega
  · have := h v hv; omega
theorem fill_less {g : Gr} {x x' : Nat → Int} {u v : Nat} {m : Int} (hu : u < g.N) (hm : 0 < m) (hmu : m ≤ over7 g x u) (hmv : m ≤ -over7 g x v) (h : ∀ w, over7 g x' w = over7 g x w + m * (one (v = w) - one (u = w))) : excess g x' + m ≤ excess g x := by
  have hne : u ≠ v := fun e => by subst e; omega
  have h1 : ∀ w, posI (over7 g x' w) ≤ posI (over7 g x w) - one (u = w) * m := fun w => by
    rw [h w]
    unfold one posI
    by_cases e1 : v = w
    · subst e1
      rw [if_pos rfl, if_neg hne]
      split <;> split <;> omega
    · rw [if_neg e1]
      by_cases e2 : u = w
      · subst e2
        rw [if_pos rfl]
        split <;> split <;> omega
      · rw [if_neg e2]
        split <;> split <;> omega
  have h2 := sum_le (k := g.N) fun w _ => h1 w
  rw [sum_sub, sum_one (fun _ => m) hu] at h2
  unfold excess; omega
theorem excess_nn (g : Gr) (x : Nat → Int) : 0 ≤ excess g x := sum_nonneg fun i _ => by unfold posI; split <;> omega

end Go.Proofs.YtapphbmlkdhnmaaGreat

/- Plain law of flows: finer caps; bounds. -/
namespace Go.Proofs.YtapphbmlkdhnmaaGreat
open Go.GV

/-- What flows once caps are finer: twice as much, and edges that gain are filled. -/
def finX (g : Gr) (cap' x p : Nat → Int) (i : Nat) : Int := if 2 * x i < cap' i ∧ g.co i + p (g.f i) - p (g.t i) < 0 then cap' i else 2 * x i
theorem finer_fine {g : Gr} {cap cap' x p : Nat → Int} (h : Fine g cap x p) (hc : ∀ i, i < g.E → 2 * cap i ≤ cap' i ∧ cap' i ≤ 2 * cap i + 1) : Fine g cap' (finX g cap' x p) p := by
  refine Fine.of (fun i hi => ?_) (fun i hi hx => ?_) (fun i hi hx => ?_)
  · obtain ⟨h1, h2⟩ := h.in' i hi; obtain ⟨h3, h4⟩ := hc i hi
    unfold finX; split <;> omega
  · unfold finX at hx
    split at hx
    · omega
    · rename_i h5
      rcases ltge (g.co i + p (g.f i) - p (g.t i)) 0 with h6 | h6
      · exact absurd ⟨hx, h6⟩ h5
      · exact h6
  · unfold finX at hx
    split at hx
    · rename_i h5; omega
    · exact h.bwd hi (by omega)
/-- Flows that are finer up to an edge. -/
def mixX (g : Gr) (cap' x p : Nat → Int) (k i : Nat) : Int := if i < k then finX g cap' x p i else 2 * x i
theorem mix_zero {g : Gr} {cap' x p : Nat → Int} {v : Nat} (h : over7 g x v = 0) : over7 g (mixX g cap' x p 0) v = 0 := by
  have h1 : over7 g (mixX g cap' x p 0) v = sumTo (fun i => 2 * ((one (g.t i = v) - one (g.f i = v)) * x i)) g.E := sum_congr fun i _ => by
    unfold mixX; rw [if_neg (by omega), Int.mul_left_comm]
  rw [h1, sum_mul]
  show 2 * over7 g x v = 0
  omega
theorem mix_succ {g : Gr} {cap' x p : Nat → Int} {k : Nat} (hk : k < g.E) (v : Nat) : over7 g (mixX g cap' x p (k + 1)) v = over7 g (mixX g cap' x p k) v + (finX g cap' x p k - 2 * x k) * (one (g.t k = v) - one (g.f k = v)) := by
  obtain ⟨b, c, -⟩ := arc_even g k
  have h := push_over g (finX g cap' x p k - 2 * x k) (mixX g cap' x p k) (a := 2 * k) (by omega) v
  rw [b, c] at h
  rw [← h]
  congr 1
  funext i
  have m1 : ∀ {k : Nat}, i < k → mixX g cap' x p k i = finX g cap' x p i := fun h => if_pos h
  have m2 : ∀ {k : Nat}, ¬ i < k → mixX g cap' x p k i = 2 * x i := fun h => if_neg h
  unfold pushF
  rw [show 2 * k / 2 = k by omega, if_pos (show 2 * k % 2 = 0 by omega)]
  by_cases e : i = k
  · subst e
    rw [if_pos rfl, m1 (by omega), m2 (by omega)]; omega
  · rw [if_neg e]
    by_cases e2 : i < k
    · rw [m1 (by omega), m1 e2]
    · rw [m2 (by omega), m2 e2]
theorem mix_end {g : Gr} {cap' x p : Nat → Int} {i : Nat} (hi : i < g.E) : mixX g cap' x p g.E i = finX g cap' x p i := if_pos hi
theorem over_congr {g : Gr} {x y : Nat → Int} (h : ∀ i, i < g.E → x i = y i) (v : Nat) : over7 g x v = over7 g y v := sum_congr fun i hi => by rw [h i hi]
/-- How much may come together. -/
theorem over_bnd {g : Gr} {x : Nat → Int} {c : Int} (v : Nat) : ∀ {k : Nat}, (∀ i, i < k → 0 ≤ x i ∧ x i ≤ c) → -(k * c) ≤ overK g x k v ∧ overK g x k v ≤ k * c
  | 0, _ => by show -(((0 : Nat) : Int) * c) ≤ 0 ∧ (0 : Int) ≤ ((0 : Nat) : Int) * c; omega
  | k + 1, h => by
    obtain ⟨h1, h2⟩ := over_bnd (g := g) v (k := k) fun i hi => h i (by omega)
    obtain ⟨h3, h4⟩ := h k (by omega)
    have e : ((k + 1 : Nat) : Int) * c = k * c + c := by rw [Int.natCast_add, Int.add_mul]; simp
    show _ ≤ overK g x k v + (one (g.t k = v) - one (g.f k = v)) * x k ∧ overK g x k v + (one (g.t k = v) - one (g.f k = v)) * x k ≤ _
    rw [e]
    unfold one
    split <;> split <;> omega
theorem fine_fea {g : Gr} {cap x p : Nat → Int} (h : Fine g cap x p) : Fea (((List.range (2 * g.E)).filter fun a => decide (0 < roomA cap x a)).map fun a => (g.u a, g.v a, g.c a)) p := fun b hb => by
  rw [List.mem_map] at hb
  obtain ⟨a, ha, rfl⟩ := hb
  rw [List.mem_filter, List.mem_range, decide_eq_true_eq] at ha
  have := h.fit a ha.1 ha.2
  unfold Gr.len at this
  dsimp only; omega
theorem fea_fine {g : Gr} {cap x p q : Nat → Int} (h : Fine g cap x p) (hq : Fea (((List.range (2 * g.E)).filter fun a => decide (0 < roomA cap x a)).map fun a => (g.u a, g.v a, g.c a)) q) : Fine g cap x q := by
  refine ⟨h.in', fun a ha hr => ?_⟩
  have := hq (g.u a, g.v a, g.c a) (List.mem_map.2 ⟨a, List.mem_filter.2 ⟨List.mem_range.2 ha, decide_eq_true hr⟩, rfl⟩)
  unfold Gr.len
  dsimp only at this; omega

end Go.Proofs.YtapphbmlkdhnmaaGreat

/- One rule for each kind of operation. It holds for every program. -/
namespace Go.GV
open Go

/-- The cells of a type's zero value. -/
def zcells (P : Program) (t : TypeId) : Option (List Value) := ((P.info? t).bind (·.zero)).map fun z => z.cells.toList
def tsize (P : Program) (t : TypeId) : Option Nat := (P.info? t).map (·.size)
def tbytes (P : Program) (t : TypeId) : Option Nat := (P.info? t).map (·.bytes)
def aggB (P : Program) (t : TypeId) : Option Bool := (P.underlying t).map fun d => match d with | .struct _ | .array _ _ => true | _ => false
def elemT (P : Program) (t : TypeId) : Option TypeId := match P.underlying t with | some (.slice e) => some e | _ => none
def arrT (P : Program) (t : TypeId) : Option (Nat × TypeId) := match P.underlying t with | some (.array n e) => some (n, e) | _ => none
/-- Where a field lies, if it has cells. -/
def fieldO (P : Program) (t : TypeId) (i : Nat) : Option Nat :=
  match P.underlying t with
  | some (.struct fs) => match fs[i]? with
    | some f => match tsize P f.type with
      | some (_ + 1) => some f.offset
      | _ => none
    | none => none
  | _ => none

section
variable {P : Program} {w : World}
theorem elemT_u {t e : TypeId} (h : elemT P t = some e) : P.underlying t = some (.slice e) := by
  unfold elemT at h
  split at h
  · rename_i hu; injection h with h; subst h; exact hu
  · cases h
theorem run_under {t : TypeId} {d : TypeDesc} (h : P.underlying t = some d) (w : World) : (underlying t).run P w = .ok d w := by
  simp [underlying, program, Sem.run, h]
theorem run_size {t : TypeId} {s : Nat} (h : tsize P t = some s) (w : World) : (sizeOf t).run P w = .ok s w := by
  unfold tsize at h
  cases hi : P.info? t with
  | none => rw [hi] at h; cases h
  | some i => rw [hi] at h; simp at h; simp [sizeOf, typeInfo, program, Sem.run, hi, h]
theorem run_zero {t : TypeId} {l : List Value} (h : zcells P t = some l) (w : World) : ∃ z, (zeroValue t).run P w = .ok z w ∧ z.cells.toList = l := by
  unfold zcells at h
  cases hi : P.info? t with
  | none => rw [hi] at h; cases h
  | some i =>
    rw [hi] at h
    simp only [Option.bind_some] at h
    cases hz : i.zero with
    | none => rw [hz] at h; cases h
    | some z =>
      rw [hz] at h
      simp only [Option.map_some, Option.some.injEq] at h
      exact ⟨z, by simp [zeroValue, typeInfo, program, Sem.run, hi, hz], h⟩
theorem run_isAgg {t : TypeId} {b : Bool} (h : aggB P t = some b) (w : World) : (isAgg t).run P w = .ok b w := by
  unfold aggB at h
  cases hu : P.underlying t with
  | none => rw [hu] at h; cases h
  | some d =>
    rw [hu] at h
    simp only [Option.map_some, Option.some.injEq] at h
    subst h
    simp only [isAgg, Sem.run_bind, run_under hu, Result.andThen_ok]
    cases d <;> rfl
theorem run_load1 {t : TypeId} (ha : aggB P t = some false) {p : Addr} {v : Value} (hc : w.cell? p = some v) : (loadVar t p).run P w = .ok v w := by
  simp [loadVar, run_isAgg ha, load, Sem.run, hc]
theorem run_cells {p : Addr} : ∀ (l : List Value) (i : Nat) (acc : Array Value), (∀ j v, l[j]? = some v → w.cell? (p.add (i + j)) = some v) →
    (loadCellsFrom p i l.length acc).run P w = .ok (acc ++ l.toArray) w
  | [], _, acc, _ => by simp [loadCellsFrom]
  | v :: l, i, acc, h => by
    have h0 := h 0 v rfl
    have ih := run_cells l (i + 1) (acc.push v) (fun j u hu => by have := h (j + 1) u (by simpa using hu); rwa [show i + 1 + j = i + (j + 1) from by omega])
    simp only [List.length_cons, loadCellsFrom, Sem.run_bind, load, Sem.run]
    simp only [Nat.add_zero] at h0
    rw [h0]
    simp only [Result.andThen_ok]
    rw [ih]
    simp
theorem add_none {b o i : Nat} : (Addr.add ⟨b, o, none⟩ i) = ⟨b, o + i, none⟩ := by
  unfold Addr.add
  split
  · subst_vars; rfl
  · rfl
theorem run_loadN {t : TypeId} {s : Nat} (ha : aggB P t = some true) (hs : tsize P t = some s) {b o : Nat} {l : List Value} (hl : l.length = s)
    (hc : ∀ j v, l[j]? = some v → w.cell? ⟨b, o + j, none⟩ = some v) : (loadVar t ⟨b, o, none⟩).run P w = .ok (.agg l.toArray) w := by
  have h := run_cells (P := P) (w := w) (p := ⟨b, o, none⟩) l 0 #[] (fun j v hv => by rw [add_none, Nat.zero_add]; exact hc j v hv)
  rw [hl] at h
  simp only [loadVar, Sem.run_bind, run_isAgg ha, Result.andThen_ok, if_true, run_size hs, loadCells, h]
  simp

def oneCell : Value → Bool
  | .agg _ | .tuple _ => false
  | _ => true
theorem cells_one {v : Value} (h : oneCell v = true) : v.cells = #[v] := by
  cases v <;> first | rfl | cases h
theorem run_store1 {p : Addr} {v u : Value} (hv : oneCell v = true) (hc : w.cell? p = some u) (hf : w.frozen? p = false) : (store p v).run P w = .ok () (w.setCell p v) := by
  cases v <;> first | (simp [store, Sem.run, hc, hf]; done) | cases hv
theorem run_storeVar1 {t : TypeId} {p : Addr} {v u : Value} (hs : tsize P t = some 1) (hv : oneCell v = true) (hc : w.cell? p = some u) (hf : w.frozen? p = false) :
    (storeVar t p v).run P w = .ok () (w.setCell p v) := by
  have h0 : p.add 0 = p := by unfold Addr.add; simp
  simp [storeVar, cells_one hv, run_size hs, storeCells, h0, run_store1 hv hc hf]

/-- vs written over l from i on. -/
def over (l : List Value) (i : Nat) : List Value → List Value
  | [] => l
  | v :: vs => over (l.set i v) (i + 1) vs

theorem over_length : ∀ (vs l : List Value) (i : Nat), (over l i vs).length = l.length
  | [], _, _ => rfl
  | v :: vs, l, i => by simp [over, over_length vs]

theorem over_full : ∀ (vs a l : List Value), l.length = vs.length → over (a ++ l) a.length vs = a ++ vs
  | [], a, l, h => by
    have : l = [] := List.eq_nil_of_length_eq_zero (by simpa using h)
    subst this; rfl
  | v :: vs, a, [], h => by simp at h
  | v :: vs, a, x :: l, h => by
    have ih := over_full vs (a ++ [v]) l (by simpa using h)
    simp only [over]
    have hset : (a ++ x :: l).set a.length v = (a ++ [v]) ++ l := by simp
    rw [hset]
    have hlen : a.length + 1 = (a ++ [v]).length := by simp
    rw [hlen, ih]
    simp

theorem over_all {l vs : List Value} (h : l.length = vs.length) : over l 0 vs = vs := by
  have := over_full vs [] l h
  simpa using this

theorem run_storeCells {b : Nat} {t : TypeId} {o : Nat} : ∀ (vs : List Value) (l : List Value) (w : World) (i : Nat), (∀ v ∈ vs, oneCell v = true) → w.heap[b]? = some (Bl t l) → o + i + vs.length ≤ l.length →
    ∃ w', (storeCells ⟨b, o, none⟩ vs i).run P w = .ok () w' ∧ Ext [b] w w' ∧ w'.heap[b]? = some (Bl t (over l (o + i) vs))
  | [], l, w, i, _, hb, _ => ⟨w, rfl, Ext.refl _ _, hb⟩
  | v :: vs, l, w, i, h1, hb, hl => by
    simp only [List.length_cons] at hl
    have hc : w.cell? ⟨b, o + i, none⟩ = some (l[o + i]'(by omega)) := by rw [cell_bl hb]; exact List.getElem?_eq_getElem (by omega)
    have hs := run_store1 (P := P) (h1 v (by simp)) hc (frozen_bl hb _)
    rw [setCell_bl hb] at hs
    obtain ⟨w', hr, he, hb'⟩ := run_storeCells (o := o) vs (l.set (o + i) v) _ (i + 1) (fun u hu => h1 u (by simp [hu])) (setB_same hb (o' := Bl t (l.set (o + i) v))) (by simp; omega)
    refine ⟨w', ?_, (Ext.setB w b _).trans he, ?_⟩
    · simp only [storeCells, Sem.run_bind, add_none, hs, Result.andThen_ok, hr]
    · simpa [over, Nat.add_assoc] using hb'
end

section
variable {P : Program} {r : Option Nat} {ops rest : List Oper} {Q : Exit → Env → World → Prop} {e : Env} {w w0 : World} {S : List Nat} {L : List (Nat × Obj)}
  {dst : Option Tmp} {ty : TypeId} {pos : String} {af : Array Edge} {g : Option (Nat × Bool)}

theorem op_val {o : Oper} {v : Value} {w' : World} (hg : wants o ops e = true) (hd : nodef o.op = true) (hrun : (execOp (ev e) o).run P w = .ok (.value v) w')
    (h : Wops P r ops Q rest (put e o.dst v) w') : Wops P r ops Q (o :: rest) e w := by
  unfold Wops
  rw [if_pos hg, Oper.semAt_eq r _ _ (nodef_ne hd), hrun]
  exact h
theorem op_unit {o : Oper} {w' : World} (hg : wants o ops e = true) (hd : nodef o.op = true) (hrun : (execOp (ev e) o).run P w = .ok .skip w')
    (h : Wops P r ops Q rest (put e o.dst undef) w') : Wops P r ops Q (o :: rest) e w := by
  unfold Wops
  rw [if_pos hg, Oper.semAt_eq r _ _ (nodef_ne hd), hrun]
  exact h
theorem op_skip {o : Oper} (hg : wants o ops e = false) (h : Wops P r ops Q rest (put e o.dst undef) w) : Wops P r ops Q (o :: rest) e w := by
  unfold Wops
  rw [if_neg (by rw [hg]; simp)]
  exact h
theorem op_nil (h : Q .normal e w) : Wops P r ops Q [] e w := h

theorem op_move {x : Operand} (hg : wants ⟨dst, .move x, ty, pos, af, g⟩ ops e = true) (v : Value) (hx : ev e x = v) (h : Wops P r ops Q rest (put e dst v) w) :
    Wops P r ops Q (⟨dst, .move x, ty, pos, af, g⟩ :: rest) e w := op_val hg rfl (by simp [execOp, hx]) h
theorem op_assign {x : Operand} (hg : wants ⟨dst, .assign x, ty, pos, af, g⟩ ops e = true) (v : Value) (hx : ev e x = v) (h : Wops P r ops Q rest (put e dst v) w) :
    Wops P r ops Q (⟨dst, .assign x, ty, pos, af, g⟩ :: rest) e w := op_val hg rfl (by simp [execOp, hx]) h
theorem op_pick1 {c a b : Operand} (hg : wants ⟨dst, .pick c a b, ty, pos, af, g⟩ ops e = true) (hc : ev e c = .bool true) (v : Value) (hx : ev e a = v) (h : Wops P r ops Q rest (put e dst v) w) :
    Wops P r ops Q (⟨dst, .pick c a b, ty, pos, af, g⟩ :: rest) e w := op_val hg rfl (by simp [execOp, hc, hx, asBool]) h
theorem op_pick0 {c a b : Operand} (hg : wants ⟨dst, .pick c a b, ty, pos, af, g⟩ ops e = true) (hc : ev e c = .bool false) (v : Value) (hx : ev e b = v) (h : Wops P r ops Q rest (put e dst v) w) :
    Wops P r ops Q (⟨dst, .pick c a b, ty, pos, af, g⟩ :: rest) e w := op_val hg rfl (by simp [execOp, hc, hx, asBool]) h

/-! ### Numbers -/
theorem run_bin {op : BinOp} {t t2 : TypeId} {x y : Operand} {k k2 : IntKind} {a b : Int} {v : Value} {w : World} (hx : ev e x = .int k a) (hy : ev e y = .int k2 b) (h : (binOp op t (.int k a) (.int k2 b)).run P w = .ok v w) :
    (execOp (ev e) ⟨dst, .binOp op t x y t2, ty, pos, af, g⟩).run P w = .ok (.value v) w := by
  have hq : eqGuard op t x y (.int k a) (.int k2 b) = pure () := by cases op <;> rfl
  simp [execOp, hx, hy, hq, h]

section
variable {t t2 : TypeId} {x y : Operand} {k : IntKind} {a b : Int}
theorem op_lss (hg : wants ⟨dst, .binOp .lss t x y t2, ty, pos, af, g⟩ ops e = true) (hx : ev e x = .int k a) (hy : ev e y = .int k b) (h : Wops P r ops Q rest (put e dst (.bool (decide (a < b)))) w) :
    Wops P r ops Q (⟨dst, .binOp .lss t x y t2, ty, pos, af, g⟩ :: rest) e w := op_val hg rfl (run_bin hx hy (by simp [binOp, Op.intCmp])) h
theorem op_leq (hg : wants ⟨dst, .binOp .leq t x y t2, ty, pos, af, g⟩ ops e = true) (hx : ev e x = .int k a) (hy : ev e y = .int k b) (h : Wops P r ops Q rest (put e dst (.bool (decide (a ≤ b)))) w) :
    Wops P r ops Q (⟨dst, .binOp .leq t x y t2, ty, pos, af, g⟩ :: rest) e w := op_val hg rfl (run_bin hx hy (by simp [binOp, Op.intCmp])) h
theorem op_gtr (hg : wants ⟨dst, .binOp .gtr t x y t2, ty, pos, af, g⟩ ops e = true) (hx : ev e x = .int k a) (hy : ev e y = .int k b) (h : Wops P r ops Q rest (put e dst (.bool (decide (b < a)))) w) :
    Wops P r ops Q (⟨dst, .binOp .gtr t x y t2, ty, pos, af, g⟩ :: rest) e w := op_val hg rfl (run_bin hx hy (by simp [binOp, Op.intCmp])) h
theorem op_geq (hg : wants ⟨dst, .binOp .geq t x y t2, ty, pos, af, g⟩ ops e = true) (hx : ev e x = .int k a) (hy : ev e y = .int k b) (h : Wops P r ops Q rest (put e dst (.bool (decide (b ≤ a)))) w) :
    Wops P r ops Q (⟨dst, .binOp .geq t x y t2, ty, pos, af, g⟩ :: rest) e w := op_val hg rfl (run_bin hx hy (by simp [binOp, Op.intCmp])) h
theorem op_eql (hg : wants ⟨dst, .binOp .eql t x y t2, ty, pos, af, g⟩ ops e = true) (hx : ev e x = .int k a) (hy : ev e y = .int k b) (h : Wops P r ops Q rest (put e dst (.bool (decide (a = b)))) w) :
    Wops P r ops Q (⟨dst, .binOp .eql t x y t2, ty, pos, af, g⟩ :: rest) e w :=
  op_val hg rfl (run_bin hx hy (v := .bool (decide (a = b))) (by simp [binOp, Op.intCmp]; rfl)) h
theorem op_neq (hg : wants ⟨dst, .binOp .neq t x y t2, ty, pos, af, g⟩ ops e = true) (hx : ev e x = .int k a) (hy : ev e y = .int k b) (h : Wops P r ops Q rest (put e dst (.bool (!decide (a = b)))) w) :
    Wops P r ops Q (⟨dst, .binOp .neq t x y t2, ty, pos, af, g⟩ :: rest) e w :=
  op_val hg rfl (run_bin hx hy (v := .bool (!decide (a = b))) (by simp [binOp, Op.intCmp]; rfl)) h

theorem wrap_in {k : IntKind} {n : Int} (h : k.min ≤ n) (h2 : n ≤ k.max) : k.wrap n = n := by
  cases k <;> simp [IntKind.min, IntKind.max, IntKind.wrap, IntKind.signed, IntKind.bits] at * <;> omega

/-- '/' and '%' of numbers that are not below 0, by one above it. -/
theorem op_quo (hg : wants ⟨dst, .binOp .quo t x y t2, ty, pos, af, g⟩ ops e = true) (hx : ev e x = .int k a) (hy : ev e y = .int k b) (h0 : 0 ≤ a) (hb : 0 < b) (h2 : a ≤ k.max)
    (h : Wops P r ops Q rest (put e dst (.int k (a / b))) w) : Wops P r ops Q (⟨dst, .binOp .quo t x y t2, ty, pos, af, g⟩ :: rest) e w := by
  refine op_val hg rfl (run_bin hx hy (v := .int k (a / b)) ?_) h
  have h3 : a.tdiv b = a / b := Int.tdiv_eq_ediv_of_nonneg h0
  have h4 : 0 ≤ a / b := Int.ediv_nonneg h0 (by omega)
  have h5 : a / b ≤ a := Int.ediv_le_self _ h0
  have h6 : k.min ≤ 0 := by cases k <;> decide
  simp [binOp, Op.intDiv, h3, show ¬ b = 0 from by omega, wrap_in (k := k) (n := a / b) (by omega) (by omega)]
theorem op_rem (hg : wants ⟨dst, .binOp .rem t x y t2, ty, pos, af, g⟩ ops e = true) (hx : ev e x = .int k a) (hy : ev e y = .int k b) (h0 : 0 ≤ a) (hb : 0 < b)
    (h : Wops P r ops Q rest (put e dst (.int k (a % b))) w) : Wops P r ops Q (⟨dst, .binOp .rem t x y t2, ty, pos, af, g⟩ :: rest) e w := by
  refine op_val hg rfl (run_bin hx hy (v := .int k (a % b)) ?_) h
  have h3 : a.tmod b = a % b := Int.tmod_eq_emod_of_nonneg h0
  simp [binOp, Op.intDiv, h3, show ¬ b = 0 from by omega]
end

theorem op_not {t : TypeId} {x : Operand} {b : Bool} (hg : wants ⟨dst, .unOp .not t x, ty, pos, af, g⟩ ops e = true) (hx : ev e x = .bool b) (h : Wops P r ops Q rest (put e dst (.bool (!b))) w) :
    Wops P r ops Q (⟨dst, .unOp .not t x, ty, pos, af, g⟩ :: rest) e w := op_val hg rfl (by simp [execOp, hx, Op.unary]) h
theorem op_neg {t : TypeId} {x : Operand} {k : IntKind} {a : Int} (hg : wants ⟨dst, .unOp .neg t x, ty, pos, af, g⟩ ops e = true) (hx : ev e x = .int k a) (h1 : k.min ≤ - a) (h2 : - a ≤ k.max)
    (h : Wops P r ops Q rest (put e dst (.int k (- a))) w) :
    Wops P r ops Q (⟨dst, .unOp .neg t x, ty, pos, af, g⟩ :: rest) e w := op_val hg rfl (by simp [execOp, hx, Op.unary, Op.intArith, wrap_in h1 h2]) h
/-- From one kind of integers to another, the number fits. -/
theorem op_conv {s d : TypeId} {x : Operand} {k k2 : IntKind} {a : Int} {ds : TypeDesc} (hg : wants ⟨dst, .convert s d x, ty, pos, af, g⟩ ops e = true) (hx : ev e x = .int k a)
    (hs : P.underlying s = some ds) (hd : P.underlying d = some (.int k2)) (h1 : k2.min ≤ a) (h2 : a ≤ k2.max)
    (h : Wops P r ops Q rest (put e dst (.int k2 a)) w) :
    Wops P r ops Q (⟨dst, .convert s d x, ty, pos, af, g⟩ :: rest) e w :=
  op_val hg rfl (by simp [execOp, hx, convert, run_under hs, run_under hd, Conv.intToInt, wrap_in h1 h2]) h
/-! ### Memory -/
theorem op_alloc {t : TypeId} {l : List Value} (hg : wants ⟨dst, .alloc t, ty, pos, af, g⟩ ops e = true) (hz : zcells P t = some l) (H : Ctx w0 S w L)
    (h : ∀ b w', w.heap.size = b → Ctx w0 S w' ((b, Bl t l) :: L) → Wops P r ops Q rest (put e dst (.pointer (some ⟨b, 0, none⟩))) w') :
    Wops P r ops Q (⟨dst, .alloc t, ty, pos, af, g⟩ :: rest) e w := by
  obtain ⟨z, hz1, hz2⟩ := run_zero hz w
  refine op_val (w' := w.alloc (Bl t l)) (v := .pointer (some ⟨w.heap.size, 0, none⟩)) hg rfl ?_ (h _ _ rfl (H.alloc _))
  simp only [execOp, Instr.alloc, Sem.run_bind, hz1, Result.andThen_ok, newVar, newRow, newObj, Sem.run]
  have : z.cells = l.toArray := by rw [← hz2]
  rw [this]
  rfl
theorem op_box {t : TypeId} {x : Operand} (hg : wants ⟨dst, .box t x, ty, pos, af, g⟩ ops e = true) (l : List Value) (v : Value) (hx : ev e x = v) (hl : v.cells = l.toArray) (H : Ctx w0 S w L)
    (h : ∀ b w', w.heap.size = b → Ctx w0 S w' ((b, Bl t l) :: L) → Wops P r ops Q rest (put e dst (.pointer (some ⟨b, 0, none⟩))) w') :
    Wops P r ops Q (⟨dst, .box t x, ty, pos, af, g⟩ :: rest) e w := by
  refine op_val (w' := w.alloc (Bl t l)) (v := .pointer (some ⟨w.heap.size, 0, none⟩)) hg rfl ?_ (h _ _ rfl (H.alloc _))
  simp only [execOp, Instr.box, hx, hl, newVar, newRow, newObj, Sem.run_bind, Sem.run, Result.andThen_ok]
  rfl
/-- A load of one cell: what lies there is known. -/
theorem op_ld {t : TypeId} {x : Operand} {p : Addr} {v : Value} (hg : wants ⟨dst, .load t x, ty, pos, af, g⟩ ops e = true) (ha : aggB P t = some false) (hx : ev e x = .pointer (some p)) (hc : w.cell? p = some v)
    (h : Wops P r ops Q rest (put e dst v) w) : Wops P r ops Q (⟨dst, .load t x, ty, pos, af, g⟩ :: rest) e w :=
  op_val hg rfl (by simp [execOp, hx, Instr.loadAt, Instr.sureAddr, run_load1 ha hc]) h
/-- .. out of a block that is known. -/
theorem op_ldb {t t2 : TypeId} {x : Operand} {b i k : Nat} {l : List Value} {v : Value} (hg : wants ⟨dst, .load t x, ty, pos, af, g⟩ ops e = true) (ha : aggB P t = some false) (hx : ev e x = .pointer (some ⟨b, i, none⟩))
    (H : Ctx w0 S w L) (hk : L[k]? = some (b, Bl t2 l)) (hc : l[i]? = some v)
    (h : Wops P r ops Q rest (put e dst v) w) : Wops P r ops Q (⟨dst, .load t x, ty, pos, af, g⟩ :: rest) e w :=
  op_ld hg ha hx (by rw [cell_bl (H.get hk)]; exact hc) h
/-- A load of a struct or an array. -/
theorem op_ldN {t : TypeId} {x : Operand} {b o s : Nat} (l : List Value) (hg : wants ⟨dst, .load t x, ty, pos, af, g⟩ ops e = true) (ha : aggB P t = some true) (hs : tsize P t = some s) (hx : ev e x = .pointer (some ⟨b, o, none⟩))
    (hl : l.length = s) (hc : ∀ j v, l[j]? = some v → w.cell? ⟨b, o + j, none⟩ = some v)
    (h : Wops P r ops Q rest (put e dst (.agg l.toArray)) w) : Wops P r ops Q (⟨dst, .load t x, ty, pos, af, g⟩ :: rest) e w :=
  op_val hg rfl (by simp [execOp, hx, Instr.loadAt, Instr.sureAddr, run_loadN ha hs hl hc]) h
/-- .. a whole block. -/
theorem op_ldbN {t t2 : TypeId} {x : Operand} {b s k : Nat} {l : List Value} (hg : wants ⟨dst, .load t x, ty, pos, af, g⟩ ops e = true) (ha : aggB P t = some true) (hs : tsize P t = some s) (hx : ev e x = .pointer (some ⟨b, 0, none⟩))
    (H : Ctx w0 S w L) (hk : L[k]? = some (b, Bl t2 l)) (hl : l.length = s)
    (h : Wops P r ops Q rest (put e dst (.agg l.toArray)) w) : Wops P r ops Q (⟨dst, .load t x, ty, pos, af, g⟩ :: rest) e w :=
  op_ldN l hg ha hs hx hl (fun j v hv => by rw [cell_bl (H.get hk), Nat.zero_add]; exact hv) h
/-- A store of one cell into a block that is known. -/
theorem op_stb {t t2 : TypeId} {x y : Operand} {b i k : Nat} {l : List Value} (v : Value) (hg : wants ⟨dst, .store t x y, ty, pos, af, g⟩ ops e = true) (hs : tsize P t = some 1) (hx : ev e x = .pointer (some ⟨b, i, none⟩)) (hy : ev e y = v)
    (hv : oneCell v = true) (H : Ctx w0 S w L) (hk : L[k]? = some (b, Bl t2 l)) (hi : i < l.length)
    (h : ∀ w', Ctx w0 S w' (L.set k (b, Bl t2 (l.set i v))) → Wops P r ops Q rest (put e dst undef) w') : Wops P r ops Q (⟨dst, .store t x y, ty, pos, af, g⟩ :: rest) e w := by
  have hb := H.get hk
  have hc : w.cell? ⟨b, i, none⟩ = some l[i] := by rw [cell_bl hb]; exact List.getElem?_eq_getElem hi
  refine op_unit (w' := w.setCell ⟨b, i, none⟩ v) hg rfl ?_ (h _ ?_)
  · simp [execOp, hx, hy, Instr.storeAt, Instr.sureAddr, run_storeVar1 hs hv hc (frozen_bl hb _)]
  · rw [setCell_bl hb]; exact H.setB hk _
/-- A store of a struct or an array. -/
theorem op_stbN {t t2 : TypeId} {x y : Operand} {b o k s : Nat} {l vs : List Value} (hg : wants ⟨dst, .store t x y, ty, pos, af, g⟩ ops e = true) (hs : tsize P t = some s) (hx : ev e x = .pointer (some ⟨b, o, none⟩)) (hy : ev e y = .agg vs.toArray)
    (hlen : vs.length = s) (hv : ∀ v ∈ vs, oneCell v = true) (H : Ctx w0 S w L) (hk : L[k]? = some (b, Bl t2 l)) (hi : o + s ≤ l.length)
    (h : ∀ w', Ctx w0 S w' (L.set k (b, Bl t2 (over l o vs))) → Wops P r ops Q rest (put e dst undef) w') : Wops P r ops Q (⟨dst, .store t x y, ty, pos, af, g⟩ :: rest) e w := by
  obtain ⟨w', hr, he, hb⟩ := run_storeCells (P := P) (o := o) vs l w 0 hv (H.get hk) (by omega)
  refine op_unit (w' := w') hg rfl ?_ (h _ (H.turn hk _ he (by simpa using hb)))
  simp [execOp, hx, hy, Instr.storeAt, Instr.sureAddr, storeVar, Value.cells, run_size hs, hlen, hr]
/-- .. a whole block. -/
theorem op_stb0 {t t2 : TypeId} {x y : Operand} {b k s : Nat} {l vs : List Value} (hg : wants ⟨dst, .store t x y, ty, pos, af, g⟩ ops e = true) (hs : tsize P t = some s) (hx : ev e x = .pointer (some ⟨b, 0, none⟩)) (hy : ev e y = .agg vs.toArray)
    (hlen : vs.length = s) (hv : ∀ v ∈ vs, oneCell v = true) (H : Ctx w0 S w L) (hk : L[k]? = some (b, Bl t2 l)) (hi : l.length = s)
    (h : ∀ w', Ctx w0 S w' (L.set k (b, Bl t2 vs)) → Wops P r ops Q rest (put e dst undef) w') : Wops P r ops Q (⟨dst, .store t x y, ty, pos, af, g⟩ :: rest) e w :=
  op_stbN hg hs hx hy hlen hv H hk (by omega) (fun w' H' => h w' (by rw [over_all (by omega)] at H'; exact H'))
theorem op_nilCheck {x : Operand} {p : Addr} (hg : wants ⟨dst, .nilCheck x, ty, pos, af, g⟩ ops e = true) (hx : ev e x = .pointer (some p)) (h : Wops P r ops Q rest (put e dst (.pointer (some p))) w) :
    Wops P r ops Q (⟨dst, .nilCheck x, ty, pos, af, g⟩ :: rest) e w := op_val hg rfl (by simp [execOp, hx]) h
theorem op_fieldAddr {t : TypeId} {x : Operand} {i b o off : Nat} (hg : wants ⟨dst, .fieldAddr t x i, ty, pos, af, g⟩ ops e = true) (hf : fieldO P t i = some off) (hx : ev e x = .pointer (some ⟨b, o, none⟩))
    (h : Wops P r ops Q rest (put e dst (.pointer (some ⟨b, o + off, none⟩))) w) :
    Wops P r ops Q (⟨dst, .fieldAddr t x i, ty, pos, af, g⟩ :: rest) e w := by
  unfold fieldO at hf
  split at hf
  · rename_i fs hu
    split at hf
    · rename_i f hf1
      split at hf
      · rename_i s hs
        injection hf with hf
        subst hf
        exact op_val hg rfl (by simp [execOp, hx, Instr.fieldAt, run_under hu, hf1, Instr.sureAddr, fieldPlace, run_size hs, add_none]) h
      · cases hf
    · cases hf
  · cases hf
theorem op_indexAddr {t el : TypeId} {x y : Operand} {b o n c s : Nat} {k : IntKind} {i : Int} (hg : wants ⟨dst, .indexAddr t x y, ty, pos, af, g⟩ ops e = true) (hu : elemT P t = some el) (hs : tsize P el = some s)
    (hx : ev e x = .slice (some ⟨b, o, none⟩) n c) (hy : ev e y = .int k i) (h0 : 0 ≤ i) (h1 : i < n)
    (h : Wops P r ops Q rest (put e dst (.pointer (some ⟨b, o + i.toNat * s, none⟩))) w) :
    Wops P r ops Q (⟨dst, .indexAddr t x y, ty, pos, af, g⟩ :: rest) e w :=
  op_val hg rfl (by simp [execOp, hx, hy, Instr.indexAt, asIntOf, run_under (elemT_u hu), h0, h1, run_size hs, add_none]) h
/-- .. of a slice whose address is a letter. -/
theorem op_indexRd {t el : TypeId} {x y : Operand} {a : Option Addr} {n c s : Nat} {k : IntKind} {i : Int} {α : Type} {enc : α → List Value} {xs : List α} {w1 : World} (R : Rd w1 a s enc xs)
    (hg : wants ⟨dst, .indexAddr t x y, ty, pos, af, g⟩ ops e = true) (hu : elemT P t = some el) (hs : tsize P el = some s)
    (hx : ev e x = .slice a n c) (hy : ev e y = .int k i) (h0 : 0 ≤ i) (h1 : i < n) (hn : n = xs.length)
    (h : Wops P r ops Q rest (put e dst (.pointer (some ⟨(adr a).block, (adr a).off + i.toNat * s, none⟩))) w) :
    Wops P r ops Q (⟨dst, .indexAddr t x y, ty, pos, af, g⟩ :: rest) e w := by
  obtain ⟨b, o, rfl⟩ := R.some' (by rintro rfl; simp at hn; omega)
  exact op_indexAddr hg hu hs hx hy h0 h1 h
theorem op_len {t : TypeId} {x : Operand} {a : Option Addr} {n c : Nat} {el : TypeId} (hg : wants ⟨dst, .call ⟨.builtin .len, #[x], #[t]⟩, ty, pos, af, g⟩ ops e = true) (hu : elemT P t = some el) (hx : ev e x = .slice a n c)
    (h : Wops P r ops Q rest (put e dst (.int .i64 n)) w) :
    Wops P r ops Q (⟨dst, .call ⟨.builtin .len, #[x], #[t]⟩, ty, pos, af, g⟩ :: rest) e w :=
  op_val hg rfl (by simp [execOp, resolve, invoke, builtin, hx, Builtin.len_, run_under (elemT_u hu), goInt]) h
theorem op_min2 {t1 t2 : TypeId} {x y : Operand} {k : IntKind} {a b : Int} (hg : wants ⟨dst, .call ⟨.builtin .min, #[x, y], #[t1, t2]⟩, ty, pos, af, g⟩ ops e = true) (hx : ev e x = .int k a) (hy : ev e y = .int k b)
    (h : Wops P r ops Q rest (put e dst (.int k (min a b))) w) :
    Wops P r ops Q (⟨dst, .call ⟨.builtin .min, #[x, y], #[t1, t2]⟩, ty, pos, af, g⟩ :: rest) e w :=
  op_val hg rfl (by
    have : (if b < a then b else a) = min a b := by rw [Int.min_def]; split <;> split <;> omega
    simp [execOp, resolve, invoke, builtin, hx, hy, Builtin.min_, Builtin.min2, this]) h
theorem op_max2 {t1 t2 : TypeId} {x y : Operand} {k : IntKind} {a b : Int} (hg : wants ⟨dst, .call ⟨.builtin .max, #[x, y], #[t1, t2]⟩, ty, pos, af, g⟩ ops e = true) (hx : ev e x = .int k a) (hy : ev e y = .int k b)
    (h : Wops P r ops Q rest (put e dst (.int k (max a b))) w) :
    Wops P r ops Q (⟨dst, .call ⟨.builtin .max, #[x, y], #[t1, t2]⟩, ty, pos, af, g⟩ :: rest) e w :=
  op_val hg rfl (by
    have : (if a < b then b else a) = max a b := by rw [Int.max_def]; split <;> split <;> omega
    simp [execOp, resolve, invoke, builtin, hx, hy, Builtin.max_, Builtin.max2, this]) h
theorem op_makeFunc {fn : Fn} {first cap : Array Operand} (hg : wants ⟨dst, .makeFunc fn first cap, ty, pos, af, g⟩ ops e = true) (h : Wops P r ops Q rest (put e dst (.func fn (first.map (ev e)) (cap.map (ev e)))) w) :
    Wops P r ops Q (⟨dst, .makeFunc fn first cap, ty, pos, af, g⟩ :: rest) e w :=
  op_val hg rfl (by simp [execOp, Instr.makeFunc]) h
theorem op_extract {x : Operand} {i : Nat} {vs : Array Value} {v : Value} (hg : wants ⟨dst, .extract x i, ty, pos, af, g⟩ ops e = true) (hx : ev e x = .tuple vs) (hv : vs[i]? = some v) (h : Wops P r ops Q rest (put e dst v) w) :
    Wops P r ops Q (⟨dst, .extract x i, ty, pos, af, g⟩ :: rest) e w :=
  op_val hg rfl (by simp [execOp, hx, Instr.extract, hv]) h
end
end Go.GV

/- Calls; slices that a call makes, cuts, appends to. It holds for every program. -/
namespace Go.GV
open Go

section
variable {P : Program} {r : Option Nat} {ops rest : List Oper} {Q : Exit → Env → World → Prop} {e : Env} {w w0 : World} {S : List Nat} {L : List (Nat × Obj)}
  {dst : Option Tmp} {ty : TypeId} {pos : String} {af : Array Edge} {g : Option (Nat × Bool)}

theorem op_enter {o : Oper} {f : FuncId} {args : Array Value} {w' : World} {R : Value → World → Prop} (hg : wants o ops e = true) (hd : nodef o.op = true) (hrun : (execOp (ev e) o).run P w = .ok (.enter f args) w')
    (hc : Ret P f args w' R) (h : ∀ v w'', R v w'' → Wops P r ops Q rest (put e o.dst v) w'') : Wops P r ops Q (o :: rest) e w := by
  unfold Wops
  rw [if_pos hg, Oper.semAt_eq r _ _ (nodef_ne hd), hrun]
  exact Ret.mono hc h

/-- A call of a function by its name. -/
theorem op_call {f : FuncId} {args : Array Operand} {ats : Array TypeId} {l : List Value} {R : Value → World → Prop} (hg : wants ⟨dst, .call ⟨.value (.func f), args, ats⟩, ty, pos, af, g⟩ ops e = true) (hf : callable P f = true)
    (hc : Ret P f l.toArray w R) (ha : args.toList.map (ev e) = l) (h : ∀ v w', R v w' → Wops P r ops Q rest (put e dst v) w') :
    Wops P r ops Q (⟨dst, .call ⟨.value (.func f), args, ats⟩, ty, pos, af, g⟩ :: rest) e w := by
  refine op_enter (R := R) hg rfl ?_ hc h
  have : args.map (ev e) = l.toArray := by subst ha; apply Array.ext'; simp only [Array.toList_map]
  simp [execOp, resolve, ev, Deferred.ofValue, invoke, this, run_callable hf]
/-- A call of a function value. -/
theorem op_calld {f : FuncId} {fo : Operand} {fi ca : Array Value} {args : Array Operand} {ats : Array TypeId} {l : List Value} {R : Value → World → Prop} (hg : wants ⟨dst, .call ⟨.value fo, args, ats⟩, ty, pos, af, g⟩ ops e = true)
    (hfo : ev e fo = .func (.func f) fi ca) (hf : callable P f = true) (hc : Ret P f l.toArray w R) (ha : fi.toList ++ (args.toList.map (ev e) ++ ca.toList) = l) (h : ∀ v w', R v w' → Wops P r ops Q rest (put e dst v) w') :
    Wops P r ops Q (⟨dst, .call ⟨.value fo, args, ats⟩, ty, pos, af, g⟩ :: rest) e w := by
  refine op_enter (R := R) hg rfl ?_ hc h
  have : fi ++ args.map (ev e) ++ ca = l.toArray := by rw [← ha]; apply Array.ext'; simp
  simp [execOp, resolve, hfo, Deferred.ofValue, invoke, this, run_callable hf]
end

/-! ### A slice that a call owns: nil, or at the head of a block -/

def ent (a : Option Addr) (t : TypeId) (full : List Value) : List (Nat × Obj) :=
  match a with
  | none => []
  | some p => [(p.block, Bl t full)]

/-- The slice (a, n, c), of elements of s cells: its block's cells are full, its own l. -/
structure OS (a : Option Addr) (n c s : Nat) (full l : List Value) : Prop where
  zero : ∀ p, a = some p → p = ⟨p.block, 0, none⟩
  none' : a = none → c = 0
  len : full.length = c * s
  le : n ≤ c
  pre : full.take (n * s) = l

theorem OS.nil {s : Nat} : OS none 0 0 s [] [] := ⟨(fun _ h => by cases h), fun _ => rfl, by simp, Nat.le_refl _, by simp⟩
theorem OS.llen {a : Option Addr} {n c s : Nat} {full l : List Value} (h : OS a n c s full l) : l.length = n * s := by
  rw [← h.pre, List.length_take, h.len]
  exact Nat.min_eq_left (Nat.mul_le_mul_right _ h.le)
theorem OS.form {a : Option Addr} {n c s : Nat} {full l : List Value} (h : OS a n c s full l) (hn : 0 < n) : ∃ b, a = some ⟨b, 0, none⟩ := by
  cases a with
  | none => have := h.none' rfl; have := h.le; omega
  | some p => exact ⟨p.block, by rw [← h.zero p rfl]⟩
theorem OS.split {a : Option Addr} {n c s : Nat} {full l : List Value} (h : OS a n c s full l) : full = l ++ full.drop (n * s) := by
  rw [← h.pre, List.take_append_drop]

theorem mem_ent {a : Option Addr} {t : TypeId} {full : List Value} {b : Nat} (h : a = some ⟨b, 0, none⟩) : ent a t full = [(b, Bl t full)] := by subst h; rfl

/-- Such a slice reads as its elements. -/
theorem OS.rd {α : Type} {w : World} {a : Option Addr} {n c s : Nat} {t : TypeId} {full : List Value} {enc : α → List Value} {xs : List α} (h : OS a n c s full (xs.flatMap enc)) (hb : ∀ x ∈ ent a t full, w.heap[x.1]? = some x.2)
    (hs : ∀ x ∈ xs, (enc x).length = s) (h0 : 0 < s) : Rd w a s enc xs := by
  cases a with
  | none =>
    cases xs with
    | nil => exact Rd.nil
    | cons x xs =>
      exfalso
      have h1 := h.llen
      have h2 := h.none' rfl
      have h3 := h.le
      have h4 : n = 0 := by omega
      have h5 := hs x (by simp)
      subst h4
      simp only [List.flatMap_cons, List.length_append, Nat.zero_mul] at h1
      omega
  | some p =>
    have hz := h.zero p rfl
    obtain ⟨b, o, sp⟩ := p
    simp only [Addr.mk.injEq, true_and] at hz
    obtain ⟨rfl, rfl⟩ := hz
    exact Rd.of_bl (r := full.drop (n * s)) (hb (b, Bl t full) (by simp [ent])) h.split hs

/-- What a call hands back of its own joins. -/
theorem Ctx.callEnt {w0 w w' : World} {S : List Nat} {L E : List (Nat × Obj)} (H : Ctx w0 S w L) (he : Ext [] w w') (hb : ∀ x ∈ E, w'.heap[x.1]? = some x.2 ∧ w.heap.size ≤ x.1) (hp : E.Pairwise fun x y => x.1 ≠ y.1) :
    Ctx w0 S w' (L ++ E) := by
  have H' := H.call he
  refine ⟨H'.ext, ?_, ?_, ?_⟩
  · intro x hx
    rcases List.mem_append.1 hx with hx | hx
    · exact H'.blk x hx
    · exact (hb x hx).1
  · rw [List.pairwise_append]
    refine ⟨H.nd, hp, fun x hx y hy => ?_⟩
    have h1 := heap_lt (H.blk x hx)
    have h2 := (hb y hy).2
    omega
  · intro x hx
    rcases List.mem_append.1 hx with hx | hx
    · exact H.own x hx
    · exact .inr (Nat.le_trans H.size (hb x hx).2)

theorem Ctx.perm {w0 w : World} {S : List Nat} {L L' : List (Nat × Obj)} (H : Ctx w0 S w L) (hp : L.Perm L') : Ctx w0 S w L' :=
  H.sub (fun _ hx => hp.mem_iff.2 hx) (hp.pairwise H.nd (fun h => Ne.symm h))

theorem Ctx.comm {w0 w : World} {S : List Nat} {L L' : List (Nat × Obj)} (H : Ctx w0 S w (L ++ L')) : Ctx w0 S w (L' ++ L) := H.perm List.perm_append_comm

theorem Ctx.left {w0 w : World} {S : List Nat} {L L' : List (Nat × Obj)} (H : Ctx w0 S w (L ++ L')) : Ctx w0 S w L :=
  H.sub (fun _ hx => List.mem_append_left _ hx) (List.pairwise_append.1 H.nd).1
theorem Ctx.right {w0 w : World} {S : List Nat} {L L' : List (Nat × Obj)} (H : Ctx w0 S w (L ++ L')) : Ctx w0 S w L' :=
  H.sub (fun _ hx => List.mem_append_right _ hx) (List.pairwise_append.1 H.nd).2.1

theorem growBy_le (need : Nat) : ∀ (k c : Nat), c ≤ 2 * need + 768 → Builtin.growBy need k c ≤ 2 * need + 768
  | 0, c, h => h
  | k + 1, c, h => by
    unfold Builtin.growBy
    split
    · exact h
    · exact growBy_le need k _ (by omega)

theorem nextcap_le (need c : Nat) (h : c < need) : Builtin.nextslicecap need c ≤ 2 * need + 768 := by
  unfold Builtin.nextslicecap
  split
  · omega
  · split
    · omega
    · exact growBy_le need 4 c (by omega)

theorem zeroCells_length (z : Array Value) (n : Nat) : (Builtin.zeroCells z n).size = n * z.size := by simp [Builtin.zeroCells]

section
variable {P : Program} {w w0 : World} {S : List Nat} {L : List (Nat × Obj)}

theorem run_firstCells {s m : Nat} {a : Option Addr} {c k : Nat} {l : List Value} (hl : l.length = m * s) (hc : ∀ j v, l[j]? = some v → ∃ p, a = some p ∧ w.cell? (p.add j) = some v) :
    (Builtin.firstCells s m (.slice a c k)).run P w = .ok l.toArray w := by
  cases a with
  | none =>
    have h0 : l = [] := by
      cases l with
      | nil => rfl
      | cons v l => obtain ⟨p, hp, _⟩ := hc 0 v rfl; cases hp
    subst h0
    simp [Builtin.firstCells]
  | some p =>
    have h := run_cells (P := P) (w := w) (p := p) l 0 #[] (fun j v hv => by
      obtain ⟨q, hq, hv⟩ := hc j v hv
      injection hq with hq
      subst hq
      rwa [Nat.zero_add])
    rw [hl] at h
    simp [Builtin.firstCells, loadCells, h]

/-- append onto a slice that the call owns; the source's cells are known. -/
theorem run_append {t t2 el el2 ty : TypeId} {s by' : Nat} {zl : List Value} (hu : elemT P t = some el) (hu2 : elemT P t2 = some el2) (hs : tsize P el = some s) (hby : tbytes P el = some by') (hz : zcells P el = some zl) (hzl : zl.length = s) (hpos : 0 < by')
    {a a2 : Option Addr} {n c m c2 : Nat} {full l new : List Value} (H : Ctx w0 S w (L ++ ent a el full)) (O : OS a n c s full l)
    (hn : new.length = m * s) (h1 : ∀ v ∈ new, oneCell v = true) (hc : ∀ j v, new[j]? = some v → ∃ p, a2 = some p ∧ w.cell? (p.add j) = some v) (hbound : (2 * (n + m) + 768) * by' ≤ 281474976710656) :
    ∃ a' c' full' w', (Builtin.append_ #[t, t2] ty #[.slice a n c, .slice a2 m c2]).run P w = .ok (.slice a' (n + m) c') w' ∧ Ctx w0 S w' (L ++ ent a' el full') ∧ OS a' (n + m) c' s full' (l ++ new) := by
  have hfc := run_firstCells (P := P) (w := w) (s := s) (m := m) (a := a2) (c := m) (k := c2) hn hc
  by_cases hfit : n + m ≤ c
  · -- in place
    cases a with
    | none =>
      have h0 := O.none' rfl
      have hm : m = 0 := by omega
      have hn0 : n = 0 := by omega
      subst hm hn0 h0
      have hnew : new = [] := List.eq_nil_of_length_eq_zero (by omega)
      have hl : l = [] := List.eq_nil_of_length_eq_zero (by have := O.llen; omega)
      have hfull : full = [] := List.eq_nil_of_length_eq_zero (by have := O.len; omega)
      subst hnew hl hfull
      refine ⟨none, 0, [], w, ?_, H, OS.nil⟩
      simp [Builtin.append_, run_under (elemT_u hu), run_under (elemT_u hu2), run_size hs, Builtin.lenOf, hfc]
    | some p =>
      have hp := O.zero p rfl
      obtain ⟨b, o, sp⟩ := p
      simp only [Addr.mk.injEq, true_and] at hp
      obtain ⟨rfl, rfl⟩ := hp
      have hk : (L ++ ent (some ⟨b, 0, none⟩) el full)[L.length]? = some (b, Bl el full) := by simp [ent]
      have hb := H.get hk
      have hmul : (n + m) * s ≤ c * s := Nat.mul_le_mul_right _ hfit
      have hadd : (n + m) * s = n * s + m * s := Nat.add_mul _ _ _
      obtain ⟨w', hr, he, hb'⟩ := run_storeCells (P := P) (o := n * s) new full w 0 h1 hb (by rw [O.len]; omega)
      have hwr := H.turn hk _ he hb'
      rw [show (L ++ ent (some ⟨b, 0, none⟩) el full).set L.length (b, Bl el (over full (n * s + 0) new)) = L ++ ent (some ⟨b, 0, none⟩) el (over full (n * s) new) from by simp [ent]] at hwr
      refine ⟨some ⟨b, 0, none⟩, c, over full (n * s) new, w', ?_, hwr, ?_⟩
      · have hst : (storeCells (Addr.add ⟨b, 0, none⟩ (n * s)) new).run P w = .ok () w' := by
          rw [add_none, Nat.zero_add]; exact hr
        simp [Builtin.append_, run_under (elemT_u hu), run_under (elemT_u hu2), run_size hs, Builtin.lenOf, hfc, hfit, hst]
      · refine ⟨fun q hq => by injection hq with hq; subst hq; rfl, (fun h => by cases h), by rw [over_length]; exact O.len, hfit, ?_⟩
        have hsp := O.split
        have hll := O.llen
        have htl : (full.drop (n * s)).length = c * s - n * s := by rw [List.length_drop, O.len]
        have hcut : full.drop (n * s) = (full.drop (n * s)).take (m * s) ++ (full.drop (n * s)).drop (m * s) := by rw [List.take_append_drop]
        have hover : ∀ (vs a b c : List Value), b.length = vs.length → over (a ++ b ++ c) a.length vs = a ++ vs ++ c := by
          intro vs
          induction vs with
          | nil => intro a b c hb; have : b = [] := List.eq_nil_of_length_eq_zero (by simpa using hb); subst this; simp [over]
          | cons v vs ih =>
            intro a b c hb
            cases b with
            | nil => simp at hb
            | cons x b =>
              have := ih (a ++ [v]) b c (by simpa using hb)
              simp only [over]
              rw [show (a ++ x :: b ++ c).set a.length v = a ++ [v] ++ b ++ c from by simp]
              rw [show a.length + 1 = (a ++ [v]).length from by simp, this]
              simp
        have hgoal : over full (n * s) new = l ++ new ++ (full.drop (n * s)).drop (m * s) := by
          have h4 := hover new l ((full.drop (n * s)).take (m * s)) ((full.drop (n * s)).drop (m * s)) (by rw [List.length_take, htl, hn]; omega)
          rw [List.append_assoc, ← hcut, ← hsp, hll] at h4
          exact h4
        rw [hgoal, List.take_left' (by rw [List.length_append, hll, hn]; omega)]
  · -- a new block
    have hfit' : c < n + m := by omega
    have hncap := nextcap_le (n + m) c hfit'
    have hbig : ¬ (281474976710656 : Int) < ((Builtin.nextslicecap (n + m) c * by' : Nat) : Int) := by
      have : Builtin.nextslicecap (n + m) c * by' ≤ (2 * (n + m) + 768) * by' := Nat.mul_le_mul_right _ hncap
      omega
    have hnm : n + m ≤ 281474976710656 := by
      have h1 : (2 * (n + m) + 768) * 1 ≤ (2 * (n + m) + 768) * by' := Nat.mul_le_mul_left _ hpos
      omega
    -- the capacity that is drawn
    generalize hq : (Question.appendCap (n + m) c el).cut (w.tape w.drawn (Question.appendCap (n + m) c el)) = cap
    have hcap : n + m ≤ cap := by rw [← hq]; unfold Question.cut; exact Nat.le_add_right _ _
    obtain ⟨zv, hzr, hzc⟩ := run_zero (P := P) hz w.drew
    have hzs : zv.cells.size = s := by rw [← hzl, ← hzc]; simp
    let full' := l ++ new ++ (Builtin.zeroCells zv.cells (cap - (n + m))).toList
    have hH : Ctx w0 S (w.drew.alloc (Bl el full')) ((w.drew.heap.size, Bl el full') :: L) := by
      have := (H.left.drew).alloc (Bl el full')
      exact this
    refine ⟨some ⟨w.drew.heap.size, 0, none⟩, cap, full', w.drew.alloc (Bl el full'), ?_, ?_, ?_⟩
    · have hforced : (Question.appendCap (n + m) c el).forced = false := rfl
      have hby2 : ∃ i, P.info? el = some i ∧ i.bytes = by' := by
        unfold tbytes at hby
        cases hi : P.info? el with
        | none => rw [hi] at hby; cases hby
        | some i => rw [hi] at hby; simp at hby; exact ⟨i, rfl, hby⟩
      obtain ⟨i, hi, hib⟩ := hby2
      have hti : ∀ w, (typeInfo el).run P w = .ok i w := fun w => by simp [typeInfo, program, Sem.run, hi]
      have hold' : (Builtin.firstCells s n (.slice a n c)).run P w.drew = .ok l.toArray w.drew := by
        refine run_firstCells (O.llen) (fun j v hv => ?_)
        have hjl : j < l.length := (List.getElem?_eq_some_iff.1 hv).1
        have hn0 : 0 < n := by
          rcases Nat.eq_zero_or_pos n with h | h
          · have h5 := O.llen; rw [h, Nat.zero_mul] at h5; omega
          · exact h
        obtain ⟨b, rfl⟩ := O.form hn0
        refine ⟨_, rfl, ?_⟩
        have hk : (L ++ ent (some ⟨b, 0, none⟩) el full)[L.length]? = some (b, Bl el full) := by simp [ent]
        show w.cell? _ = _
        rw [add_none, Nat.zero_add, cell_bl (H.get hk), O.split, List.getElem?_append_left hjl]
        exact hv
      have hfc' : (Builtin.firstCells s m (.slice a2 m c2)).run P w.drew = .ok new.toArray w.drew := run_firstCells hn hc
      have hroom : ∀ k w, (askRoom k).run P w = .ok () w := fun k w => by unfold askRoom; split <;> rfl
      have hby0 : ¬ by' = 0 := by omega
      have hnn : (Builtin.append_ #[t, t2] ty #[.slice a n c, .slice a2 m c2]).run P w = .ok (.slice (some ⟨w.drew.heap.size, 0, none⟩) (n + m) cap) (w.drew.alloc (.cells (l.toArray ++ (new.toArray ++ Builtin.zeroCells zv.cells (cap - (n + m)))) el)) := by
        have hb3 : ¬ 281474976710656 < Builtin.nextslicecap (n + m) c * by' := by omega
        simp [Builtin.append_, run_under (elemT_u hu), run_under (elemT_u hu2), run_size hs, Builtin.lenOf, hfc', hold', hfit, hti, hib, hb3, hby0, hforced, hq, hroom, hzr, newRow, newObj, Sem.run]
      rw [hnn]
      have harr : l.toArray ++ (new.toArray ++ Builtin.zeroCells zv.cells (cap - (n + m))) = full'.toArray := by
        apply Array.ext'; simp [full']
      rw [harr]
      rfl
    · exact hH.perm (List.perm_append_comm (l₁ := [(w.drew.heap.size, Bl el full')]) (l₂ := L))
    · refine ⟨(fun q hq => by injection hq with hq; subst hq; rfl), (fun h => by cases h), ?_, hcap, ?_⟩
      · show (l ++ new ++ (Builtin.zeroCells zv.cells (cap - (n + m))).toList).length = cap * s
        rw [List.length_append, List.length_append, O.llen, hn, Array.length_toList, zeroCells_length, hzs, ← Nat.add_mul, ← Nat.add_mul]
        congr 1
        omega
      · show (l ++ new ++ (Builtin.zeroCells zv.cells (cap - (n + m))).toList).take ((n + m) * s) = l ++ new
        rw [List.take_left' (by rw [List.length_append, O.llen, hn, Nat.add_mul])]

end

section
variable {P : Program} {r : Option Nat} {ops rest : List Oper} {Q : Exit → Env → World → Prop} {e : Env} {w w0 : World} {S : List Nat} {L : List (Nat × Obj)}
  {dst : Option Tmp} {ty : TypeId} {pos : String} {af : Array Edge} {g : Option (Nat × Bool)}

/-- append(s, x..): s is the call's own; x's cells are known. -/
theorem op_append {t t2 el el2 : TypeId} {x y : Operand} {s by' : Nat} {zl : List Value} (hg : wants ⟨dst, .call ⟨.builtin .append, #[x, y], #[t, t2]⟩, ty, pos, af, g⟩ ops e = true)
    (hu : elemT P t = some el) (hu2 : elemT P t2 = some el2) (hs : tsize P el = some s) (hby : tbytes P el = some by') (hz : zcells P el = some zl) (hzl : zl.length = s) (hpos : 0 < by')
    {a a2 : Option Addr} {n c m c2 : Nat} {full l : List Value} (new : List Value) (hx : ev e x = .slice a n c) (hy : ev e y = .slice a2 m c2) (H : Ctx w0 S w (L ++ ent a el full)) (O : OS a n c s full l)
    (hn : new.length = m * s) (h1 : ∀ v ∈ new, oneCell v = true) (hc : ∀ j v, new[j]? = some v → ∃ p, a2 = some p ∧ w.cell? (p.add j) = some v) (hbound : (2 * (n + m) + 768) * by' ≤ 281474976710656)
    (h : ∀ a' c' full' w', Ctx w0 S w' (L ++ ent a' el full') → OS a' (n + m) c' s full' (l ++ new) → Wops P r ops Q rest (put e dst (.slice a' (n + m) c')) w') :
    Wops P r ops Q (⟨dst, .call ⟨.builtin .append, #[x, y], #[t, t2]⟩, ty, pos, af, g⟩ :: rest) e w := by
  obtain ⟨a', c', full', w', hr, H', O'⟩ := run_append (ty := ty) hu hu2 hs hby hz hzl hpos H O hn h1 hc hbound (c2 := c2)
  exact op_val hg rfl (by simp [execOp, resolve, invoke, builtin, hx, hy, hr]) (h a' c' full' w' H' O')

/-- The slice of one element that append(s, x) lays. -/
theorem op_build1 {t el : TypeId} {x : Operand} {s : Nat} {zl : List Value} (l : List Value) (v : Value) (hg : wants ⟨dst, .buildSlice t 1 #[(0, x)], ty, pos, af, g⟩ ops e = true)
    (hu : elemT P t = some el) (hs : tsize P el = some s) (hz : zcells P el = some zl) (hzl : zl.length = s) (hs0 : 0 < s) (hs1 : s ≤ 16777216) (hx : ev e x = v) (hl : v.cells = l.toArray) (hll : l.length = s) (H : Ctx w0 S w L)
    (h : ∀ b w', w.heap.size = b → Ctx w0 S w' ((b, Bl el l) :: L) → Wops P r ops Q rest (put e dst (.slice (some ⟨b, 0, none⟩) 1 1)) w') :
    Wops P r ops Q (⟨dst, .buildSlice t 1 #[(0, x)], ty, pos, af, g⟩ :: rest) e w := by
  obtain ⟨z, hz1, hz2⟩ := run_zero hz w
  have hzs : z.cells.size = s := by rw [← hzl, ← hz2]; simp
  refine op_val (w' := w.alloc (Bl el l)) (v := .slice (some ⟨w.heap.size, 0, none⟩) 1 1) hg rfl ?_ (h _ _ rfl (H.alloc _))
  have hfill : ∀ cs : Array Value, cs.size = s → Instr.fill (fun i => some (i * s, s)) cs [(0, v)] = some l.toArray := by
    intro cs hcs
    have hfold : ∀ (vs : List Value) (k : Nat) (c0 : Array Value), c0.size = k + vs.length → (vs.zipIdx k).foldl (fun cs (x : Value × Nat) => cs.setIfInBounds (0 + x.2) x.1) c0 = ((c0.toList.take k) ++ vs).toArray := by
      intro vs
      induction vs with
      | nil => intro k c0 h; simp only [List.zipIdx_nil, List.foldl_nil, List.append_nil]; apply Array.ext'; simp only [List.length_nil] at h; simp; rw [List.take_of_length_le (by simp; omega)]
      | cons u vs ih =>
        intro k c0 h
        simp only [List.zipIdx_cons, List.foldl_cons]
        rw [ih (k + 1) _ (by simp at h ⊢; omega)]
        congr 1
        simp only [Nat.zero_add, Array.toList_setIfInBounds]
        have hk : k < c0.toList.length := by simp at h ⊢; omega
        rw [List.take_set, List.take_succ_eq_append_getElem hk]
        simp [List.set_append]
        rw [if_neg (by simp at h; omega)]
        have : k - min k c0.size = 0 := by simp at h; omega
        rw [this]; simp
    have h2 := hfold l 0 cs (by omega)
    simp only [Instr.fill, hl, List.size_toArray, hll, Nat.zero_mul, Nat.zero_add, hcs]
    rw [if_neg (by simp)]
    have h3 : Array.foldl (fun cs (x : Value × Nat) => cs.setIfInBounds (0 + x.2) x.1) cs l.toArray.zipIdx = (l.zipIdx 0).foldl (fun cs (x : Value × Nat) => cs.setIfInBounds (0 + x.2) x.1) cs := by
      rw [← Array.foldl_toList]; simp
    simp only [Nat.zero_add] at h2 h3
    rw [h3, h2]
    simp
  have hne : ¬ s = 0 := by omega
  have hbig : ¬ 16777216 < s := by omega
  simp [execOp, Instr.buildSlice, run_under (elemT_u hu), run_size hs, hne, hbig, hz1, hx, hfill, newRow, newObj, Sem.run]
  rfl

/-- make([]T, n, c), an element one cell. -/
theorem op_make {t el : TypeId} {x y : Operand} {by' : Nat} {z : Value} {k k2 : IntKind} {i j : Int} (hg : wants ⟨dst, .makeSlice t x y, ty, pos, af, g⟩ ops e = true)
    (hu : elemT P t = some el) (hs : tsize P el = some 1) (hby : tbytes P el = some by') (hz : zcells P el = some [z]) (hx : ev e x = .int k i) (hy : ev e y = .int k2 j) (h0 : 0 ≤ i) (h1 : i ≤ j) (h2 : by' * j ≤ 281474976710656) (h3 : j ≤ 9223372036854775807)
    (H : Ctx w0 S w L)
    (h : ∀ b w', w.heap.size = b → Ctx w0 S w' ((b, Bl el (List.replicate j.toNat z)) :: L) → Wops P r ops Q rest (put e dst (.slice (some ⟨b, 0, none⟩) i.toNat j.toNat)) w') :
    Wops P r ops Q (⟨dst, .makeSlice t x y, ty, pos, af, g⟩ :: rest) e w := by
  obtain ⟨zv, hz1, hz2⟩ := run_zero hz w
  have hzs : zv.cells.size = 1 := by
    have : zv.cells.toList.length = 1 := by rw [hz2]; rfl
    simpa using this
  have hby2 : ∃ i, P.info? el = some i ∧ i.bytes = by' := by
    unfold tbytes at hby
    cases hi : P.info? el with
    | none => rw [hi] at hby; cases hby
    | some i => rw [hi] at hby; simp at hby; exact ⟨i, rfl, hby⟩
  obtain ⟨inf, hi, hib⟩ := hby2
  have hti : ∀ w, (typeInfo el).run P w = .ok inf w := fun w => by simp [typeInfo, program, Sem.run, hi]
  have hw1 : IntKind.i64.wrap i = i := wrap_in (k := .i64) (by simp [IntKind.min, IntKind.signed, IntKind.bits]; omega) (by simp [IntKind.max, IntKind.signed, IntKind.bits]; omega)
  have hw2 : IntKind.i64.wrap j = j := wrap_in (k := .i64) (by simp [IntKind.min, IntKind.signed, IntKind.bits]; omega) (by simp [IntKind.max, IntKind.signed, IntKind.bits]; omega)
  have hroom : ∀ k w, (askRoom k).run P w = .ok () w := fun k w => by unfold askRoom; split <;> rfl
  refine op_val (w' := w.alloc (Bl el (List.replicate j.toNat z))) (v := .slice (some ⟨w.heap.size, 0, none⟩) i.toNat j.toNat) hg rfl ?_ (h _ _ rfl (H.alloc _))
  have hn1 : ¬ j < 0 := by omega
  have hn2 : ¬ (281474976710656 < (by' : Int) * j) := by omega
  have hn3 : ¬ i < 0 := by omega
  have hn4 : ¬ j < i := by omega
  have hcells : (Array.range j.toNat).map (fun q => zv.cells[q % zv.cells.size]!) = (List.replicate j.toNat z).toArray := by
    apply Array.ext
    · simp
    · intro q h1 h2
      simp only [hzs, Nat.mod_one, Array.getElem_map, List.getElem_toArray, List.getElem_replicate]
      have : zv.cells = #[z] := by apply Array.ext'; rw [hz2]
      rw [this]; rfl
  by_cases hj : j.toNat = 0
  · have hj0 : j = 0 := by omega
    have hi0 : i = 0 := by omega
    subst hj0 hi0
    simp [execOp, Instr.makeSlice, run_under (elemT_u hu), hx, hy, asInt, asIntOf, hti, hw2, hroom, run_size hs, newRow, newObj, Sem.run]
    have hr0 : (Array.range 0) = (#[] : Array Nat) := by apply Array.ext'; simp
    rw [hr0, Array.map_empty]
    rfl
  · simp [execOp, Instr.makeSlice, run_under (elemT_u hu), hx, hy, asInt, asIntOf, hti, hib, hw1, hw2, hn1, hn2, hn3, hn4, hroom, run_size hs, hj, hz1, newRow, newObj, Sem.run]
    rw [hcells]
    rfl

theorem sliceB {P : Program} {w : World} {k : IntKind} {i : Int} {y : Nat} {code : BoundsCode} (h0 : 0 ≤ i) (h1 : i ≤ y) : (Instr.sliceBound (.int k i) y code).run P w = .ok i.toNat w := by
  simp [Instr.sliceBound, asIntOf, h0, h1]

def cutA (a : Option Addr) (c i s : Nat) : Option Addr := if c = i then a else a.map (·.add (i * s))

/-- s[i:] -/
theorem op_slice_lo {t el : TypeId} {x y : Operand} {s : Nat} {a : Option Addr} {n c : Nat} {k : IntKind} {i : Int} (hg : wants ⟨dst, .slice t x (some y) none none, ty, pos, af, g⟩ ops e = true)
    (hu : elemT P t = some el) (hs : tsize P el = some s) (hx : ev e x = .slice a n c) (hy : ev e y = .int k i) (h0 : 0 ≤ i) (h1 : i ≤ n)
    (h : Wops P r ops Q rest (put e dst (.slice (cutA a c i.toNat s) (n - i.toNat) (c - i.toNat))) w) :
    Wops P r ops Q (⟨dst, .slice t x (some y) none none, ty, pos, af, g⟩ :: rest) e w :=
  op_val hg rfl (by simp [execOp, Instr.sliceAt, Instr.slice, Instr.sliceBounds, run_under (elemT_u hu), hx, hy, sliceB h0 h1, run_size hs, cutA]) h
/-- s[:j] -/
theorem op_slice_hi {t el : TypeId} {x y : Operand} {s : Nat} {a : Option Addr} {n c : Nat} {k : IntKind} {j : Int} (hg : wants ⟨dst, .slice t x none (some y) none, ty, pos, af, g⟩ ops e = true)
    (hu : elemT P t = some el) (hs : tsize P el = some s) (hx : ev e x = .slice a n c) (hy : ev e y = .int k j) (h0 : 0 ≤ j) (h1 : j ≤ c)
    (h : Wops P r ops Q rest (put e dst (.slice a j.toNat c)) w) :
    Wops P r ops Q (⟨dst, .slice t x none (some y) none, ty, pos, af, g⟩ :: rest) e w :=
  op_val hg rfl (by
    have : ∀ a : Option Addr, (if c = 0 then a else a.map (·.add (0 * s))) = a := by
      intro a; split
      · rfl
      · cases a with
        | none => rfl
        | some p => simp [Addr.add]
    simp [execOp, Instr.sliceAt, Instr.slice, Instr.sliceBounds, run_under (elemT_u hu), hx, hy, sliceB h0 h1, run_size hs]
    simpa using this a) h
theorem run_eqnil {P : Program} {t el : TypeId} (hu : elemT P t = some el) (d : Nat) (a : Option Addr) (n c c2 : Nat) (w : World) :
    (Op.equalIn (d + 1) t (.slice a n c) (.slice none 0 c2)).run P w = .ok a.isNone w := by
  cases a <;> simp [Op.equalIn, run_under (elemT_u hu)]
theorem run_eqlnil {P : Program} {t el : TypeId} (hu : elemT P t = some el) (a : Option Addr) (n c c2 : Nat) (w : World) : (binOp .eql t (.slice a n c) (.slice none 0 c2)).run P w = .ok (.bool a.isNone) w := by
  simp only [binOp, Sem.run_bind, Op.equal, Op.maxDepth, run_eqnil hu 9999]
  cases a <;> rfl

theorem op_eqlnil {t t2 : TypeId} {x : Operand} {a : Option Addr} {n c c2 : Nat} {el : TypeId} (hg : wants ⟨dst, .binOp .eql t x (.const (.slice none 0 c2)) t2, ty, pos, af, g⟩ ops e = true) (hu : elemT P t = some el) (hx : ev e x = .slice a n c)
    (h : Wops P r ops Q rest (put e dst (.bool a.isNone)) w) : Wops P r ops Q (⟨dst, .binOp .eql t x (.const (.slice none 0 c2)) t2, ty, pos, af, g⟩ :: rest) e w :=
  op_val hg rfl (by
    have hq : eqGuard .eql t x (.const (.slice none 0 c2)) (.slice a n c) (.slice none 0 c2) = pure () := rfl
    have he : ev e (.const (.slice none 0 c2)) = .slice none 0 c2 := rfl
    simp only [execOp, hx, he, hq, Sem.run_bind, Sem.run_pure, Result.andThen_ok, run_eqlnil hu]) h
end
end Go.GV
