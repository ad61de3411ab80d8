/- Part 7 of the proof. -/
import Derived.Test.YtbkadlngijkmmaaGreatDoorPart6
import Derived.Test.YtbkadlngijkmmaaGreatDoorPart2
import Derived.Test.YtbkadlngijkmmaaGreatDoorPart4
import Derived.DefersIn
/- Plain law of the tree: pages, blocks, a node that is written. -/
namespace Go.Proofs.YtbkadlngijkmmaaGreatDoor
open Go.GV

/-- The node in a page, whatever the power. -/
def RD (A : Dev) (fr : Nat) (p : Nat) : Option (Bool × List It) := parseO (stands (A.B.getD (fr + p) (zeros, [])))
theorem readE_on {A : Dev} {q : Nat} (hon : A.on = true) (hq : q < A.B.length) : readE A (q : Int) = 0 := by
  have : A.has (q : Int) = true := by
    unfold Dev.has
    rw [decide_eq_true (by omega), decide_eq_true (by omega)]; rfl
  unfold readE; rw [hon, this]; rfl
theorem readB_on {A : Dev} {q : Nat} (hon : A.on = true) (hq : q < A.B.length) : readB A (q : Int) = stands (A.B.getD q (zeros, [])) := by
  unfold readB
  rw [readE_on hon hq, Int.toNat_natCast]
  rfl
theorem readT_of {A : Dev} {fr sz p d : Nat} {n : Bool × List It} (hon : A.on = true) (hp : p < sz) (hl : fr + sz ≤ A.B.length) (hd : d ≤ 16) (h : RD A fr p = some n) : readT A fr sz (p : Int) (d : Int) = (0, some n) := by
  unfold readT
  rw [if_neg (by omega)]
  rw [show (fr : Int) + (p : Int) = ((fr + p : Nat) : Int) by omega, readE_on hon (by omega), readB_on hon (by omega), if_pos rfl]
  unfold RD at h
  rw [h]
/-- What may be written as a node. -/
structure Fits (inner : Bool) (M : List It) : Prop where
  ne : M ≠ []
  ok : ∀ x ∈ M, OkI inner x
  sz : totalI inner M ≤ 503
theorem Fits.seal {inner : Bool} {M : List It} (h : Fits inner M) : nodeE inner M = 0 ∧ (nodeB inner M).length = 512 ∧ parseO (nodeB inner M) = some (inner, M) := by
  have hb := bodyI_len inner M
  have hz := h.sz
  have hk : (kindI inner M).toNat ≠ 0 := by unfold kindI; split <;> decide
  refine ⟨?_, seal_len (by omega), parse_seal h.ok h.ne h.sz⟩
  unfold nodeE sealE
  rw [decide_eq_false hk, decide_eq_false (by omega)]; rfl
theorem takeI_free {P : List Nat} (h : takeI P < P.length) : P[takeI P]? = some 0 := by
  unfold takeI at *
  have h2 : ∀ (P : List Nat), (P.takeWhile fun s => decide (s ≠ 0)).length < P.length → P[(P.takeWhile fun s => decide (s ≠ 0)).length]? = some 0 := by
    intro P
    induction P with
    | nil => intro h; cases h
    | cons s P ih =>
      intro h
      by_cases hs : s = 0
      · subst hs; rfl
      · rw [List.takeWhile_cons, decide_eq_true hs] at h ⊢
        simp only [if_true, List.length_cons] at h ⊢
        rw [List.getElem?_cons_succ]
        exact ih (by omega)
  exact h2 P h
theorem takeI_full {P : List Nat} (h : takeI P = P.length) : freeP P = 0 := by
  have h2 : ∀ (P : List Nat), (P.takeWhile fun s => decide (s ≠ 0)).length = P.length → freeP P = 0 := by
    intro P
    induction P with
    | nil => intro _; rfl
    | cons s P ih =>
      intro h
      by_cases hs : s = 0
      · subst hs; simp at h
      · rw [List.takeWhile_cons, decide_eq_true hs] at h
        simp only [if_true, List.length_cons] at h
        unfold freeP
        rw [List.countP_cons, decide_eq_false hs]
        have := ih (by omega)
        unfold freeP at this
        simp [this]
  exact h2 P h
theorem takeI_le (P : List Nat) : takeI P ≤ P.length := (List.takeWhile_prefix (l := P) (fun s => decide (s ≠ 0))).length_le
theorem free_set {P : List Nat} : ∀ {k s : Nat}, P[k]? = some 0 → s ≠ 0 → freeP (P.set k s) + 1 = freeP P := by
  unfold freeP
  induction P with
  | nil => intro k s h; simp at h
  | cons x P ih =>
    intro k s h hs
    cases k with
    | zero =>
      simp only [List.getElem?_cons_zero, Option.some.injEq] at h
      subst h
      rw [List.set_cons_zero, List.countP_cons, List.countP_cons, decide_eq_false hs]; simp
    | succ k =>
      rw [List.set_cons_succ, List.countP_cons, List.countP_cons]
      have := ih (k := k) (s := s) (by simpa using h) hs
      omega
theorem less_left {A : Dev} (h : A.left = -1) : A.less = A := by
  unfold Dev.less
  rw [if_neg (by omega), if_pos h]
/-- What a change does to pages and blocks: it takes t, lets go g. -/
structure CI (fr : Nat) (c0 c : Ch) (t g : List Nat) : Prop where
  tk : c.tk = c0.tk ++ t
  gn : c.gn = c0.gn ++ g
  nd : t.Nodup
  was : ∀ x ∈ t, c0.P[x]? = some 0
  now : ∀ x : Nat, c.P[x]? = if x ∈ t then some 2 else c0.P[x]?
  len : c.P.length = c0.P.length
  blen : c.A.B.length = c0.A.B.length
  blk : ∀ q, (∀ x ∈ t, q ≠ fr + x) → c.A.B.getD q (zeros, []) = c0.A.B.getD q (zeros, [])
  left : c0.A.left = -1 → c.A.left = -1
  free : freeP c.P + t.length = freeP c0.P
section
variable {fr : Nat} {c0 c c1 c2 : Ch} {t t' g g' : List Nat}
theorem CI.refl (fr : Nat) (c : Ch) : CI fr c c [] [] := ⟨by simp, by simp, List.nodup_nil, by simp, by simp, rfl, rfl, fun _ _ => rfl, fun h => h, rfl⟩
theorem CI.trans (h1 : CI fr c0 c1 t g) (h2 : CI fr c1 c2 t' g') : CI fr c0 c2 (t ++ t') (g ++ g') := by
  have hd : ∀ x ∈ t', x ∉ t := fun x h3 h4 => by
    have h5 := h2.was x h3
    rw [h1.now x, if_pos h4] at h5
    cases h5
  refine ⟨by rw [h2.tk, h1.tk, List.append_assoc], by rw [h2.gn, h1.gn, List.append_assoc], ?_, fun x hx => ?_, fun x => ?_, h2.len.trans h1.len, h2.blen.trans h1.blen, fun q hq => ?_, fun h => h2.left (h1.left h), ?_⟩
  · rw [List.nodup_append]
    exact ⟨h1.nd, h2.nd, fun a ha b hb e => hd b hb (e ▸ ha)⟩
  · rcases List.mem_append.1 hx with h | h
    · exact h1.was x h
    · have := h2.was x h
      rwa [h1.now x, if_neg (hd x h)] at this
  · rw [h2.now x, h1.now x]
    by_cases ha : x ∈ t'
    · rw [if_pos ha, if_pos (List.mem_append_right _ ha)]
    · rw [if_neg ha]
      by_cases hb : x ∈ t
      · rw [if_pos hb, if_pos (List.mem_append_left _ hb)]
      · rw [if_neg hb, if_neg (fun h => (List.mem_append.1 h).elim hb ha)]
  · rw [h2.blk q fun x hx => hq x (List.mem_append_right _ hx), h1.blk q fun x hx => hq x (List.mem_append_left _ hx)]
  · have := h1.free; have := h2.free
    rw [List.length_append]; omega
/-- A page is read that goes. -/
theorem CI.gone (fr : Nat) (c : Ch) (p : Nat) : CI fr c { c with gn := c.gn ++ [p] } [] [p] := ⟨by simp, rfl, List.nodup_nil, by simp, by simp, rfl, rfl, fun _ _ => rfl, fun h => h, rfl⟩
/-- Pages that are not free. -/
def Held (P S : List Nat) : Prop := ∀ x ∈ S, ∃ s, P[x]? = some s ∧ s ≠ 0
theorem Held.keep {S : List Nat} (h : Held c0.P S) (h1 : CI fr c0 c t g) : Held c.P S := fun x hx => by
  obtain ⟨s, h2, h3⟩ := h x hx
  rw [h1.now x]
  split
  · exact ⟨2, rfl, by decide⟩
  · exact ⟨s, h2, h3⟩
theorem CI.rd (h1 : CI fr c0 c t g) {S : List Nat} (h : Held c0.P S) : ∀ x ∈ S, RD c.A fr x = RD c0.A fr x := fun x hx => by
  unfold RD
  rw [h1.blk (fr + x) fun y hy e => ?_]
  obtain ⟨s, h2, h3⟩ := h x hx
  have h4 := h1.was y hy
  rw [show y = x by omega, h2] at h4
  exact h3 (Option.some.inj h4)
theorem CI.held (h1 : CI fr c0 c t g) : Held c.P t := fun x hx => ⟨2, by rw [h1.now x, if_pos hx], by decide⟩
theorem Held.lt {P S : List Nat} (h : Held P S) {x : Nat} (hx : x ∈ S) : x < P.length := by
  obtain ⟨s, h2, _⟩ := h x hx
  exact (List.getElem?_eq_some_iff.1 h2).1
theorem CI.apart (h1 : CI fr c0 c t g) {S : List Nat} (h : Held c0.P S) : ∀ x ∈ S, x ∉ t := fun x hx ht => by
  obtain ⟨s, h2, h3⟩ := h x hx
  have h4 := h1.was x ht
  rw [h2] at h4
  exact h3 (Option.some.inj h4)

theorem getD_modify_ne {α : Type} {l : List α} {f : α → α} {i q : Nat} {d : α} (h : q ≠ i) : (l.modify i f).getD q d = l.getD q d := by
  rw [List.getD_eq_getElem?_getD, List.getD_eq_getElem?_getD, List.getElem?_modify]
  simp only [if_neg (fun e : i = q => h e.symm)]
  cases l[q]? <;> rfl
theorem getD_modify_eq {α : Type} {l : List α} {f : α → α} {i : Nat} {d : α} (h : i < l.length) : (l.modify i f).getD i d = f (l.getD i d) := by
  rw [List.getD_eq_getElem?_getD, List.getD_eq_getElem?_getD, List.getElem?_modify, List.getElem?_eq_getElem h]
  simp
/-- A node is written. -/
theorem wr_spec {inner : Bool} {M : List It} (hon : c.A.on = true) (hl : fr + c.P.length ≤ c.A.B.length) (hM : Fits inner M) :
    ((wrC fr c inner M).1 = 7 ∧ (wrC fr c inner M).2 = c ∧ freeP c.P = 0) ∨
    (CI fr c (wrC fr c inner M).2 [takeK c.P] [] ∧
      (((wrC fr c inner M).1 = 0 ∧ (wrC fr c inner M).2.A.on = true ∧ RD (wrC fr c inner M).2.A fr (takeK c.P) = some (inner, M)) ∨ ((wrC fr c inner M).1 = 8 ∧ c.A.left ≠ -1))) := by
  obtain ⟨hs1, hs2, hs3⟩ := hM.seal
  by_cases hf : takeI c.P = c.P.length
  · left
    have h7 : takeE7 c.P = 7 := by unfold takeE7; rw [if_pos hf]
    have h8 : wrC fr c inner M = (7, c) := by unfold wrC; rw [if_pos (by omega), h7]
    rw [h8]
    exact ⟨rfl, rfl, takeI_full hf⟩
  · right
    have hlt : takeI c.P < c.P.length := by have := takeI_le c.P; omega
    have h7 : takeE7 c.P = 0 := by unfold takeE7; rw [if_neg hf]
    have hk : takeK c.P = takeI c.P := by unfold takeK; rw [if_neg hf]
    have hP : takeP' c.P = c.P.set (takeI c.P) 2 := by unfold takeP'; rw [if_neg hf]
    have h0 := takeI_free hlt
    have h8 : wrC fr c inner M = (writeE c.A (((fr + takeI c.P : Nat)) : Int) (nodeB inner M), ⟨writeD c.A (((fr + takeI c.P : Nat)) : Int) (nodeB inner M), c.P.set (takeI c.P) 2, c.tk ++ [takeI c.P], c.gn⟩) := by
      unfold wrC; rw [if_neg (by omega), if_neg (by rw [hs1]; simp), hk, hP]
    have hh : c.A.has (((fr + takeI c.P : Nat)) : Int) = true := by unfold Dev.has; rw [decide_eq_true (by omega), decide_eq_true (by omega)]; rfl
    have hB : ∀ (D : Dev), D.B = c.A.B ∨ D.B = c.A.B.modify (fr + takeI c.P) (fun p => (p.1, p.2 ++ [nodeB inner M])) → (c.A.left = -1 → D.left = -1) → CI fr c ⟨D, c.P.set (takeI c.P) 2, c.tk ++ [takeI c.P], c.gn⟩ [takeI c.P] [] := fun D hD hDl => by
      refine ⟨rfl, by simp, List.nodup_cons.2 ⟨by simp, List.nodup_nil⟩, fun x hx => ?_, fun x => ?_, by simp, ?_, fun q hq => ?_, hDl, ?_⟩
      · rw [List.mem_singleton.1 hx]; exact h0
      · show (c.P.set (takeI c.P) 2)[x]? = _
        by_cases hx : x = takeI c.P
        · subst hx
          rw [if_pos (by simp), List.getElem?_set_self hlt]
        · rw [if_neg (by simpa using hx), List.getElem?_set_ne (fun e => hx e.symm)]
      · show D.B.length = _
        rcases hD with h | h <;> rw [h]
        rw [List.length_modify]
      · show D.B.getD q _ = _
        rcases hD with h | h <;> rw [h]
        exact getD_modify_ne (hq _ (by simp))
      · exact free_set h0 (by decide)
    rw [h8, hk]
    by_cases hg : c.A.goes = true
    · have hw : writeD c.A (((fr + takeI c.P : Nat)) : Int) (nodeB inner M) = c.A.less := by unfold writeD; rw [hon, hh, hs2, hg]; rfl
      have he : writeE c.A (((fr + takeI c.P : Nat)) : Int) (nodeB inner M) = 8 := by unfold writeE; rw [hon, hh, hs2, hg]; rfl
      have hl0 : c.A.left = 0 := by simpa [Dev.goes] using hg
      rw [hw, he]
      exact ⟨hB _ (.inl (less_B _)) fun h => by omega, .inr ⟨rfl, by omega⟩⟩
    · have hg : c.A.goes = false := by simpa using hg
      have hw : writeD c.A (((fr + takeI c.P : Nat)) : Int) (nodeB inner M) = addW c.A.less (fr + takeI c.P) (nodeB inner M) := by unfold writeD; rw [hon, hh, hs2, hg, Int.toNat_natCast]; rfl
      have he : writeE c.A (((fr + takeI c.P : Nat)) : Int) (nodeB inner M) = 0 := by unfold writeE; rw [hon, hh, hs2, hg]; rfl
      have hl0 : ¬ c.A.left = 0 := by simpa [Dev.goes] using hg
      rw [hw, he]
      refine ⟨hB _ (.inr (by show (c.A.less.B).modify _ _ = _; rw [less_B])) fun h => by show c.A.less.left = -1; rw [less_left h]; exact h, .inl ⟨rfl, ?_, ?_⟩⟩
      · show c.A.less.on = true
        unfold Dev.less
        rw [if_neg hl0]
        split <;> exact hon
      · unfold RD
        show parseO (stands ((c.A.less.B.modify (fr + takeI c.P) _).getD (fr + takeI c.P) _)) = _
        rw [less_B, getD_modify_eq (by omega)]
        show parseO ((((c.A.B.getD (fr + takeI c.P) (zeros, [])).2 ++ [nodeB inner M]).getLast?).getD _) = _
        rw [List.getLast?_concat]
        exact hs3
end

end Go.Proofs.YtbkadlngijkmmaaGreatDoor

/- Plain law of the tree: what lies below a page; a node is put. -/
namespace Go.Proofs.YtbkadlngijkmmaaGreatDoor
open Go.GV

def leafI (p : Pr) : It := ⟨p.1, p.2, 0⟩
/-- Items of an inner node, with what lies below each. -/
def Kids (Q : Nat → List Pr → List Nat → Prop) : List It → List Pr → List Nat → Prop
  | [], L, S => L = [] ∧ S = []
  | x :: l, L, S => ∃ L1 L2 S1 S2, L = L1 ++ L2 ∧ S = S1 ++ S2 ∧ Q x.page L1 S1 ∧ L1[0]?.map (·.1) = some x.key ∧ x.val = [] ∧ Kids Q l L2 S2
def Many (i : Bool) (M : List It) : Prop := if i = true then 2 ≤ M.length else M ≠ []
/-- What a node of such a height has: the pairs, the pages below. -/
def Part (R : Nat → Option (Bool × List It)) : Nat → Bool → List It → List Pr → List Nat → Prop
  | 0, i, M, L, S => i = false ∧ M = L.map leafI ∧ S = []
  | h + 1, i, M, L, S => i = true ∧ Kids (fun p L S => ∃ i' M' S', Part R h i' M' L S' ∧ R p = some (i', M') ∧ S = p :: S' ∧ Many i' M' ∧ totalI i' M' ≤ 503) M L S
/-- What lies below a page: the pairs, the pages. -/
def Lies (R : Nat → Option (Bool × List It)) (h : Nat) (p : Nat) (L : List Pr) (S : List Nat) : Prop :=
  ∃ i' M' S', Part R h i' M' L S' ∧ R p = some (i', M') ∧ S = p :: S' ∧ Many i' M' ∧ totalI i' M' ≤ 503
def OkP (L : List Pr) : Prop := ∀ p ∈ L, 1 ≤ p.1.length ∧ p.1.length ≤ 32 ∧ p.2.length ≤ 128
section
variable {R R' : Nat → Option (Bool × List It)} {Q Q' : Nat → List Pr → List Nat → Prop} {h : Nat} {i : Bool} {M l a b : List It} {L : List Pr} {S : List Nat}
theorem Kids_append : Kids Q (a ++ b) L S ↔ ∃ La Lb Sa Sb, L = La ++ Lb ∧ S = Sa ++ Sb ∧ Kids Q a La Sa ∧ Kids Q b Lb Sb := by
  induction a generalizing L S with
  | nil =>
    constructor
    · intro h; exact ⟨[], L, [], S, rfl, rfl, ⟨rfl, rfl⟩, h⟩
    · rintro ⟨La, Lb, Sa, Sb, rfl, rfl, ⟨rfl, rfl⟩, h⟩; exact h
  | cons x a ih =>
    constructor
    · rintro ⟨L1, L2, S1, S2, rfl, rfl, h1, h2, h3, h4⟩
      obtain ⟨La, Lb, Sa, Sb, rfl, rfl, h5, h6⟩ := ih.1 h4
      exact ⟨L1 ++ La, Lb, S1 ++ Sa, Sb, by simp, by simp, ⟨L1, La, S1, Sa, rfl, rfl, h1, h2, h3, h5⟩, h6⟩
    · rintro ⟨La, Lb, Sa, Sb, rfl, rfl, ⟨L1, L2, S1, S2, rfl, rfl, h1, h2, h3, h4⟩, h5⟩
      exact ⟨L1, L2 ++ Lb, S1, S2 ++ Sb, by simp, by simp, h1, h2, h3, ih.2 ⟨L2, Lb, S2, Sb, rfl, rfl, h4, h5⟩⟩
theorem Kids.mono (hk : Kids Q l L S) (hq : ∀ p L' S', (∀ x ∈ S', x ∈ S) → Q p L' S' → Q' p L' S') : Kids Q' l L S := by
  induction l generalizing L S with
  | nil => exact hk
  | cons x l ih =>
    obtain ⟨L1, L2, S1, S2, rfl, rfl, h1, h2, h3, h4⟩ := hk
    exact ⟨L1, L2, S1, S2, rfl, rfl, hq _ _ _ (fun x hx => List.mem_append_left _ hx) h1, h2, h3, ih h4 fun p L' S' hs => hq p L' S' fun x hx => List.mem_append_right _ (hs x hx)⟩
theorem Part.frame : ∀ {h : Nat} {i : Bool} {M : List It} {L : List Pr} {S : List Nat}, Part R h i M L S → (∀ x ∈ S, R' x = R x) → Part R' h i M L S
  | 0, _, _, _, _, hp, _ => hp
  | h + 1, i, M, L, S, hp, hr => ⟨hp.1, hp.2.mono fun p L' S' hs ⟨i', M', S2, h1, h2, h3, h4⟩ => ⟨i', M', S2, h1.frame fun x hx => hr x (hs x (by rw [h3]; exact List.mem_cons_of_mem _ hx)), by rw [hr p (hs p (by rw [h3]; exact List.mem_cons_self ..))]; exact h2, h3, h4⟩⟩
theorem Lies.frame {p : Nat} (hp : Lies R h p L S) (hr : ∀ x ∈ S, R' x = R x) : Lies R' h p L S := by
  obtain ⟨i', M', S2, h1, h2, h3, h4⟩ := hp
  exact ⟨i', M', S2, h1.frame fun x hx => hr x (by rw [h3]; exact List.mem_cons_of_mem _ hx), by rw [hr p (by rw [h3]; exact List.mem_cons_self ..)]; exact h2, h3, h4⟩
theorem Kids.frame (hk : Kids (Lies R h) l L S) (hr : ∀ x ∈ S, R' x = R x) : Kids (Lies R' h) l L S :=
  hk.mono fun _ _ _ hs hq => hq.frame fun x hx => hr x (hs x hx)
theorem Lies.page {p : Nat} (hp : Lies R h p L S) : p ∈ S := by
  obtain ⟨i', M', S2, h1, h2, h3, h4⟩ := hp
  rw [h3]; exact List.mem_cons_self ..
theorem Kids.ne (hk : Kids Q l L S) (hl : l ≠ []) : L ≠ [] := by
  cases l with
  | nil => exact absurd rfl hl
  | cons x l =>
    obtain ⟨L1, L2, S1, S2, rfl, rfl, h1, h2, h3, h4⟩ := hk
    cases L1 with
    | nil => cases h2
    | cons y L1 => simp
theorem Many.ne (h : Many i M) : M ≠ [] := by
  unfold Many at h
  split at h
  · intro e; rw [e] at h; simp at h
  · exact h
theorem Part.ne (hp : Part R h i M L S) (hm : M ≠ []) : L ≠ [] := by
  cases h with
  | zero => obtain ⟨_, rfl, _⟩ := hp; exact fun e => hm (by rw [e]; rfl)
  | succ h => exact hp.2.ne hm
theorem Lies.ne {p : Nat} (hp : Lies R h p L S) : L ≠ [] := by
  obtain ⟨i', M', S2, h1, h2, h3, h4, h5⟩ := hp
  exact h1.ne h4.ne
theorem Kids.items (hk : Kids (Lies R h) l L S) (ho : OkP L) : ∀ x ∈ l, x.val = [] ∧ x.key.length ≤ 32 ∧ x.page ∈ S := by
  induction l generalizing L S with
  | nil => intro x hx; cases hx
  | cons y l ih =>
    obtain ⟨L1, L2, S1, S2, rfl, rfl, h1, h2, h3, h4⟩ := hk
    intro x hx
    rcases List.mem_cons.1 hx with rfl | hx
    · refine ⟨h3, ?_, List.mem_append_left _ h1.page⟩
      cases L1 with
      | nil => cases h2
      | cons z L1 =>
        simp only [List.getElem?_cons_zero, Option.map_some, Option.some.injEq] at h2
        rw [← h2]
        exact (ho z (by simp)).2.1
    · have := ih h4 (fun p hp => ho p (List.mem_append_right _ hp)) x hx
      exact ⟨this.1, this.2.1, List.mem_append_right _ this.2.2⟩
theorem Part.ok (hp : Part R h i M L S) (ho : OkP L) {P : List Nat} (hh : Held P S) (hP : P.length ≤ 4096) : ∀ x ∈ M, OkI i x ∧ sizeI i x ≤ 164 ∧ (i = true → sizeI i x ≤ 38) := by
  cases h with
  | zero =>
    obtain ⟨rfl, rfl, _⟩ := hp
    intro x hx
    obtain ⟨p, hp, rfl⟩ := List.mem_map.1 hx
    obtain ⟨h1, h2, h3⟩ := ho p hp
    refine ⟨⟨?_, ?_, by show (0 : Nat) < _; omega, by simp [leafI]⟩, ?_, fun h => by cases h⟩
    · show p.1.length < _; omega
    · show p.2.length < _; omega
    · show 4 + p.1.length + p.2.length ≤ _; omega
  | succ h =>
    obtain ⟨rfl, hk⟩ := hp
    intro x hx
    obtain ⟨h1, h2, h3⟩ := Kids.items hk ho x hx
    have := hh.lt h3
    have h38 : sizeI true x ≤ 38 := by show 6 + x.key.length ≤ 38; omega
    refine ⟨⟨by omega, by rw [h1]; simp, by omega, by simp [h1]⟩, by omega, fun _ => h38⟩
theorem Part.key (hp : Part R h i M L S) (hm : M ≠ []) : L[0]?.map (·.1) = some (keyOf0 M) := by
  cases h with
  | zero =>
    obtain ⟨rfl, rfl, _⟩ := hp
    cases L with
    | nil => exact absurd rfl hm
    | cons p L => rfl
  | succ h =>
    obtain ⟨rfl, hk⟩ := hp
    cases M with
    | nil => exact absurd rfl hm
    | cons x M =>
      obtain ⟨L1, L2, S1, S2, rfl, rfl, h1, h2, h3, h4⟩ := hk
      cases L1 with
      | nil => cases h2
      | cons y L1 => exact h2
theorem Part.append (h1 : Part R h i (a ++ b) L S) : ∃ La Lb Sa Sb, L = La ++ Lb ∧ S = Sa ++ Sb ∧ Part R h i a La Sa ∧ Part R h i b Lb Sb := by
  cases h with
  | zero =>
    obtain ⟨rfl, he, rfl⟩ := h1
    obtain ⟨La, Lb, rfl, ha, hb⟩ := List.append_eq_map_iff.1 he
    exact ⟨La, Lb, [], [], rfl, rfl, ⟨rfl, ha.symm, rfl⟩, ⟨rfl, hb.symm, rfl⟩⟩
  | succ h =>
    obtain ⟨La, Lb, Sa, Sb, e1, e2, ha, hb⟩ := Kids_append.1 h1.2
    exact ⟨La, Lb, Sa, Sb, e1, e2, ⟨h1.1, ha⟩, ⟨h1.1, hb⟩⟩
end

/-! ### Halves -/
theorem half_le {inner : Bool} {half m : Nat} : ∀ {l : List It} {sum : Nat}, (∀ x ∈ l, sizeI inner x ≤ m) → sum < half + m → sum + totalI inner (l.take (halfG inner half l sum)) < half + m
  | [], sum, _, h => by simpa [halfG, totalI] using h
  | x :: l, sum, hl, h => by
    rw [halfG]
    split
    · rename_i h1
      rw [List.take_succ_cons, totalI_cons, ← Nat.add_assoc]
      exact half_le (fun y hy => hl y (List.mem_cons_of_mem _ hy)) (by have := hl x (List.mem_cons_self ..); omega)
    · simpa [totalI] using h
theorem half_ge {inner : Bool} {half : Nat} : ∀ {l : List It} {sum : Nat}, half ≤ sum + totalI inner l → half ≤ sum + totalI inner (l.take (halfG inner half l sum))
  | [], sum, h => by simpa [halfG, totalI] using h
  | x :: l, sum, h => by
    rw [halfG]
    split
    · rename_i h1
      rw [List.take_succ_cons, totalI_cons, ← Nat.add_assoc]
      exact half_ge (by rw [totalI_cons] at h; omega)
    · rename_i h1; rw [List.take_zero]; show half ≤ sum + 0; omega
theorem total_max {inner : Bool} {m : Nat} : ∀ {l : List It}, (∀ x ∈ l, sizeI inner x ≤ m) → totalI inner l ≤ m * l.length
  | [], _ => Nat.zero_le _
  | x :: l, h => by
    have h1 := total_max (l := l) fun y hy => h y (List.mem_cons_of_mem _ hy)
    have h2 := h x (List.mem_cons_self ..)
    rw [totalI_cons, List.length_cons, Nat.mul_succ]; omega
theorem halves_spec {i : Bool} {M : List It} (hM : Many i M) (hT : totalI i M ≤ 667) (hs : ∀ x ∈ M, sizeI i x ≤ 164 ∧ (i = true → sizeI i x ≤ 38)) :
    (totalI i M ≤ 503 ∧ halvesN i M = [M]) ∨ (∃ a b, M = a ++ b ∧ halvesN i M = [a, b] ∧ Many i a ∧ Many i b ∧ totalI i a ≤ 503 ∧ totalI i b ≤ 503) := by
  unfold halvesN
  by_cases h1 : totalI i M ≤ 503
  · left; rw [if_pos h1]; exact ⟨h1, rfl⟩
  · right
    rw [if_neg h1]
    refine ⟨M.take (halfK i M), M.drop (halfK i M), (List.take_append_drop ..).symm, rfl, ?_⟩
    have hsum := totalI_append i (M.take (halfK i M)) (M.drop (halfK i M))
    rw [List.take_append_drop] at hsum
    have hge : totalI i M / 2 ≤ totalI i (M.take (halfK i M)) := by
      have := half_ge (inner := i) (half := totalI i M / 2) (l := M) (sum := 0) (by omega)
      rw [Nat.zero_add] at this; exact this
    have hlt : totalI i (M.take (halfK i M)) < totalI i M / 2 + 164 := by
      have := half_le (inner := i) (half := totalI i M / 2) (m := 164) (l := M) (sum := 0) (fun x hx => (hs x hx).1) (by omega)
      rw [Nat.zero_add] at this; exact this
    cases i with
    | false =>
      refine ⟨?_, ?_, by omega, by omega⟩
      · show _ ≠ []
        intro e; have e0 : totalI false (M.take (halfK false M)) = 0 := (by rw [e]; rfl); omega
      · show _ ≠ []
        intro e; have e0 : totalI false (M.drop (halfK false M)) = 0 := (by rw [e]; rfl); omega
    | true =>
      have hlt : totalI true (M.take (halfK true M)) < totalI true M / 2 + 38 := by
        have := half_le (inner := true) (half := totalI true M / 2) (m := 38) (l := M) (sum := 0) (fun x hx => (hs x hx).2 rfl) (by omega)
        rw [Nat.zero_add] at this; exact this
      have ha := total_max (inner := true) (m := 38) (l := M.take (halfK true M)) fun x hx => (hs x (List.mem_of_mem_take hx)).2 rfl
      have hb := total_max (inner := true) (m := 38) (l := M.drop (halfK true M)) fun x hx => (hs x (List.mem_of_mem_drop hx)).2 rfl
      refine ⟨?_, ?_, by omega, by omega⟩
      · show 2 ≤ _
        rcases Nat.lt_or_ge (M.take (halfK true M)).length 2 with h5 | h5
        · have : 38 * (M.take (halfK true M)).length ≤ 38 * 1 := Nat.mul_le_mul_left _ (by omega)
          omega
        · exact h5
      · show 2 ≤ _
        rcases Nat.lt_or_ge (M.drop (halfK true M)).length 2 with h5 | h5
        · have : 38 * (M.drop (halfK true M)).length ≤ 38 * 1 := Nat.mul_le_mul_left _ (by omega)
          omega
        · exact h5

/-! ### A node is written, a node is put -/
/-- Power that goes, pages that are full. -/
def Bad (c : Ch) (e : Int) (m : Nat) : Prop := (e = 8 ∧ c.A.left ≠ -1) ∨ (e = 7 ∧ freeP c.P < m)
theorem Bad.ne {c : Ch} {e : Int} {m : Nat} (h : Bad c e m) : e ≠ 0 := by
  rcases h with ⟨h, _⟩ | ⟨h, _⟩ <;> omega
theorem Bad.back {c c1 : Ch} {fr : Nat} {t g : List Nat} {e : Int} {m m' : Nat} (h : Bad c1 e m) (h1 : CI fr c c1 t g) (hm : m + t.length ≤ m') : Bad c e m' := by
  rcases h with ⟨h, h2⟩ | ⟨h, h2⟩
  · exact .inl ⟨h, fun h3 => h2 (h1.left h3)⟩
  · exact .inr ⟨h, by have := h1.free; omega⟩
theorem Bad.mono {c : Ch} {e : Int} {m m' : Nat} (h : Bad c e m) (hm : m ≤ m') : Bad c e m' := h.imp id fun h => ⟨h.1, by omega⟩
/-- The device is on, and has the pages. -/
structure On (fr : Nat) (c : Ch) : Prop where
  on : c.A.on = true
  has : fr + c.P.length ≤ c.A.B.length
  few : c.P.length ≤ 4096
theorem On.keep {fr : Nat} {c c1 : Ch} {t g : List Nat} (h : On fr c) (h1 : CI fr c c1 t g) (hon : c1.A.on = true) : On fr c1 :=
  ⟨hon, by rw [h1.len, h1.blen]; exact h.has, by rw [h1.len]; exact h.few⟩
theorem part_wr {fr : Nat} {c : Ch} {h : Nat} {i : Bool} {M : List It} {L : List Pr} {S : List Nat} (hp : Part (RD c.A fr) h i M L S) (ho : OkP L) (hh : Held c.P S) (hn : On fr c) (hm : Many i M) (ht : totalI i M ≤ 503) :
    ∃ t, CI fr c (wrC fr c i M).2 t [] ∧ t.length ≤ 1 ∧
      (((wrC fr c i M).1 = 0 ∧ t = [takeK c.P] ∧ On fr (wrC fr c i M).2 ∧ Lies (RD (wrC fr c i M).2.A fr) h (takeK c.P) L (takeK c.P :: S) ∧ L[0]?.map (·.1) = some (keyOf0 M)) ∨ Bad c (wrC fr c i M).1 1) := by
  have hM : Fits i M := ⟨hm.ne, fun x hx => (hp.ok ho hh hn.few x hx).1, ht⟩
  rcases wr_spec hn.on hn.has hM with ⟨h1, h2, h3⟩ | ⟨h1, h2⟩
  · exact ⟨[], by rw [h2]; exact CI.refl _ _, by simp, .inr (.inr ⟨h1, by omega⟩)⟩
  · refine ⟨_, h1, by simp, ?_⟩
    rcases h2 with ⟨h3, h4, h5⟩ | ⟨h3, h4⟩
    · exact .inl ⟨h3, rfl, hn.keep h1 h4, ⟨i, M, S, hp.frame (h1.rd hh), h5, rfl, hm, ht⟩, hp.key hm.ne⟩
    · exact .inr (.inl ⟨h3, h4⟩)
/-- May a node be put? -/
def okM (i : Bool) (M : List It) : Bool := decide (M.length ≤ 1000) && (M.all (fun x => decide (x.key.length ≤ 65535) && (decide (x.val.length ≤ 65535) && decide (x.page < 9223372036854775808))) && (decide (M = []) || (halvesN i M).all fun h => decide (h ≠ [])))
def putS (fr : Nat) (c : Ch) (i : Bool) (M : List It) : Int × Ch × List It := bif okM i M then putC fr c i M else (99, c, [])
theorem size_ge (i : Bool) (x : It) : 4 ≤ sizeI i x := by
  cases i
  · simp only [sizeI, cond_false]; omega
  · simp only [sizeI, cond_true]; omega
theorem total_ge (i : Bool) : ∀ l : List It, 4 * l.length ≤ totalI i l
  | [] => Nat.zero_le _
  | x :: l => by
    have := size_ge i x; have := total_ge i l
    rw [totalI_cons, List.length_cons]; omega
theorem putS_ok {fr : Nat} {c : Ch} {h : Nat} {i : Bool} {M : List It} {L : List Pr} {S : List Nat} (hp : Part (RD c.A fr) h i M L S) (ho : OkP L) (hh : Held c.P S) (hn : On fr c) (hm : M = [] ∨ Many i M) (hT : totalI i M ≤ 667) : putS fr c i M = putC fr c i M := by
  have hx := hp.ok ho hh hn.few
  have hge := total_ge i M
  unfold putS
  have : okM i M = true := by
    unfold okM
    simp only [Bool.and_eq_true, Bool.or_eq_true, decide_eq_true_eq, List.all_eq_true]
    refine ⟨by omega, fun x hx' => ?_, ?_⟩
    · obtain ⟨⟨h1, h2, h3, _⟩, _⟩ := hx x hx'
      omega
    · rcases hm with rfl | hm
      · exact .inl rfl
      · refine .inr fun a ha => ?_
        rcases halves_spec hm hT fun x h => (hx x h).2 with ⟨_, h2⟩ | ⟨a', b', _, h2, h3, h4, _⟩
        · rw [h2, List.mem_singleton] at ha
          rw [ha]; exact hm.ne
        · rw [h2] at ha
          simp only [List.mem_cons, List.not_mem_nil, or_false] at ha
          rcases ha with rfl | rfl
          · exact h3.ne
          · exact h4.ne
  rw [this]; rfl

end Go.Proofs.YtbkadlngijkmmaaGreatDoor

/- Plain law of the tree: a node is put. -/
namespace Go.Proofs.YtbkadlngijkmmaaGreatDoor
open Go.GV

theorem putC_nil (fr : Nat) (c : Ch) (i : Bool) : putC fr c i [] = (0, c, []) := rfl
theorem putC_cons {fr : Nat} {c : Ch} {i : Bool} {M : List It} (h : M ≠ []) : putC fr c i M = putF fr i (halvesN i M) c [] := by
  unfold putC; rw [if_neg h]
theorem perm_front {a b c d : List Nat} : ((a ++ b) ++ (c ++ d)).Perm ((a ++ c) ++ (b ++ d)) := by
  rw [List.append_assoc, List.append_assoc]
  refine List.Perm.append_left a ?_
  rw [← List.append_assoc, ← List.append_assoc]
  exact List.Perm.append_right d List.perm_append_comm
theorem Held.app {P S S' : List Nat} (h : Held P S) (h' : Held P S') : Held P (S ++ S') := fun x hx => (List.mem_append.1 hx).elim (h x) (h' x)
theorem Held.sub {P S S' : List Nat} (h : Held P S) (hs : ∀ x ∈ S', x ∈ S) : Held P S' := fun x hx => h x (hs x hx)
/-- What a put leaves. -/
structure Puts (fr h : Nat) (c : Ch) (M : List It) (L : List Pr) (S t : List Nat) (r : Int × Ch × List It) : Prop where
  ok : r.1 = 0
  on : On fr r.2.1
  kids : ∃ S', Kids (Lies (RD r.2.1.A fr) h) r.2.2 L S' ∧ S'.Perm (S ++ t) ∧ Held r.2.1.P S'
  num : r.2.2.length ≤ 2
  ne : M ≠ [] → r.2.2 ≠ []
theorem put_spec {fr : Nat} {c : Ch} {h : Nat} {i : Bool} {M : List It} {L : List Pr} {S : List Nat} (hp : Part (RD c.A fr) h i M L S) (ho : OkP L) (hh : Held c.P S) (hn : On fr c) (hm : (M = [] ∧ h = 0) ∨ Many i M) (hT : totalI i M ≤ 667) :
    ∃ t, CI fr c (putS fr c i M).2.1 t [] ∧ t.length ≤ 2 ∧ (Puts fr h c M L S t (putS fr c i M) ∨ Bad c (putS fr c i M).1 2) := by
  rw [putS_ok hp ho hh hn (hm.imp And.left id) hT]
  rcases hm with ⟨rfl, rfl⟩ | hm
  · obtain ⟨rfl, he, rfl⟩ := hp
    have hL : L = [] := by
      cases L with
      | nil => rfl
      | cons _ _ => cases he
    subst hL
    rw [putC_nil]
    exact ⟨[], CI.refl _ _, by simp, .inl ⟨rfl, hn, ⟨[], ⟨rfl, rfl⟩, by simp, fun x hx => by cases hx⟩, by simp, fun h => absurd rfl h⟩⟩
  · rw [putC_cons hm.ne]
    have hx := hp.ok ho hh hn.few
    rcases halves_spec hm hT fun x h => (hx x h).2 with ⟨h1, h2⟩ | ⟨a, b, rfl, h2, h3, h4, h5, h6⟩
    · rw [h2]
      obtain ⟨t, w1, w2, w3⟩ := part_wr hp ho hh hn hm h1
      refine ⟨t, ?_, by omega, ?_⟩
      · unfold putF
        split
        · exact w1
        · exact w1
      · rcases w3 with ⟨h7, rfl, h8, h9, h10⟩ | h7
        · left
          unfold putF
          rw [if_pos h7]
          refine ⟨rfl, h8, ⟨takeK c.P :: S, ?_, ?_, ?_⟩, by simp [putF], fun _ => by simp [putF]⟩
          · show Kids _ [_] _ _
            exact ⟨L, [], takeK c.P :: S, [], by simp, by simp, h9, h10, rfl, rfl, rfl⟩
          · exact (List.perm_append_comm (l₁ := S) (l₂ := [takeK c.P])).symm
          · exact (w1.held.app (hh.keep w1))
        · right
          unfold putF
          rw [if_neg h7.ne]
          exact h7.mono (by omega)
    · rw [h2]
      obtain ⟨La, Lb, Sa, Sb, rfl, rfl, pa, pb⟩ := hp.append
      have hoa : OkP La := fun p hp => ho p (List.mem_append_left _ hp)
      have hob : OkP Lb := fun p hp => ho p (List.mem_append_right _ hp)
      have hha : Held c.P Sa := hh.sub fun x hx => List.mem_append_left _ hx
      have hhb : Held c.P Sb := hh.sub fun x hx => List.mem_append_right _ hx
      obtain ⟨t, w1, w2, w3⟩ := part_wr pa hoa hha hn h3 h5
      rcases w3 with ⟨h7, rfl, h8, h9, h10⟩ | h7
      · obtain ⟨t', v1, v2, v3⟩ := part_wr (pb.frame (w1.rd hhb)) hob (hhb.keep w1) h8 h4 h6
        have hCI := w1.trans v1
        refine ⟨[takeK c.P] ++ t', ?_, ?_, ?_⟩
        · unfold putF
          rw [if_pos h7]
          unfold putF
          split
          · exact hCI
          · exact hCI
        · rw [List.length_append]; omega
        · rcases v3 with ⟨g7, rfl, g8, g9, g10⟩ | g7
          · left
            unfold putF
            rw [if_pos h7]
            unfold putF
            rw [if_pos g7]
            refine ⟨rfl, g8, ⟨(takeK c.P :: Sa) ++ (takeK (wrC fr c i a).2.P :: Sb), ?_, ?_, ?_⟩, by simp [putF], fun _ => by simp [putF]⟩
            · show Kids _ ([_, _]) _ _
              refine ⟨La, Lb, _, _, rfl, rfl, h9.frame (v1.rd (w1.held.app (hha.keep w1))), h10, rfl, ⟨Lb, [], _, [], by simp, by simp, g9, g10, rfl, rfl, rfl⟩⟩
            · show (([takeK c.P] ++ Sa) ++ ([takeK (wrC fr c i a).2.P] ++ Sb)).Perm _
              exact perm_front.trans List.perm_append_comm
            · exact ((w1.held.app (hha.keep w1)).keep v1).app (v1.held.app ((hhb.keep w1).keep v1))
          · right
            unfold putF
            rw [if_pos h7]
            unfold putF
            rw [if_neg g7.ne]
            exact g7.back w1 (by simp)
      · refine ⟨t, ?_, by omega, .inr ?_⟩
        · unfold putF
          rw [if_neg h7.ne]
          exact w1
        · unfold putF
          rw [if_neg h7.ne]
          exact h7.mono (by omega)

end Go.Proofs.YtbkadlngijkmmaaGreatDoor

/- What a change does to a tree, as functions. -/
namespace Go.Proofs.YtbkadlngijkmmaaGreatDoor
open Go.GV

def pageAt (l : List It) (i : Nat) : Nat := (l[i]?.map (·.page)).getD 0
def few1 (inner : Bool) (kid : List It) : Bool := inner && decide (kid.length = 1)
def sideK (i : Nat) : Nat := if i = 0 then 1 else i - 1
/-- A child that is too few goes together with a neighbour: the error, the change, the items, from where, to where. -/
def sideC (fr : Nat) (c : Ch) (l : List It) (i depth : Nat) (inner : Bool) (kid : List It) : Int × Ch × List It × Nat × Nat :=
  if few1 inner kid = true then
    (if l.length ≤ sideK i then (9, c, [], 0, 0)
     else match (readT c.A fr c.P.length ((pageAt l (sideK i) : Nat) : Int) ((depth + 1 : Nat) : Int)).2 with
       | none => ((readT c.A fr c.P.length ((pageAt l (sideK i) : Nat) : Int) ((depth + 1 : Nat) : Int)).1, c, [], 0, 0)
       | some (false, _) => (9, rdC fr c (pageAt l (sideK i)) (depth + 1), [], 0, 0)
       | some (true, o) => (0, rdC fr c (pageAt l (sideK i)) (depth + 1), if i = 0 then kid ++ o else o ++ kid, i - 1, if i = 0 then 2 else i + 1))
  else (0, c, kid, i, i + 1)
/-- What a page's node has, once something is done below it. -/
def editC (fr : Nat) (G : List It → List It) (key : Byt) : Nat → Ch → Nat → Nat → Int × Ch × Bool × List It
  | 0, c, _, _ => (9, c, false, [])
  | n + 1, c, page, depth => match (readT c.A fr c.P.length (page : Int) (depth : Int)).2 with
    | none => ((readT c.A fr c.P.length (page : Int) (depth : Int)).1, c, false, [])
    | some (false, l) => (0, rdC fr c page depth, false, G l)
    | some (true, l) =>
      let r := editC fr G key n (rdC fr c page depth) (pageAt l (belowN l key)) (depth + 1)
      if r.1 ≠ 0 then (r.1, r.2.1, true, []) else
      let s := sideC fr r.2.1 l (belowN l key) depth r.2.2.1 r.2.2.2
      if s.1 ≠ 0 then (s.1, s.2.1, true, []) else
      let q := putS fr s.2.1 r.2.2.1 s.2.2.1
      (q.1, q.2.1, true, l.take s.2.2.2.1 ++ (q.2.2 ++ l.drop s.2.2.2.2))
/-- The root of what the uppermost node has. -/
def topC (fr : Nat) (c : Ch) (inner : Bool) (M : List It) : Int × Ch × Int :=
  if few1 inner M = true then (0, c, (pageAt M 0 : Int))
  else if (putS fr c inner M).1 ≠ 0 then ((putS fr c inner M).1, (putS fr c inner M).2.1, -1)
  else if (putS fr c inner M).2.2 = [] then (0, (putS fr c inner M).2.1, -1)
  else if 1 < (putS fr c inner M).2.2.length then
    ((wrC fr (putS fr c inner M).2.1 true (putS fr c inner M).2.2).1, (wrC fr (putS fr c inner M).2.1 true (putS fr c inner M).2.2).2, (takeK (putS fr c inner M).2.1.P : Int))
  else (0, (putS fr c inner M).2.1, (pageAt (putS fr c inner M).2.2 0 : Int))
def overC (c : Ch) (e : Int) : Ch := { c with P := (if e ≠ 0 then c.tk else c.gn).foldl dropP c.P }
/-- Something is done to the leaf of a root: the error, the root, the change. -/
def turnC (fr : Nat) (A : Dev) (P : List Nat) (root : Int) (key : Byt) (G : List It → List It) : Int × Int × Ch :=
  let ed := if root = -1 then (0, ⟨A, P, [], []⟩, false, G []) else editC fr G key 18 ⟨A, P, [], []⟩ root.toNat 0
  if ed.1 ≠ 0 then (ed.1, root, overC ed.2.1 ed.1)
  else
    let t := topC fr ed.2.1 ed.2.2.1 ed.2.2.2
    if t.1 ≠ 0 then (t.1, root, overC t.2.1 t.1) else (0, t.2.2, overC t.2.1 0)
/-- A leaf's items with a pair put; with one cut. -/
def insI (key val : Byt) (l : List It) : List It :=
  if placeB l key = true then l.take (placeN l key) ++ ([⟨key, val, 0⟩] ++ l.drop (placeN l key + 1)) else l.take (placeN l key) ++ ([⟨key, val, 0⟩] ++ l.drop (placeN l key))
def delI (key : Byt) (l : List It) : List It :=
  if placeB l key = true then l.take (placeN l key) ++ l.drop (placeN l key + 1) else l
def putT (fr : Nat) (A : Dev) (P : List Nat) (root : Int) (key val : Byt) : Int × Int × Dev × List Nat :=
  if mayE P.length root ≠ 0 then (1, root, A, P)
  else if rightK key.length val.length = true then
    ((turnC fr A P root key (insI key val)).1, (turnC fr A P root key (insI key val)).2.1, (turnC fr A P root key (insI key val)).2.2.A, (turnC fr A P root key (insI key val)).2.2.P)
  else (1, root, A, P)
def cutT (fr : Nat) (A : Dev) (P : List Nat) (root : Int) (key : Byt) : Int × Int × Bool × Dev × List Nat :=
  if (getT A fr P.length root key).1 ≠ 0 then ((getT A fr P.length root key).1, root, false, A, P)
  else if (getT A fr P.length root key).2.isSome = false then (0, root, false, A, P)
  else ((turnC fr A P root key (delI key)).1, (turnC fr A P root key (delI key)).2.1, decide ((turnC fr A P root key (delI key)).1 = 0), (turnC fr A P root key (delI key)).2.2.A, (turnC fr A P root key (delI key)).2.2.P)

end Go.Proofs.YtbkadlngijkmmaaGreatDoor

/- A change is over: pages are dropped. -/
namespace Go.Proofs.YtbkadlngijkmmaaGreatDoor
open Go.GV
theorem ag_33_TrR : aggB Tryz.prog 33 = some false := by kernel_rfl
theorem ag_34_TrR : aggB Tryz.prog 34 = some false := by kernel_rfl
theorem ca_136_TrR : callable Tryz.prog 136 = true := by kernel_rfl
theorem ca_181_TrR : callable Tryz.prog 181 = true := by kernel_rfl
theorem fo_135_0_TrR : fieldO Tryz.prog 135 0 = some 0 := by kernel_rfl
theorem fo_135_1_TrR : fieldO Tryz.prog 135 1 = some 1 := by kernel_rfl
theorem fo_135_2_TrR : fieldO Tryz.prog 135 2 = some 2 := by kernel_rfl
theorem fo_146_1_TrR : fieldO Tryz.prog 146 1 = some 1 := by kernel_rfl
attribute [local irreducible] Wops W Wq Wt

theorem pdrop0_ok {w : World} {bp ba : Nat} {P : List Nat} (h : PgAt w bp ba P) (k : Nat) (hk : P.length ≤ k) : Ret Tryz.prog 136 #[ptr bp, .int .i64 (k : Int)] w fun v w' => (∃ e, v = .int .i64 e) ∧ PgAt w' bp ba P ∧ Ext [ba] w w' := by
  obtain ⟨w0, rfl⟩ : ∃ w0, w0 = w := ⟨_, rfl⟩
  have hh : hasP P (k : Int) = false := by unfold hasP; simp; omega
  refine ret_of_W (fn := Tryz.f136) Tryz.func136 rfl [.pointer (some ⟨bp, 0, none⟩), .int .i64 (k : Int)] rfl (by kernel_rfl) ?_
  refine W_rseq ?_
  refine op_assign rfl (.int _ _) rfl ?_
  refine op_nil (at_then ?_)
  refine W_seq ?_
  refine W_rseq ?_
  refine op_move rfl (.pointer _) rfl ?_
  refine op_move rfl (.int _ _) rfl ?_
  refine op_call rfl ca_181_TrR (pmay_ok h (k : Int)) rfl ?_
  rintro v w ⟨rfl, rfl⟩
  rw [hh]
  refine op_assign rfl (.int _ _) rfl ?_
  refine op_nil (at_then ?_)
  refine W_rseq ?_
  refine op_move rfl (.int _ _) rfl ?_
  refine op_neq rfl rfl rfl ?_
  refine op_nil (at_then ?_)
  refine W_cond1 rfl ?_
  refine W_rseq ?_
  refine op_move rfl (.int _ _) rfl ?_
  refine op_assign rfl (.int _ _) rfl ?_
  refine op_nil (at_then ?_)
  refine W_ret (ret_then (leave1 (v := (.int _ _)) rfl rfl rfl ?_))
  exact ⟨⟨_, rfl⟩, h, .refl _ _⟩
theorem pdrop7_ok {w : World} {bp ba : Nat} {P : List Nat} (h : PgAt w bp ba P) (k : Nat) : Ret Tryz.prog 136 #[ptr bp, .int .i64 (k : Int)] w fun v w' => (∃ e, v = .int .i64 e) ∧ PgAt w' bp ba (dropP P k) ∧ Ext [ba] w w' := by
  rcases Nat.lt_or_ge k P.length with hk | hk
  · exact pdrop_ok h k hk
  · have : dropP P k = P := by
      have hn : P[k]? = none := List.getElem?_eq_none hk
      unfold dropP; rw [hn, if_neg (by simp), if_neg (by simp)]
    rw [this]
    exact pdrop0_ok h k hk
theorem pv_rd {w : World} {a : Option Addr} {n c t : Nat} {full : List Value} {l : List Nat} (h : OS a n c 1 full (l.map pv)) (hb : ∀ x ∈ ent a t full, w.heap[x.1]? = some x.2) : Rd w a 1 (fun k => [pv k]) l :=
  OS.rd (by rw [flat1]; exact h) hb (by simp) (by omega)

set_option maxRecDepth 20000 in
set_option maxHeartbeats 4000000 in
theorem over_ok7 {w : World} {bt bd bp ba fr bc : Nat} {c : Ch} {F : Mut} {L : List (Nat × Obj)} (X : Cx w bt bd bp ba fr bc c F L) (e : Int) (htk : c.tk.length ≤ 1000000) (hgn : c.gn.length ≤ 1000000) :
    Ret Tryz.prog 78 #[ptr bc, .int .i64 e] w fun v w' => v = .tuple #[] ∧ Cx w' bt bd bp ba fr bc (overC c e) F L ∧ Grown (TM F ba bt bp L) (TM F ba bt bp L) w w' := by
  obtain ⟨w0, rfl⟩ : ∃ w0, w0 = w := ⟨_, rfl⟩
  obtain ⟨T, ta, tc, tf, ga, gc, gf, rfl, Ot, Og⟩ := X
  have H := T.ctx
  have Rt := pv_rd Ot (fun y hy => T.blk y (List.mem_cons_of_mem _ (List.mem_append_left _ hy)))
  have Rg := pv_rd Og (fun y hy => T.blk y (List.mem_cons_of_mem _ (List.mem_append_right _ hy)))
  refine ret_of_W (fn := Tryz.f78) Tryz.func78 rfl [.pointer (some ⟨bc, 0, none⟩), .int .i64 e] rfl (by kernel_rfl) ?_
  refine W_seq ?_
  refine W_rseq ?_
  refine op_move rfl (.int _ _) rfl ?_
  refine op_neq rfl rfl rfl ?_
  refine op_nil (at_then ?_)
  refine W_cond _ rfl ?_ ?_
  · intro h1
    replace h1 := ndec_t h1
    refine W_seq ?_
    refine W_rseq ?_
    refine op_move rfl (.pointer _) rfl ?_
    refine op_nilCheck rfl rfl ?_
    refine op_fieldAddr rfl fo_135_1_TrR rfl ?_
    refine op_ldb rfl ag_57 rfl H (by first | exact at0 | exact at1 | exact at2 | exact at3 | exact at4 | exact at5 | exact at6 | exact at7 | exact at8 | exact at9) rfl ?_
    refine op_len rfl el_57 rfl ?_
    refine op_move rfl (.int _ _) rfl ?_
    refine op_nil (at_then ?_)
    refine W_block ?_
    refine W_loop 536838176 (α := Nat) (fun i => [(15, .int .i64 (i : Int))]) (fun i w' => i ≤ c.tk.length ∧ Tx w' bt bd bp ba fr c.A ((c.tk.take i).foldl dropP c.P) F (CL bt bc ta c.tk.length tc tf ga c.gn.length gc gf) ∧ Grown (TM F ba bt bp (CL bt bc ta c.tk.length tc tf ga c.gn.length gc gf)) (TM F ba bt bp (CL bt bc ta c.tk.length tc tf ga c.gn.length gc gf)) w0 w') (fun i => c.tk.length - i) 0 rfl ?_ ?_ ?_
    · exact ⟨rfl, trivial⟩
    · exact ⟨Nat.zero_le _, T, .call0 (.refl _ _)⟩
    · rintro i j w ⟨hi, T1, G1⟩
      have H := T1.ctx
      have R1 := pv_rd Ot (fun y hy => T1.blk y (List.mem_cons_of_mem _ (List.mem_append_left _ hy)))
      refine W_rseq ?_
      refine op_lss rfl rfl rfl ?_
      refine op_nil (at_then ?_)
      refine W_seq ?_
      refine W_cond _ rfl ?_ ?_
      · intro h2
        replace h2 := dec_t h2
        obtain ⟨k, hk⟩ := get_some (l := c.tk) (i := i) (by omega)
        refine W_skip (at_then ?_)
        refine W_seq ?_
        refine W_block ?_
        refine W_rseq ?_
        first | refine op_indexRd R1 rfl el_57 sz_3 rfl rfl (by omega) (by omega) (by first | rfl | omega) ?_ | refine op_indexAddr rfl el_57 sz_3 rfl rfl (by omega) (by omega) ?_
        first | refine op_ldb rfl ag_3 rfl H (by first | exact at0 | exact at1 | exact at2 | exact at3 | exact at4 | exact at5 | exact at6 | exact at7 | exact at8 | exact at9) rfl ?_ | refine op_ld rfl ag_3 rfl (R1.fld hk rfl (j := 0) rfl) ?_ | refine op_ld rfl ag_3 rfl (cell_bl T1.tr (0 + 1)) ?_
        refine op_assign rfl (.int _ _) rfl ?_
        refine op_nil (at_then ?_)
        refine W_region ?_
        refine op_move rfl (.pointer _) rfl ?_
        refine op_nilCheck rfl rfl ?_
        refine op_fieldAddr rfl fo_135_0_TrR rfl ?_
        first | refine op_ldb rfl ag_34_TrR rfl H (by first | exact at0 | exact at1 | exact at2 | exact at3 | exact at4 | exact at5 | exact at6 | exact at7 | exact at8 | exact at9) rfl ?_ | refine op_ld rfl ag_34_TrR rfl (R1.fld hk rfl (j := 0) rfl) ?_ | refine op_ld rfl ag_34_TrR rfl (cell_bl T1.tr (0 + 1)) ?_
        refine op_nilCheck rfl rfl ?_
        refine op_fieldAddr rfl fo_146_1_TrR rfl ?_
        first | refine op_ldb rfl ag_33_TrR rfl H (by first | exact at0 | exact at1 | exact at2 | exact at3 | exact at4 | exact at5 | exact at6 | exact at7 | exact at8 | exact at9) rfl ?_ | refine op_ld rfl ag_33_TrR rfl (R1.fld hk rfl (j := 0) rfl) ?_ | refine op_ld rfl ag_33_TrR rfl (cell_bl T1.tr (0 + 1)) ?_
        refine op_move rfl (.int _ _) rfl ?_
        refine op_call rfl ca_136_TrR (pdrop7_ok T1.pg k) rfl ?_
        rintro v w2 ⟨⟨ev, rfl⟩, hp, hx⟩
        obtain ⟨T2, G2⟩ := T1.page hp hx
        refine op_nil (at_block (at_then ?_))
        refine W_region ?_
        refine op_add_i64 rfl rfl rfl (by omega) (by omega) ?_
        refine op_move rfl (.int _ _) rfl ?_
        refine op_nil (at_then ?_)
        exact ⟨i + 1, rfl, ⟨rfl, trivial⟩, ⟨by omega, by rw [take_snoc hk, List.foldl_append]; exact T2, G1.trans G2⟩, by omega⟩
      · intro h2
        replace h2 := dec_f h2
        have hii : i = c.tk.length := by omega
        subst hii
        rw [List.take_length] at T1
        refine W_exit (exit_then (exit_then (exit_here (at_then ?_))))
        refine W_ret (ret_then (leave0 rfl rfl ?_))
        refine ⟨rfl, ⟨?_, ta, tc, tf, ga, gc, gf, rfl, Ot, Og⟩, G1⟩
        unfold overC
        rw [if_pos h1]
        exact T1
  · intro h1
    replace h1 := ndec_f h1
    refine W_skip (at_then ?_)
    refine W_rseq ?_
    refine op_move rfl (.pointer _) rfl ?_
    refine op_nilCheck rfl rfl ?_
    refine op_fieldAddr rfl fo_135_2_TrR rfl ?_
    refine op_ldb rfl ag_57 rfl H (by first | exact at0 | exact at1 | exact at2 | exact at3 | exact at4 | exact at5 | exact at6 | exact at7 | exact at8 | exact at9) rfl ?_
    refine op_len rfl el_57 rfl ?_
    refine op_move rfl (.int _ _) rfl ?_
    refine op_nil (at_then ?_)
    refine W_block ?_
    refine W_loop 281457796841600 (α := Nat) (fun i => [(34, .int .i64 (i : Int))]) (fun i w' => i ≤ c.gn.length ∧ Tx w' bt bd bp ba fr c.A ((c.gn.take i).foldl dropP c.P) F (CL bt bc ta c.tk.length tc tf ga c.gn.length gc gf) ∧ Grown (TM F ba bt bp (CL bt bc ta c.tk.length tc tf ga c.gn.length gc gf)) (TM F ba bt bp (CL bt bc ta c.tk.length tc tf ga c.gn.length gc gf)) w0 w') (fun i => c.gn.length - i) 0 rfl ?_ ?_ ?_
    · exact ⟨rfl, trivial⟩
    · exact ⟨Nat.zero_le _, T, .call0 (.refl _ _)⟩
    · rintro i j w ⟨hi, T1, G1⟩
      have H := T1.ctx
      have R1 := pv_rd Og (fun y hy => T1.blk y (List.mem_cons_of_mem _ (List.mem_append_right _ hy)))
      refine W_rseq ?_
      refine op_lss rfl rfl rfl ?_
      refine op_nil (at_then ?_)
      refine W_seq ?_
      refine W_cond _ rfl ?_ ?_
      · intro h2
        replace h2 := dec_t h2
        obtain ⟨k, hk⟩ := get_some (l := c.gn) (i := i) (by omega)
        refine W_skip (at_then ?_)
        refine W_seq ?_
        refine W_block ?_
        refine W_rseq ?_
        first | refine op_indexRd R1 rfl el_57 sz_3 rfl rfl (by omega) (by omega) (by first | rfl | omega) ?_ | refine op_indexAddr rfl el_57 sz_3 rfl rfl (by omega) (by omega) ?_
        first | refine op_ldb rfl ag_3 rfl H (by first | exact at0 | exact at1 | exact at2 | exact at3 | exact at4 | exact at5 | exact at6 | exact at7 | exact at8 | exact at9) rfl ?_ | refine op_ld rfl ag_3 rfl (R1.fld hk rfl (j := 0) rfl) ?_ | refine op_ld rfl ag_3 rfl (cell_bl T1.tr (0 + 1)) ?_
        refine op_assign rfl (.int _ _) rfl ?_
        refine op_nil (at_then ?_)
        refine W_region ?_
        refine op_move rfl (.pointer _) rfl ?_
        refine op_nilCheck rfl rfl ?_
        refine op_fieldAddr rfl fo_135_0_TrR rfl ?_
        first | refine op_ldb rfl ag_34_TrR rfl H (by first | exact at0 | exact at1 | exact at2 | exact at3 | exact at4 | exact at5 | exact at6 | exact at7 | exact at8 | exact at9) rfl ?_ | refine op_ld rfl ag_34_TrR rfl (R1.fld hk rfl (j := 0) rfl) ?_ | refine op_ld rfl ag_34_TrR rfl (cell_bl T1.tr (0 + 1)) ?_
        refine op_nilCheck rfl rfl ?_
        refine op_fieldAddr rfl fo_146_1_TrR rfl ?_
        first | refine op_ldb rfl ag_33_TrR rfl H (by first | exact at0 | exact at1 | exact at2 | exact at3 | exact at4 | exact at5 | exact at6 | exact at7 | exact at8 | exact at9) rfl ?_ | refine op_ld rfl ag_33_TrR rfl (R1.fld hk rfl (j := 0) rfl) ?_ | refine op_ld rfl ag_33_TrR rfl (cell_bl T1.tr (0 + 1)) ?_
        refine op_move rfl (.int _ _) rfl ?_
        refine op_call rfl ca_136_TrR (pdrop7_ok T1.pg k) rfl ?_
        rintro v w2 ⟨⟨ev, rfl⟩, hp, hx⟩
        obtain ⟨T2, G2⟩ := T1.page hp hx
        refine op_nil (at_block (at_then ?_))
        refine W_region ?_
        refine op_add_i64 rfl rfl rfl (by omega) (by omega) ?_
        refine op_move rfl (.int _ _) rfl ?_
        refine op_nil (at_then ?_)
        exact ⟨i + 1, rfl, ⟨rfl, trivial⟩, ⟨by omega, by rw [take_snoc hk, List.foldl_append]; exact T2, G1.trans G2⟩, by omega⟩
      · intro h2
        replace h2 := dec_f h2
        have hii : i = c.gn.length := by omega
        subst hii
        rw [List.take_length] at T1
        refine W_exit (exit_then (exit_then (exit_here (leave0n rfl rfl ?_))))
        refine ⟨rfl, ⟨?_, ta, tc, tf, ga, gc, gf, rfl, Ot, Og⟩, G1⟩
        unfold overC
        rw [if_neg (by simpa using h1)]
        exact T1

end Go.Proofs.YtbkadlngijkmmaaGreatDoor

/- Deferred calls of closures; arrays that are built. It holds for every program. -/
namespace Go.GV
open Go

section
variable {P : Program} {r : Option Nat} {n : Nat} {ops rest : List Oper} {Q : Exit → Env → World → Prop} {e : Env} {w w0 : World} {S : List Nat} {L : List (Nat × Obj)}
  {dst : Option Tmp} {ty : TypeId} {pos : String} {af : Array Edge} {g : Option (Nat × Bool)}

/-- A closure is deferred. -/
theorem op_defer {fo : Operand} {fn : Fn} {ca : Array Value} (hg : wants ⟨dst, .defer ⟨.value fo, #[], #[]⟩, ty, pos, af, g⟩ ops e = true) (hf : ev e fo = .func fn #[] ca)
    (h : Wops P none ops Q rest (put ⟨e.g, { target := .fn fn ca, args := #[] } :: e.ds⟩ dst undef) w) : Wops P none ops Q (⟨dst, .defer ⟨.value fo, #[], #[]⟩, ty, pos, af, g⟩ :: rest) e w := by
  unfold Wops
  have hrun : (execOp (ev e) ⟨dst, .defer ⟨.value fo, #[], #[]⟩, ty, pos, af, g⟩).run P w = .ok (.defer { target := .fn fn ca, args := #[] }) w := by
    simp [execOp, resolve, hf, Deferred.ofValue]
  rw [if_pos hg, Oper.semAt_none, hrun]
  exact h
/-- A function that is entered as a deferred call. -/
def RetD (P : Program) (f : FuncId) (args : Array Value) (w : World) (R : World → Prop) : Prop :=
  CallsDIn Fence.wide 0 P f args .returning w fun x u w' => u = .returning ∧ ∃ v, x = .returned v ∧ R w'
theorem retD_of_W {f : FuncId} {fn : Func} {c : Code} {args : Array Value} {R : World → Prop} (hf : P.funcs[f]? = some fn) (hb : fn.body = some c)
    (l : List Value) (hargs : args = l.toArray) (hfit : (Nat.ble l.length fn.ntmps && fits fn.ntmps c) = true)
    (h : W P none fn.ntmps c (Qret P fn fun _ w => R w) ⟨fun i => l.getD i undef, []⟩ w) : RetD P f args w R := by
  simp only [Bool.and_eq_true] at hfit
  refine (callsDIn_of_wp (R := fun x w' => ∃ v, x = .returned v ∧ R w') hf hb trivial ?_).mono fun x u w' hx => hx
  refine wpIn_mono (W_sound (r := none) c _ _ w h hfit.2 _ ?_) ?_
  · refine ⟨rfl, ?_, fun i => ?_⟩
    · subst hargs
      have := Nat.le_of_ble_eq_true hfit.1
      simp; omega
    · subst hargs
      simp only [Array.getD_eq_getD_getElem?, List.getD_eq_getElem?_getD]
      rw [Array.getElem?_append]
      by_cases hi : i < l.length
      · simp [hi]
      · simp only [List.size_toArray, if_neg hi]
        rw [List.getElem?_eq_none (by omega)]
        rw [Array.getElem?_replicate]
        split <;> rfl
  · rintro x a' w' ⟨e', hs', hq⟩
    cases x with
    | normal => exact ⟨hs'.1.trans hq.1, let ⟨v, h1, h2⟩ := hq.2 _ hs'.2.2; ⟨v, h1, _, rfl, h2⟩⟩
    | ret => exact ⟨hs'.1.trans hq.1, let ⟨v, h1, h2⟩ := hq.2 _ hs'.2.2; ⟨v, h1, _, rfl, h2⟩⟩
    | exit id => exact hq.elim
    | goto l => exact hq.elim
    | panic c => exact hq.elim
    | outgrown => exact hq.elim

/-- What must hold where a body is left that has deferred calls. -/
def Defs (P : Program) : List Deferred → World → (World → Prop) → Prop
  | [], w, K => K w
  | d :: ds, w, K => ∃ f ca, d = { target := .fn (.func f) ca, args := #[] } ∧ callable P f = true ∧ RetD P f ca w fun w' => Defs P ds w' K
def QretD (P : Program) (fn : Func) (R : Value → World → Prop) : Exit → Env → World → Prop
  | .normal, e, w | .ret, e, w => Defs P e.ds w fun w' => ∀ tmps : Array Value, (∀ i, tmps.getD i undef = e.g i) → ∃ v, (results fn tmps).run P w' = .ok v w' ∧ R v w'
  | _, _, _ => False
theorem defs_leaves {fn : Func} {R : Value → World → Prop} {tmps : Array Value} : ∀ {ds : List Deferred} {w : World}, (Defs P ds w fun w' => ∃ v, (results fn tmps).run P w' = .ok v w' ∧ R v w') →
    LeavesIn Fence.wide 0 P fn tmps (fun x w' => ∃ v, x = .returned v ∧ R v w') ds .returning w
  | [], w, ⟨v, h1, h2⟩ => ⟨v, h1, v, rfl, h2⟩
  | d :: ds, w, ⟨f, ca, h1, h2, h3⟩ => by
    subst h1
    refine ⟨by simp, (fun h => by cases h), .func f, ca, f, ca, rfl, ?_, fun g _ => trivial, ?_⟩
    · show (invoke (.fn (.func f) ca) #[]).run P w = _
      have : (invoke (.fn (.func f) ca) #[]).run P w = (callFunc f (#[] ++ ca)).run P w := rfl
      rw [this, run_callable h2]
      simp
    · refine CallsDIn.mono (R := fun x u w' => u = .returning ∧ ∃ v, x = .returned v ∧ Defs P ds w' fun w' => ∃ v, (results fn tmps).run P w' = .ok v w' ∧ R v w') h3 ?_
      rintro x u w' ⟨rfl, v, rfl, h4⟩
      exact defs_leaves h4
theorem Defs.mono : ∀ {ds : List Deferred} {w : World} {K K' : World → Prop}, (∀ w, K w → K' w) → Defs P ds w K → Defs P ds w K'
  | [], _, _, _, h, hk => h _ hk
  | _ :: _, _, _, _, h, ⟨f, ca, h1, h2, h3⟩ => ⟨f, ca, h1, h2, CallsDIn.mono h3 fun x u w' hx => ⟨hx.1, let ⟨v, h4, h5⟩ := hx.2; ⟨v, h4, Defs.mono h h5⟩⟩⟩
theorem ret_of_WD {f : FuncId} {fn : Func} {c : Code} {args : Array Value} {R : Value → World → Prop} (hf : P.funcs[f]? = some fn) (hb : fn.body = some c)
    (l : List Value) (hargs : args = l.toArray) (hfit : (Nat.ble l.length fn.ntmps && fits fn.ntmps c) = true)
    (h : W P none fn.ntmps c (QretD P fn R) ⟨fun i => l.getD i undef, []⟩ w) : Ret P f args w R := by
  simp only [Bool.and_eq_true] at hfit
  refine callsIn_of_wp_defers hf hb trivial ?_
  refine wpIn_mono (W_sound (r := none) c _ _ w h hfit.2 _ ?_) ?_
  · refine ⟨rfl, ?_, fun i => ?_⟩
    · subst hargs
      have := Nat.le_of_ble_eq_true hfit.1
      simp; omega
    · subst hargs
      simp only [Array.getD_eq_getD_getElem?, List.getD_eq_getElem?_getD]
      rw [Array.getElem?_append]
      by_cases hi : i < l.length
      · simp [hi]
      · simp only [List.size_toArray, if_neg hi]
        rw [List.getElem?_eq_none (by omega)]
        rw [Array.getElem?_replicate]
        split <;> rfl
  · rintro x a' w' ⟨e', hs', hq⟩
    have hgo : ∀ w', (Defs P e'.ds w' fun w' => ∀ tmps : Array Value, (∀ i, tmps.getD i undef = e'.g i) → ∃ v, (results fn tmps).run P w' = .ok v w' ∧ R v w') →
        LeavesIn Fence.wide 0 P fn a'.tmps (fun x w' => ∃ v, x = .returned v ∧ R v w') a'.defers .returning w' := fun w' hm => by
      rw [hs'.1]
      exact defs_leaves (Defs.mono (fun w hk => hk _ hs'.2.2) hm)
    cases x with
    | normal => exact hgo _ hq
    | ret => exact hgo _ hq
    | exit id => exact hq.elim
    | goto l => exact hq.elim
    | panic c => exact hq.elim
    | outgrown => exact hq.elim
/-- A body is left with one deferred call: the second result lies in a cell. -/
theorem leaveD {fn : Func} {R : Value → World → Prop} {f : FuncId} {ca : Array Value} (hd : e.ds = [{ target := .fn (.func f) ca, args := #[] }]) (hc : callable P f = true) (K : World → Prop) (h : RetD P f ca w K)
    (hK : ∀ w', K w' → ∀ tmps : Array Value, (∀ i, tmps.getD i undef = e.g i) → ∃ v, (results fn tmps).run P w' = .ok v w' ∧ R v w') : QretD P fn R .ret e w := by
  show Defs P e.ds w _
  rw [hd]
  exact ⟨f, ca, rfl, hc, CallsDIn.mono h fun x u w' hx => ⟨hx.1, let ⟨v, h4, h5⟩ := hx.2; ⟨v, h4, hK w' h5⟩⟩⟩
theorem res2c {fn : Func} {tmps : Array Value} {s a : Tmp} {t : TypeId} {b : Nat} {v v2 : Value} {t2 : TypeId} {l : List Value} {k : Nat} (hr : fn.results = #[.tmp s, .cell a t]) (ht : ∀ i, tmps.getD i undef = e.g i) (h1 : e.g s = v) (ha : e.g a = .pointer (some ⟨b, 0, none⟩))
    (hag : aggB P t = some false) (hb : w.heap[b]? = some (Bl t2 (v2 :: l))) : (results fn tmps).run P w = .ok (.tuple #[v, v2]) w := by
  have g1 := (ht s).trans h1
  have g2 := (ht a).trans ha
  rw [Array.getD_eq_getD_getElem?] at g1 g2
  have hl : (loadVar t ⟨b, 0, none⟩).run P w = .ok v2 w := run_load1 hag (by rw [cell_bl hb]; rfl)
  simp [results, hr, g1, g2, asAddr, hl]

/-! ### Arrays -/
theorem builtA_of {t el : TypeId} {m s : Nat} {zl : List Value} {ps : List (Nat × Value)} {l : Array Value} (hu : arrT P t = some (m, el)) (hs : tsize P el = some s) (hz : zcells P t = some zl)
    (hl : Instr.fill (fun i => some (i * s, s)) zl.toArray ps = some l) : P.built t ps = some l := by
  unfold zcells at hz
  unfold Program.built
  unfold tsize at hs
  have hu' := arrT_u hu
  cases hi : P.info? t with
  | none => rw [hi] at hz; cases hz
  | some it =>
    rw [hi] at hz
    cases hzz : it.zero with
    | none => simp [hzz] at hz
    | some z =>
      simp only [Option.bind_some, hzz, Option.map_some, Option.some.injEq] at hz
      subst hz
      cases hie : P.info? el with
      | none => rw [hie] at hs; cases hs
      | some ie =>
        rw [hie] at hs
        simp only [Option.map_some, Option.some.injEq] at hs
        subst hs
        simp only [hu', hzz, hie]
        simpa using hl
theorem op_buildA {t el : TypeId} {parts : Array (Nat × Operand)} {m s : Nat} {zl : List Value} (l : List Value) (hg : wants ⟨dst, .build t parts, ty, pos, af, g⟩ ops e = true) (hu : arrT P t = some (m, el)) (hs : tsize P el = some s) (hz : zcells P t = some zl)
    (hl : Instr.fill (fun i => some (i * s, s)) zl.toArray (parts.toList.map fun p => (p.1, ev e p.2)) = some l.toArray) (h : Wops P r ops Q rest (put e dst (.agg l.toArray)) w) :
    Wops P r ops Q (⟨dst, .build t parts, ty, pos, af, g⟩ :: rest) e w := by
  refine op_val hg rfl ?_ h
  have hb : P.built t (parts.map fun (i, x) => (i, ev e x)).toList = some l.toArray := builtA_of hu hs hz (by rw [Array.toList_map]; exact hl)
  simp [execOp, run_build w t _ _ hb]
end
end Go.GV

/- What a page's node has, once something is done below it: what the walk needs. -/
namespace Go.Proofs.YtbkadlngijkmmaaGreatDoor
open Go.GV

theorem Grown.weak {M M' M'' : Mut} {w w' : World} (t : Grown M M' w w') (h : ∀ x, M'' x → M' x) : Grown M M'' w w' := ⟨t.1, fun x hx => t.2 x (h x hx)⟩
theorem Grown.nil {M M' : Mut} {w w' : World} (t : Grown (MY M []) M' w w') : Grown M M' w w' := by
  obtain ⟨⟨S, hS, hx⟩, g⟩ := t
  exact ⟨⟨S, fun x h => MY.nil x (hS x h), hx⟩, fun x h => (g x h).imp (MY.nil x) id⟩
/-- A change in the midst of a function that has blocks of its own. -/
structure Fr (w0 : World) (Z M0 : Mut) (w : World) (bt bd bp ba fr bc : Nat) (c : Ch) (F : Mut) (L Y : List (Nat × Obj)) : Prop where
  X : Cx w bt bd bp ba fr bc c F L
  O : Fo w (MZ (TM F ba bt bp L) Z) Y
  GT : Grown M0 (TM F ba bt bp L) w0 w
  GA : Grown (MZ M0 Z) (MY (MZ (TM F ba bt bp L) Z) Y) w0 w
  yo : ∀ y ∈ Y.map (·.1), w0.heap.size ≤ y
  sz : w0.heap.size ≤ w.heap.size
  hZ : ∀ x, Z x → x < w0.heap.size
section
variable {w0 w w' : World} {Z M0 : Mut} {bt bd bp ba fr bc : Nat} {c c' : Ch} {F F' : Mut} {L L' Y Y' : List (Nat × Obj)}
theorem Fr.start (X : Cx w bt bd bp ba fr bc c F L) (hZ : ∀ x, Z x → x < w.heap.size) : Fr w Z (TM F ba bt bp L) w bt bd bp ba fr bc c F L [] :=
  ⟨X, Fo.nil, .call0 (.refl _ _), (Grown.call0 (.refl _ _)).weak MY.nil, (fun y h => by cases h), Nat.le_refl _, hZ⟩
theorem Fr.lt (E : Fr w0 Z M0 w bt bd bp ba fr bc c F L Y) : ∀ x, MZ (TM F ba bt bp L) Z x → x < w.heap.size := fun x h => h.elim (E.X.T.mlt x) fun h => Nat.lt_of_lt_of_le (E.hZ x h) E.sz
theorem Fr.mylt (E : Fr w0 Z M0 w bt bd bp ba fr bc c F L Y) : ∀ x, MY (MZ (TM F ba bt bp L) Z) Y x → x < w.heap.size := E.O.lt E.lt
theorem Fr.zlt (E : Fr w0 Z M0 w bt bd bp ba fr bc c F L Y) : ∀ x, MY Z Y x → x < w.heap.size := fun x h => E.mylt x (h.elim (fun h => .inl (.inr h)) .inr)
theorem Fr.fresh (E : Fr w0 Z M0 w bt bd bp ba fr bc c F L Y) : ∀ x, MY (MZ (TM F' ba bt bp L') Z) Y x → MZ (TM F' ba bt bp L') (Old w) x := fun x h => by
  rcases h with (h | h) | h
  · exact .inl h
  · exact .inr (E.lt x (.inr h))
  · exact .inr (E.mylt x (.inr h))
theorem Fr.own (E : Fr w0 Z M0 w bt bd bp ba fr bc c F L Y) (H : Ctx w (Y.map (·.1)) w' Y') : Fr w0 Z M0 w' bt bd bp ba fr bc c F L Y' ∧ Grown (MY (MZ (TM F ba bt bp L) Z) Y) (MY (MZ (TM F ba bt bp L) Z) Y') w w' := by
  obtain ⟨O', g⟩ := E.O.own E.lt H
  exact ⟨⟨E.X.side (E.O.weak fun _ h => .inl h) H.ext, O', E.GT.side H.ext E.yo, E.GA.trans g, young E.yo E.sz H, Nat.le_trans E.sz H.ext.size, E.hZ⟩, g⟩
theorem Fr.call (E : Fr w0 Z M0 w bt bd bp ba fr bc c F L Y) (X' : Cx w' bt bd bp ba fr bc c' F' L') (t : Grown (TM F ba bt bp L) (TM F' ba bt bp L') w w') : Fr w0 Z M0 w' bt bd bp ba fr bc c' F' L' Y ∧ Grown (MY (MZ (TM F ba bt bp L) Z) Y) (MY (MZ (TM F' ba bt bp L') Z) Y) w w' := by
  obtain ⟨O', g⟩ := E.O.call (t.or Z)
  obtain ⟨S, _, hx⟩ := t.1
  exact ⟨⟨X', O', E.GT.trans t, E.GA.trans g, E.yo, Nat.le_trans E.sz hx.size, E.hZ⟩, g⟩
theorem Fr.call0 (E : Fr w0 Z M0 w bt bd bp ba fr bc c F L Y) (hx : Ext [] w w') : Fr w0 Z M0 w' bt bd bp ba fr bc c F L Y ∧ Grown (MY (MZ (TM F ba bt bp L) Z) Y) (MY (MZ (TM F ba bt bp L) Z) Y) w w' :=
  E.call (E.X.side Fo.nil hx) (.call0 hx)
end
/-- What is done to a leaf's items, wherever. -/
def DoOk (f : Nat) (cl : List Value) (G : List It → List It) (w : World) (M : Mut) : Prop :=
  ∀ (w' : World) (M' : Mut), Grown M M' w w' → (∀ x, M' x → x < w'.heap.size) → ∀ (a : Option Addr) (n c : Nat) (l : List It), Its w' M' a n c l → n ≤ 100000 →
    Ret Tryz.prog f (Value.slice a n c :: cl).toArray w' fun v w'' => ∃ a' c', v = .slice a' (G l).length c' ∧ Its w'' M' a' (G l).length c' (G l) ∧ Ext [] w' w''
theorem DoOk.keep {f : Nat} {cl : List Value} {G : List It → List It} {w w' : World} {M M' : Mut} (h : DoOk f cl G w M) (t : Grown M M' w w') : DoOk f cl G w' M' := fun w2 M2 t2 => h w2 M2 (t.trans t2)

/-! ### How much is taken -/
theorem wrC_gn {fr : Nat} {c : Ch} {i : Bool} {M : List It} : (wrC fr c i M).2.gn = c.gn := by
  unfold wrC
  split
  · rfl
  · split <;> rfl
theorem putF_bnd {fr : Nat} {i : Bool} {m : Nat} : ∀ {Hs : List (List It)} {c : Ch} {acc : List It}, (putF fr i Hs c acc).2.1.tk.length ≤ c.tk.length + Hs.length ∧ (putF fr i Hs c acc).2.1.gn = c.gn ∧ (Few c.A m → Few (putF fr i Hs c acc).2.1.A (m + Hs.length)) ∧ (putF fr i Hs c acc).2.2.length ≤ acc.length + Hs.length
  | [], c, acc => ⟨Nat.le_refl _, rfl, fun h => h, Nat.le_refl _⟩
  | h :: Hs, c, acc => by
    have h1 := wrC_tk (fr := fr) (c := c) (inner := i) (M := h)
    have h2 := wrC_gn (fr := fr) (c := c) (i := i) (M := h)
    unfold putF
    split
    · obtain ⟨a1, a2, a3, a4⟩ := putF_bnd (fr := fr) (i := i) (m := m + 1) (Hs := Hs) (c := (wrC fr c i h).2) (acc := acc ++ [⟨keyOf0 h, [], takeK c.P⟩])
      refine ⟨by rw [List.length_cons]; omega, a2.trans h2, fun hf => (a3 (wrC_few hf)).mono (by rw [List.length_cons]; omega), ?_⟩
      rw [List.length_append, List.length_singleton] at a4
      rw [List.length_cons]; omega
    · exact ⟨by rw [List.length_cons]; dsimp only; omega, h2, fun hf => (wrC_few hf).mono (by rw [List.length_cons]; omega), by simp⟩
theorem putS_bnd {fr : Nat} {c : Ch} {i : Bool} {M : List It} {m : Nat} : (putS fr c i M).2.1.tk.length ≤ c.tk.length + 2 ∧ (putS fr c i M).2.1.gn = c.gn ∧ (Few c.A m → Few (putS fr c i M).2.1.A (m + 2)) ∧ (putS fr c i M).2.2.length ≤ 2 := by
  unfold putS
  cases okM i M with
  | false => exact ⟨Nat.le_add_right _ _, rfl, fun h => h.mono (by omega), Nat.zero_le _⟩
  | true =>
    show (putC fr c i M).2.1.tk.length ≤ _ ∧ (putC fr c i M).2.1.gn = _ ∧ (Few c.A m → Few (putC fr c i M).2.1.A _) ∧ (putC fr c i M).2.2.length ≤ 2
    unfold putC
    split
    · exact ⟨Nat.le_add_right _ _, rfl, fun h => h.mono (by omega), Nat.zero_le _⟩
    · have h2 := halves_num i M
      obtain ⟨a1, a2, a3, a4⟩ := putF_bnd (fr := fr) (i := i) (m := m) (Hs := halvesN i M) (c := c) (acc := [])
      rw [List.length_nil] at a4
      exact ⟨by omega, a2, fun h => (a3 h).mono (by omega), by omega⟩
theorem rdC_bnd {fr : Nat} {c : Ch} {p d : Nat} : (rdC fr c p d).tk = c.tk ∧ (rdC fr c p d).gn.length ≤ c.gn.length + 1 ∧ (rdC fr c p d).A = c.A ∧ (rdC fr c p d).P = c.P := by
  unfold rdC
  split
  · exact ⟨rfl, by simp, rfl, rfl⟩
  · exact ⟨rfl, Nat.le_succ _, rfl, rfl⟩
theorem sideC_bnd {fr : Nat} {c : Ch} {l : List It} {i d : Nat} {inner : Bool} {kid : List It} : (sideC fr c l i d inner kid).2.1.tk = c.tk ∧ (sideC fr c l i d inner kid).2.1.gn.length ≤ c.gn.length + 1 ∧ (sideC fr c l i d inner kid).2.1.A = c.A := by
  unfold sideC
  split
  · split
    · exact ⟨rfl, Nat.le_succ _, rfl⟩
    · split
      · exact ⟨rfl, Nat.le_succ _, rfl⟩
      · exact ⟨rdC_bnd.1, rdC_bnd.2.1, rdC_bnd.2.2.1⟩
      · exact ⟨rdC_bnd.1, rdC_bnd.2.1, rdC_bnd.2.2.1⟩
  · exact ⟨rfl, Nat.le_succ _, rfl⟩
theorem editC_bnd {fr : Nat} {G : List It → List It} {key : Byt} {m : Nat} : ∀ {n : Nat} {c : Ch} {p d : Nat}, (editC fr G key n c p d).2.1.tk.length ≤ c.tk.length + 2 * n ∧ (editC fr G key n c p d).2.1.gn.length ≤ c.gn.length + 2 * n ∧ (Few c.A m → Few (editC fr G key n c p d).2.1.A (m + 2 * n))
  | 0, c, p, d => ⟨Nat.le_refl _, Nat.le_refl _, fun h => h⟩
  | n + 1, c, p, d => by
    have hr := rdC_bnd (fr := fr) (c := c) (p := p) (d := d)
    unfold editC
    split
    · exact ⟨Nat.le_add_right _ _, Nat.le_add_right _ _, fun h => h.mono (by omega)⟩
    · exact ⟨by rw [hr.1]; omega, by have := hr.2.1; show (rdC fr c p d).gn.length ≤ _; omega, fun h => by show Few (rdC fr c p d).A _; rw [hr.2.2.1]; exact h.mono (by omega)⟩
    · rename_i l _
      obtain ⟨a1, a2, a3⟩ := editC_bnd (fr := fr) (G := G) (key := key) (m := m) (n := n) (c := rdC fr c p d) (p := pageAt l (belowN l key)) (d := d + 1)
      rw [hr.1] at a1; rw [hr.2.2.1] at a3
      have h2 := hr.2.1
      dsimp only
      split
      · exact ⟨by dsimp only; omega, by dsimp only; omega, fun h => (a3 h).mono (by omega)⟩
      · obtain ⟨b1, b2, b3⟩ := sideC_bnd (fr := fr) (c := (editC fr G key n (rdC fr c p d) (pageAt l (belowN l key)) (d + 1)).2.1) (l := l) (i := belowN l key) (d := d) (inner := (editC fr G key n (rdC fr c p d) (pageAt l (belowN l key)) (d + 1)).2.2.1) (kid := (editC fr G key n (rdC fr c p d) (pageAt l (belowN l key)) (d + 1)).2.2.2)
        split
        · exact ⟨by rw [b1]; omega, by dsimp only; omega, fun h => by rw [b3]; exact (a3 h).mono (by omega)⟩
        · obtain ⟨q1, q2, q3, _⟩ := putS_bnd (fr := fr) (c := (sideC fr (editC fr G key n (rdC fr c p d) (pageAt l (belowN l key)) (d + 1)).2.1 l (belowN l key) d (editC fr G key n (rdC fr c p d) (pageAt l (belowN l key)) (d + 1)).2.2.1 (editC fr G key n (rdC fr c p d) (pageAt l (belowN l key)) (d + 1)).2.2.2).2.1)
            (i := (editC fr G key n (rdC fr c p d) (pageAt l (belowN l key)) (d + 1)).2.2.1) (M := (sideC fr (editC fr G key n (rdC fr c p d) (pageAt l (belowN l key)) (d + 1)).2.1 l (belowN l key) d (editC fr G key n (rdC fr c p d) (pageAt l (belowN l key)) (d + 1)).2.2.1 (editC fr G key n (rdC fr c p d) (pageAt l (belowN l key)) (d + 1)).2.2.2).2.2.1) (m := m + 2 * n)
          rw [b1] at q1; rw [b3] at q3
          exact ⟨by dsimp only; omega, by dsimp only; rw [q2]; omega, fun h => (q3 (a3 h)).mono (by omega)⟩
/-- What may be put: what the walk of a put asks. -/
theorem okM_of {i : Bool} {M : List It} (h : okM i M = true) : M.length ≤ 1000 ∧ (∀ x ∈ M, x.key.length ≤ 65535 ∧ x.val.length ≤ 65535) ∧ (∀ x ∈ M, x.page < 9223372036854775808) ∧ (M ≠ [] → ∀ h ∈ halvesN i M, h ≠ []) := by
  unfold okM at h
  simp only [Bool.and_eq_true, Bool.or_eq_true, decide_eq_true_eq, List.all_eq_true] at h
  obtain ⟨h1, h2, h3⟩ := h
  exact ⟨h1, fun x hx => ⟨(h2 x hx).1, (h2 x hx).2.1⟩, fun x hx => (h2 x hx).2.2, fun hM a ha => h3.elim (fun h => absurd h hM) fun h => h a ha⟩
theorem putS_99 {fr : Nat} {c : Ch} {i : Bool} {M : List It} (h : (putS fr c i M).1 ≠ 99) : okM i M = true ∧ putS fr c i M = putC fr c i M := by
  unfold putS at h ⊢
  cases ho : okM i M with
  | false => rw [ho] at h; exact absurd rfl h
  | true => exact ⟨rfl, rfl⟩

end Go.Proofs.YtbkadlngijkmmaaGreatDoor

/- What a page's node has, once something is done below it: the walk. -/
namespace Go.Proofs.YtbkadlngijkmmaaGreatDoor
open Go.GV
theorem ag_114_TrU : aggB Tryz.prog 114 = some false := by kernel_rfl
theorem ag_116_TrU : aggB Tryz.prog 116 = some true := by kernel_rfl
theorem ar_232_TrU : arrT Tryz.prog 232 = some (2, 114) := by kernel_rfl
theorem ca_131_TrU : callable Tryz.prog 131 = true := by kernel_rfl
theorem ca_168_TrU : callable Tryz.prog 168 = true := by kernel_rfl
theorem ca_169_TrU : callable Tryz.prog 169 = true := by kernel_rfl
theorem ca_67_TrU : callable Tryz.prog 67 = true := by kernel_rfl
theorem ca_74_TrU : callable Tryz.prog 74 = true := by kernel_rfl
theorem el_114_TrU : elemT Tryz.prog 114 = some 120 := by kernel_rfl
theorem el_196_TrU : elemT Tryz.prog 196 = some 114 := by kernel_rfl
theorem fo_116_0_TrU : fieldO Tryz.prog 116 0 = some 0 := by kernel_rfl
theorem fo_116_1_TrU : fieldO Tryz.prog 116 1 = some 1 := by kernel_rfl
theorem fo_120_2_TrU : fieldO Tryz.prog 120 2 = some 2 := by kernel_rfl
theorem sz_114_TrU : tsize Tryz.prog 114 = some 1 := by kernel_rfl
theorem sz_116_TrU : tsize Tryz.prog 116 = some 2 := by kernel_rfl
theorem sz_120_TrU : tsize Tryz.prog 120 = some 3 := by kernel_rfl
theorem sz_232_TrU : tsize Tryz.prog 232 = some 2 := by kernel_rfl
theorem zc_114_TrU : zcells Tryz.prog 114 = some ([.slice none 0 0]) := by kernel_rfl
theorem zc_116_TrU : zcells Tryz.prog 116 = some ([.bool false, .slice none 0 0]) := by kernel_rfl
theorem zc_232_TrU : zcells Tryz.prog 232 = some ([.slice none 0 0, .slice none 0 0]) := by kernel_rfl
attribute [local irreducible] Wops W Wq Wt

def EdSpec (f : Nat) (cl : List Value) (G : List It → List It) (key : Byt) (fr n : Nat) : Prop :=
  ∀ {w : World} {bt bd bp ba bc : Nat} {c : Ch} {F : Mut} {L : List (Nat × Obj)}, Cx w bt bd bp ba fr bc c F L → c.tk.length + 2 * n ≤ 90000 → c.gn.length + 2 * n ≤ 90000 → ∀ (page depth : Nat), depth + n = 17 → page ≤ 4294967296 →
    ∀ (Z : Mut), (∀ x, Z x → x < w.heap.size) → DoOk f cl G w (MZ (TM F ba bt bp L) Z) → ∀ (ka : Option Addr) (kc : Nat), Rdx w (MZ (TM F ba bt bp L) Z) ka key → ∀ (mx : Nat), Few c.A mx → mx + 2 * n ≤ 900000000 → (editC fr G key (n + 1) c page depth).1 ≠ 99 →
    Ret Tryz.prog 131 #[ptr bc, .int .i64 (page : Int), .int .i64 (depth : Int), .slice ka key.length kc, .func (.func f) #[] cl.toArray] w fun v w' => ∃ (inner : Bool) (a : Option Addr) (m cc : Nat) (F' : Mut) (L' : List (Nat × Obj)),
      v = .tuple #[.agg #[.bool inner, .slice a m cc], .int .i64 (editC fr G key (n + 1) c page depth).1] ∧ Cx w' bt bd bp ba fr bc (editC fr G key (n + 1) c page depth).2.1 F' L' ∧ Grown (TM F ba bt bp L) (TM F' ba bt bp L') w w' ∧
      ((editC fr G key (n + 1) c page depth).1 = 0 → inner = (editC fr G key (n + 1) c page depth).2.2.1 ∧ Its w' (MZ (TM F' ba bt bp L') Z) a m cc (editC fr G key (n + 1) c page depth).2.2.2)
/-- Where the walk stands once what is put is known. -/
structure ES where
  a : Option Addr
  n : Nat
  c : Nat
  M : List It
  fr : Nat
  to : Nat
  ch : Ch
  L : List (Nat × Obj)
  Y : List (Nat × Obj)
abbrev NBl (inner : Bool) (a : Option Addr) (n c : Nat) : Obj := Bl 116 [.bool inner, .slice a n c]

theorem edit_parts {w : World} {M : Mut} {aa qa : Option Addr} {nn cc qn qc sfr sto : Nat} {l q : List It} (I : Its w M aa nn cc l) (Q : Its w M qa qn qc q) (hf : sfr ≤ nn) (ht : sto ≤ nn) (h1 : (l.take sfr).length = sfr) (h2 : (l.drop sto).length = nn - sto) :
    ∀ x ∈ ([(aa, l.take sfr, cc), (qa, q, qc), (cutA aa cc sto 3, l.drop sto, cc - sto)] : List SI), Its w M x.1 x.2.1.length x.2.2 x.2.1 := by
  intro x hx
  simp only [List.mem_cons, List.not_mem_nil, or_false] at hx
  rcases hx with rfl | rfl | rfl
  · show Its w M aa (l.take sfr).length cc (l.take sfr)
    rw [h1]; exact I.take hf
  · show Its w M qa q.length qc q
    rw [← Q.num]; exact Q
  · show Its w M _ (l.drop sto).length _ (l.drop sto)
    rw [h2]; exact I.drop ht

theorem side_parts {w : World} {M : Mut} {a b : Option Addr} {n c m d : Nat} {l q : List It} (I : Its w M a n c l) (Q : Its w M b m d q) : ∀ x ∈ ([(a, l, c), (b, q, d)] : List SI), Its w M x.1 x.2.1.length x.2.2 x.2.1 := by
  intro x hx
  simp only [List.mem_cons, List.not_mem_nil, or_false] at hx
  rcases hx with rfl | rfl
  · show Its w M a l.length c l
    rw [← I.num]; exact I
  · show Its w M b q.length d q
    rw [← Q.num]; exact Q

set_option maxRecDepth 20000 in
set_option maxHeartbeats 16000000 in
theorem edit_step {f : Nat} {cl : List Value} {G : List It → List It} {key : Byt} {fr : Nat} (hf : callable Tryz.prog f = true) (hfr : fr ≤ 5000) (hkl : key.length ≤ 100000) (n : Nat) (IH : ∀ n', n = n' + 1 → EdSpec f cl G key fr n') : EdSpec f cl G key fr n := by
  intro w bt bd bp ba bc c F L X htk hgn page depth hd hp Z hZ D ka kc Rk mx hfew hmx hok
  obtain ⟨w0, rfl⟩ : ∃ w0, w0 = w := ⟨_, rfl⟩
  obtain ⟨ec, hec⟩ : ∃ ec, ec = editC fr G key (n + 1) c page depth := ⟨_, rfl⟩
  rw [← hec] at hok ⊢
  rw [editC] at hec
  obtain ⟨rt, hrt⟩ : ∃ rt, rt = readT c.A fr c.P.length (page : Int) (depth : Int) := ⟨_, rfl⟩
  rw [← hrt] at hec
  have E0 := Fr.start X hZ
  have H := Ctx.start w0 []
  obtain ⟨rb1, rb2, rb3, rb4⟩ := rdC_bnd (fr := fr) (c := c) (p := page) (d := depth)
  refine ret_of_W (fn := Tryz.f131) Tryz.func131 rfl [.pointer (some ⟨bc, 0, none⟩), .int .i64 (page : Int), .int .i64 (depth : Int), .slice ka key.length kc, .func (.func f) #[] cl.toArray] rfl (by kernel_rfl) ?_
  refine W_rseq ?_
  refine op_alloc rfl zc_116_TrU H ?_
  rintro b10 w - H
  refine op_assign rfl (.int _ _) rfl ?_
  refine op_nil (at_then ?_)
  refine W_rseq ?_
  refine op_move rfl (.pointer _) rfl ?_
  refine op_move rfl (.int _ _) rfl ?_
  refine op_move rfl (.int _ _) rfl ?_
  obtain ⟨E1, -⟩ := E0.own H
  refine op_call rfl ca_168_TrU (cread_ok E1.X hfr (by omega) page depth (by omega) hfew (by omega)) rfl ?_
  rintro v w2 ⟨inner, aa, nn, cc, L2, rfl, X2, g2, hits⟩
  rw [← hrt] at hits
  rw [← hrt]
  obtain ⟨E2, -⟩ := E1.call X2 g2
  replace H := E2.O.ctx
  refine op_move rfl (.tuple _) rfl ?_
  refine op_extract rfl rfl rfl ?_
  refine op_extract rfl rfl rfl ?_
  refine op_alloc rfl zc_116_TrU H ?_
  rintro b12 w - H
  refine op_stb0 rfl sz_116_TrU rfl rfl rfl (by simp [oneCell]) H (by first | exact at0 | exact at1 | exact at2 | exact at3 | exact at4 | exact at5 | exact at6 | exact at7 | exact at8 | exact at9) rfl ?_
  rintro w H
  refine op_assign rfl (.int _ _) rfl ?_
  refine op_nil (at_then ?_)
  refine W_seq ?_
  refine W_rseq ?_
  refine op_move rfl (.int _ _) rfl ?_
  refine op_neq rfl rfl rfl ?_
  refine op_nil (at_then ?_)
  refine W_cond _ rfl ?_ ?_
  · intro hA
    replace hA := ndec_t hA
    have hnone : rt.2 = none := by
      cases h5 : rt.2 with
      | none => rfl
      | some r => obtain ⟨i, l⟩ := r; rw [hrt] at h5; rw [hrt] at hA; exact absurd (readT_some h5).1 hA
    rw [hnone] at hec
    dsimp only at hec
    have hrd : rdC fr c page depth = c := by unfold rdC; rw [← hrt, if_neg hA]
    refine W_rseq ?_
    refine op_ldbN rfl ag_116_TrU sz_116_TrU rfl H (by first | exact at0 | exact at1 | exact at2 | exact at3 | exact at4 | exact at5 | exact at6 | exact at7 | exact at8 | exact at9) rfl ?_
    refine op_move rfl (.int _ _) rfl ?_
    refine op_stb0 rfl sz_116_TrU rfl rfl rfl (by simp [oneCell]) H (by first | exact at0 | exact at1 | exact at2 | exact at3 | exact at4 | exact at5 | exact at6 | exact at7 | exact at8 | exact at9) rfl ?_
    rintro w H
    refine op_assign rfl (.int _ _) rfl ?_
    refine op_nil (at_then ?_)
    refine W_ret (ret_then (leave2b rfl rfl rfl ag_116_TrU sz_116_TrU H (by first | exact at0 | exact at1 | exact at2 | exact at3 | exact at4 | exact at5 | exact at6 | exact at7 | exact at8 | exact at9) rfl (show _ = (.int _ _) from rfl) ?_))
    obtain ⟨E3, -⟩ := E2.own H
    have X3 := E3.X
    rw [hrd] at X3
    exact ⟨inner, aa, nn, cc, F, L2, by rw [hec], by rw [hec]; exact X3, E3.GT, fun h => absurd (by rw [hec] at h; exact h) hA⟩
  · intro hA
    replace hA := ndec_f hA
    have hA' : rt.1 = 0 := by simpa using hA
    obtain ⟨⟨i, l⟩, hsome⟩ : ∃ r, rt.2 = some r := by
      cases h5 : rt.2 with
      | none => rw [hrt] at h5; rw [hrt] at hA'; exact absurd hA' (readT_none h5)
      | some r => exact ⟨r, rfl⟩
    obtain ⟨-, hne, hd16, -, -, hll⟩ := readT_some (A := c.A) (fr := fr) (sz := c.P.length) (page := (page : Int)) (depth := (depth : Int)) (by rw [← hrt]; exact hsome)
    obtain ⟨rfl, I2f, hb⟩ := hits i l hsome
    have I2 := I2f.weak E1.fresh
    rw [hsome] at hec
    have hnum := I2.num
    refine W_skip (at_then ?_)
    refine W_seq ?_
    refine W_rseq ?_
    refine op_fieldAddr rfl fo_116_0_TrU rfl ?_
    refine op_ldb rfl ag_4 rfl H (by first | exact at0 | exact at1 | exact at2 | exact at3 | exact at4 | exact at5 | exact at6 | exact at7 | exact at8 | exact at9) rfl ?_
    refine op_not rfl rfl ?_
    refine op_nil (at_then ?_)
    refine W_cond _ rfl ?_ ?_
    · intro hB
      replace hB := nvar_t hB
      subst hB
      dsimp only at hec
      refine W_rseq ?_
      refine op_move rfl (.func _ _ _) rfl ?_
      refine op_fieldAddr rfl fo_116_1_TrU rfl ?_
      refine op_ldb rfl ag_114_TrU rfl H (by first | exact at0 | exact at1 | exact at2 | exact at3 | exact at4 | exact at5 | exact at6 | exact at7 | exact at8 | exact at9) rfl ?_
      obtain ⟨E3, g3⟩ := E2.own H
      have I3 := I2.turn g3
      refine op_calld rfl rfl hf (D _ _ E3.GA E3.mylt _ _ _ _ I3 (by omega)) rfl ?_
      rintro v w4 ⟨a4, c4, rfl, I4, hx4⟩
      obtain ⟨E4, g4⟩ := E3.call0 hx4
      replace H := E4.O.ctx
      refine op_fieldAddr rfl fo_116_1_TrU rfl ?_
      refine op_stb (.slice _ _ _) rfl sz_114_TrU rfl rfl rfl H (by first | exact at0 | exact at1 | exact at2 | exact at3 | exact at4 | exact at5 | exact at6 | exact at7 | exact at8 | exact at9) (by first | decide | (simp; done) | (simp; omega)) ?_
      rintro w H
      refine op_nil (at_then ?_)
      refine W_rseq ?_
      refine op_ldbN rfl ag_116_TrU sz_116_TrU rfl H (by first | exact at0 | exact at1 | exact at2 | exact at3 | exact at4 | exact at5 | exact at6 | exact at7 | exact at8 | exact at9) rfl ?_
      refine op_stb0 rfl sz_116_TrU rfl rfl rfl (by simp [oneCell]) H (by first | exact at0 | exact at1 | exact at2 | exact at3 | exact at4 | exact at5 | exact at6 | exact at7 | exact at8 | exact at9) rfl ?_
      rintro w H
      refine op_assign rfl (.int _ _) rfl ?_
      refine op_nil (at_then ?_)
      refine W_ret (ret_then (leave2b rfl rfl rfl ag_116_TrU sz_116_TrU H (by first | exact at0 | exact at1 | exact at2 | exact at3 | exact at4 | exact at5 | exact at6 | exact at7 | exact at8 | exact at9) rfl (show _ = (.int _ _) from rfl) ?_))
      obtain ⟨E5, g5⟩ := E4.own H
      exact ⟨false, a4, (G l).length, c4, F, L2, by rw [hec]; rfl, by rw [hec]; exact E5.X, E5.GT, fun _ => ⟨by rw [hec], by rw [hec]; exact (I4.turn g5).weak MY.le⟩⟩
    · intro hB
      replace hB := nvar_f hB
      subst hB
      dsimp only at hec
      obtain ⟨E3, g3⟩ := E2.own H
      have I3 := I2.turn g3
      replace H := E3.O.ctx
      obtain ⟨w3, rfl⟩ : ∃ x, x = w := ⟨_, rfl⟩
      obtain ⟨ms, R, -, hl, hok3⟩ := I3.ex
      have hml : ms.length = nn := by rw [hnum, ← hl, List.length_map]
      have hbl := belowN_lt hne key
      obtain ⟨bi, hbi⟩ : ∃ bi, bi = belowN l key := ⟨_, rfl⟩
      obtain ⟨x, hx1⟩ := get_some (l := ms) (i := bi) (by omega)
      have hxL := Im.at hl hx1
      have hpa : pageAt l bi = x.it.page := by unfold pageAt; rw [hxL]; rfl
      have hxb := hb x.it (List.mem_of_getElem? hxL)
      obtain ⟨n', rfl⟩ : ∃ n', n = n' + 1 := ⟨n - 1, by omega⟩
      have Rk3 := (Rk.turn E3.GA).1
      rw [← hbi] at hec
      obtain ⟨r, hr⟩ : ∃ r, r = editC fr G key (n' + 1) (rdC fr c page depth) (pageAt l bi) (depth + 1) := ⟨_, rfl⟩
      rw [← hr] at hec
      rw [hpa] at hr
      have hok5 : r.1 ≠ 99 := fun h => hok (by rw [hec, if_pos (by rw [h]; decide)]; exact h)
      obtain ⟨eb1, eb2, eb3⟩ := editC_bnd (fr := fr) (G := G) (key := key) (m := mx) (n := n' + 1) (c := rdC fr c page depth) (p := x.it.page) (d := depth + 1)
      rw [← hr] at eb1 eb2 eb3
      rw [rb1] at eb1
      have hfew2 : Few (rdC fr c page depth).A mx := by rw [rb3]; exact hfew
      replace eb3 := eb3 hfew2
      refine W_skip (at_then ?_)
      refine W_rseq ?_
      refine op_fieldAddr rfl fo_116_1_TrU rfl ?_
      first | refine op_ldb rfl ag_114_TrU rfl H (by first | exact at0 | exact at1 | exact at2 | exact at3 | exact at4 | exact at5 | exact at6 | exact at7 | exact at8 | exact at9) rfl ?_ | refine op_ld rfl ag_114_TrU rfl (R.fld hx1 rfl (j := 2) rfl) ?_
      refine op_move rfl (.slice _ _ _) rfl ?_
      refine op_call rfl ca_67_TrU (below_ok I3 ka kc _ key Rk3 rfl (by omega)) rfl ?_
      rintro v w5 ⟨rfl, rfl⟩
      rw [← hbi]
      refine op_assign rfl (.int _ _) rfl ?_
      refine op_nil (at_then ?_)
      refine W_rseq ?_
      refine op_move rfl (.pointer _) rfl ?_
      refine op_fieldAddr rfl fo_116_1_TrU rfl ?_
      first | refine op_ldb rfl ag_114_TrU rfl H (by first | exact at0 | exact at1 | exact at2 | exact at3 | exact at4 | exact at5 | exact at6 | exact at7 | exact at8 | exact at9) rfl ?_ | refine op_ld rfl ag_114_TrU rfl (R.fld hx1 rfl (j := 2) rfl) ?_
      refine op_move rfl (.int _ _) rfl ?_
      first | refine op_indexRd R rfl el_114_TrU sz_120_TrU rfl rfl (by omega) (by omega) (by first | rfl | omega) ?_ | refine op_indexAddr rfl el_114_TrU sz_120_TrU rfl rfl (by omega) (by omega) ?_
      refine op_fieldAddr rfl fo_120_2_TrU rfl ?_
      first | refine op_ldb rfl ag_3 rfl H (by first | exact at0 | exact at1 | exact at2 | exact at3 | exact at4 | exact at5 | exact at6 | exact at7 | exact at8 | exact at9) rfl ?_ | refine op_ld rfl ag_3 rfl (R.fld hx1 rfl (j := 2) rfl) ?_
      refine op_move rfl (.int _ _) rfl ?_
      refine op_add_i64 rfl rfl rfl (by omega) (by omega) ?_
      rw [show ((depth : Int) + 1) = ((depth + 1 : Nat) : Int) by omega]
      refine op_move rfl (.slice _ _ _) rfl ?_
      refine op_move rfl (.func _ _ _) rfl ?_
      refine op_call rfl ca_131_TrU (IH n' rfl E3.X (by rw [rb1]; omega) (by omega) x.it.page (depth + 1) (by omega) (by omega) (MY Z _) E3.zlt (D.keep (E3.GA.weak MYZ)) ka kc ((Rk.turn E3.GA).weak MYZ) mx hfew2 (by omega) (by rw [← hr]; exact hok5)) rfl ?_
      rintro v w5 ⟨kin, k5, n5, c5, F5, L5, rfl, X5, g5, hk5⟩
      rw [← hr] at X5 hk5
      rw [← hr]
      obtain ⟨E5, gg5⟩ := E3.call X5 g5
      have I5 := I3.turn gg5
      replace H := E5.O.ctx
      refine op_move rfl (.tuple _) rfl ?_
      refine op_extract rfl rfl rfl ?_
      refine op_extract rfl rfl rfl ?_
      refine op_alloc rfl zc_116_TrU H ?_
      rintro b15 w - H
      refine op_stb0 rfl sz_116_TrU rfl rfl rfl (by simp [oneCell]) H (by first | exact at0 | exact at1 | exact at2 | exact at3 | exact at4 | exact at5 | exact at6 | exact at7 | exact at8 | exact at9) rfl ?_
      rintro w H
      refine op_assign rfl (.int _ _) rfl ?_
      refine op_nil (at_then ?_)
      refine W_seq ?_
      refine W_rseq ?_
      refine op_move rfl (.int _ _) rfl ?_
      refine op_neq rfl rfl rfl ?_
      refine op_nil (at_then ?_)
      refine W_cond _ rfl ?_ ?_
      · intro hC
        replace hC := ndec_t hC
        rw [if_pos hC] at hec
        refine W_rseq ?_
        refine op_ldbN rfl ag_116_TrU sz_116_TrU rfl H (by first | exact at0 | exact at1 | exact at2 | exact at3 | exact at4 | exact at5 | exact at6 | exact at7 | exact at8 | exact at9) rfl ?_
        refine op_move rfl (.int _ _) rfl ?_
        refine op_stb0 rfl sz_116_TrU rfl rfl rfl (by simp [oneCell]) H (by first | exact at0 | exact at1 | exact at2 | exact at3 | exact at4 | exact at5 | exact at6 | exact at7 | exact at8 | exact at9) rfl ?_
        rintro w H
        refine op_assign rfl (.int _ _) rfl ?_
        refine op_nil (at_then ?_)
        refine W_ret (ret_then (leave2b rfl rfl rfl ag_116_TrU sz_116_TrU H (by first | exact at0 | exact at1 | exact at2 | exact at3 | exact at4 | exact at5 | exact at6 | exact at7 | exact at8 | exact at9) rfl (show _ = (.int _ _) from rfl) ?_))
        obtain ⟨E6, -⟩ := E5.own H
        exact ⟨true, aa, nn, cc, F5, L5, by rw [hec], by rw [hec]; exact E6.X, E6.GT, fun h => absurd (by rw [hec] at h; exact h) hC⟩
      · intro hC
        replace hC := ndec_f hC
        have hC' : r.1 = 0 := by simpa using hC
        rw [if_neg (by simpa using hC)] at hec
        obtain ⟨rfl, K5⟩ := hk5 hC'
        obtain ⟨E6, g6⟩ := E5.own H
        have I6 := I5.turn g6
        have K6 := (K5.weak MYZ').turn g6
        replace H := E6.O.ctx
        obtain ⟨w6, rfl⟩ : ∃ x, x = w := ⟨_, rfl⟩
        obtain ⟨sc, hsc⟩ : ∃ sc, sc = sideC fr r.2.1 l bi depth r.2.2.1 r.2.2.2 := ⟨_, rfl⟩
        rw [← hsc] at hec
        have hkn := K6.num
        obtain ⟨sb1, sb2, sb3⟩ := sideC_bnd (fr := fr) (c := r.2.1) (l := l) (i := bi) (d := depth) (inner := r.2.2.1) (kid := r.2.2.2)
        rw [← hsc] at sb1 sb2 sb3
        obtain ⟨kin, hkin⟩ : ∃ kin, kin = r.2.2.1 := ⟨_, rfl⟩
        rw [← hkin] at hec hsc H E6 I6 K6
        rw [← hkin]
        refine W_skip (at_then ?_)
        refine W_rseq ?_
        refine op_move rfl (.int _ _) rfl ?_
        refine op_move rfl (.int _ _) rfl ?_
        refine op_add_i64 rfl rfl rfl (by omega) (by omega) ?_
        rw [show ((bi : Int) + 1) = ((bi + 1 : Nat) : Int) by omega]
        refine op_assign rfl (.int _ _) rfl ?_
        refine op_assign rfl (.int _ _) rfl ?_
        refine op_nil (at_then ?_)
        refine W_seq ?_
        refine W_rseq (Wops_join (α := Unit) 150525431641469941186560 (fun _ => [(76, .bool (kin && decide (n5 = 1)))]) (fun _ w' => w6 = w') rfl ?_ ?_)
        · refine op_fieldAddr rfl fo_116_0_TrU rfl ?_
          first | refine op_ldb rfl ag_4 rfl H (by first | exact at0 | exact at1 | exact at2 | exact at3 | exact at4 | exact at5 | exact at6 | exact at7 | exact at8 | exact at9) rfl ?_ | refine op_ld rfl ag_4 rfl (R.fld hx1 rfl (j := 2) rfl) ?_
          refine op_move rfl (.bool _) rfl ?_
          refine Wops_split 71 rfl ?_ ?_
          · intro h1
            refine op_fieldAddr rfl fo_116_1_TrU rfl ?_
            first | refine op_ldb rfl ag_114_TrU rfl H (by first | exact at0 | exact at1 | exact at2 | exact at3 | exact at4 | exact at5 | exact at6 | exact at7 | exact at8 | exact at9) rfl ?_ | refine op_ld rfl ag_114_TrU rfl (R.fld hx1 rfl (j := 2) rfl) ?_
            refine op_len rfl el_114_TrU rfl ?_
            refine op_eql rfl rfl rfl ?_
            refine op_pick1 rfl rfl (.bool _) rfl ?_
            refine op_nil ?_
            exact ⟨rfl, (), rfl, ⟨congrArg Value.bool (by (first | rw [h2] | rw [h1]); (try rw [Bool.eq_iff_iff]); simp; try omega), trivial⟩, rfl⟩
          · intro h2
            refine op_skip rfl ?_
            refine op_skip rfl ?_
            refine op_skip rfl ?_
            refine op_skip rfl ?_
            refine op_pick0 rfl rfl (.bool _) rfl ?_
            refine op_nil ?_
            exact ⟨rfl, (), rfl, ⟨congrArg Value.bool (by (first | rw [h2] | rw [h1]); (try rw [Bool.eq_iff_iff]); simp; try omega), trivial⟩, rfl⟩
        rintro - j76 w rfl
        refine W_joinK 2787593149816327892540849056629216545540096 (α := ES) (fun s => [(16, .int .i64 (s.fr : Int)), (17, .int .i64 (s.to : Int))]) (fun s w' => Fr w0 Z (TM F ba bt bp L) w' bt bd bp ba fr bc s.ch F5 s.L ((b15, NBl kin s.a s.n s.c) :: (b12, NBl true aa nn cc) :: (b10, NBl false none 0 0) :: s.Y) ∧ Its w' (MY (MZ (TM F5 ba bt bp s.L) Z) ((b15, NBl kin s.a s.n s.c) :: (b12, NBl true aa nn cc) :: (b10, NBl false none 0 0) :: s.Y)) aa nn cc l ∧ Its w' (MY (MZ (TM F5 ba bt bp s.L) Z) ((b15, NBl kin s.a s.n s.c) :: (b12, NBl true aa nn cc) :: (b10, NBl false none 0 0) :: s.Y)) s.a s.n s.c s.M ∧ sc = (0, s.ch, s.M, s.fr, s.to) ∧ s.fr ≤ nn ∧ s.to ≤ nn) rfl ?_ ?_
        · skip
          refine W_cond _ rfl ?_ ?_
          · intro hE
            have hfw : few1 kin r.2.2.2 = true := by unfold few1; rw [← hkn]; exact hE
            have hk1 : kin = true ∧ n5 = 1 := by simpa using hE
            obtain ⟨hk2, hn5⟩ := hk1
            have hk5l := K6.le
            unfold sideC at hsc
            rw [if_pos hfw] at hsc
            refine W_seq ?_
            refine W_rseq ?_
            refine op_move rfl (.int _ _) rfl ?_
            refine op_sub_i64 rfl rfl rfl (by omega) (by omega) ?_
            refine op_max2 rfl rfl rfl ?_
            rw [show max ((bi : Int) - 1) 0 = ((bi - 1 : Nat) : Int) by omega]
            refine op_move rfl (.int _ _) rfl ?_
            refine op_add_i64 rfl rfl rfl (by omega) (by omega) ?_
            rw [show ((bi : Int) + 1) = ((bi + 1 : Nat) : Int) by omega]
            refine op_assign rfl (.int _ _) rfl ?_
            refine op_assign rfl (.int _ _) rfl ?_
            refine op_nil (at_then ?_)
            refine W_rseq ?_
            refine op_move rfl (.int _ _) rfl ?_
            refine op_eql rfl rfl rfl ?_
            refine op_nil (at_then ?_)
            refine W_joinK 131072 (α := Unit) (fun _ => [(17, .int .i64 ((if bi = 0 then 2 else bi + 1 : Nat) : Int))]) (fun _ w' => w6 = w') rfl ?_ ?_
            · skip
              refine W_cond _ rfl ?_ ?_
              · intro hF
                replace hF := dec_t hF
                refine W_region ?_
                refine op_assign rfl (.int _ _) rfl ?_
                refine op_nil (at_then ?_)
                exact ⟨(), rfl, ⟨congrArg (Value.int .i64) (by rw [if_pos (by omega)]; rfl), trivial⟩, rfl⟩
              · intro hF
                replace hF := dec_f hF
                refine W_skip (at_then ?_)
                exact ⟨(), rfl, ⟨congrArg (Value.int .i64) (by rw [if_neg (by omega)]), trivial⟩, rfl⟩
            · rintro - j17 w' rfl
              obtain ⟨to, hto⟩ : ∃ to, to = if bi = 0 then 2 else bi + 1 := ⟨_, rfl⟩
              rw [← hto] at hsc ⊢
              obtain ⟨kk, hkk⟩ : ∃ kk, kk = sideK bi := ⟨_, rfl⟩
              rw [← hkk] at hsc
              have hto2 : to ≤ bi + 2 := by rw [hto]; split <;> omega
              have hkk2 : ((bi - 1 : Nat) : Int) + (to : Int) - 1 - (bi : Int) = (kk : Int) := by
                rw [hkk, hto]; unfold sideK
                by_cases h0 : bi = 0
                · rw [if_pos h0, if_pos h0]; omega
                · rw [if_neg h0, if_neg h0]; omega
              have htk : kk + 1 = to ∨ to ≤ nn := by
                rw [hto, hkk]; unfold sideK
                by_cases h0 : bi = 0
                · left; rw [if_pos h0, if_pos h0]
                · right; rw [if_neg h0]; omega
              refine W_rseq ?_
              refine op_move rfl (.int _ _) rfl ?_
              refine op_move rfl (.int _ _) rfl ?_
              refine op_add_i64 rfl rfl rfl (by omega) (by omega) ?_
              refine op_sub_i64 rfl rfl rfl (by omega) (by omega) ?_
              refine op_move rfl (.int _ _) rfl ?_
              refine op_sub_i64 rfl rfl rfl (by omega) (by omega) ?_
              rw [hkk2]
              refine op_assign rfl (.int _ _) rfl ?_
              refine op_nil (at_then ?_)
              refine W_seq ?_
              refine W_rseq ?_
              refine op_move rfl (.int _ _) rfl ?_
              refine op_fieldAddr rfl fo_116_1_TrU rfl ?_
              first | refine op_ldb rfl ag_114_TrU rfl H (by first | exact at0 | exact at1 | exact at2 | exact at3 | exact at4 | exact at5 | exact at6 | exact at7 | exact at8 | exact at9) rfl ?_ | refine op_ld rfl ag_114_TrU rfl (R.fld hx1 rfl (j := 2) rfl) ?_
              refine op_len rfl el_114_TrU rfl ?_
              refine op_geq rfl rfl rfl ?_
              refine op_nil (at_then ?_)
              refine W_cond _ rfl ?_ ?_
              · intro hG
                replace hG := dec_t hG
                rw [if_pos (by omega)] at hsc
                rw [hsc] at hec
                dsimp only at hec
                rw [if_pos (by decide)] at hec
                refine W_rseq ?_
                refine op_ldbN rfl ag_116_TrU sz_116_TrU rfl H (by first | exact at0 | exact at1 | exact at2 | exact at3 | exact at4 | exact at5 | exact at6 | exact at7 | exact at8 | exact at9) rfl ?_
                refine op_stb0 rfl sz_116_TrU rfl rfl rfl (by simp [oneCell]) H (by first | exact at0 | exact at1 | exact at2 | exact at3 | exact at4 | exact at5 | exact at6 | exact at7 | exact at8 | exact at9) rfl ?_
                rintro w H
                refine op_assign rfl (.int _ _) rfl ?_
                refine op_nil (at_then ?_)
                refine W_ret (ret_then (ret_then (leave2b rfl rfl rfl ag_116_TrU sz_116_TrU H (by first | exact at0 | exact at1 | exact at2 | exact at3 | exact at4 | exact at5 | exact at6 | exact at7 | exact at8 | exact at9) rfl (show _ = (.int _ _) from rfl) ?_)))
                obtain ⟨E7, -⟩ := E6.own H
                exact ⟨true, aa, nn, cc, F5, L5, by rw [hec], by rw [hec]; exact E7.X, E7.GT, fun h => by rw [hec] at h; cases h⟩
              · intro hG
                replace hG := dec_f hG
                rw [if_neg (by omega)] at hsc
                obtain ⟨ms6, R6, -, hl6, hok6⟩ := I6.ex
                have hml6 : ms6.length = nn := by rw [hnum, ← hl6, List.length_map]
                obtain ⟨y, hy1⟩ := get_some (l := ms6) (i := kk) (by omega)
                have hyL := Im.at hl6 hy1
                have hpy : pageAt l kk = y.it.page := by unfold pageAt; rw [hyL]; rfl
                have hyb := hb y.it (List.mem_of_getElem? hyL)
                obtain ⟨rt2, hrt2⟩ : ∃ rt2, rt2 = readT r.2.1.A fr r.2.1.P.length ((y.it.page : Nat) : Int) ((depth + 1 : Nat) : Int) := ⟨_, rfl⟩
                rw [hpy, ← hrt2] at hsc
                refine W_skip (at_then ?_)
                refine W_rseq ?_
                refine op_move rfl (.pointer _) rfl ?_
                refine op_fieldAddr rfl fo_116_1_TrU rfl ?_
                first | refine op_ldb rfl ag_114_TrU rfl H (by first | exact at0 | exact at1 | exact at2 | exact at3 | exact at4 | exact at5 | exact at6 | exact at7 | exact at8 | exact at9) rfl ?_ | refine op_ld rfl ag_114_TrU rfl (R6.fld hy1 rfl (j := 2) rfl) ?_
                refine op_move rfl (.int _ _) rfl ?_
                first | refine op_indexRd R6 rfl el_114_TrU sz_120_TrU rfl rfl (by omega) (by omega) (by first | rfl | omega) ?_ | refine op_indexAddr rfl el_114_TrU sz_120_TrU rfl rfl (by omega) (by omega) ?_
                refine op_fieldAddr rfl fo_120_2_TrU rfl ?_
                first | refine op_ldb rfl ag_3 rfl H (by first | exact at0 | exact at1 | exact at2 | exact at3 | exact at4 | exact at5 | exact at6 | exact at7 | exact at8 | exact at9) rfl ?_ | refine op_ld rfl ag_3 rfl (R6.fld hy1 rfl (j := 2) rfl) ?_
                refine op_move rfl (.int _ _) rfl ?_
                refine op_add_i64 rfl rfl rfl (by omega) (by omega) ?_
                rw [show ((depth : Int) + 1) = ((depth + 1 : Nat) : Int) by omega]
                refine op_call rfl ca_168_TrU (cread_ok E6.X hfr (by omega) y.it.page (depth + 1) (by omega) eb3 (by omega)) rfl ?_
                rintro v w7 ⟨oin, oa, on, oc, L7, rfl, X7, g7, hits7⟩
                rw [← hrt2] at hits7
                rw [← hrt2]
                obtain ⟨E7, gg7⟩ := E6.call X7 g7
                replace H := E7.O.ctx
                refine op_move rfl (.tuple _) rfl ?_
                refine op_extract rfl rfl rfl ?_
                refine op_extract rfl rfl rfl ?_
                refine op_alloc rfl zc_116_TrU H ?_
                rintro b19 w - H
                refine op_stb0 rfl sz_116_TrU rfl rfl rfl (by simp [oneCell]) H (by first | exact at0 | exact at1 | exact at2 | exact at3 | exact at4 | exact at5 | exact at6 | exact at7 | exact at8 | exact at9) rfl ?_
                rintro w H
                refine op_assign rfl (.int _ _) rfl ?_
                refine op_nil (at_then ?_)
                refine W_seq ?_
                refine W_rseq (Wops_join (α := Unit) 82427712629240388602921629226369024 (fun _ => [(115, .bool (decide (rt2.1 = 0) && !oin))]) (fun _ w' => Ctx w7 [b15, b12, b10] w' [(b19, NBl oin oa on oc), (b15, NBl kin k5 n5 c5), (b12, NBl true aa nn cc), (b10, NBl false none 0 0)]) rfl ?_ ?_)
                · refine op_move rfl (.int _ _) rfl ?_
                  refine op_eql rfl rfl rfl ?_
                  refine op_move rfl (.bool _) rfl ?_
                  refine Wops_split 111 rfl ?_ ?_
                  · intro h3
                    replace h3 := dec_t h3
                    refine op_fieldAddr rfl fo_116_0_TrU rfl ?_
                    first | refine op_ldb rfl ag_4 rfl H (by first | exact at0 | exact at1 | exact at2 | exact at3 | exact at4 | exact at5 | exact at6 | exact at7 | exact at8 | exact at9) rfl ?_ | refine op_ld rfl ag_4 rfl (R6.fld hy1 rfl (j := 2) rfl) ?_
                    refine op_not rfl rfl ?_
                    refine op_pick1 rfl rfl (.bool _) rfl ?_
                    refine op_nil ?_
                    exact ⟨rfl, (), rfl, ⟨congrArg Value.bool (by (first | rw [decide_eq_true h3] | rw [decide_eq_false h4]); simp), trivial⟩, H⟩
                  · intro h4
                    replace h4 := dec_f h4
                    refine op_skip rfl ?_
                    refine op_skip rfl ?_
                    refine op_skip rfl ?_
                    refine op_pick0 rfl rfl (.bool _) rfl ?_
                    refine op_nil ?_
                    exact ⟨rfl, (), rfl, ⟨congrArg Value.bool (by (first | rw [decide_eq_true h3] | rw [decide_eq_false h4]); simp), trivial⟩, H⟩
                rintro - j115 w H
                refine W_cond _ rfl ?_ ?_
                · intro hI
                  have hI2 : rt2.1 = 0 ∧ oin = false := by simpa using hI
                  obtain ⟨⟨i2, o⟩, hsome2⟩ : ∃ z, rt2.2 = some z := by
                    cases h5 : rt2.2 with
                    | none => rw [hrt2] at h5; exact absurd (by rw [← hrt2]; exact hI2.1) (readT_none h5)
                    | some z => exact ⟨z, rfl⟩
                  obtain ⟨hi2, -, -⟩ := hits7 i2 o hsome2
                  rw [hsome2, ← hi2, hI2.2] at hsc
                  dsimp only at hsc
                  rw [hsc] at hec
                  dsimp only at hec
                  rw [if_pos (by decide)] at hec
                  refine W_region ?_
                  refine op_assign rfl (.int _ _) rfl ?_
                  refine op_nil (at_then ?_)
                  refine W_seq ?_
                  refine W_rseq ?_
                  refine op_move rfl (.int _ _) rfl ?_
                  refine op_neq rfl rfl rfl ?_
                  refine op_nil (at_then ?_)
                  refine W_cond _ rfl ?_ ?_
                  · intro hJ
                    replace hJ := ndec_t hJ
                    refine W_rseq ?_
                    refine op_ldbN rfl ag_116_TrU sz_116_TrU rfl H (by first | exact at0 | exact at1 | exact at2 | exact at3 | exact at4 | exact at5 | exact at6 | exact at7 | exact at8 | exact at9) rfl ?_
                    refine op_move rfl (.int _ _) rfl ?_
                    refine op_stb0 rfl sz_116_TrU rfl rfl rfl (by simp [oneCell]) H (by first | exact at0 | exact at1 | exact at2 | exact at3 | exact at4 | exact at5 | exact at6 | exact at7 | exact at8 | exact at9) rfl ?_
                    rintro w H
                    refine op_assign rfl (.int _ _) rfl ?_
                    refine op_nil (at_then ?_)
                    refine W_ret (ret_then (ret_then (leave2b rfl rfl rfl ag_116_TrU sz_116_TrU H (by first | exact at0 | exact at1 | exact at2 | exact at3 | exact at4 | exact at5 | exact at6 | exact at7 | exact at8 | exact at9) rfl (show _ = (.int _ _) from rfl) ?_)))
                    obtain ⟨E8, -⟩ := E7.own H
                    exact ⟨true, aa, nn, cc, F5, L7, by rw [hec], by rw [hec]; exact E8.X, E8.GT, fun h => by rw [hec] at h; cases h⟩
                  · intro hJ
                    replace hJ := ndec_f hJ
                    exact absurd hJ (by decide)
                · intro hI
                  refine W_skip (at_then ?_)
                  refine W_seq ?_
                  refine W_rseq ?_
                  refine op_move rfl (.int _ _) rfl ?_
                  refine op_neq rfl rfl rfl ?_
                  refine op_nil (at_then ?_)
                  refine W_cond _ rfl ?_ ?_
                  · intro hJ
                    replace hJ := ndec_t hJ
                    have hnone2 : rt2.2 = none := by
                      cases h5 : rt2.2 with
                      | none => rfl
                      | some z => obtain ⟨i2, o⟩ := z; rw [hrt2] at h5; exact absurd (by rw [hrt2]; exact (readT_some h5).1) hJ
                    rw [hnone2] at hsc
                    dsimp only at hsc
                    rw [hsc] at hec
                    dsimp only at hec
                    rw [if_pos hJ] at hec
                    have hrd2 : rdC fr r.2.1 y.it.page (depth + 1) = r.2.1 := by unfold rdC; rw [← hrt2, if_neg hJ]
                    refine W_rseq ?_
                    refine op_ldbN rfl ag_116_TrU sz_116_TrU rfl H (by first | exact at0 | exact at1 | exact at2 | exact at3 | exact at4 | exact at5 | exact at6 | exact at7 | exact at8 | exact at9) rfl ?_
                    refine op_move rfl (.int _ _) rfl ?_
                    refine op_stb0 rfl sz_116_TrU rfl rfl rfl (by simp [oneCell]) H (by first | exact at0 | exact at1 | exact at2 | exact at3 | exact at4 | exact at5 | exact at6 | exact at7 | exact at8 | exact at9) rfl ?_
                    rintro w H
                    refine op_assign rfl (.int _ _) rfl ?_
                    refine op_nil (at_then ?_)
                    refine W_ret (ret_then (ret_then (leave2b rfl rfl rfl ag_116_TrU sz_116_TrU H (by first | exact at0 | exact at1 | exact at2 | exact at3 | exact at4 | exact at5 | exact at6 | exact at7 | exact at8 | exact at9) rfl (show _ = (.int _ _) from rfl) ?_)))
                    obtain ⟨E8, -⟩ := E7.own H
                    have X8 := E8.X
                    rw [hrd2] at X8
                    exact ⟨true, aa, nn, cc, F5, L7, by rw [hec], by rw [hec]; exact X8, E8.GT, fun h => absurd (by rw [hec] at h; exact h) hJ⟩
                  · intro hJ
                    replace hJ := ndec_f hJ
                    have hJ' : rt2.1 = 0 := by simpa using hJ
                    obtain ⟨⟨i2, o⟩, hsome2⟩ : ∃ z, rt2.2 = some z := by
                      cases h5 : rt2.2 with
                      | none => rw [hrt2] at h5; exact absurd (by rw [← hrt2]; exact hJ') (readT_none h5)
                      | some z => exact ⟨z, rfl⟩
                    obtain ⟨rfl, O7, hb7⟩ := hits7 i2 o hsome2
                    have hoin : oin = true := by
                      cases oin with
                      | true => rfl
                      | false => rw [hJ'] at hI; simp at hI
                    subst hoin
                    rw [hsome2] at hsc
                    dsimp only at hsc
                    obtain ⟨-, -, -, -, -, hol⟩ := readT_some (A := r.2.1.A) (fr := fr) (sz := r.2.1.P.length) (page := ((y.it.page : Nat) : Int)) (depth := ((depth + 1 : Nat) : Int)) (by rw [← hrt2]; exact hsome2)
                    obtain ⟨E8, g8⟩ := E7.own H
                    have I8 := (I6.turn gg7).turn g8
                    have K8 := (K6.turn gg7).turn g8
                    have O8 := (O7.weak E6.fresh).turn g8
                    have hon := O8.num
                    have htn : to ≤ nn := by omega
                    replace H := E8.O.ctx
                    obtain ⟨w8, rfl⟩ : ∃ x, x = w := ⟨_, rfl⟩
                    refine W_skip (at_then ?_)
                    refine W_rseq ?_
                    refine op_fieldAddr rfl fo_116_1_TrU rfl ?_
                    refine op_ldb rfl ag_114_TrU rfl H (by first | exact at0 | exact at1 | exact at2 | exact at3 | exact at4 | exact at5 | exact at6 | exact at7 | exact at8 | exact at9) rfl ?_
                    refine op_fieldAddr rfl fo_116_1_TrU rfl ?_
                    refine op_ldb rfl ag_114_TrU rfl H (by first | exact at0 | exact at1 | exact at2 | exact at3 | exact at4 | exact at5 | exact at6 | exact at7 | exact at8 | exact at9) rfl ?_
                    refine op_buildA [.slice k5 n5 c5, .slice oa on oc] rfl ar_232_TrU sz_114_TrU zc_232_TrU (by kernel_rfl) ?_
                    refine op_alloc rfl zc_232_TrU H ?_
                    rintro b21 w - H
                    refine op_stb0 rfl sz_232_TrU rfl rfl rfl (by simp [oneCell]) H (by first | exact at0 | exact at1 | exact at2 | exact at3 | exact at4 | exact at5 | exact at6 | exact at7 | exact at8 | exact at9) rfl ?_
                    rintro w H
                    refine op_nil (at_then ?_)
                    refine W_seq ?_
                    refine W_rseq ?_
                    refine op_move rfl (.int _ _) rfl ?_
                    refine op_move rfl (.int _ _) rfl ?_
                    refine op_lss rfl rfl rfl ?_
                    refine op_nil (at_then ?_)
                    refine W_cond _ rfl ?_ ?_
                    · intro hK
                      replace hK := dec_t hK
                      have hbi0 : bi ≠ 0 := by
                        intro h0; rw [hkk] at hK; unfold sideK at hK; rw [if_pos h0] at hK; omega
                      rw [if_neg hbi0] at hsc
                      refine W_region ?_
                      refine op_indexArr rfl ar_232_TrU sz_114_TrU rfl rfl (by omega) (by omega) ?_
                      refine op_ldb rfl ag_114_TrU rfl H (by first | exact at0 | exact at1 | exact at2 | exact at3 | exact at4 | exact at5 | exact at6 | exact at7 | exact at8 | exact at9) rfl ?_
                      refine op_indexArr rfl ar_232_TrU sz_114_TrU rfl rfl (by omega) (by omega) ?_
                      refine op_ldb rfl ag_114_TrU rfl H (by first | exact at0 | exact at1 | exact at2 | exact at3 | exact at4 | exact at5 | exact at6 | exact at7 | exact at8 | exact at9) rfl ?_
                      refine op_indexArr rfl ar_232_TrU sz_114_TrU rfl rfl (by omega) (by omega) ?_
                      refine op_stb (.slice _ _ _) rfl sz_114_TrU rfl rfl rfl H (by first | exact at0 | exact at1 | exact at2 | exact at3 | exact at4 | exact at5 | exact at6 | exact at7 | exact at8 | exact at9) (by first | decide | (simp; done) | (simp; omega)) ?_
                      rintro w H
                      refine op_indexArr rfl ar_232_TrU sz_114_TrU rfl rfl (by omega) (by omega) ?_
                      refine op_stb (.slice _ _ _) rfl sz_114_TrU rfl rfl rfl H (by first | exact at0 | exact at1 | exact at2 | exact at3 | exact at4 | exact at5 | exact at6 | exact at7 | exact at8 | exact at9) (by first | decide | (simp; done) | (simp; omega)) ?_
                      rintro w H
                      refine op_nil (at_then ?_)
                      refine W_region ?_
                      refine op_indexArr rfl ar_232_TrU sz_114_TrU rfl rfl (by omega) (by omega) ?_
                      refine op_ldb rfl ag_114_TrU rfl H (by first | exact at0 | exact at1 | exact at2 | exact at3 | exact at4 | exact at5 | exact at6 | exact at7 | exact at8 | exact at9) rfl ?_
                      refine op_indexArr rfl ar_232_TrU sz_114_TrU rfl rfl (by omega) (by omega) ?_
                      refine op_ldb rfl ag_114_TrU rfl H (by first | exact at0 | exact at1 | exact at2 | exact at3 | exact at4 | exact at5 | exact at6 | exact at7 | exact at8 | exact at9) rfl ?_
                      refine op_buildL [.slice oa on oc, .slice k5 n5 c5] rfl el_196_TrU sz_114_TrU zc_114_TrU (by decide) (by decide) (by kernel_rfl) H ?_
                      rintro b138 w - H
                      obtain ⟨E9, g9⟩ := E8.own H
                      have I9 := I8.turn g9
                      have K9 := K8.turn g9
                      have O9 := O8.turn g9
                      have RR : Rd w (some ⟨b138, 0, none⟩) 1 encT [(oa, o, oc), (k5, r.2.2.2, c5)] := Rd.of_bl (r := []) (H.get at0) (by simp [encT, ← hon, ← hkn]) (fun _ _ => rfl)
                      have CC := concatI_ok (n := 2) (c := 2) E9.mylt _ RR (side_parts O9 K9) rfl (by omega) (by simp only [List.map_cons, List.map_nil, List.sum_cons, List.sum_nil]; omega)
                      rw [show ([(oa, o, oc), (k5, r.2.2.2, c5)] : List SI).flatMap (fun x => x.2.1) = o ++ r.2.2.2 by simp] at CC
                      refine op_call rfl ca_74_TrU CC rfl ?_
                      rintro v w11 ⟨a11, c11, rfl, J11, hx11⟩
                      obtain ⟨E11, g11⟩ := E9.call0 hx11
                      replace H := E11.O.ctx
                      refine op_fieldAddr rfl fo_116_1_TrU rfl ?_
                      refine op_stb (.slice _ _ _) rfl sz_114_TrU rfl rfl rfl H (by first | exact at0 | exact at1 | exact at2 | exact at3 | exact at4 | exact at5 | exact at6 | exact at7 | exact at8 | exact at9) (by first | decide | (simp; done) | (simp; omega)) ?_
                      rintro w H
                      refine op_nil (at_then ?_)
                      obtain ⟨E12, g12⟩ := E11.own H.tail.tail.tail
                      exact ⟨⟨a11, (o ++ r.2.2.2).length, c11, o ++ r.2.2.2, bi - 1, to, rdC fr r.2.1 y.it.page (depth + 1), L7, []⟩, rfl, ⟨rfl, rfl, trivial⟩, E12, (I9.turn g11).turn g12, J11.turn g12, hsc, by dsimp only; omega, htn⟩
                    · intro hK
                      replace hK := dec_f hK
                      have hbi0 : bi = 0 := by
                        rw [hkk] at hK; unfold sideK at hK
                        by_cases h0 : bi = 0
                        · exact h0
                        · rw [if_neg h0] at hK; omega
                      rw [if_pos hbi0] at hsc
                      refine W_skip (at_then ?_)
                      refine W_region ?_
                      refine op_indexArr rfl ar_232_TrU sz_114_TrU rfl rfl (by omega) (by omega) ?_
                      refine op_ldb rfl ag_114_TrU rfl H (by first | exact at0 | exact at1 | exact at2 | exact at3 | exact at4 | exact at5 | exact at6 | exact at7 | exact at8 | exact at9) rfl ?_
                      refine op_indexArr rfl ar_232_TrU sz_114_TrU rfl rfl (by omega) (by omega) ?_
                      refine op_ldb rfl ag_114_TrU rfl H (by first | exact at0 | exact at1 | exact at2 | exact at3 | exact at4 | exact at5 | exact at6 | exact at7 | exact at8 | exact at9) rfl ?_
                      refine op_buildL [.slice k5 n5 c5, .slice oa on oc] rfl el_196_TrU sz_114_TrU zc_114_TrU (by decide) (by decide) (by kernel_rfl) H ?_
                      rintro b138 w - H
                      obtain ⟨E9, g9⟩ := E8.own H
                      have I9 := I8.turn g9
                      have K9 := K8.turn g9
                      have O9 := O8.turn g9
                      have RR : Rd w (some ⟨b138, 0, none⟩) 1 encT [(k5, r.2.2.2, c5), (oa, o, oc)] := Rd.of_bl (r := []) (H.get at0) (by simp [encT, ← hon, ← hkn]) (fun _ _ => rfl)
                      have CC := concatI_ok (n := 2) (c := 2) E9.mylt _ RR (side_parts K9 O9) rfl (by omega) (by simp only [List.map_cons, List.map_nil, List.sum_cons, List.sum_nil]; omega)
                      rw [show ([(k5, r.2.2.2, c5), (oa, o, oc)] : List SI).flatMap (fun x => x.2.1) = r.2.2.2 ++ o by simp] at CC
                      refine op_call rfl ca_74_TrU CC rfl ?_
                      rintro v w11 ⟨a11, c11, rfl, J11, hx11⟩
                      obtain ⟨E11, g11⟩ := E9.call0 hx11
                      replace H := E11.O.ctx
                      refine op_fieldAddr rfl fo_116_1_TrU rfl ?_
                      refine op_stb (.slice _ _ _) rfl sz_114_TrU rfl rfl rfl H (by first | exact at0 | exact at1 | exact at2 | exact at3 | exact at4 | exact at5 | exact at6 | exact at7 | exact at8 | exact at9) (by first | decide | (simp; done) | (simp; omega)) ?_
                      rintro w H
                      refine op_nil (at_then ?_)
                      obtain ⟨E12, g12⟩ := E11.own H.tail.tail.tail
                      exact ⟨⟨a11, (r.2.2.2 ++ o).length, c11, r.2.2.2 ++ o, bi - 1, to, rdC fr r.2.1 y.it.page (depth + 1), L7, []⟩, rfl, ⟨rfl, rfl, trivial⟩, E12, (I9.turn g11).turn g12, J11.turn g12, hsc, by dsimp only; omega, htn⟩
          · intro hE
            have hfw : ¬ few1 kin r.2.2.2 = true := by unfold few1; rw [← hkn, hE]; simp
            unfold sideC at hsc
            rw [if_neg hfw] at hsc
            refine W_skip (at_then ?_)
            exact ⟨⟨k5, n5, c5, r.2.2.2, bi, bi + 1, r.2.1, L5, []⟩, rfl, ⟨rfl, rfl, trivial⟩, E6, I6, K6, hsc, by dsimp only; omega, by dsimp only; omega⟩
        · rintro ⟨sa, sn, scc, sM, sfr, sto, sch, L8, Y8⟩ j8 w ⟨E8, I8, K8, hsc8, hfn, htn⟩; dsimp only at E8 I8 K8 hsc8 hfn htn; dsimp only
          rw [hsc8] at hec
          dsimp only at hec
          rw [if_neg (by simp)] at hec
          have hch : sch = sc.2.1 := by rw [hsc8]
          rw [← hch] at sb1 sb2 sb3
          obtain ⟨q, hq⟩ : ∃ q, q = putS fr sch kin sM := ⟨_, rfl⟩
          rw [← hq] at hec
          have hok8 : q.1 ≠ 99 := fun h => hok (by rw [hec]; exact h)
          obtain ⟨hokM, hqc⟩ := putS_99 (fr := fr) (c := sch) (i := kin) (M := sM) (by rw [← hq]; exact hok8)
          rw [← hq] at hqc
          obtain ⟨m1, m2, m3, m4⟩ := okM_of hokM
          obtain ⟨qb1, qb2, qb3, qb4⟩ := putS_bnd (fr := fr) (c := sch) (i := kin) (M := sM) (m := mx + 2 * (n' + 1))
          rw [← hq] at qb1 qb2 qb3 qb4
          have hkn8 := K8.num
          have hcc8 := I8.le
          have hfew8 : Few sch.A (mx + 2 * (n' + 1)) := by rw [sb3]; exact eb3
          have H := E8.O.ctx
          refine W_rseq ?_
          refine op_move rfl (.pointer _) rfl ?_
          refine op_ldbN rfl ag_116_TrU sz_116_TrU rfl H (by first | exact at0 | exact at1 | exact at2 | exact at3 | exact at4 | exact at5 | exact at6 | exact at7 | exact at8 | exact at9) rfl ?_
          refine op_call rfl ca_169_TrU (put7_ok E8.X hfr (by rw [sb1]; omega) kin (MY Z _) E8.zlt (K8.weak MYZ) (by omega) m2 m3 m4 hfew8 (by omega)) rfl ?_
          rintro v w9 ⟨qa, qn, qc, F9, L9, rfl, X9, g9, Q9⟩
          rw [← hqc] at X9 Q9
          rw [← hqc]
          obtain ⟨E9, gg9⟩ := E8.call X9 g9
          have Q9' := Q9.weak MYZ'
          have I9 := I8.turn gg9
          replace H := E9.O.ctx
          refine op_move rfl (.tuple _) rfl ?_
          refine op_extract rfl rfl rfl ?_
          refine op_extract rfl rfl rfl ?_
          refine op_assign rfl (.slice _ _ _) rfl ?_
          refine op_assign rfl (.int _ _) rfl ?_
          refine op_nil (at_then ?_)
          refine W_sseqz [([0, 1, 2, 3, 4, 5, 6, 7, 8], 9), ([], 10), ([11], 12)] (fun z => z.heap[b12]? = some (NBl true aa nn cc)) [12] mixed (by kernel_rfl) (H.drew.get at1) ?_
          refine seg_cons rfl rfl ?_
          refine t_fieldAddr rfl fo_116_1_TrU rfl ?_
          first | refine t_ldb rfl ag_114_TrU rfl (fun _ _ => Ctx.start _ []) (by first | exact at0 | exact at1 | exact at2 | exact at3 | exact at4 | exact at5 | exact at6 | exact at7 | exact at8 | exact at9) rfl ?_ | refine t_ld rfl ag_114_TrU rfl (fun _ hx => cell_bl hx (0 + 1)) ?_
          refine t_move rfl (.int _ _) rfl ?_
          refine t_slice_hi rfl el_114_TrU sz_120_TrU rfl rfl (by omega) (by omega) ?_
          refine t_move rfl (.slice _ _ _) rfl ?_
          refine t_fieldAddr rfl fo_116_1_TrU rfl ?_
          first | refine t_ldb rfl ag_114_TrU rfl (fun _ _ => Ctx.start _ []) (by first | exact at0 | exact at1 | exact at2 | exact at3 | exact at4 | exact at5 | exact at6 | exact at7 | exact at8 | exact at9) rfl ?_ | refine t_ld rfl ag_114_TrU rfl (fun _ hx => cell_bl hx (0 + 1)) ?_
          refine t_move rfl (.int _ _) rfl ?_
          refine t_slice_lo rfl el_114_TrU sz_120_TrU rfl rfl (by omega) (by omega) ?_
          refine t_nil ?_
          replace H := H.drew
          refine op_buildL [.slice aa sfr cc, .slice qa qn qc, .slice (cutA aa cc sto 3) (nn - sto) (cc - sto)] rfl el_196_TrU sz_114_TrU zc_114_TrU (by decide) (by decide) (by kernel_rfl) H ?_
          rintro b156 w - H
          refine op_nil (at_seg (H.get at2) ?_)
          refine seg_cons rfl rfl ?_
          refine t_nil ?_
          obtain ⟨E10, g10⟩ := E9.own H
          have I10 := I9.turn g10
          have Q10 := Q9'.turn g10
          have hlt9 : (l.take sfr).length = sfr := (by rw [List.length_take]; omega)
          have hld9 : (l.drop sto).length = nn - sto := (by rw [List.length_drop]; omega)
          have hqn9 : q.2.2.length = qn := Q10.num.symm
          have RR : Rd w (some ⟨b156, 0, none⟩) 1 encT [(aa, l.take sfr, cc), (qa, q.2.2, qc), (cutA aa cc sto 3, l.drop sto, cc - sto)] := Rd.of_bl (r := []) (H.get at0) (by simp [encT, hlt9, hld9, hqn9]) (fun _ _ => rfl)
          have hIts : ∀ x ∈ ([(aa, l.take sfr, cc), (qa, q.2.2, qc), (cutA aa cc sto 3, l.drop sto, cc - sto)] : List SI), Its w _ x.1 x.2.1.length x.2.2 x.2.1 := edit_parts I10 Q10 hfn htn hlt9 hld9
          have hfl : ([(aa, l.take sfr, cc), (qa, q.2.2, qc), (cutA aa cc sto 3, l.drop sto, cc - sto)] : List SI).flatMap (fun x => x.2.1) = l.take sfr ++ (q.2.2 ++ l.drop sto) := (by simp)
          have CC := concatI_ok (n := 3) (c := 3) E10.mylt _ RR hIts rfl (by omega) (by simp only [List.map_cons, List.map_nil, List.sum_cons, List.sum_nil]; omega)
          rw [hfl] at CC
          refine op_call rfl ca_74_TrU CC rfl ?_
          rintro v w11 ⟨a11, c11, rfl, J11, hx11⟩
          obtain ⟨E11, g11⟩ := E10.call0 hx11
          replace H := E11.O.ctx
          refine op_nil (at_seg (H.get at2) ?_)
          refine seg_cons rfl rfl ?_
          refine t_fieldAddr rfl fo_116_1_TrU rfl ?_
          refine t_nil ?_
          refine op_stb (.slice _ _ _) rfl sz_114_TrU rfl rfl rfl H (by first | exact at0 | exact at1 | exact at2 | exact at3 | exact at4 | exact at5 | exact at6 | exact at7 | exact at8 | exact at9) (by first | decide | (simp; done) | (simp; omega)) ?_
          rintro w H
          refine op_nil (at_segz rfl ?_)
          refine seg_nil ?_
          refine W_rseq ?_
          refine op_ldbN rfl ag_116_TrU sz_116_TrU rfl H (by first | exact at0 | exact at1 | exact at2 | exact at3 | exact at4 | exact at5 | exact at6 | exact at7 | exact at8 | exact at9) rfl ?_
          refine op_move rfl (.int _ _) rfl ?_
          refine op_stb0 rfl sz_116_TrU rfl rfl rfl (by simp [oneCell]) H (by first | exact at0 | exact at1 | exact at2 | exact at3 | exact at4 | exact at5 | exact at6 | exact at7 | exact at8 | exact at9) rfl ?_
          rintro w H
          refine op_assign rfl (.int _ _) rfl ?_
          refine op_nil (at_then ?_)
          refine W_ret (leave2b rfl rfl rfl ag_116_TrU sz_116_TrU H (by first | exact at0 | exact at1 | exact at2 | exact at3 | exact at4 | exact at5 | exact at6 | exact at7 | exact at8 | exact at9) rfl (show _ = (.int _ _) from rfl) ?_)
          obtain ⟨E12, g12⟩ := E11.own H
          exact ⟨true, a11, _, c11, F9, L9, by rw [hec]; rfl, by rw [hec]; exact E12.X, E12.GT, fun _ => ⟨by rw [hec], by rw [hec]; exact (J11.turn g12).weak MY.le⟩⟩

theorem edit7_ok {f : Nat} {cl : List Value} {G : List It → List It} {key : Byt} {fr : Nat} (hf : callable Tryz.prog f = true) (hfr : fr ≤ 5000) (hkl : key.length ≤ 100000) : ∀ n, EdSpec f cl G key fr n
  | 0 => edit_step hf hfr hkl 0 fun n' h => by omega
  | n + 1 => edit_step hf hfr hkl (n + 1) fun n' h => by obtain rfl : n = n' := by omega
                                                         exact edit7_ok hf hfr hkl n

end Go.Proofs.YtbkadlngijkmmaaGreatDoor
