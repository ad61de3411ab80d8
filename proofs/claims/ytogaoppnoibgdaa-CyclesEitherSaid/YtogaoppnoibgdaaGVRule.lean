/- The rules of the logic over environments, in the form in which proofs use them: only the slots that a piece of code writes may have changed behind it. It holds for every program. -/
import Derived.Test.YtogaoppnoibgdaaGVCore
namespace Go.GV
open Go

/-- Bit i of a number, as Lean's checker reckons it fast. -/
def bitAt (D i : Nat) : Bool := Nat.testBit D i

def opsIn (D : Nat) : List Oper → Bool
  | [] => true
  | o :: l => (match o.dst with | some d => bitAt D d | none => true) && opsIn D l

/-- All that the code writes is in D. -/
def codeIn (D : Nat) : Code → Bool
  | .region _ ops _ => opsIn D ops.toList
  | .seq a b => codeIn D a && codeIn D b
  | .cond _ a b => codeIn D a && codeIn D b
  | .block _ b => codeIn D b
  | .loop b => codeIn D b
  | .scope b => codeIn D b
  | _ => true

def Same (D : Nat) (e e' : Env) : Prop := ∀ i, bitAt D i = false → e'.g i = e.g i

theorem Same.refl (D : Nat) (e : Env) : Same D e e := fun _ _ => rfl

theorem Same.put {D : Nat} {e0 e : Env} (h : Same D e0 e) (d : Option Tmp) (v : Value) (hd : ∀ x, d = some x → bitAt D x = true) : Same D e0 (put e d v) := by
  cases d with
  | none => exact h
  | some d =>
    intro i hi
    have hne : Nat.beq i d = false := by
      cases hc : Nat.beq i d with
      | false => rfl
      | true => have := Nat.eq_of_beq_eq_true hc; subst this; rw [hd i rfl] at hi; cases hi
    show (bif Nat.beq i d then v else e.g i) = _
    rw [hne]
    exact h i hi

/-- The slots of D hold whatever they hold. -/
def putJ (e : Env) (D : Nat) (j : Nat → Value) : Env := ⟨fun i => bif bitAt D i then j i else e.g i, e.ds⟩

theorem Same.eq {D : Nat} {e e' : Env} (h : Same D e e') (hd : e'.ds = e.ds) : e' = putJ e D e'.g := by
  cases e' with
  | mk g ds =>
    unfold putJ
    congr 1
    · funext i
      cases hb : bitAt D i with
      | true => rfl
      | false => exact h i hb

section
variable {P : Program} {r : Option Nat} {n : Nat} {Q : Exit → Env → World → Prop} {e : Env} {w : World}

theorem step1_mono {o : Oper} {K K' : Env → World → Prop} {Q' : Exit → Env → World → Prop} (hK : ∀ e w, K e w → K' e w) (hQ : ∀ x e w, Q x e w → Q' x e w) :
    ∀ res, step1 P o e K Q res → step1 P o e K' Q' res := by
  intro res h
  match res, h with
  | .ok (.value v) w', h => exact hK _ _ h
  | .ok .skip w', h => exact hK _ _ h
  | .ok (.defer d) w', h => exact hK _ _ h
  | .ok (.enter f args) w', h => exact Ret.mono h fun _ _ h => hK _ _ h
  | .ok (.round lo f tmps assign body) w', h => exact RoundIn.mono h fun _ _ ⟨v, hx, h⟩ => ⟨v, hx, hK _ _ h⟩
  | .halt (.panic v) w', h => exact hQ _ _ _ h

theorem Wops_mono {ops : List Oper} {Q' : Exit → Env → World → Prop} (hQ : ∀ x e w, Q x e w → Q' x e w) : ∀ (l : List Oper) (e : Env) (w : World), Wops P r ops Q l e w → Wops P r ops Q' l e w
  | [], e, w, h => hQ _ _ _ h
  | o :: l, e, w, h => by
    unfold Wops at h ⊢
    split
    · rename_i hw; rw [if_pos hw] at h; exact step1_mono (Wops_mono hQ l) hQ _ h
    · rename_i hw; rw [if_neg hw] at h; exact Wops_mono hQ l _ _ h

theorem Qthen_mono {K K' : Env → World → Prop} {Q' : Exit → Env → World → Prop} (hK : ∀ e w, K e w → K' e w) (hQ : ∀ x e w, Q x e w → Q' x e w) : ∀ x e w, Qthen K Q x e w → Qthen K' Q' x e w := by
  intro x e w h
  cases x with
  | normal => exact hK _ _ h
  | exit id => exact hQ _ _ _ h
  | goto l => exact hQ _ _ _ h
  | ret => exact hQ _ _ _ h
  | panic c => exact hQ _ _ _ h
  | outgrown => exact hQ _ _ _ h

theorem Qblock_mono {id : Nat} {Q' : Exit → Env → World → Prop} (hQ : ∀ x e w, Q x e w → Q' x e w) : ∀ x e w, Qblock id Q x e w → Qblock id Q' x e w := by
  intro x e w h
  cases x with
  | exit id' =>
    show (bif Nat.beq id' id then Q' .normal e w else Q' (.exit id') e w)
    have h : (bif Nat.beq id' id then Q .normal e w else Q (.exit id') e w) := h
    cases hb : Nat.beq id' id with
    | true => rw [hb] at h; exact hQ _ _ _ h
    | false => rw [hb] at h; exact hQ _ _ _ h
  | normal => exact hQ _ _ _ h
  | goto l => exact hQ _ _ _ h
  | ret => exact hQ _ _ _ h
  | panic c => exact hQ _ _ _ h
  | outgrown => exact hQ _ _ _ h

theorem jumped_mono {Q' : Exit → Env → World → Prop} (hQ : ∀ x e w, Q x e w → Q' x e w) : ∀ e w j, jumped Q e w j → jumped Q' e w j := by
  intro e w j h
  match j, h with
  | none, h => exact hQ _ _ _ h
  | some .ret, h => exact hQ _ _ _ h
  | some (.exit id), h => exact hQ _ _ _ h
  | some (.goto l), h => exact hQ _ _ _ h

theorem Qscope_mono {Q' : Exit → Env → World → Prop} (hQ : ∀ x e w, Q x e w → Q' x e w) : ∀ x e w, Qscope Q x e w → Qscope Q' x e w := by
  intro x e w h
  cases x with
  | goto l => exact h
  | normal => exact hQ _ _ _ h
  | exit id => exact hQ _ _ _ h
  | ret => exact hQ _ _ _ h
  | panic c => exact hQ _ _ _ h
  | outgrown => exact hQ _ _ _ h

theorem Wq_mono {ops : List Oper} {C : World → Prop} {K K' : Env → Prop} (hK : ∀ e, K e → K' e) : ∀ (l : List Oper) (e : Env), Wq P ops C K l e → Wq P ops C K' l e
  | [], e, h => hK e h
  | o :: l, e, h => by
    unfold Wq at h ⊢
    split
    · rename_i hw; rw [if_pos hw] at h; obtain ⟨v, hv, h⟩ := h; exact ⟨v, hv, Wq_mono hK l _ h⟩
    · rename_i hw; rw [if_neg hw] at h; exact Wq_mono hK l _ h

theorem W_mono : ∀ (c : Code) {Q Q' : Exit → Env → World → Prop} (_ : ∀ x e w, Q x e w → Q' x e w) {e : Env} {w : World}, W P r n c Q e w → W P r n c Q' e w
  | .skip, _, _, hQ, _, _, h => hQ _ _ _ h
  | .label _, _, _, hQ, _, _, h => hQ _ _ _ h
  | .ret, _, _, hQ, _, _, h => hQ _ _ _ h
  | .exit _, _, _, hQ, _, _, h => hQ _ _ _ h
  | .goto _, _, _, hQ, _, _, h => hQ _ _ _ h
  | .seq x y, _, _, hQ, _, _, h => W_mono x (Qthen_mono (fun _ _ h => W_mono y hQ h) hQ) h
  | .cond _ x y, _, _, hQ, _, _, ⟨t, hc, h1, h2⟩ => ⟨t, hc, fun ht => W_mono x hQ (h1 ht), fun ht => W_mono y hQ (h2 ht)⟩
  | .block _ c, _, _, hQ, _, _, h => W_mono c (Qblock_mono hQ) h
  | .loop c, _, _, hQ, _, _, ⟨I, h0, hr⟩ => ⟨I, h0, fun k e w hI => W_mono c (Qthen_mono (fun _ _ h => h) hQ) (hr k e w hI)⟩
  | .region _ _ false, _, _, hQ, _, _, h => Wops_mono hQ _ _ _ h
  | .region _ _ true, _, _, hQ, _, _, .inl h => .inl fun t => Wops_mono hQ _ _ _ (h t)
  | .region _ _ true, _, _, hQ, _, _, .inr (.inl ⟨hr, hm, hB, C, hC, h⟩) => .inr (.inl ⟨hr, hm, hB, C, hC, Wq_mono (fun _ h w' hw' => hQ _ _ _ (h w' hw')) _ _ h⟩)
  | .region _ _ true, _, _, hQ, _, _, .inr (.inr ⟨hr, hm, k, hB, ht, h⟩) => .inr (.inr ⟨hr, hm, k, hB, ht, Wq_mono (fun _ h => Wops_mono hQ _ _ _ h) _ _ h⟩)
  | .rangeFunc _ _ _ _, _, _, hQ, _, _, ⟨d, hd, h⟩ => ⟨d, hd, fun fn tmps h1 h2 =>
      let ⟨g, fi, ca, hg, hcf, hret⟩ := h fn tmps h1 h2
      ⟨g, fi, ca, hg, hcf, Ret.mono hret fun _ _ ⟨lo, h1, h2, h3⟩ => ⟨lo, h1, h2, jumped_mono hQ _ _ _ h3⟩⟩⟩
  | .scope c, _, _, hQ, _, _, h => W_mono c (Qscope_mono hQ) h
  | .refuse _, _, _, _, _, _, h => h.elim

theorem opsIn_dst {D : Nat} {o : Oper} {l : List Oper} (h : opsIn D (o :: l) = true) : (∀ x, o.dst = some x → bitAt D x = true) ∧ opsIn D l = true := by
  simp only [opsIn, Bool.and_eq_true] at h
  exact ⟨fun x hx => by have := h.1; rw [hx] at this; exact this, h.2⟩

theorem opsIn_get {D : Nat} : ∀ {l : List Oper}, opsIn D l = true → ∀ (i : Nat) (o : Oper), l[i]? = some o → ∀ x, o.dst = some x → bitAt D x = true
  | [], _, i, o, h => by simp at h
  | x :: l, hf, i, o, h => by
    have hd := opsIn_dst hf
    cases i with
    | zero => simp at h; subst h; exact hd.1
    | succ i => exact opsIn_get hd.2 i o (by simpa using h)

theorem opsIn_picked {D : Nat} {ops : List Oper} (h : opsIn D ops = true) : ∀ l, opsIn D (picked ops l) = true
  | [] => rfl
  | i :: l => by
    unfold picked
    cases hi : ops[i]? with
    | none => exact opsIn_picked h l
    | some o =>
      simp only [opsIn, Bool.and_eq_true]
      refine ⟨?_, opsIn_picked h l⟩
      have := opsIn_get h i o hi
      cases hd : o.dst with
      | none => rfl
      | some d => exact this d hd

theorem opsIn_app {D : Nat} : ∀ (a b : List Oper), opsIn D (a ++ b) = (opsIn D a && opsIn D b)
  | [], _ => by simp [opsIn]
  | o :: a, b => by simp [opsIn, opsIn_app a b, Bool.and_assoc]
theorem opsIn_take {D : Nat} {l : List Oper} (h : opsIn D l = true) (k : Nat) : opsIn D (l.take k) = true := by
  rw [← List.take_append_drop k l, opsIn_app, Bool.and_eq_true] at h
  exact h.1
theorem opsIn_drop {D : Nat} {l : List Oper} (h : opsIn D l = true) (k : Nat) : opsIn D (l.drop k) = true := by
  rw [← List.take_append_drop k l, opsIn_app, Bool.and_eq_true] at h
  exact h.2

theorem Wops_frame {ops : List Oper} {D : Nat} {e0 : Env} (Q : Exit → Env → World → Prop) : ∀ (l : List Oper) (e : Env) (w : World), opsIn D l = true → Same D e0 e → Wops P r ops Q l e w →
    Wops P r ops (fun x e' w' => Q x e' w' ∧ Same D e0 e') l e w
  | [], e, w, _, hs, h => ⟨h, hs⟩
  | o :: l, e, w, hD, hs, h => by
    obtain ⟨hd, hl⟩ := opsIn_dst hD
    unfold Wops at h ⊢
    split
    · rename_i hw
      rw [if_pos hw] at h
      generalize (o.semAt r (ev e)).run P w = res at h
      match res, h with
      | .ok (.value v) w', h => exact Wops_frame Q l _ _ hl (hs.put _ _ hd) h
      | .ok .skip w', h => exact Wops_frame Q l _ _ hl (hs.put _ _ hd) h
      | .ok (.defer d) w', h => exact Wops_frame Q l _ _ hl (Same.put (e := ⟨e.g, d :: e.ds⟩) hs _ _ hd) h
      | .ok (.enter f args) w', h => exact Ret.mono h fun v w'' h => Wops_frame Q l _ _ hl (hs.put _ _ hd) h
      | .ok (.round lo f tmps assign body) w', h => exact RoundIn.mono h fun _ _ ⟨v, hx, h⟩ => ⟨v, hx, Wops_frame Q l _ _ hl (hs.put _ _ hd) h⟩
      | .halt (.panic v) w', h => exact ⟨h, hs⟩
    · rename_i hw
      rw [if_neg hw] at h
      exact Wops_frame Q l _ _ hl (hs.put _ _ hd) h

theorem Qthen_frame {K : Env → World → Prop} {K' : Env → World → Prop} {S : Env → Prop} (hK : ∀ e w, S e → K e w → K' e w) :
    ∀ x e w, Qthen K Q x e w ∧ S e → Qthen K' (fun x e' w' => Q x e' w' ∧ S e') x e w := by
  intro x e w ⟨h, hs⟩
  cases x with
  | normal => exact hK _ _ hs h
  | exit id => exact ⟨h, hs⟩
  | goto l => exact ⟨h, hs⟩
  | ret => exact ⟨h, hs⟩
  | panic c => exact ⟨h, hs⟩
  | outgrown => exact ⟨h, hs⟩

theorem Qblock_frame {id : Nat} {S : Env → Prop} : ∀ x e w, Qblock id Q x e w ∧ S e → Qblock id (fun x e' w' => Q x e' w' ∧ S e') x e w := by
  intro x e w ⟨h, hs⟩
  cases x with
  | exit id' =>
    show (bif Nat.beq id' id then (Q .normal e w ∧ S e) else (Q (.exit id') e w ∧ S e))
    have h : (bif Nat.beq id' id then Q .normal e w else Q (.exit id') e w) := h
    cases hb : Nat.beq id' id with
    | true => rw [hb] at h; exact ⟨h, hs⟩
    | false => rw [hb] at h; exact ⟨h, hs⟩
  | normal => exact ⟨h, hs⟩
  | goto l => exact ⟨h, hs⟩
  | ret => exact ⟨h, hs⟩
  | panic c => exact ⟨h, hs⟩
  | outgrown => exact ⟨h, hs⟩

theorem Qscope_frame {S : Env → Prop} : ∀ x e w, Qscope Q x e w ∧ S e → Qscope (fun x e' w' => Q x e' w' ∧ S e') x e w := by
  intro x e w ⟨h, hs⟩
  cases x with
  | goto l => exact h
  | normal => exact ⟨h, hs⟩
  | exit id => exact ⟨h, hs⟩
  | ret => exact ⟨h, hs⟩
  | panic c => exact ⟨h, hs⟩
  | outgrown => exact ⟨h, hs⟩

theorem Wq_frame {ops : List Oper} {C : World → Prop} {D : Nat} {e0 : Env} {K : Env → Prop} : ∀ (l : List Oper) (e : Env), opsIn D l = true → Same D e0 e → Wq P ops C K l e → Wq P ops C (fun e => K e ∧ Same D e0 e) l e
  | [], e, _, hs, h => ⟨h, hs⟩
  | o :: l, e, hD, hs, h => by
    obtain ⟨hd, hl⟩ := opsIn_dst hD
    unfold Wq at h ⊢
    split
    · rename_i hw; rw [if_pos hw] at h; obtain ⟨v, hv, h⟩ := h; exact ⟨v, hv, Wq_frame l _ hl (hs.put _ _ hd) h⟩
    · rename_i hw; rw [if_neg hw] at h; exact Wq_frame l _ hl (hs.put _ _ hd) h

/-- **What the code does not write stays.** -/
theorem W_frame {D : Nat} {e0 : Env} : ∀ (c : Code) (Q : Exit → Env → World → Prop) (e : Env) (w : World), codeIn D c = true → Same D e0 e → W P r n c Q e w →
    W P r n c (fun x e' w' => Q x e' w' ∧ Same D e0 e') e w
  | .skip, _, _, _, _, hs, h => ⟨h, hs⟩
  | .label _, _, _, _, _, hs, h => ⟨h, hs⟩
  | .ret, _, _, _, _, hs, h => ⟨h, hs⟩
  | .exit _, _, _, _, _, hs, h => ⟨h, hs⟩
  | .goto _, _, _, _, _, hs, h => ⟨h, hs⟩
  | .seq x y, Q, e, w, hD, hs, h => by
    simp only [codeIn, Bool.and_eq_true] at hD
    exact W_mono x (Qthen_frame (S := Same D e0) fun e' w' hs' hk => W_frame y Q e' w' hD.2 hs' hk) (W_frame x _ e w hD.1 hs h)
  | .cond _ x y, Q, e, w, hD, hs, ⟨t, hc, h1, h2⟩ => by
    simp only [codeIn, Bool.and_eq_true] at hD
    exact ⟨t, hc, fun ht => W_frame x Q e w hD.1 hs (h1 ht), fun ht => W_frame y Q e w hD.2 hs (h2 ht)⟩
  | .block id c, Q, e, w, hD, hs, h => W_mono c (Qblock_frame (S := Same D e0)) (W_frame c _ e w hD hs h)
  | .loop c, Q, e, w, hD, hs, ⟨I, ⟨k, h0⟩, hr⟩ => ⟨fun k e w => I k e w ∧ Same D e0 e, ⟨k, h0, hs⟩, fun k e w hI =>
      W_mono c (Qthen_frame (S := Same D e0) fun _ _ hs' ⟨k', hk', hI'⟩ => ⟨k', hk', hI', hs'⟩) (W_frame c _ e w hD hI.2 (hr k e w hI.1))⟩
  | .region _ ops false, Q, e, w, hD, hs, h => Wops_frame Q _ _ _ hD hs h
  | .region _ ops true, Q, e, w, hD, hs, .inl h => .inl fun t => Wops_frame Q _ _ _ (opsIn_picked hD _) hs (h t)
  | .region _ ops true, Q, e, w, hD, hs, .inr (.inl ⟨hr, hm, hB, C, hC, h⟩) => .inr (.inl ⟨hr, hm, hB, C, hC, Wq_mono (fun _ h w' hw' => ⟨h.1 w' hw', h.2⟩) _ _ (Wq_frame _ _ hD hs h)⟩)
  | .region _ ops true, Q, e, w, hD, hs, .inr (.inr ⟨hr, hm, k, hB, ht, h⟩) => .inr (.inr ⟨hr, hm, k, hB, ht, Wq_mono (fun _ h => Wops_frame Q _ _ _ (opsIn_drop hD k) h.2 h.1) _ _ (Wq_frame _ _ (opsIn_take hD k) hs h)⟩)
  | .rangeFunc f ps assign body, Q, e, w, _, hs, ⟨d, hd, h⟩ => ⟨d, hd, fun fn tmps h1 h2 =>
      let ⟨g, fi, ca, hg, hcf, hret⟩ := h fn tmps h1 h2
      ⟨g, fi, ca, hg, hcf, Ret.mono hret fun _ _ ⟨lo, h1, h2, h3⟩ => ⟨lo, h1, h2, by
        generalize lo.pending = jump at h3
        match jump, h3 with
        | none, h3 => exact ⟨h3, hs⟩
        | some .ret, h3 => exact ⟨h3, hs⟩
        | some (.exit id), h3 => exact ⟨h3, hs⟩
        | some (.goto l), h3 => exact ⟨h3, hs⟩⟩⟩⟩
  | .scope c, Q, e, w, hD, hs, h => W_mono c (Qscope_frame (S := Same D e0)) (W_frame c _ e w hD hs h)
  | .refuse _, _, _, _, _, _, h => h.elim

theorem Qthen_elim {K K' : Env → World → Prop} {S : Env → Prop} (hK : ∀ e w, S e → K e w → K' e w) : ∀ x e w, Qthen K Q x e w ∧ S e → Qthen K' Q x e w := by
  intro x e w ⟨h, hs⟩
  cases x with
  | normal => exact hK _ _ hs h
  | exit id => exact h
  | goto l => exact h
  | ret => exact h
  | panic c => exact h
  | outgrown => exact h

theorem dec_t {p : Prop} [Decidable p] (h : decide p = true) : p := of_decide_eq_true h
theorem dec_f {p : Prop} [Decidable p] (h : decide p = false) : ¬ p := of_decide_eq_false h
theorem ndec_t {p : Prop} [Decidable p] (h : (!decide p) = true) : ¬ p := by simpa using h
theorem ndec_f {p : Prop} [Decidable p] (h : (!decide p) = false) : p := by simpa using h
theorem nndec_t {p : Prop} [Decidable p] (h : (!!decide p) = true) : p := by simpa using h
theorem nndec_f {p : Prop} [Decidable p] (h : (!!decide p) = false) : ¬ p := by simpa using h
theorem nvar_t {b : Bool} (h : (!b) = true) : b = false := by simpa using h
theorem nvar_f {b : Bool} (h : (!b) = false) : b = true := by simpa using h

/-! ### The rules -/

theorem W_seq {x y : Code} (h : W P r n x (Qthen (W P r n y Q) Q) e w) : W P r n (.seq x y) Q e w := h
/-- A region, then the rest. -/
theorem W_rseq {id : Nat} {l : List Oper} {y : Code} (h : Wops P r l (Qthen (W P r n y Q) Q) l e w) : W P r n (.seq (.region id l.toArray false) y) Q e w := h
theorem W_region {id : Nat} {l : List Oper} (h : Wops P r l Q l e w) : W P r n (.region id l.toArray false) Q e w := h
theorem W_skip (h : Q .normal e w) : W P r n .skip Q e w := h
theorem W_label {l : Nat} (h : Q .normal e w) : W P r n (.label l) Q e w := h
theorem W_ret (h : Q .ret e w) : W P r n .ret Q e w := h
theorem W_exit {id : Nat} (h : Q (.exit id) e w) : W P r n (.exit id) Q e w := h
theorem W_goto {l : Nat} (h : Q (.goto l) e w) : W P r n (.goto l) Q e w := h
theorem W_scope {c : Code} (h : W P r n c (Qscope Q) e w) : W P r n (.scope c) Q e w := h
theorem at_scope (h : Q .normal e w) : Qscope Q .normal e w := h
theorem exit_scope {id : Nat} (h : Q (.exit id) e w) : Qscope Q (.exit id) e w := h
theorem ret_scope (h : Q .ret e w) : Qscope Q .ret e w := h
/-- A region that draws its order, whose operations are quiet. -/
theorem W_quiet {id : Nat} {l : List Oper} {w : World} (C : World → Prop) (hm : P.follows .mixedOrders = true) (hB : Region.lexB .any l.toArray = true) (hC : C w.drew)
    (h : Wq P l C (fun e' => ∀ w', C w' → Q .normal e' w') l e) : W P none n (.region id l.toArray true) Q e w := .inr (.inl ⟨rfl, hm, hB, C, hC, h⟩)
theorem W_qseq {id : Nat} {l : List Oper} {y : Code} {w : World} (C : World → Prop) (hm : P.follows .mixedOrders = true) (hB : Region.lexB .any l.toArray = true) (hC : C w.drew)
    (h : Wq P l C (fun e' => ∀ w', C w' → W P none n y Q e' w') l e) : W P none n (.seq (.region id l.toArray true) y) Q e w := .inr (.inl ⟨rfl, hm, hB, C, hC, h⟩)
/-- A region that draws its order: the first k operations leave the world as it is, the others come behind them, in the text's order. -/
theorem W_tail {id : Nat} {l l1 l2 : List Oper} {w : World} (k : Nat) (hm : P.follows .mixedOrders = true) (hB : Region.lexTailB .any l.toArray k = true) (ht : allTail l2 = true) (h1 : l.take k = l1) (h2 : l.drop k = l2)
    (h : Wq P l (fun x => x = w.drew) (fun e' => Wops P none l Q l2 e' w.drew) l1 e) : W P none n (.region id l.toArray true) Q e w :=
  .inr (.inr ⟨rfl, hm, k, hB, by rw [h2]; exact ht, by rw [h1, h2]; exact h⟩)
theorem W_tseq {id : Nat} {l l1 l2 : List Oper} {y : Code} {w : World} (k : Nat) (hm : P.follows .mixedOrders = true) (hB : Region.lexTailB .any l.toArray k = true) (ht : allTail l2 = true) (h1 : l.take k = l1) (h2 : l.drop k = l2)
    (h : Wq P l (fun x => x = w.drew) (fun e' => Wops P none l (Qthen (W P none n y Q) Q) l2 e' w.drew) l1 e) : W P none n (.seq (.region id l.toArray true) y) Q e w :=
  .inr (.inr ⟨rfl, hm, k, hB, by rw [h2]; exact ht, by rw [h1, h2]; exact h⟩)
theorem W_block {id : Nat} {c : Code} (h : W P r n c (Qblock id Q) e w) : W P r n (.block id c) Q e w := h

/-- A test: one way each. -/
theorem W_cond {c : Operand} {x y : Code} (t : Bool) (hc : ev e c = .bool t) (h1 : t = true → W P r n x Q e w) (h2 : t = false → W P r n y Q e w) :
    W P r n (.cond c x y) Q e w := ⟨t, hc, h1, h2⟩
theorem W_condp {c : Operand} {x y : Code} (p : Prop) [Decidable p] (hc : ev e c = .bool (decide p)) (h1 : p → W P r n x Q e w) (h2 : ¬ p → W P r n y Q e w) :
    W P r n (.cond c x y) Q e w :=
  W_cond (decide p) hc (fun h => h1 (of_decide_eq_true h)) (fun h => h2 (of_decide_eq_false h))
theorem W_condn {c : Operand} {x y : Code} (p : Prop) [Decidable p] (hc : ev e c = .bool (!decide p)) (h1 : ¬ p → W P r n x Q e w) (h2 : p → W P r n y Q e w) :
    W P r n (.cond c x y) Q e w :=
  W_cond (!decide p) hc (fun h => h1 (by simpa using h)) (fun h => h2 (by simpa using h))
theorem W_cond1 {c : Operand} {x y : Code} (hc : ev e c = .bool true) (h1 : W P r n x Q e w) : W P r n (.cond c x y) Q e w :=
  W_cond true hc (fun _ => h1) (fun h => by cases h)
theorem W_cond0 {c : Operand} {x y : Code} (hc : ev e c = .bool false) (h1 : W P r n y Q e w) : W P r n (.cond c x y) Q e w :=
  W_cond false hc (fun h => by cases h) (fun _ => h1)

/-- A loop: D: what its body writes; 'live': which of these slots matter at its head; I: what holds there; μ goes down. -/
theorem W_loop {α : Type} {c : Code} (D : Nat) (live : α → List (Nat × Value)) (I : α → World → Prop) (μ : α → Nat) (z0 : α) (hD : codeIn D c = true)
    (h0 : agree e (live z0)) (hI : I z0 w)
    (round : ∀ z j w, I z w → W P r n c (Qthen (fun e' w' => ∃ z', e'.ds = e.ds ∧ agree e' (live z') ∧ I z' w' ∧ μ z' < μ z) Q) (puts (putJ e D j) (live z)) w) :
    W P r n (.loop c) Q e w := by
  refine ⟨fun k e' w' => ∃ z, μ z = k ∧ e'.ds = e.ds ∧ agree e' (live z) ∧ I z w' ∧ Same D e e', ⟨μ z0, z0, rfl, rfl, h0, hI, Same.refl _ _⟩, ?_⟩
  rintro k e' w' ⟨z, rfl, hd, hl, hI, hs⟩
  have hr := round z e'.g w' hI
  rw [← hs.eq hd, env_eq hl] at hr
  refine W_mono c (Qthen_elim (S := Same D e) ?_) (W_frame c _ e' w' hD hs hr)
  rintro e2 w2 hs2 ⟨z', hd', hl', hI', hm⟩
  exact ⟨μ z', hm, z', rfl, hd', hl', hI', hs2⟩

/-- A cut: behind the first part the slots that it writes hold whatever they hold, but for the live ones. -/
theorem W_join {α : Type} {x y : Code} (D : Nat) (live : α → List (Nat × Value)) (I : α → World → Prop) (hD : codeIn D x = true)
    (h : W P r n x (Qthen (fun e' w' => ∃ z, e'.ds = e.ds ∧ agree e' (live z) ∧ I z w') Q) e w)
    (hk : ∀ z j w', I z w' → W P r n y Q (puts (putJ e D j) (live z)) w') : W P r n (.seq x y) Q e w := by
  refine W_seq (W_mono x (Qthen_elim (S := Same D e) ?_) (W_frame x _ e w hD (Same.refl _ _) h))
  rintro e' w' hs ⟨z, hd, hl, hI⟩
  have := hk z e'.g w' hI
  rw [← hs.eq hd, env_eq hl] at this
  exact this

/-- The same for a part of a region. -/
theorem Wops_join {α : Type} {ops l : List Oper} {K : Env → World → Prop} (D : Nat) (live : α → List (Nat × Value)) (I : α → World → Prop) (hD : opsIn D l = true)
    (h : Wops P r ops (fun x e' w' => x = .normal ∧ ∃ z, e'.ds = e.ds ∧ agree e' (live z) ∧ I z w') l e w)
    (hk : ∀ z j w', I z w' → K (puts (putJ e D j) (live z)) w') : Wops P r ops (Qthen K Q) l e w := by
  refine Wops_mono ?_ l e w (Wops_frame _ l e w hD (Same.refl _ _) h)
  rintro x e' w' ⟨⟨rfl, z, hd, hl, hI⟩, hs⟩
  have := hk z e'.g w' hI
  rw [← hs.eq hd, env_eq hl] at this
  exact this

theorem Wops_app {ops : List Oper} : ∀ (l1 l2 : List Oper) (e : Env) (w : World), Wops P r ops (Qthen (Wops P r ops Q l2) Q) l1 e w → Wops P r ops Q (l1 ++ l2) e w
  | [], _, _, _, h => h
  | o :: l1, l2, e, w, h => by
    unfold Wops at h
    show Wops P r ops Q (o :: (l1 ++ l2)) e w
    unfold Wops
    split
    · rename_i hw; rw [if_pos hw] at h
      generalize (o.semAt r (ev e)).run P w = res at h
      match res, h with
      | .ok (.value v) w', h => exact Wops_app l1 l2 _ _ h
      | .ok .skip w', h => exact Wops_app l1 l2 _ _ h
      | .ok (.defer d) w', h => exact Wops_app l1 l2 _ _ h
      | .ok (.enter f args) w', h => exact Ret.mono h fun v w'' h => Wops_app l1 l2 _ _ h
      | .ok (.round lo f tmps assign body) w', h => exact RoundIn.mono h fun _ _ ⟨v, hx, h⟩ => ⟨v, hx, Wops_app l1 l2 _ _ h⟩
      | .halt (.panic v) w', h => exact h
    · rename_i hw; rw [if_neg hw] at h; exact Wops_app l1 l2 _ _ h

/-- How the end of a piece of code is met. -/
theorem at_then {K : Env → World → Prop} (h : K e w) : Qthen K Q .normal e w := h
theorem exit_then {K : Env → World → Prop} {id : Nat} (h : Q (.exit id) e w) : Qthen K Q (.exit id) e w := h
theorem ret_then {K : Env → World → Prop} (h : Q .ret e w) : Qthen K Q .ret e w := h
theorem goto_then {K : Env → World → Prop} {l : Nat} (h : Q (.goto l) e w) : Qthen K Q (.goto l) e w := h
theorem at_block {id : Nat} (h : Q .normal e w) : Qblock id Q .normal e w := h
theorem ret_block {id : Nat} (h : Q .ret e w) : Qblock id Q .ret e w := h
theorem goto_block {id l : Nat} (h : Q (.goto l) e w) : Qblock id Q (.goto l) e w := h
theorem exit_here {id : Nat} (h : Q .normal e w) : Qblock id Q (.exit id) e w := by
  show (bif Nat.beq id id then Q .normal e w else Q (.exit id) e w)
  rw [Nat.beq_refl]
  exact h
theorem exit_pass {id id' : Nat} (hne : Nat.beq id' id = false) (h : Q (.exit id') e w) : Qblock id Q (.exit id') e w := by
  show (bif Nat.beq id' id then Q .normal e w else Q (.exit id') e w)
  rw [hne]
  exact h

/-- A guard that is known, or not, is made a literal. -/
theorem put_same_val {d : Tmp} {v : Value} (h : e.g d = v) : put e (some d) v = e := by
  cases e with
  | mk g ds =>
    show (⟨fun i => bif Nat.beq i d then v else g i, ds⟩ : Env) = ⟨g, ds⟩
    congr 1
    funext i
    cases hb : Nat.beq i d with
    | false => rfl
    | true => rw [Nat.eq_of_beq_eq_true hb]; exact h.symm

theorem Wops_known {ops l : List Oper} (d : Tmp) {b : Bool} (c : Bool) (hd : e.g d = .bool b) (hb : b = c) (h : Wops P r ops Q l (put e (some d) (.bool c)) w) : Wops P r ops Q l e w := by
  subst hb
  rw [put_same_val hd] at h
  exact h

theorem Wops_split {ops l : List Oper} (d : Tmp) {b : Bool} (hd : e.g d = .bool b) (h1 : b = true → Wops P r ops Q l (put e (some d) (.bool true)) w)
    (h2 : b = false → Wops P r ops Q l (put e (some d) (.bool false)) w) : Wops P r ops Q l e w := by
  cases b with
  | true => exact Wops_known d true hd rfl (h1 rfl)
  | false => exact Wops_known d false hd rfl (h2 rfl)

theorem Wops_splitp {ops l : List Oper} (d : Tmp) {p : Prop} [Decidable p] (hd : e.g d = .bool (decide p)) (h1 : p → Wops P r ops Q l (put e (some d) (.bool true)) w)
    (h2 : ¬ p → Wops P r ops Q l (put e (some d) (.bool false)) w) : Wops P r ops Q l e w :=
  Wops_split d hd (fun h => h1 (of_decide_eq_true h)) (fun h => h2 (of_decide_eq_false h))
end
end Go.GV
