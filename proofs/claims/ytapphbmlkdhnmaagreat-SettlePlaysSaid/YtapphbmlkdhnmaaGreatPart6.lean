/- Part 6 of the proof. -/
import Derived.Test.YtapphbmlkdhnmaaGreatPart5
import Derived.Test.YtapphbmlkdhnmaaGreatPart3
/- Plain law of shortest ways: how long the heap may get. -/
namespace Go.Proofs.YtapphbmlkdhnmaaGreat
open Go.GV

def degA (A : List Ar) (v : Nat) : Int := ((A.filter fun a => decide (a.1 = v)).length : Nat)
/-- How often a node may be gone on from. -/
def gv (n : Nat) (D : Int) (s : Lb) (hp : List Tg) (v : Nat) : Int := if s.d v ≠ -1 ∧ s.d v ≤ D then (hp.count (s.d v, v) : Nat) + (s.h v : Nat) else (n : Nat) + 1
def psi (n : Nat) (A : List Ar) (D : Int) (s : Lb) (hp : List Tg) : Int := (hp.length : Nat) + sumTo (fun v => degA A v * gv n D s hp v) n
structure PI (n : Nat) (D : Int) (s : Lb) (hp : List Tg) : Prop where
  keys : ∀ t ∈ hp, D ≤ t.1
  item : ∀ t ∈ hp, s.d t.2 ≠ -1 ∧ s.d t.2 ≤ t.1
  lab : ∀ v, s.d v ≠ -1 → hp.count (s.d v, v) + s.h v ≤ n
theorem deg0 (A : List Ar) (v : Nat) : 0 ≤ degA A v := by unfold degA; omega
theorem gv_perm {n : Nat} {D : Int} {s : Lb} {hp hq : List Tg} (h : hp.Perm hq) (v : Nat) : gv n D s hp v = gv n D s hq v := by unfold gv; rw [h.count_eq]
theorem psi_perm {n : Nat} {A : List Ar} {D : Int} {s : Lb} {hp hq : List Tg} (h : hp.Perm hq) : psi n A D s hp = psi n A D s hq := by
  unfold psi
  rw [h.length_eq, sum_congr fun i _ => by rw [gv_perm h]]
theorem PI.perm {n : Nat} {D : Int} {s : Lb} {hp hq : List Tg} (P : PI n D s hp) (h : hp.Perm hq) : PI n D s hq :=
  ⟨fun t ht => P.keys t (h.mem_iff.2 ht), fun t ht => P.item t (h.mem_iff.2 ht), fun v hv => by rw [← h.count_eq]; exact P.lab v hv⟩
theorem gv0 {n : Nat} {D : Int} {s : Lb} {hp : List Tg} (v : Nat) : 0 ≤ gv n D s hp v := by unfold gv; split <;> omega
theorem psi_len {n : Nat} {A : List Ar} {D : Int} {s : Lb} {hp : List Tg} : (hp.length : Int) ≤ psi n A D s hp := by
  have := sum_nonneg (f := fun v => degA A v * gv n D s hp v) (k := n) fun i _ => Int.mul_nonneg (deg0 A i) (gv0 i)
  unfold psi; omega
theorem PI.pop {n : Nat} {A : List Ar} {D : Int} {s : Lb} {t : Tg} {hp : List Tg} (P : PI n D s (t :: hp)) (hmin : ∀ x ∈ hp, t.1 ≤ x.1) (ht : t.2 < n) :
    PI n t.1 s hp ∧ psi n A t.1 s hp + 1 ≤ psi n A D s (t :: hp) ∧ (t.1 = s.d t.2 → psi n A t.1 s hp + 1 + degA A t.2 ≤ psi n A D s (t :: hp)) := by
  have hD := P.keys t (List.mem_cons_self ..)
  have hc : ∀ v, ((t :: hp).count (s.d v, v) : Int) = (hp.count (s.d v, v) : Int) + one (t = (s.d v, v)) := fun v => by
    rw [List.count_cons]
    by_cases e : t = (s.d v, v)
    · rw [if_pos (by rw [e]; exact beq_self_eq_true _), one, if_pos e]; omega
    · rw [if_neg (by simpa using e), one, if_neg e]; omega
  have hone : ∀ v, 0 ≤ one (t = (s.d v, v)) := fun v => by unfold one; split <;> omega
  have hg : ∀ v, gv n t.1 s hp v ≤ gv n D s (t :: hp) v ∧ (t = (s.d v, v) → gv n t.1 s hp v + 1 ≤ gv n D s (t :: hp) v) := fun v => by
    have h1 := hc v
    have h2 := hone v
    have h4 : t = (s.d v, v) → one (t = (s.d v, v)) = 1 := fun e => if_pos e
    have h5 : t = (s.d v, v) → t.1 = s.d v ∧ s.d v ≠ -1 := fun e => ⟨by rw [e], by
      have := (P.item t (List.mem_cons_self ..)).1
      rw [show t.2 = v by rw [e]] at this
      exact this⟩
    unfold gv
    by_cases a1 : s.d v ≠ -1 ∧ s.d v ≤ t.1
    · have h3 := P.lab v a1.1
      rw [if_pos a1]
      by_cases a2 : s.d v ≠ -1 ∧ s.d v ≤ D
      · rw [if_pos a2]
        refine ⟨by omega, fun e => ?_⟩
        have := h4 e
        omega
      · rw [if_neg a2]
        refine ⟨by omega, fun e => ?_⟩
        have := h4 e
        omega
    · rw [if_neg a1, if_neg (fun h => a1 ⟨h.1, by omega⟩)]
      refine ⟨Int.le_refl _, fun e => ?_⟩
      have := h5 e
      exact absurd ⟨this.2, by omega⟩ a1
  refine ⟨⟨hmin, fun x hx => P.item x (List.mem_cons_of_mem _ hx), fun v hv => ?_⟩, ?_, fun e => ?_⟩
  · have h1 := hc v
    have h2 := hone v
    have h3 := P.lab v hv
    omega
  · have h1 := sum_le (f := fun v => degA A v * gv n t.1 s hp v) (g := fun v => degA A v * gv n D s (t :: hp) v) (k := n) fun i _ => Int.mul_le_mul_of_nonneg_left (hg i).1 (deg0 A i)
    unfold psi
    rw [List.length_cons]
    omega
  · have h1 := sum_le (f := fun v => degA A v * gv n t.1 s hp v) (g := fun v => degA A v * gv n D s (t :: hp) v - one (t.2 = v) * degA A v) (k := n) fun i _ => by
      by_cases e1 : t.2 = i
      · subst e1
        have h2 := Int.mul_le_mul_of_nonneg_left ((hg t.2).2 (Prod.ext e rfl)) (deg0 A t.2)
        rw [Int.mul_add] at h2
        rw [one, if_pos rfl]
        omega
      · have h2 := Int.mul_le_mul_of_nonneg_left (hg i).1 (deg0 A i)
        rw [one, if_neg e1]
        omega
    rw [sum_sub, sum_one (fun v => degA A v) ht] at h1
    unfold psi
    rw [List.length_cons]
    omega
theorem PI.relax {n : Nat} {A : List Ar} {D : Int} {s : Lb} {hp : List Tg} {a : Ar} (P : PI n D s hp) (hs : s.d a.1 = D) (hD0 : 0 ≤ D) (hl : 0 ≤ a.2.2) (hlow : ∀ v, s.d v = -1 ∨ 0 ≤ s.d v) (hhop : (relS s a).d a.2.1 ≠ -1 → (relS s a).h a.2.1 + 1 ≤ n) :
    PI n D (relS s a) (relH s a hp) ∧ psi n A D (relS s a) (relH s a hp) ≤ psi n A D s hp + 1 := by
  by_cases hb : betterP s a.2.1 (s.d a.1 + a.2.2) (s.h a.1 + 1)
  · have hS : relS s a = putL s a.2.1 (s.d a.1 + a.2.2) (s.h a.1 + 1) := by unfold relS; rw [if_pos hb]
    have hH : relH s a hp = (s.d a.1 + a.2.2, a.2.1) :: hp := by unfold relH; rw [if_pos hb]
    rw [hS] at hhop
    rw [hS, hH]
    obtain ⟨d', hd'⟩ : ∃ d', d' = s.d a.1 + a.2.2 := ⟨_, rfl⟩
    obtain ⟨h', hh'⟩ : ∃ h', h' = s.h a.1 + 1 := ⟨_, rfl⟩
    obtain ⟨v, hv⟩ : ∃ v, v = a.2.1 := ⟨_, rfl⟩
    rw [← hd', ← hh', ← hv] at hb hhop ⊢
    have hdD : D ≤ d' := by omega
    have p1 : (putL s v d' h').d v = d' := if_pos rfl
    have p2 : (putL s v d' h').h v = h' := if_pos rfl
    have p3 : ∀ x, x ≠ v → (putL s v d' h').d x = s.d x := fun x hx => if_neg hx
    have p4 : ∀ x, x ≠ v → (putL s v d' h').h x = s.h x := fun x hx => if_neg hx
    have hsD := hlow a.1
    unfold betterP at hb
    have hc1 : ∀ x, x ≠ v → ((d', v) :: hp).count (s.d x, x) = hp.count (s.d x, x) := fun x hx => by
      rw [List.count_cons, if_neg (by simp; intro _ h; exact hx h.symm)]; rfl
    have hc2 : ((d', v) :: hp).count (d', v) = hp.count (d', v) + 1 := by rw [List.count_cons_self]
    have hc3 : s.d v = -1 ∨ d' < s.d v → hp.count (d', v) = 0 := fun h => List.count_eq_zero.2 fun hm => by
      have := P.item _ hm
      dsimp only at this
      omega
    have h0 : d' ≠ -1 := by omega
    have hh1 := hhop (by rw [p1]; exact h0)
    rw [p2] at hh1
    have hlabv : ((d', v) :: hp).count (d', v) + h' ≤ n := by
      rw [hc2]
      rcases hb with h | h | ⟨h, hlt⟩
      · rw [hc3 (.inl h)]; omega
      · rw [hc3 (.inr h)]; omega
      · have := P.lab v (by rw [← h]; exact h0)
        rw [← h] at this
        omega
    have hgx : ∀ x, gv n D (putL s v d' h') ((d', v) :: hp) x ≤ gv n D s hp x := fun x => by
      unfold gv
      by_cases e : x = v
      · subst e
        rw [p1, p2]
        by_cases a1 : d' ≠ -1 ∧ d' ≤ D
        · rw [if_pos a1]
          by_cases a2 : s.d x ≠ -1 ∧ s.d x ≤ D
          · rw [if_pos a2]
            have e3 : d' = s.d x ∧ h' < s.h x := by omega
            rw [hc2, ← e3.1]
            omega
          · rw [if_neg a2]; omega
        · rw [if_neg a1]
          rw [if_neg (fun h => a1 ⟨h0, by omega⟩)]
          exact Int.le_refl _
      · rw [p3 x e, p4 x e, hc1 x e]
        exact Int.le_refl _
    refine ⟨⟨fun t ht => ?_, fun t ht => ?_, fun x hx => ?_⟩, ?_⟩
    · rcases List.mem_cons.1 ht with rfl | ht
      · exact hdD
      · exact P.keys t ht
    · rcases List.mem_cons.1 ht with rfl | ht
      · rw [p1]; exact ⟨h0, Int.le_refl _⟩
      · obtain ⟨i1, i2⟩ := P.item t ht
        by_cases e : t.2 = v
        · rw [e, p1]
          rw [e] at i1 i2
          exact ⟨h0, by omega⟩
        · rw [p3 _ e]; exact ⟨i1, i2⟩
    · by_cases e : x = v
      · subst e; rw [p1, p2]; exact hlabv
      · rw [p3 x e, p4 x e, hc1 x e]
        rw [p3 x e] at hx
        exact P.lab x hx
    · have h1 := sum_le (f := fun x => degA A x * gv n D (putL s v d' h') ((d', v) :: hp) x) (g := fun x => degA A x * gv n D s hp x) (k := n) fun i _ => Int.mul_le_mul_of_nonneg_left (hgx i) (deg0 A i)
      unfold psi
      rw [List.length_cons]
      omega
  · have hS : relS s a = s := by unfold relS; rw [if_neg hb]
    have hH : relH s a hp = hp := by unfold relH; rw [if_neg hb]
    rw [hS, hH]
    exact ⟨P, by omega⟩

end Go.Proofs.YtapphbmlkdhnmaaGreat

/- Shortest ways: a node is gone on from: the walks. -/
namespace Go.Proofs.YtapphbmlkdhnmaaGreat
open Go.GV
theorem ag_203_SeJ : aggB Tryz.prog 203 = some false := by kernel_rfl
theorem ag_222_SeJ : aggB Tryz.prog 222 = some false := by kernel_rfl
theorem ag_229_SeJ : aggB Tryz.prog 229 = some true := by kernel_rfl
theorem ag_230_SeJ : aggB Tryz.prog 230 = some false := by kernel_rfl
theorem ag_29_SeJ : aggB Tryz.prog 29 = some false := by kernel_rfl
theorem ag_2_SeJ : aggB Tryz.prog 2 = some false := by kernel_rfl
theorem ag_3_SeJ : aggB Tryz.prog 3 = some false := by kernel_rfl
theorem ca_213_SeJ : callable Tryz.prog 213 = true := by kernel_rfl
theorem ca_216_SeJ : callable Tryz.prog 216 = true := by kernel_rfl
theorem el_203_SeJ : elemT Tryz.prog 203 = some 3 := by kernel_rfl
theorem el_222_SeJ : elemT Tryz.prog 222 = some 230 := by kernel_rfl
theorem el_230_SeJ : elemT Tryz.prog 230 = some 229 := by kernel_rfl
theorem el_29_SeJ : elemT Tryz.prog 29 = some 2 := by kernel_rfl
theorem fo_224_0_SeJ : fieldO Tryz.prog 224 0 = some 0 := by kernel_rfl
theorem fo_224_1_SeJ : fieldO Tryz.prog 224 1 = some 1 := by kernel_rfl
theorem fo_224_2_SeJ : fieldO Tryz.prog 224 2 = some 2 := by kernel_rfl
theorem fo_229_2_SeJ : fieldO Tryz.prog 229 2 = some 2 := by kernel_rfl
theorem fo_229_3_SeJ : fieldO Tryz.prog 229 3 = some 3 := by kernel_rfl
theorem mixed_SeJ : Tryz.prog.follows .mixedOrders = true := by kernel_rfl
theorem sz_229_SeJ : tsize Tryz.prog 229 = some 4 := by kernel_rfl
theorem sz_230_SeJ : tsize Tryz.prog 230 = some 1 := by kernel_rfl
theorem sz_2_SeJ : tsize Tryz.prog 2 = some 1 := by kernel_rfl
theorem sz_3_SeJ : tsize Tryz.prog 3 = some 1 := by kernel_rfl
theorem zc_229_SeJ : zcells Tryz.prog 229 = some ([.int .i64 0, .int .i64 0, .int .i64 0, .int .i64 0]) := by kernel_rfl
attribute [local irreducible] Wops W Wq Wt

abbrev FB (oo od oh ob n : Nat) : List Value := [.slice (some ⟨oo, 0, none⟩) n n, .slice (some ⟨od, 0, none⟩) n n, .slice (some ⟨oh, 0, none⟩) n n, .slice (some ⟨ob, 0, none⟩) n n]
def hopI (s : Lb) (v : Nat) : Int := (s.h v : Nat)
def arOf (g : Gr) (p : Nat → Int) (a : Nat) : Ar := (g.u a, g.v a, g.len p a)

set_option maxRecDepth 20000 in
theorem better_ok {w : World} {bf oo od oh ob n : Nat} {s : Lb} (hf : w.heap[bf]? = some (Bl 224 (FB oo od oh ob n))) (hd : w.heap[od]? = some (Bl 2 (tabV s.d n))) (hh : w.heap[oh]? = some (Bl 3 (tabV (hopI s) n))) (v : Nat) (hv : v < n) (hn : n ≤ 1000000) (d : Int) (h : Nat) :
    Ret Tryz.prog 216 #[ptr bf, .int .i64 (v : Int), .int .i64 d, .int .i64 (h : Int)] w fun r w' => r = .bool (decide (betterP s v d h)) ∧ w = w' := by
  obtain ⟨w0, rfl⟩ : ∃ w0, w0 = w := ⟨_, rfl⟩
  have Rdd := tab_rd hd
  have Rhh := tab_rd hh
  have hhv : hopI s v = (s.h v : Nat) := rfl
  obtain ⟨x, hx⟩ : ∃ x, x = s.d v := ⟨_, rfl⟩
  obtain ⟨y, hy⟩ : ∃ y, y = s.h v := ⟨_, rfl⟩
  have hgd : (tab s.d n)[v]? = some x := by rw [tab_get hv, hx]
  have hgh : (tab (hopI s) n)[v]? = some (y : Int) := by rw [tab_get hv, hhv, hy]
  have hiff : betterP s v d h ↔ (x = -1 ∨ d < x ∨ (d = x ∧ h < y)) := by rw [hx, hy]; exact Iff.rfl
  rw [show decide (betterP s v d h) = decide (x = -1 ∨ d < x ∨ (d = x ∧ h < y)) from decide_eq_decide.2 hiff]
  clear hiff
  refine ret_of_W (fn := Tryz.f216) Tryz.func216 rfl [.pointer (some ⟨bf, 0, none⟩), .int .i64 (v : Int), .int .i64 d, .int .i64 (h : Int)] rfl (by kernel_rfl) ?_
  refine W_rseq ?_
  refine op_assign rfl (.bool _) rfl ?_
  refine op_nil (at_then ?_)
  refine W_rseq ?_
  refine op_move rfl (.pointer _) rfl ?_
  refine op_nilCheck rfl rfl ?_
  refine op_fieldAddr rfl fo_224_1_SeJ rfl ?_
  first | refine op_ldb rfl ag_29_SeJ rfl H (by first | exact at0 | exact at1 | exact at2 | exact at3 | exact at4 | exact at5 | exact at6 | exact at7 | exact at8 | exact at9) rfl ?_ | refine op_ld rfl ag_29_SeJ rfl ((by rw [cell_bl hf]; rfl)) ?_ | refine op_ld rfl ag_29_SeJ rfl ((Rdd.fld hgd rfl (j := 0) rfl)) ?_ | refine op_ld rfl ag_29_SeJ rfl ((Rhh.fld hgh rfl (j := 0) rfl)) ?_
  refine op_move rfl (.int _ _) rfl ?_
  first | refine op_indexRd Rdd rfl el_29_SeJ sz_2_SeJ rfl rfl (by omega) (by omega) (by first | rfl | omega) ?_ | refine op_indexRd Rhh rfl el_29_SeJ sz_2_SeJ rfl rfl (by omega) (by omega) (by first | rfl | omega) ?_ | refine op_indexAddr rfl el_29_SeJ sz_2_SeJ rfl rfl (by omega) (by omega) ?_
  first | refine op_ldb rfl ag_2_SeJ rfl H (by first | exact at0 | exact at1 | exact at2 | exact at3 | exact at4 | exact at5 | exact at6 | exact at7 | exact at8 | exact at9) rfl ?_ | refine op_ld rfl ag_2_SeJ rfl ((by rw [cell_bl hf]; rfl)) ?_ | refine op_ld rfl ag_2_SeJ rfl ((Rdd.fld hgd rfl (j := 0) rfl)) ?_ | refine op_ld rfl ag_2_SeJ rfl ((Rhh.fld hgh rfl (j := 0) rfl)) ?_
  refine op_eql rfl rfl rfl ?_
  refine op_move rfl (.bool _) rfl ?_
  refine Wops_split 17 rfl ?_ ?_
  · intro h1
    replace h1 := dec_t h1
    refine op_skip rfl ?_
    refine op_skip rfl ?_
    refine op_skip rfl ?_
    refine op_skip rfl ?_
    refine op_skip rfl ?_
    refine op_skip rfl ?_
    refine op_skip rfl ?_
    refine op_skip rfl ?_
    refine op_skip rfl ?_
    refine op_pick1 rfl rfl (.bool _) rfl ?_
    refine op_move rfl (.bool _) rfl ?_
    refine op_skip rfl ?_
    refine op_skip rfl ?_
    refine op_skip rfl ?_
    refine op_skip rfl ?_
    refine op_skip rfl ?_
    refine op_skip rfl ?_
    refine op_skip rfl ?_
    refine op_skip rfl ?_
    refine op_skip rfl ?_
    refine op_skip rfl ?_
    refine op_skip rfl ?_
    refine op_skip rfl ?_
    refine op_skip rfl ?_
    refine op_skip rfl ?_
    refine op_skip rfl ?_
    refine op_skip rfl ?_
    refine op_skip rfl ?_
    refine op_skip rfl ?_
    refine op_skip rfl ?_
    refine op_skip rfl ?_
    refine op_pick1 rfl rfl (.bool _) rfl ?_
    refine op_assign rfl (.bool _) rfl ?_
    refine op_nil (at_then ?_)
    refine W_ret (leave1 (v := (.bool _)) rfl rfl rfl ?_)
    exact ⟨congrArg Value.bool (by clear hgd hgh hx hy; rw [Bool.eq_iff_iff]; simp_all; try omega), rfl⟩
  · intro h2
    replace h2 := dec_f h2
    refine op_move rfl (.int _ _) rfl ?_
    refine op_move rfl (.pointer _) rfl ?_
    refine op_nilCheck rfl rfl ?_
    refine op_fieldAddr rfl fo_224_1_SeJ rfl ?_
    first | refine op_ldb rfl ag_29_SeJ rfl H (by first | exact at0 | exact at1 | exact at2 | exact at3 | exact at4 | exact at5 | exact at6 | exact at7 | exact at8 | exact at9) rfl ?_ | refine op_ld rfl ag_29_SeJ rfl ((by rw [cell_bl hf]; rfl)) ?_ | refine op_ld rfl ag_29_SeJ rfl ((Rdd.fld hgd rfl (j := 0) rfl)) ?_ | refine op_ld rfl ag_29_SeJ rfl ((Rhh.fld hgh rfl (j := 0) rfl)) ?_
    refine op_move rfl (.int _ _) rfl ?_
    first | refine op_indexRd Rdd rfl el_29_SeJ sz_2_SeJ rfl rfl (by omega) (by omega) (by first | rfl | omega) ?_ | refine op_indexRd Rhh rfl el_29_SeJ sz_2_SeJ rfl rfl (by omega) (by omega) (by first | rfl | omega) ?_ | refine op_indexAddr rfl el_29_SeJ sz_2_SeJ rfl rfl (by omega) (by omega) ?_
    first | refine op_ldb rfl ag_2_SeJ rfl H (by first | exact at0 | exact at1 | exact at2 | exact at3 | exact at4 | exact at5 | exact at6 | exact at7 | exact at8 | exact at9) rfl ?_ | refine op_ld rfl ag_2_SeJ rfl ((by rw [cell_bl hf]; rfl)) ?_ | refine op_ld rfl ag_2_SeJ rfl ((Rdd.fld hgd rfl (j := 0) rfl)) ?_ | refine op_ld rfl ag_2_SeJ rfl ((Rhh.fld hgh rfl (j := 0) rfl)) ?_
    refine op_lss rfl rfl rfl ?_
    refine op_pick0 rfl rfl (.bool _) rfl ?_
    refine op_move rfl (.bool _) rfl ?_
    refine Wops_split 28 rfl ?_ ?_
    · intro h3
      replace h3 := dec_t h3
      refine op_skip rfl ?_
      refine op_skip rfl ?_
      refine op_skip rfl ?_
      refine op_skip rfl ?_
      refine op_skip rfl ?_
      refine op_skip rfl ?_
      refine op_skip rfl ?_
      refine op_skip rfl ?_
      refine op_skip rfl ?_
      refine op_skip rfl ?_
      refine op_skip rfl ?_
      refine op_skip rfl ?_
      refine op_skip rfl ?_
      refine op_skip rfl ?_
      refine op_skip rfl ?_
      refine op_skip rfl ?_
      refine op_skip rfl ?_
      refine op_skip rfl ?_
      refine op_skip rfl ?_
      refine op_skip rfl ?_
      refine op_pick1 rfl rfl (.bool _) rfl ?_
      refine op_assign rfl (.bool _) rfl ?_
      refine op_nil (at_then ?_)
      refine W_ret (leave1 (v := (.bool _)) rfl rfl rfl ?_)
      exact ⟨congrArg Value.bool (by clear hgd hgh hx hy; rw [Bool.eq_iff_iff]; simp_all; try omega), rfl⟩
    · intro h4
      replace h4 := dec_f h4
      refine op_move rfl (.int _ _) rfl ?_
      refine op_move rfl (.pointer _) rfl ?_
      refine op_nilCheck rfl rfl ?_
      refine op_fieldAddr rfl fo_224_1_SeJ rfl ?_
      first | refine op_ldb rfl ag_29_SeJ rfl H (by first | exact at0 | exact at1 | exact at2 | exact at3 | exact at4 | exact at5 | exact at6 | exact at7 | exact at8 | exact at9) rfl ?_ | refine op_ld rfl ag_29_SeJ rfl ((by rw [cell_bl hf]; rfl)) ?_ | refine op_ld rfl ag_29_SeJ rfl ((Rdd.fld hgd rfl (j := 0) rfl)) ?_ | refine op_ld rfl ag_29_SeJ rfl ((Rhh.fld hgh rfl (j := 0) rfl)) ?_
      refine op_move rfl (.int _ _) rfl ?_
      first | refine op_indexRd Rdd rfl el_29_SeJ sz_2_SeJ rfl rfl (by omega) (by omega) (by first | rfl | omega) ?_ | refine op_indexRd Rhh rfl el_29_SeJ sz_2_SeJ rfl rfl (by omega) (by omega) (by first | rfl | omega) ?_ | refine op_indexAddr rfl el_29_SeJ sz_2_SeJ rfl rfl (by omega) (by omega) ?_
      first | refine op_ldb rfl ag_2_SeJ rfl H (by first | exact at0 | exact at1 | exact at2 | exact at3 | exact at4 | exact at5 | exact at6 | exact at7 | exact at8 | exact at9) rfl ?_ | refine op_ld rfl ag_2_SeJ rfl ((by rw [cell_bl hf]; rfl)) ?_ | refine op_ld rfl ag_2_SeJ rfl ((Rdd.fld hgd rfl (j := 0) rfl)) ?_ | refine op_ld rfl ag_2_SeJ rfl ((Rhh.fld hgh rfl (j := 0) rfl)) ?_
      refine op_eql rfl rfl rfl ?_
      refine op_move rfl (.bool _) rfl ?_
      refine Wops_split 38 rfl ?_ ?_
      · intro h5
        replace h5 := dec_t h5
        refine op_move rfl (.int _ _) rfl ?_
        refine op_move rfl (.pointer _) rfl ?_
        refine op_nilCheck rfl rfl ?_
        refine op_fieldAddr rfl fo_224_2_SeJ rfl ?_
        first | refine op_ldb rfl ag_203_SeJ rfl H (by first | exact at0 | exact at1 | exact at2 | exact at3 | exact at4 | exact at5 | exact at6 | exact at7 | exact at8 | exact at9) rfl ?_ | refine op_ld rfl ag_203_SeJ rfl ((by rw [cell_bl hf]; rfl)) ?_ | refine op_ld rfl ag_203_SeJ rfl ((Rdd.fld hgd rfl (j := 0) rfl)) ?_ | refine op_ld rfl ag_203_SeJ rfl ((Rhh.fld hgh rfl (j := 0) rfl)) ?_
        refine op_move rfl (.int _ _) rfl ?_
        first | refine op_indexRd Rdd rfl el_203_SeJ sz_3_SeJ rfl rfl (by omega) (by omega) (by first | rfl | omega) ?_ | refine op_indexRd Rhh rfl el_203_SeJ sz_3_SeJ rfl rfl (by omega) (by omega) (by first | rfl | omega) ?_ | refine op_indexAddr rfl el_203_SeJ sz_3_SeJ rfl rfl (by omega) (by omega) ?_
        first | refine op_ldb rfl ag_3_SeJ rfl H (by first | exact at0 | exact at1 | exact at2 | exact at3 | exact at4 | exact at5 | exact at6 | exact at7 | exact at8 | exact at9) rfl ?_ | refine op_ld rfl ag_3_SeJ rfl ((by rw [cell_bl hf]; rfl)) ?_ | refine op_ld rfl ag_3_SeJ rfl ((Rdd.fld hgd rfl (j := 0) rfl)) ?_ | refine op_ld rfl ag_3_SeJ rfl ((Rhh.fld hgh rfl (j := 0) rfl)) ?_
        refine op_lss rfl rfl rfl ?_
        refine op_pick1 rfl rfl (.bool _) rfl ?_
        refine op_pick0 rfl rfl (.bool _) rfl ?_
        refine op_assign rfl (.bool _) rfl ?_
        refine op_nil (at_then ?_)
        refine W_ret (leave1 (v := (.bool _)) rfl rfl rfl ?_)
        exact ⟨congrArg Value.bool (by clear hgd hgh hx hy; rw [Bool.eq_iff_iff]; simp_all; try omega), rfl⟩
      · intro h6
        replace h6 := dec_f h6
        refine op_skip rfl ?_
        refine op_skip rfl ?_
        refine op_skip rfl ?_
        refine op_skip rfl ?_
        refine op_skip rfl ?_
        refine op_skip rfl ?_
        refine op_skip rfl ?_
        refine op_skip rfl ?_
        refine op_skip rfl ?_
        refine op_pick0 rfl rfl (.bool _) rfl ?_
        refine op_pick0 rfl rfl (.bool _) rfl ?_
        refine op_assign rfl (.bool _) rfl ?_
        refine op_nil (at_then ?_)
        refine W_ret (leave1 (v := (.bool _)) rfl rfl rfl ?_)
        exact ⟨congrArg Value.bool (by clear hgd hgh hx hy; rw [Bool.eq_iff_iff]; simp_all; try omega), rfl⟩

def relP (x : Lb × List Tg) (a : Ar) : Lb × List Tg := (relS x.1 a, relH x.1 a x.2)
def goP (g : Gr) (p : Nat → Int) (s : Lb) (hp : List Tg) (l : List Nat) : Lb × List Tg := (l.map (arOf g p)).foldl relP (s, hp)
theorem goP_snoc (g : Gr) (p : Nat → Int) (s : Lb) (hp : List Tg) {l : List Nat} {i a : Nat} (h : l[i]? = some a) : goP g p s hp (l.take (i + 1)) = relP (goP g p s hp (l.take i)) (arOf g p a) := by
  unfold goP
  rw [take_snoc h, List.map_append, List.foldl_append]; rfl
/-- The blocks that going on turns. -/
abbrev GB (od oh n : Nat) (s : Lb) (bh : Nat) (a : Option Addr) (hn c : Nat) (full : List Value) : List (Nat × Obj) := (od, Bl 2 (tabV s.d n)) :: (oh, Bl 3 (tabV (hopI s) n)) :: HB bh a hn c full
structure GSt where
  i : Nat
  a : Option Addr
  hn : Nat
  c : Nat
  full : List Value
  L : List Tg

set_option maxRecDepth 20000 in
set_option maxHeartbeats 8000000 in
theorem goes_ok {w : World} {bf oo od oh ob n : Nat} {s : Lb} {g : Gr} {p : Nat → Int} {bh : Nat} {a : Option Addr} {hn c : Nat} {full : List Value} {L : List Tg} {La : List Nat} {au : Option Addr} {cu u : Nat} {outs : List Value} (H0 : Ctx w ((GB od oh n s bh a hn c full).map (·.1)) w (GB od oh n s bh a hn c full)) (O : OS a hn c 2 full (L.flatMap encT)) (hH : HeapL L)
    (hf : w.heap[bf]? = some (Bl 224 (FB oo od oh ob n))) (hfn : bf ∉ (GB od oh n s bh a hn c full).map (·.1)) (ho : w.heap[oo]? = some (Bl 230 outs)) (hon : oo ∉ (GB od oh n s bh a hn c full).map (·.1)) (hou : outs[u]? = some (.slice au La.length cu)) (hun : u < n)
    (R : Rd w au 4 (rowA g p) La) (hRn : La ≠ [] → (adr au).block ∉ (GB od oh n s bh a hn c full).map (·.1)) (hn6 : n ≤ 1000000) (hLa : ∀ x ∈ La, g.u x = u ∧ g.v x < n ∧ -1152921504606846976 ≤ g.len p x ∧ g.len p x ≤ 1152921504606846976) (hhn : hn + La.length ≤ 100000000)
    (hbd : ∀ k x, k ≤ La.length → -1 ≤ (goP g p s L (La.take k)).1.d x ∧ (goP g p s L (La.take k)).1.d x ≤ 1152921504606846976 ∧ (goP g p s L (La.take k)).1.h x ≤ 1000000) :
    Ret Tryz.prog 194 #[ptr bf, ptr bh, .int .i64 (u : Int)] w fun v w' => v = .tuple #[] ∧ ∃ (a' : Option Addr) (hn' c' : Nat) (full' : List Value) (L' : List Tg), L'.Perm (goP g p s L La).2 ∧ HeapL L' ∧ OS a' hn' c' 2 full' (L'.flatMap encT) ∧ Ctx w ((GB od oh n s bh a hn c full).map (·.1)) w' (GB od oh n (goP g p s L La).1 bh a' hn' c' full') := by
  obtain ⟨w0, rfl⟩ : ∃ w0, w0 = w := ⟨_, rfl⟩
  obtain ⟨ids, hids⟩ : ∃ ids, ids = (GB od oh n s bh a hn c full).map (·.1) := ⟨_, rfl⟩
  rw [← hids] at H0 hfn hon hRn ⊢
  have H := H0
  refine ret_of_W (fn := Tryz.f194) Tryz.func194 rfl [.pointer (some ⟨bf, 0, none⟩), .pointer (some ⟨bh, 0, none⟩), .int .i64 (u : Int)] rfl (by kernel_rfl) ?_
  refine W_rseq ?_
  refine op_move rfl (.pointer _) rfl ?_
  refine op_nilCheck rfl rfl ?_
  refine op_fieldAddr rfl fo_224_0_SeJ rfl ?_
  first | refine op_ldb rfl ag_222_SeJ rfl H (by first | exact at0 | exact at1 | exact at2 | exact at3 | exact at4 | exact at5 | exact at6 | exact at7 | exact at8 | exact at9) rfl ?_ | refine op_ld rfl ag_222_SeJ rfl ((by rw [cell_bl hf]; rfl)) ?_ | refine op_ld rfl ag_222_SeJ rfl ((by rw [cell_bl ho]; simpa using hou)) ?_
  refine op_move rfl (.int _ _) rfl ?_
  refine op_indexAddr rfl el_222_SeJ sz_230_SeJ rfl rfl (by omega) (by omega) ?_
  first | refine op_ldb rfl ag_230_SeJ rfl H (by first | exact at0 | exact at1 | exact at2 | exact at3 | exact at4 | exact at5 | exact at6 | exact at7 | exact at8 | exact at9) rfl ?_ | refine op_ld rfl ag_230_SeJ rfl ((by rw [cell_bl hf]; rfl)) ?_ | refine op_ld rfl ag_230_SeJ rfl ((by rw [cell_bl ho]; simpa using hou)) ?_
  refine op_len rfl el_230_SeJ rfl ?_
  refine op_move rfl (.int _ _) rfl ?_
  refine op_nil (at_then ?_)
  refine W_block ?_
  refine W_loop 9444732965739290296704 (α := GSt) (fun t => [(17, .int .i64 (t.i : Int))]) (fun t w' => t.i ≤ La.length ∧ t.L.Perm (goP g p s L (La.take t.i)).2 ∧ HeapL t.L ∧ t.hn ≤ hn + t.i ∧ OS t.a t.hn t.c 2 t.full (t.L.flatMap encT) ∧ Ctx w0 ids w' (GB od oh n (goP g p s L (La.take t.i)).1 bh t.a t.hn t.c t.full)) (fun t => La.length - t.i) ⟨0, a, hn, c, full, L⟩ rfl ?_ ?_ ?_
  · exact ⟨rfl, trivial⟩
  · exact ⟨Nat.zero_le _, .refl _, hH, Nat.le_refl _, O, H⟩
  · rintro ⟨i, a, hk, c, full, L'⟩ j w ⟨hi, hp, hH, hkn, O, H⟩; dsimp only at hi hp hH hkn O H; dsimp only
    obtain ⟨si, hsi⟩ : ∃ si, si = (goP g p s L (La.take i)).1 := ⟨_, rfl⟩
    obtain ⟨hi2, hhi2⟩ : ∃ q, q = (goP g p s L (La.take i)).2 := ⟨_, rfl⟩
    have hgi : goP g p s L (La.take i) = (si, hi2) := by rw [hsi, hhi2]
    rw [← hsi] at H
    rw [← hhi2] at hp
    refine W_rseq ?_
    refine op_lss rfl rfl rfl ?_
    refine op_nil (at_then ?_)
    refine W_seq ?_
    refine W_cond _ rfl ?_ ?_
    · intro h1
      replace h1 := dec_t h1
      obtain ⟨x, hxa⟩ := get_some (l := La) (i := i) (by omega)
      obtain ⟨hxu, hxv, hl1, hl2⟩ := hLa x (List.mem_of_getElem? hxa)
      have hsn := goP_snoc g p s L hxa
      rw [hgi] at hsn
      have hbu := hbd i u hi
      have hbv := hbd i (g.v x) hi
      rw [hgi] at hbu hbv
      dsimp only at hbu hbv
      obtain ⟨v, hv⟩ : ∃ v, v = g.v x := ⟨_, rfl⟩
      obtain ⟨ln, hln⟩ : ∃ ln, ln = g.len p x := ⟨_, rfl⟩
      have hrow : rowA g p x = [.int .i64 (x : Int), .int .i64 (u : Int), .int .i64 (v : Int), .int .i64 ln] := by unfold rowA; rw [hxu, hv, hln]
      rw [← hv] at hxv hbv
      rw [← hln] at hl1 hl2
      have hne : La ≠ [] := fun h => by rw [h] at hxa; cases hxa
      refine W_skip (at_then ?_)
      refine W_seq ?_
      refine W_block ?_
      refine W_rseq ?_
      first | refine op_indexRd R rfl el_230_SeJ sz_229_SeJ rfl rfl (by omega) (by omega) (by first | rfl | omega) ?_ | refine op_indexAddr rfl el_230_SeJ sz_229_SeJ rfl rfl (by omega) (by omega) ?_
      first | refine op_ldN _ rfl ag_229_SeJ sz_229_SeJ rfl rfl (Rd.rowE (R.ext H.ext (hRn hne)) hxa hrow rfl) ?_ | refine op_ldbN rfl ag_229_SeJ sz_229_SeJ rfl H (by first | exact at0 | exact at1 | exact at2 | exact at3 | exact at4 | exact at5 | exact at6 | exact at7 | exact at8 | exact at9) rfl ?_
      refine op_alloc rfl zc_229_SeJ H ?_
      rintro b7 w - H
      refine op_stb0 rfl sz_229_SeJ rfl rfl rfl (by simp [oneCell]) H (by first | exact at0 | exact at1 | exact at2 | exact at3 | exact at4 | exact at5 | exact at6 | exact at7 | exact at8 | exact at9) rfl ?_
      rintro w H
      refine op_nil (at_then ?_)
      have K0 : ∀ {z}, Ext ids w0 z → z.heap[bf]? = some (Bl 224 (FB oo od oh ob n)) := fun hz => hz.to hf hfn
      obtain ⟨du, hdu⟩ : ∃ du, du = si.d u := ⟨_, rfl⟩
      obtain ⟨hu, hhu⟩ : ∃ hu, hu = si.h u := ⟨_, rfl⟩
      have hgd : (tab si.d n)[u]? = some du := by rw [tab_get hun, hdu]
      have hgh : (tab (hopI si) n)[u]? = some (hu : Int) := by rw [tab_get hun, hhu]; rfl
      have har : arOf g p x = (u, v, ln) := by unfold arOf; rw [hxu, ← hv, ← hln]
      rw [← hdu, ← hhu] at hbu
      have RD := tab_rd (H.drew.get at1)
      refine W_qseq (fun x => x = _) mixed_SeJ (by kernel_rfl) rfl ?_
      refine q_move rfl (.pointer _) rfl ?_
      refine q_nilCheck rfl rfl ?_
      refine q_fieldAddr rfl fo_224_1_SeJ rfl ?_
      first | refine q_ldb rfl ag_29_SeJ rfl (by rintro _ rfl; exact H.drew) (by first | exact at0 | exact at1 | exact at2 | exact at3 | exact at4 | exact at5 | exact at6 | exact at7 | exact at8 | exact at9) rfl ?_ | refine q_ld rfl ag_29_SeJ rfl (by rintro _ rfl; exact ((by rw [cell_bl (K0 H.drew.ext)]; rfl))) ?_ | refine q_ld rfl ag_29_SeJ rfl (by rintro _ rfl; exact ((RD.fld hgd rfl (j := 0) rfl))) ?_
      refine q_move rfl (.int _ _) rfl ?_
      refine q_indexAddr rfl el_29_SeJ sz_2_SeJ rfl rfl (by omega) (by omega) ?_
      first | refine q_ldb rfl ag_2_SeJ rfl (by rintro _ rfl; exact H.drew) (by first | exact at0 | exact at1 | exact at2 | exact at3 | exact at4 | exact at5 | exact at6 | exact at7 | exact at8 | exact at9) rfl ?_ | refine q_ld rfl ag_2_SeJ rfl (by rintro _ rfl; exact ((by rw [cell_bl (K0 H.drew.ext)]; rfl))) ?_ | refine q_ld rfl ag_2_SeJ rfl (by rintro _ rfl; exact ((RD.fld hgd rfl (j := 0) rfl))) ?_
      refine q_fieldAddr rfl fo_229_3_SeJ rfl ?_
      first | refine q_ldb rfl ag_2_SeJ rfl (by rintro _ rfl; exact H.drew) (by first | exact at0 | exact at1 | exact at2 | exact at3 | exact at4 | exact at5 | exact at6 | exact at7 | exact at8 | exact at9) rfl ?_ | refine q_ld rfl ag_2_SeJ rfl (by rintro _ rfl; exact ((by rw [cell_bl (K0 H.drew.ext)]; rfl))) ?_ | refine q_ld rfl ag_2_SeJ rfl (by rintro _ rfl; exact ((RD.fld hgd rfl (j := 0) rfl))) ?_
      refine q_add_i64 rfl rfl rfl (by omega) (by omega) ?_
      refine q_assign rfl (.int _ _) rfl ?_
      refine q_nil ?_
      rintro _ rfl
      replace H := H.drew
      have RH := tab_rd (H.drew.get at2)
      refine W_tseq 12 mixed_SeJ (by kernel_rfl) rfl rfl ?_
      refine q_move rfl (.pointer _) rfl ?_
      refine q_fieldAddr rfl fo_229_2_SeJ rfl ?_
      first | refine q_ldb rfl ag_3_SeJ rfl (by rintro _ rfl; exact H.drew) (by first | exact at0 | exact at1 | exact at2 | exact at3 | exact at4 | exact at5 | exact at6 | exact at7 | exact at8 | exact at9) rfl ?_ | refine q_ld rfl ag_3_SeJ rfl (by rintro _ rfl; exact ((by rw [cell_bl (K0 H.drew.ext)]; rfl))) ?_ | refine q_ld rfl ag_3_SeJ rfl (by rintro _ rfl; exact ((RH.fld hgh rfl (j := 0) rfl))) ?_
      refine q_move rfl (.int _ _) rfl ?_
      refine q_move rfl (.pointer _) rfl ?_
      refine q_nilCheck rfl rfl ?_
      refine q_fieldAddr rfl fo_224_2_SeJ rfl ?_
      first | refine q_ldb rfl ag_203_SeJ rfl (by rintro _ rfl; exact H.drew) (by first | exact at0 | exact at1 | exact at2 | exact at3 | exact at4 | exact at5 | exact at6 | exact at7 | exact at8 | exact at9) rfl ?_ | refine q_ld rfl ag_203_SeJ rfl (by rintro _ rfl; exact ((by rw [cell_bl (K0 H.drew.ext)]; rfl))) ?_ | refine q_ld rfl ag_203_SeJ rfl (by rintro _ rfl; exact ((RH.fld hgh rfl (j := 0) rfl))) ?_
      refine q_move rfl (.int _ _) rfl ?_
      refine q_indexAddr rfl el_203_SeJ sz_3_SeJ rfl rfl (by omega) (by omega) ?_
      first | refine q_ldb rfl ag_3_SeJ rfl (by rintro _ rfl; exact H.drew) (by first | exact at0 | exact at1 | exact at2 | exact at3 | exact at4 | exact at5 | exact at6 | exact at7 | exact at8 | exact at9) rfl ?_ | refine q_ld rfl ag_3_SeJ rfl (by rintro _ rfl; exact ((by rw [cell_bl (K0 H.drew.ext)]; rfl))) ?_ | refine q_ld rfl ag_3_SeJ rfl (by rintro _ rfl; exact ((RH.fld hgh rfl (j := 0) rfl))) ?_
      refine q_add_i64 rfl rfl rfl (by omega) (by omega) ?_
      rw [show (hu : Int) + 1 = ((hu + 1 : Nat) : Int) by omega]
      refine q_nil ?_
      replace H := H.drew
      refine op_call rfl ca_216_SeJ (better_ok (K0 H.ext) (H.get at1) (H.get at2) v hxv hn6 (du + ln) (hu + 1)) rfl ?_
      rintro rv w ⟨rfl, rfl⟩
      refine op_nil (at_then ?_)
      refine W_cond _ rfl ?_ ?_
      · intro h2
        have h2' : betterP si v (du + ln) (hu + 1) := by simpa using h2
        have hS : relS si (arOf g p x) = putL si v (du + ln) (hu + 1) := by rw [har]; unfold relS; dsimp only; rw [← hdu, ← hhu, if_pos h2']
        have hHH : relH si (arOf g p x) hi2 = (du + ln, v) :: hi2 := by rw [har]; unfold relH; dsimp only; rw [← hdu, ← hhu, if_pos h2']
        refine W_sseqz [([0, 1, 2, 3, 4, 5, 6, 7, 8, 9, 10, 11, 12, 13, 14, 15, 16, 17, 18, 19, 20, 21], 22), ([23], 24)] (fun z => z.heap[bf]? = some (Bl 224 (FB oo od oh ob n)) ∧ z.heap[b7]? = some (Bl 229 [.int .i64 (x : Int), .int .i64 (u : Int), .int .i64 (v : Int), .int .i64 ln]) ∧ z.heap[oh]? = some (Bl 3 (tabV (hopI si) n))) [24] mixed_SeJ (by kernel_rfl) (⟨K0 H.drew.ext, H.drew.get at0, H.drew.get at2⟩) ?_
        refine seg_cons rfl rfl ?_
        refine t_move rfl (.pointer _) rfl ?_
        refine t_nilCheck rfl rfl ?_
        refine t_fieldAddr rfl fo_224_1_SeJ rfl ?_
        first | refine t_ldb rfl ag_29_SeJ rfl True.intro (by first | exact at0 | exact at1 | exact at2 | exact at3 | exact at4 | exact at5 | exact at6 | exact at7 | exact at8 | exact at9) rfl ?_ | refine t_ld rfl ag_29_SeJ rfl (fun _ hx => (by rw [cell_bl hx.1]; rfl)) ?_ | refine t_ld rfl ag_29_SeJ rfl (fun _ hx => (by rw [cell_bl hx.2.1]; rfl)) ?_ | refine t_ld rfl ag_29_SeJ rfl (fun _ hx => ((tab_rd hx.2.2).fld hgh rfl (j := 0) rfl)) ?_
        refine t_fieldAddr rfl fo_229_2_SeJ rfl ?_
        first | refine t_ldb rfl ag_3_SeJ rfl True.intro (by first | exact at0 | exact at1 | exact at2 | exact at3 | exact at4 | exact at5 | exact at6 | exact at7 | exact at8 | exact at9) rfl ?_ | refine t_ld rfl ag_3_SeJ rfl (fun _ hx => (by rw [cell_bl hx.1]; rfl)) ?_ | refine t_ld rfl ag_3_SeJ rfl (fun _ hx => (by rw [cell_bl hx.2.1]; rfl)) ?_ | refine t_ld rfl ag_3_SeJ rfl (fun _ hx => ((tab_rd hx.2.2).fld hgh rfl (j := 0) rfl)) ?_
        refine t_move rfl (.pointer _) rfl ?_
        refine t_nilCheck rfl rfl ?_
        refine t_fieldAddr rfl fo_224_2_SeJ rfl ?_
        first | refine t_ldb rfl ag_203_SeJ rfl True.intro (by first | exact at0 | exact at1 | exact at2 | exact at3 | exact at4 | exact at5 | exact at6 | exact at7 | exact at8 | exact at9) rfl ?_ | refine t_ld rfl ag_203_SeJ rfl (fun _ hx => (by rw [cell_bl hx.1]; rfl)) ?_ | refine t_ld rfl ag_203_SeJ rfl (fun _ hx => (by rw [cell_bl hx.2.1]; rfl)) ?_ | refine t_ld rfl ag_203_SeJ rfl (fun _ hx => ((tab_rd hx.2.2).fld hgh rfl (j := 0) rfl)) ?_
        refine t_fieldAddr rfl fo_229_2_SeJ rfl ?_
        first | refine t_ldb rfl ag_3_SeJ rfl True.intro (by first | exact at0 | exact at1 | exact at2 | exact at3 | exact at4 | exact at5 | exact at6 | exact at7 | exact at8 | exact at9) rfl ?_ | refine t_ld rfl ag_3_SeJ rfl (fun _ hx => (by rw [cell_bl hx.1]; rfl)) ?_ | refine t_ld rfl ag_3_SeJ rfl (fun _ hx => (by rw [cell_bl hx.2.1]; rfl)) ?_ | refine t_ld rfl ag_3_SeJ rfl (fun _ hx => ((tab_rd hx.2.2).fld hgh rfl (j := 0) rfl)) ?_
        refine t_move rfl (.int _ _) rfl ?_
        refine t_move rfl (.pointer _) rfl ?_
        refine t_nilCheck rfl rfl ?_
        refine t_fieldAddr rfl fo_224_2_SeJ rfl ?_
        first | refine t_ldb rfl ag_203_SeJ rfl True.intro (by first | exact at0 | exact at1 | exact at2 | exact at3 | exact at4 | exact at5 | exact at6 | exact at7 | exact at8 | exact at9) rfl ?_ | refine t_ld rfl ag_203_SeJ rfl (fun _ hx => (by rw [cell_bl hx.1]; rfl)) ?_ | refine t_ld rfl ag_203_SeJ rfl (fun _ hx => (by rw [cell_bl hx.2.1]; rfl)) ?_ | refine t_ld rfl ag_203_SeJ rfl (fun _ hx => ((tab_rd hx.2.2).fld hgh rfl (j := 0) rfl)) ?_
        refine t_move rfl (.int _ _) rfl ?_
        refine t_indexAddr rfl el_203_SeJ sz_3_SeJ rfl rfl (by omega) (by omega) ?_
        first | refine t_ldb rfl ag_3_SeJ rfl True.intro (by first | exact at0 | exact at1 | exact at2 | exact at3 | exact at4 | exact at5 | exact at6 | exact at7 | exact at8 | exact at9) rfl ?_ | refine t_ld rfl ag_3_SeJ rfl (fun _ hx => (by rw [cell_bl hx.1]; rfl)) ?_ | refine t_ld rfl ag_3_SeJ rfl (fun _ hx => (by rw [cell_bl hx.2.1]; rfl)) ?_ | refine t_ld rfl ag_3_SeJ rfl (fun _ hx => ((tab_rd hx.2.2).fld hgh rfl (j := 0) rfl)) ?_
        refine t_add_i64 rfl rfl rfl (by omega) (by omega) ?_
        rw [show (hu : Int) + 1 = ((hu + 1 : Nat) : Int) by omega]
        refine t_indexAddr rfl el_29_SeJ sz_2_SeJ rfl rfl (by omega) (by omega) ?_
        refine t_nil ?_
        replace H := H.drew
        refine op_str v (fun q => .int .i64 ((putL si v (du + ln) (hu + 1)).d q)) (.int _ _) rfl sz_2_SeJ rfl rfl rfl H at1 (by simp) (by omega) (by show Value.int _ (if v = v then _ else _) = _; rw [if_pos rfl]) (fun q _ hq => by show Value.int _ (if q = v then _ else _) = _; rw [if_neg hq]) ?_
        rintro w H
        refine op_nil (at_seg (⟨K0 H.ext, H.get at0, H.get at2⟩) ?_)
        refine seg_cons rfl rfl ?_
        refine t_indexAddr rfl el_203_SeJ sz_3_SeJ rfl rfl (by omega) (by omega) ?_
        refine t_nil ?_
        refine op_str v (fun q => .int .i64 (hopI (putL si v (du + ln) (hu + 1)) q)) (.int _ _) rfl sz_3_SeJ rfl rfl rfl H at2 (by simp) (by omega) (by show Value.int _ (((if v = v then _ else _ : Nat)) : Int) = _; rw [if_pos rfl]) (fun q _ hq => by show Value.int _ (((if q = v then _ else _ : Nat)) : Int) = _; rw [if_neg hq]; rfl) ?_
        rintro w H
        refine op_nil (at_segz rfl ?_)
        refine seg_nil ?_
        refine W_region ?_
        refine op_move rfl (.pointer _) rfl ?_
        refine op_move rfl (.int _ _) rfl ?_
        refine op_fieldAddr rfl fo_229_2_SeJ rfl ?_
        first | refine op_ldb rfl ag_3_SeJ rfl H (by first | exact at0 | exact at1 | exact at2 | exact at3 | exact at4 | exact at5 | exact at6 | exact at7 | exact at8 | exact at9) rfl ?_ | refine op_ld rfl ag_3_SeJ rfl ((by rw [cell_bl hx.1]; rfl)) ?_ | refine op_ld rfl ag_3_SeJ rfl ((by rw [cell_bl hx.2.1]; rfl)) ?_ | refine op_ld rfl ag_3_SeJ rfl (((tab_rd hx.2.2).fld hgh rfl (j := 0) rfl)) ?_
        have Hc := Ctx.comm (L := [_, _, _]) (L' := HB bh a hk c full) H
        refine op_call rfl ca_213_SeJ (push_ok (Ctx.lend (L1 := HB bh a hk c full) (L2 := [_, _, _]) Hc) O (by omega) hH (du + ln) v) rfl ?_
        rintro rv w ⟨rfl, a', c', f', L2, hp2, hH2, O2, H2⟩
        replace H := Ctx.comm (L := HB bh a' (hk + 1) c' f') (L' := [_, _, _]) (Ctx.back (L1 := HB bh a hk c full) (L2 := [_, _, _]) Hc H2)
        refine op_nil (at_block (at_then ?_))
        refine W_region ?_
        refine op_add_i64 rfl rfl rfl (by omega) (by omega) ?_
        refine op_move rfl (.int _ _) rfl ?_
        refine op_nil (at_then ?_)
        refine ⟨⟨i + 1, a', hk + 1, c', f', L2⟩, rfl, ⟨rfl, trivial⟩, ⟨by dsimp only; omega, ?_, hH2, by dsimp only; omega, O2, ?_⟩, by dsimp only; omega⟩
        · dsimp only; rw [hsn]; show L2.Perm (relH si (arOf g p x) hi2); rw [hHH]; exact hp2.trans (hp.cons _)
        · dsimp only; rw [hsn]; show Ctx w0 ids w (GB od oh n (relS si (arOf g p x)) bh a' (hk + 1) c' f'); rw [hS]; exact H.tail
      · intro h2
        have h2' : ¬ betterP si v (du + ln) (hu + 1) := by simpa using h2
        have hS : relS si (arOf g p x) = si := by rw [har]; unfold relS; dsimp only; rw [← hdu, ← hhu, if_neg h2']
        have hHH : relH si (arOf g p x) hi2 = hi2 := by rw [har]; unfold relH; dsimp only; rw [← hdu, ← hhu, if_neg h2']
        refine W_skip (at_block (at_then ?_))
        refine W_region ?_
        refine op_add_i64 rfl rfl rfl (by omega) (by omega) ?_
        refine op_move rfl (.int _ _) rfl ?_
        refine op_nil (at_then ?_)
        refine ⟨⟨i + 1, a, hk, c, full, L'⟩, rfl, ⟨rfl, trivial⟩, ⟨by dsimp only; omega, ?_, hH, by dsimp only; omega, O, ?_⟩, by dsimp only; omega⟩
        · dsimp only; rw [hsn]; show L'.Perm (relH si (arOf g p x) hi2); rw [hHH]; exact hp
        · dsimp only; rw [hsn]; show Ctx w0 ids _ (GB od oh n (relS si (arOf g p x)) bh a hk c full); rw [hS]; exact H.tail
    · intro h1
      replace h1 := dec_f h1
      refine W_exit (exit_then (exit_then (exit_here (leave0n rfl rfl ?_))))
      obtain rfl : i = La.length := by omega
      rw [List.take_length] at hsi hhi2
      rw [hsi] at H
      rw [hhi2] at hp
      exact ⟨rfl, a, hk, c, full, L', hp, hH, O, H⟩

end Go.Proofs.YtapphbmlkdhnmaaGreat

/- Shortest ways: where they begin, and each node's last arc: the walks. -/
namespace Go.Proofs.YtapphbmlkdhnmaaGreat
open Go.GV
theorem ag_203_SeK : aggB Tryz.prog 203 = some false := by kernel_rfl
theorem ag_222_SeK : aggB Tryz.prog 222 = some false := by kernel_rfl
theorem ag_229_SeK : aggB Tryz.prog 229 = some true := by kernel_rfl
theorem ag_230_SeK : aggB Tryz.prog 230 = some false := by kernel_rfl
theorem ag_29_SeK : aggB Tryz.prog 29 = some false := by kernel_rfl
theorem ag_2_SeK : aggB Tryz.prog 2 = some false := by kernel_rfl
theorem ag_3_SeK : aggB Tryz.prog 3 = some false := by kernel_rfl
theorem ca_213_SeK : callable Tryz.prog 213 = true := by kernel_rfl
theorem el_203_SeK : elemT Tryz.prog 203 = some 3 := by kernel_rfl
theorem el_222_SeK : elemT Tryz.prog 222 = some 230 := by kernel_rfl
theorem el_230_SeK : elemT Tryz.prog 230 = some 229 := by kernel_rfl
theorem el_29_SeK : elemT Tryz.prog 29 = some 2 := by kernel_rfl
theorem fo_224_0_SeK : fieldO Tryz.prog 224 0 = some 0 := by kernel_rfl
theorem fo_224_1_SeK : fieldO Tryz.prog 224 1 = some 1 := by kernel_rfl
theorem fo_224_2_SeK : fieldO Tryz.prog 224 2 = some 2 := by kernel_rfl
theorem fo_224_3_SeK : fieldO Tryz.prog 224 3 = some 3 := by kernel_rfl
theorem fo_229_0_SeK : fieldO Tryz.prog 229 0 = some 0 := by kernel_rfl
theorem fo_229_2_SeK : fieldO Tryz.prog 229 2 = some 2 := by kernel_rfl
theorem fo_229_3_SeK : fieldO Tryz.prog 229 3 = some 3 := by kernel_rfl
theorem mixed_SeK : Tryz.prog.follows .mixedOrders = true := by kernel_rfl
theorem sz_229_SeK : tsize Tryz.prog 229 = some 4 := by kernel_rfl
theorem sz_230_SeK : tsize Tryz.prog 230 = some 1 := by kernel_rfl
theorem sz_2_SeK : tsize Tryz.prog 2 = some 1 := by kernel_rfl
theorem sz_3_SeK : tsize Tryz.prog 3 = some 1 := by kernel_rfl
theorem zc_229_SeK : zcells Tryz.prog 229 = some ([.int .i64 0, .int .i64 0, .int .i64 0, .int .i64 0]) := by kernel_rfl
attribute [local irreducible] Wops W Wq Wt

abbrev NBl (od n : Nat) (s : Lb) (bh : Nat) (a : Option Addr) (hn c : Nat) (full : List Value) : List (Nat × Obj) := (od, Bl 2 (tabV s.d n)) :: HB bh a hn c full
def itemsL (src : List Nat) : List Tg := src.map fun v => (0, v)
theorem lb0_snoc {src : List Nat} {i v : Nat} (h : src[i]? = some v) (x : Nat) : (lb0 (src.take (i + 1))).d x = if x = v then 0 else (lb0 (src.take i)).d x := by
  unfold lb0
  dsimp only
  rw [take_snoc h]
  by_cases e : x = v
  · subst e; simp
  · simp [e]

set_option maxRecDepth 20000 in
set_option maxHeartbeats 4000000 in
theorem begin_ok {w : World} {bf oo od oh ob n : Nat} {bh : Nat} {c : Nat} {src : List Nat} {fr : Option Addr} {fc : Nat} (H0 : Ctx w ((NBl od n (lb0 []) bh none 0 c []).map (·.1)) w (NBl od n (lb0 []) bh none 0 c [])) (O : OS none 0 c 2 [] (([] : List Tg).flatMap encT))
    (hf : w.heap[bf]? = some (Bl 224 (FB oo od oh ob n))) (hfn : bf ∉ (NBl od n (lb0 []) bh none 0 c []).map (·.1)) (R : Rd w fr 1 I1 (src.map fun v : Nat => (v : Int))) (hRn : src ≠ [] → (adr fr).block ∉ (NBl od n (lb0 []) bh none 0 c []).map (·.1)) (hn6 : n ≤ 1000000) (hsrc : ∀ v ∈ src, v < n) (hnd : src.Nodup) (hsl : src.length ≤ 1000000) :
    Ret Tryz.prog 191 #[ptr bf, ptr bh, .slice fr src.length fc] w fun v w' => v = .bool (decide (0 < src.length)) ∧ ∃ (a' : Option Addr) (c' : Nat) (full' : List Value) (L' : List Tg), L'.Perm (itemsL src) ∧ HeapL L' ∧ OS a' src.length c' 2 full' (L'.flatMap encT) ∧ Ctx w ((NBl od n (lb0 []) bh none 0 c []).map (·.1)) w' (NBl od n (lb0 src) bh a' src.length c' full') := by
  obtain ⟨w0, rfl⟩ : ∃ w0, w0 = w := ⟨_, rfl⟩
  obtain ⟨ids, hids⟩ : ∃ ids, ids = (NBl od n (lb0 []) bh none 0 c []).map (·.1) := ⟨_, rfl⟩
  rw [← hids] at H0 hfn hRn ⊢
  have H := H0
  refine ret_of_W (fn := Tryz.f191) Tryz.func191 rfl [.pointer (some ⟨bf, 0, none⟩), .pointer (some ⟨bh, 0, none⟩), .slice fr src.length fc] rfl (by kernel_rfl) ?_
  refine W_rseq ?_
  refine op_assign rfl (.bool _) rfl ?_
  refine op_nil (at_then ?_)
  refine W_seq ?_
  refine W_rseq ?_
  refine op_move rfl (.slice _ _ _) rfl ?_
  refine op_len rfl el_203_SeK rfl ?_
  refine op_move rfl (.int _ _) rfl ?_
  refine op_nil (at_then ?_)
  refine W_block ?_
  refine W_loop 17592186042688 (α := Option Addr × Nat × List Value × List Tg × Nat) (fun t => [(11, .int .i64 (t.2.2.2.2 : Int))]) (fun t w' => t.2.2.2.2 ≤ src.length ∧ t.2.2.2.1.Perm (itemsL (src.take t.2.2.2.2)) ∧ HeapL t.2.2.2.1 ∧ OS t.1 t.2.2.2.2 t.2.1 2 t.2.2.1 (t.2.2.2.1.flatMap encT) ∧ Ctx w0 ids w' (NBl od n (lb0 (src.take t.2.2.2.2)) bh t.1 t.2.2.2.2 t.2.1 t.2.2.1)) (fun t => src.length - t.2.2.2.2) (none, c, [], [], 0) rfl ?_ ?_ ?_
  · exact ⟨rfl, trivial⟩
  · exact ⟨Nat.zero_le _, .refl _, fun i x y _ h => (by cases h), O, H⟩
  · rintro ⟨a, c, full, L, i⟩ j w ⟨hi, hp, hH, O, H⟩; dsimp only at hi hp hH O H; dsimp only
    refine W_rseq ?_
    refine op_lss rfl rfl rfl ?_
    refine op_nil (at_then ?_)
    refine W_seq ?_
    refine W_cond _ rfl ?_ ?_
    · intro h1
      replace h1 := dec_t h1
      obtain ⟨v, hv⟩ := get_some (l := src) (i := i) (by omega)
      have hvn := hsrc v (List.mem_of_getElem? hv)
      have hvm : (src.map fun v : Nat => (v : Int))[i]? = some (v : Int) := by rw [List.getElem?_map, hv]; rfl
      have hne : src ≠ [] := fun h => by rw [h] at hv; cases hv
      have hnot : v ∉ src.take i := fun hm => by
        obtain ⟨k, hk⟩ := List.getElem?_of_mem hm
        rw [List.getElem?_take] at hk
        split at hk
        · have hkl := get_lt hk
          obtain ⟨h1, h2⟩ := List.getElem?_eq_some_iff.1 hk
          obtain ⟨h3, h4⟩ := List.getElem?_eq_some_iff.1 hv
          have := (List.getElem_inj hnd).1 (h2.trans h4.symm)
          omega
        · cases hk
      have hdv : (lb0 (src.take i)).d v = -1 := if_neg hnot
      have hlm : (src.map fun v : Nat => (v : Int)).length = src.length := by rw [List.length_map]
      have hgd : (tab (lb0 (src.take i)).d n)[v]? = some (-1) := by rw [tab_get hvn, hdv]
      refine W_skip (at_then ?_)
      refine W_seq ?_
      refine W_block ?_
      refine W_rseq ?_
      first | refine op_indexRd R rfl el_203_SeK sz_3_SeK rfl rfl (by omega) (by omega) (by first | rfl | omega) ?_ | refine op_indexAddr rfl el_203_SeK sz_3_SeK rfl rfl (by omega) (by omega) ?_
      first | refine op_ldb rfl ag_3_SeK rfl H (by first | exact at0 | exact at1 | exact at2 | exact at3 | exact at4 | exact at5 | exact at6 | exact at7 | exact at8 | exact at9) rfl ?_ | refine op_ld rfl ag_3_SeK rfl (((R.ext H.ext (hRn hne)).fld hvm rfl (j := 0) rfl)) ?_ | refine op_ld rfl ag_3_SeK rfl ((by rw [cell_bl (H.ext.to hf hfn)]; rfl)) ?_ | refine op_ld rfl ag_3_SeK rfl (((tab_rd (H.get at0)).fld hgd rfl (j := 0) rfl)) ?_
      refine op_assign rfl (.int _ _) rfl ?_
      refine op_nil (at_then ?_)
      refine W_seq ?_
      refine W_rseq ?_
      refine op_move rfl (.int _ _) rfl ?_
      refine op_lss rfl rfl rfl ?_
      refine op_move rfl (.bool _) rfl ?_
      refine Wops_split 17 rfl ?_ ?_
      · intro h2
        replace h2 := dec_t h2
        omega
      · intro h2
        replace h2 := dec_f h2
        refine op_move rfl (.int _ _) rfl ?_
        refine op_move rfl (.pointer _) rfl ?_
        refine op_nilCheck rfl rfl ?_
        refine op_fieldAddr rfl fo_224_1_SeK rfl ?_
        first | refine op_ldb rfl ag_29_SeK rfl H (by first | exact at0 | exact at1 | exact at2 | exact at3 | exact at4 | exact at5 | exact at6 | exact at7 | exact at8 | exact at9) rfl ?_ | refine op_ld rfl ag_29_SeK rfl (((R.ext H.ext (hRn hne)).fld hvm rfl (j := 0) rfl)) ?_ | refine op_ld rfl ag_29_SeK rfl ((by rw [cell_bl (H.ext.to hf hfn)]; rfl)) ?_ | refine op_ld rfl ag_29_SeK rfl (((tab_rd (H.get at0)).fld hgd rfl (j := 0) rfl)) ?_
        refine op_len rfl el_29_SeK rfl ?_
        refine op_geq rfl rfl rfl ?_
        refine op_pick0 rfl rfl (.bool _) rfl ?_
        refine op_nil (at_then ?_)
        refine W_cond _ rfl ?_ ?_
        · intro h3
          replace h3 := dec_t h3
          omega
        · intro h3
          replace h3 := dec_f h3
          refine W_skip (at_then ?_)
          refine W_rseq ?_
          refine op_move rfl (.pointer _) rfl ?_
          refine op_nilCheck rfl rfl ?_
          refine op_fieldAddr rfl fo_224_1_SeK rfl ?_
          first | refine op_ldb rfl ag_29_SeK rfl H (by first | exact at0 | exact at1 | exact at2 | exact at3 | exact at4 | exact at5 | exact at6 | exact at7 | exact at8 | exact at9) rfl ?_ | refine op_ld rfl ag_29_SeK rfl (((R.ext H.ext (hRn hne)).fld hvm rfl (j := 0) rfl)) ?_ | refine op_ld rfl ag_29_SeK rfl ((by rw [cell_bl (H.ext.to hf hfn)]; rfl)) ?_ | refine op_ld rfl ag_29_SeK rfl (((tab_rd (H.get at0)).fld hgd rfl (j := 0) rfl)) ?_
          refine op_move rfl (.int _ _) rfl ?_
          first | refine op_indexRd R rfl el_29_SeK sz_2_SeK rfl rfl (by omega) (by omega) (by first | rfl | omega) ?_ | refine op_indexAddr rfl el_29_SeK sz_2_SeK rfl rfl (by omega) (by omega) ?_
          first | refine op_ldb rfl ag_2_SeK rfl H (by first | exact at0 | exact at1 | exact at2 | exact at3 | exact at4 | exact at5 | exact at6 | exact at7 | exact at8 | exact at9) rfl ?_ | refine op_ld rfl ag_2_SeK rfl (((R.ext H.ext (hRn hne)).fld hvm rfl (j := 0) rfl)) ?_ | refine op_ld rfl ag_2_SeK rfl ((by rw [cell_bl (H.ext.to hf hfn)]; rfl)) ?_ | refine op_ld rfl ag_2_SeK rfl (((tab_rd (H.get at0)).fld hgd rfl (j := 0) rfl)) ?_
          refine op_neq rfl rfl rfl ?_
          refine op_nil (at_then ?_)
          refine W_cond _ rfl ?_ ?_
          · intro h4
            replace h4 := ndec_t h4
            refine W_rseq ?_
            refine op_move rfl (.pointer _) rfl ?_
            refine op_nilCheck rfl rfl ?_
            refine op_fieldAddr rfl fo_224_1_SeK rfl ?_
            first | refine op_ldb rfl ag_29_SeK rfl H (by first | exact at0 | exact at1 | exact at2 | exact at3 | exact at4 | exact at5 | exact at6 | exact at7 | exact at8 | exact at9) rfl ?_ | refine op_ld rfl ag_29_SeK rfl (((R.ext H.ext (hRn hne)).fld hvm rfl (j := 0) rfl)) ?_ | refine op_ld rfl ag_29_SeK rfl ((by rw [cell_bl (H.ext.to hf hfn)]; rfl)) ?_ | refine op_ld rfl ag_29_SeK rfl (((tab_rd (H.get at0)).fld hgd rfl (j := 0) rfl)) ?_
            refine op_move rfl (.int _ _) rfl ?_
            first | refine op_indexRd R rfl el_29_SeK sz_2_SeK rfl rfl (by omega) (by omega) (by first | rfl | omega) ?_ | refine op_indexAddr rfl el_29_SeK sz_2_SeK rfl rfl (by omega) (by omega) ?_
            refine op_str v (fun q => .int .i64 ((lb0 (src.take (i + 1))).d q)) (.int _ _) rfl sz_2_SeK rfl rfl rfl H at0 (by simp) (by omega) (by rw [lb0_snoc hv, if_pos rfl]) (fun q _ hq => by rw [lb0_snoc hv, if_neg hq]) ?_
            rintro w H
            refine op_nil (at_then ?_)
            refine W_region ?_
            refine op_move rfl (.pointer _) rfl ?_
            refine op_move rfl (.int _ _) rfl ?_
            have Hc := Ctx.comm (L := [_]) (L' := HB bh a i c full) H
            refine op_call rfl ca_213_SeK (push_ok (Ctx.lend (L1 := HB bh a i c full) (L2 := [_]) Hc) O (by omega) hH 0 v) rfl ?_
            rintro rv w ⟨rfl, a', c', f', L2, hp2, hH2, O2, H2⟩
            replace H := Ctx.comm (L := HB bh a' (i + 1) c' f') (L' := [_]) (Ctx.back (L1 := HB bh a i c full) (L2 := [_]) Hc H2)
            refine op_nil (at_block (at_then ?_))
            refine W_region ?_
            refine op_add_i64 rfl rfl rfl (by omega) (by omega) ?_
            refine op_move rfl (.int _ _) rfl ?_
            refine op_nil (at_then ?_)
            refine ⟨(a', c', f', L2, i + 1), rfl, ⟨rfl, trivial⟩, ⟨by dsimp only; omega, ?_, hH2, O2, H⟩, by dsimp only; omega⟩
            dsimp only
            unfold itemsL at hp ⊢
            rw [take_snoc hv, List.map_append]
            exact hp2.trans ((hp.cons _).trans (List.perm_append_singleton _ _).symm)
          · intro h4
            replace h4 := ndec_f h4
            omega
    · intro h1
      replace h1 := dec_f h1
      refine W_exit (exit_then (exit_then (exit_here (at_then ?_))))
      refine W_rseq ?_
      refine op_move rfl (.slice _ _ _) rfl ?_
      refine op_len rfl el_203_SeK rfl ?_
      refine op_gtr rfl rfl rfl ?_
      refine op_assign rfl (.bool _) rfl ?_
      refine op_nil (at_then ?_)
      refine W_ret (leave1 (v := (.bool _)) rfl rfl rfl ?_)
      obtain rfl : i = src.length := by omega
      rw [List.take_length] at hp H
      exact ⟨congrArg Value.bool (by rw [Bool.eq_iff_iff]; simp), a, c, full, L, hp, hH, O, H⟩

/-- An arc over which a best way may come. -/
def goodA (g : Gr) (p : Nat → Int) (s : Lb) (a : Nat) : Prop := s.d (g.u a) ≠ -1 ∧ s.h (g.v a) ≠ 0 ∧ s.d (g.u a) + g.len p a = s.d (g.v a) ∧ s.h (g.u a) + 1 = s.h (g.v a)
/-- What is known of each node's last arc, of those that were looked at. -/
structure BI (g : Gr) (p : Nat → Int) (s : Lb) (all done : Nat → Prop) (by' : Nat → Int) : Prop where
  val : ∀ v, by' v = -1 ∨ ∃ a : Nat, by' v = (a : Int) ∧ all a ∧ goodA g p s a ∧ g.v a = v
  in' : ∀ a, done a → goodA g p s a → by' (g.v a) ≠ -1
theorem BI.skip {g : Gr} {p : Nat → Int} {s : Lb} {all done : Nat → Prop} {by' : Nat → Int} (B : BI g p s all done by') {a : Nat} (h : ¬ goodA g p s a ∨ by' (g.v a) ≠ -1) : BI g p s all (fun x => x = a ∨ done x) by' :=
  ⟨B.val, fun x hx hg => by
    rcases hx with rfl | hx
    · exact h.resolve_left fun h => h hg
    · exact B.in' x hx hg⟩
theorem BI.put {g : Gr} {p : Nat → Int} {s : Lb} {all done : Nat → Prop} {by' : Nat → Int} (B : BI g p s all done by') {a : Nat} (ha : all a) (hg : goodA g p s a) : BI g p s all (fun x => x = a ∨ done x) (upd by' (g.v a) (a : Int)) := by
  refine ⟨fun v => ?_, fun x hx hgx => ?_⟩
  · by_cases e : v = g.v a
    · subst e; exact .inr ⟨a, upd_same _ _ _, ha, hg, rfl⟩
    · rw [upd_ne e]; exact B.val v
  · by_cases e : g.v x = g.v a
    · rw [e, upd_same]; omega
    · rw [upd_ne e]
      rcases hx with rfl | hx
      · exact absurd rfl e
      · exact B.in' x hx hgx
theorem BI.congr {g : Gr} {p : Nat → Int} {s : Lb} {all done done' : Nat → Prop} {by' : Nat → Int} (B : BI g p s all done by') (h : ∀ x, done' x → done x) : BI g p s all done' by' := ⟨B.val, fun a ha => B.in' a (h a ha)⟩

set_option maxRecDepth 20000 in
set_option maxHeartbeats 8000000 in
theorem fends_ok {w : World} {bf oo od oh ob n : Nat} {s : Lb} {g : Gr} {p : Nat → Int} {outs : List Value} {outL : Nat → List Nat} (hb : w.heap[ob]? = some (Bl 3 (tabV (fun _ => -1) n))) (hf : w.heap[bf]? = some (Bl 224 (FB oo od oh ob n))) (hd : w.heap[od]? = some (Bl 2 (tabV s.d n))) (hh : w.heap[oh]? = some (Bl 3 (tabV (hopI s) n))) (ho : w.heap[oo]? = some (Bl 230 outs))
    (nf : bf ≠ ob) (nd : od ≠ ob) (nh : oh ≠ ob) (no : oo ≠ ob) (hn6 : n ≤ 1000000) (hsd : ∀ v, -1 ≤ s.d v ∧ s.d v ≤ 1152921504606846976 ∧ s.h v ≤ 1000000)
    (hout : ∀ u, u < n → ∃ au cu, outs[u]? = some (.slice au (outL u).length cu) ∧ Rd w au 4 (rowA g p) (outL u) ∧ (outL u ≠ [] → (adr au).block ≠ ob) ∧ (outL u).length ≤ 1000000 ∧ ∀ x ∈ outL u, g.u x = u ∧ g.v x < n ∧ -1152921504606846976 ≤ g.len p x ∧ g.len p x ≤ 1152921504606846976 ∧ x ≤ 1000000) :
    Ret Tryz.prog 195 #[ptr bf] w fun v w' => v = .tuple #[] ∧ ∃ by' : Nat → Int, BI g p s (fun a => a ∈ outL (g.u a)) (fun a => g.u a < n ∧ a ∈ outL (g.u a)) by' ∧ Ctx w [ob] w' [(ob, Bl 3 (tabV by' n))] := by
  obtain ⟨w0, rfl⟩ : ∃ w0, w0 = w := ⟨_, rfl⟩
  have H := Ctx.start1 hb
  have nf' : bf ∉ [ob] := by rw [List.mem_singleton]; exact nf
  have nd' : od ∉ [ob] := by rw [List.mem_singleton]; exact nd
  have nh' : oh ∉ [ob] := by rw [List.mem_singleton]; exact nh
  have no' : oo ∉ [ob] := by rw [List.mem_singleton]; exact no
  refine ret_of_W (fn := Tryz.f195) Tryz.func195 rfl [.pointer (some ⟨bf, 0, none⟩)] rfl (by kernel_rfl) ?_
  refine W_rseq ?_
  refine op_move rfl (.pointer _) rfl ?_
  refine op_nilCheck rfl rfl ?_
  refine op_fieldAddr rfl fo_224_0_SeK rfl ?_
  first | refine op_ldb rfl ag_222_SeK rfl H (by first | exact at0 | exact at1 | exact at2 | exact at3 | exact at4 | exact at5 | exact at6 | exact at7 | exact at8 | exact at9) rfl ?_ | refine op_ld rfl ag_222_SeK rfl ((by rw [cell_bl hf]; rfl)) ?_
  refine op_len rfl el_222_SeK rfl ?_
  refine op_move rfl (.int _ _) rfl ?_
  refine op_nil (at_then ?_)
  refine W_block ?_
  refine W_loop 649037107316853453566312041148524 (α := Nat × (Nat → Int)) (fun t => [(12, .int .i64 (t.1 : Int))]) (fun t w' => t.1 ≤ n ∧ BI g p s (fun a => a ∈ outL (g.u a)) (fun a => g.u a < t.1 ∧ a ∈ outL (g.u a)) t.2 ∧ Ctx w0 [ob] w' [(ob, Bl 3 (tabV t.2 n))]) (fun t => n - t.1) (0, fun _ => -1) rfl ?_ ?_ ?_
  · exact ⟨rfl, trivial⟩
  · exact ⟨Nat.zero_le _, ⟨fun v => .inl rfl, fun a h => absurd h.1 (Nat.not_lt_zero _)⟩, H⟩
  · rintro ⟨u, by'⟩ j w ⟨hi, B, H⟩; dsimp only at hi B H; dsimp only
    refine W_rseq ?_
    refine op_lss rfl rfl rfl ?_
    refine op_nil (at_then ?_)
    refine W_seq ?_
    refine W_cond _ rfl ?_ ?_
    · intro h1
      replace h1 := dec_t h1
      obtain ⟨au, cu, hou, R, hRn, hul, hx7⟩ := hout u (by omega)
      refine W_skip (at_then ?_)
      refine W_seq ?_
      refine W_block ?_
      refine W_rseq ?_
      refine op_move rfl (.int _ _) rfl ?_
      refine op_indexAddr rfl el_222_SeK sz_230_SeK rfl rfl (by omega) (by omega) ?_
      first | refine op_ldb rfl ag_230_SeK rfl H (by first | exact at0 | exact at1 | exact at2 | exact at3 | exact at4 | exact at5 | exact at6 | exact at7 | exact at8 | exact at9) rfl ?_ | refine op_ld rfl ag_230_SeK rfl ((by rw [cell_bl (H.ext.to ho no')]; simpa using hou)) ?_
      refine op_assign rfl (.int _ _) rfl ?_
      refine op_assign rfl (.slice _ _ _) rfl ?_
      refine op_nil (at_then ?_)
      refine W_rseq ?_
      refine op_move rfl (.slice _ _ _) rfl ?_
      refine op_len rfl el_230_SeK rfl ?_
      refine op_move rfl (.int _ _) rfl ?_
      refine op_nil (at_then ?_)
      refine W_block ?_
      obtain ⟨La, hLa⟩ : ∃ La, La = outL u := ⟨_, rfl⟩
      rw [← hLa] at R hRn hul hx7 ⊢
      refine W_loop 324518553658426726783156020052064 (α := Nat × (Nat → Int)) (fun t => [(19, .int .i64 (t.1 : Int))]) (fun t w' => t.1 ≤ La.length ∧ BI g p s (fun a => a ∈ outL (g.u a)) (fun a => (g.u a < u ∧ a ∈ outL (g.u a)) ∨ a ∈ La.take t.1) t.2 ∧ Ctx w0 [ob] w' [(ob, Bl 3 (tabV t.2 n))]) (fun t => La.length - t.1) (0, by') rfl ?_ ?_ ?_
      · exact ⟨rfl, trivial⟩
      · exact ⟨Nat.zero_le _, B.congr (fun x hx => hx.elim id fun h => by simp at h), H⟩
      · rintro ⟨i, by'⟩ j2 w ⟨hi2, B, H⟩; dsimp only at hi2 B H; dsimp only
        refine W_rseq ?_
        refine op_lss rfl rfl rfl ?_
        refine op_nil (at_then ?_)
        refine W_seq ?_
        refine W_cond _ rfl ?_ ?_
        · intro h2
          replace h2 := dec_t h2
          obtain ⟨x, hxa⟩ := get_some (l := La) (i := i) (by omega)
          obtain ⟨hxu, hxv, hl1, hl2, hx6⟩ := hx7 x (List.mem_of_getElem? hxa)
          obtain ⟨v, hv⟩ : ∃ v, v = g.v x := ⟨_, rfl⟩
          obtain ⟨ln, hln⟩ : ∃ ln, ln = g.len p x := ⟨_, rfl⟩
          have hrow : rowA g p x = [.int .i64 (x : Int), .int .i64 (u : Int), .int .i64 (v : Int), .int .i64 ln] := by unfold rowA; rw [hxu, hv, hln]
          rw [← hv] at hxv
          rw [← hln] at hl1 hl2
          have hne : La ≠ [] := fun h => by rw [h] at hxa; cases hxa
          have hau : (adr au).block ∉ [ob] := by rw [List.mem_singleton]; exact hRn hne
          have hun : u < n := by omega
          obtain ⟨du, hdu⟩ : ∃ du, du = s.d u := ⟨_, rfl⟩
          obtain ⟨hu, hhu⟩ : ∃ hu, hu = s.h u := ⟨_, rfl⟩
          obtain ⟨dv, hdv⟩ : ∃ dv, dv = s.d v := ⟨_, rfl⟩
          obtain ⟨hw, hhw⟩ : ∃ hw, hw = s.h v := ⟨_, rfl⟩
          have hgdu : (tab s.d n)[u]? = some du := by rw [tab_get hun, hdu]
          have hghu : (tab (hopI s) n)[u]? = some (hu : Int) := by rw [tab_get hun, hhu]; rfl
          have hgdv : (tab s.d n)[v]? = some dv := by rw [tab_get hxv, hdv]
          have hghv : (tab (hopI s) n)[v]? = some (hw : Int) := by rw [tab_get hxv, hhw]; rfl
          have hbu := hsd u
          rw [← hdu, ← hhu] at hbu
          have hgo : goodA g p s x ↔ (du ≠ -1 ∧ hw ≠ 0 ∧ du + ln = dv ∧ hu + 1 = hw) := by
            unfold goodA
            rw [hxu, ← hv, ← hln, ← hdu, ← hhu, ← hdv, ← hhw]
          have hall : x ∈ outL (g.u x) := by rw [hxu, ← hLa]; exact List.mem_of_getElem? hxa
          have hsub : ∀ y, ((g.u y < u ∧ y ∈ outL (g.u y)) ∨ y ∈ La.take (i + 1)) → y = x ∨ ((g.u y < u ∧ y ∈ outL (g.u y)) ∨ y ∈ La.take i) := fun y hy => by
            rcases hy with hy | hy
            · exact .inr (.inl hy)
            · rw [take_snoc hxa] at hy
              rcases List.mem_append.1 hy with hy | hy
              · exact .inr (.inr hy)
              · exact .inl (List.mem_singleton.1 hy)
          have RD := tab_rd hd
          have RH := tab_rd hh
          refine W_skip (at_then ?_)
          refine W_seq ?_
          refine W_block ?_
          refine W_rseq ?_
          first | refine op_indexRd R rfl el_230_SeK sz_229_SeK rfl rfl (by omega) (by omega) (by first | rfl | omega) ?_ | refine op_indexAddr rfl el_230_SeK sz_229_SeK rfl rfl (by omega) (by omega) ?_
          first | refine op_ldN _ rfl ag_229_SeK sz_229_SeK rfl rfl (Rd.rowE (R.ext H.ext hau) hxa hrow rfl) ?_ | refine op_ldbN rfl ag_229_SeK sz_229_SeK rfl H (by first | exact at0 | exact at1 | exact at2 | exact at3 | exact at4 | exact at5 | exact at6 | exact at7 | exact at8 | exact at9) rfl ?_
          refine op_alloc rfl zc_229_SeK H ?_
          rintro b5 w - H
          refine op_stb0 rfl sz_229_SeK rfl rfl rfl (by simp [oneCell]) H (by first | exact at0 | exact at1 | exact at2 | exact at3 | exact at4 | exact at5 | exact at6 | exact at7 | exact at8 | exact at9) rfl ?_
          rintro w H
          refine op_nil (at_then ?_)
          refine W_seq ?_
          refine W_join 4835703278458516690436096 (α := Unit) (fun _ => [(81, .bool (!decide (du ≠ -1 ∧ hw ≠ 0 ∧ du + ln = dv ∧ hu + 1 = hw)))]) (fun _ w' => Ctx w0 [ob] w' [(b5, Bl 229 [.int .i64 (x : Int), .int .i64 (u : Int), .int .i64 (v : Int), .int .i64 ln]), (ob, Bl 3 (tabV by' n))]) rfl ?_ ?_
          · skip
            refine W_quiet (fun x => x = _) mixed_SeK (by kernel_rfl) rfl ?_
            refine q_move rfl (.pointer _) rfl ?_
            refine q_nilCheck rfl rfl ?_
            refine q_fieldAddr rfl fo_224_1_SeK rfl ?_
            first | refine q_ldb rfl ag_29_SeK rfl (by rintro _ rfl; exact H.drew) (by first | exact at0 | exact at1 | exact at2 | exact at3 | exact at4 | exact at5 | exact at6 | exact at7 | exact at8 | exact at9) rfl ?_ | refine q_ld rfl ag_29_SeK rfl (by rintro _ rfl; exact ((by rw [cell_bl (H.drew.ext.to hf nf')]; rfl))) ?_ | refine q_ld rfl ag_29_SeK rfl (by rintro _ rfl; exact (((RD.ext H.drew.ext nd').fld hgdu rfl (j := 0) rfl))) ?_ | refine q_ld rfl ag_29_SeK rfl (by rintro _ rfl; exact (((RD.ext H.drew.ext nd').fld hgdv rfl (j := 0) rfl))) ?_ | refine q_ld rfl ag_29_SeK rfl (by rintro _ rfl; exact (((RH.ext H.drew.ext nh').fld hghu rfl (j := 0) rfl))) ?_ | refine q_ld rfl ag_29_SeK rfl (by rintro _ rfl; exact (((RH.ext H.drew.ext nh').fld hghv rfl (j := 0) rfl))) ?_
            refine q_move rfl (.int _ _) rfl ?_
            refine q_indexAddr rfl el_29_SeK sz_2_SeK rfl rfl (by omega) (by omega) ?_
            first | refine q_ldb rfl ag_2_SeK rfl (by rintro _ rfl; exact H.drew) (by first | exact at0 | exact at1 | exact at2 | exact at3 | exact at4 | exact at5 | exact at6 | exact at7 | exact at8 | exact at9) rfl ?_ | refine q_ld rfl ag_2_SeK rfl (by rintro _ rfl; exact ((by rw [cell_bl (H.drew.ext.to hf nf')]; rfl))) ?_ | refine q_ld rfl ag_2_SeK rfl (by rintro _ rfl; exact (((RD.ext H.drew.ext nd').fld hgdu rfl (j := 0) rfl))) ?_ | refine q_ld rfl ag_2_SeK rfl (by rintro _ rfl; exact (((RD.ext H.drew.ext nd').fld hgdv rfl (j := 0) rfl))) ?_ | refine q_ld rfl ag_2_SeK rfl (by rintro _ rfl; exact (((RH.ext H.drew.ext nh').fld hghu rfl (j := 0) rfl))) ?_ | refine q_ld rfl ag_2_SeK rfl (by rintro _ rfl; exact (((RH.ext H.drew.ext nh').fld hghv rfl (j := 0) rfl))) ?_
            refine q_eql rfl rfl rfl ?_
            refine q_move rfl (.bool _) rfl ?_
            refine Wq_split 31 rfl ?_ ?_
            · intro h1
              replace h1 := dec_t h1
              refine q_skip rfl ?_
              refine q_skip rfl ?_
              refine q_skip rfl ?_
              refine q_skip rfl ?_
              refine q_skip rfl ?_
              refine q_skip rfl ?_
              refine q_skip rfl ?_
              refine q_skip rfl ?_
              refine q_skip rfl ?_
              refine q_pick1 rfl rfl (.bool _) rfl ?_
              refine q_move rfl (.bool _) rfl ?_
              refine q_skip rfl ?_
              refine q_skip rfl ?_
              refine q_skip rfl ?_
              refine q_skip rfl ?_
              refine q_skip rfl ?_
              refine q_skip rfl ?_
              refine q_skip rfl ?_
              refine q_skip rfl ?_
              refine q_skip rfl ?_
              refine q_skip rfl ?_
              refine q_skip rfl ?_
              refine q_skip rfl ?_
              refine q_skip rfl ?_
              refine q_skip rfl ?_
              refine q_skip rfl ?_
              refine q_skip rfl ?_
              refine q_skip rfl ?_
              refine q_skip rfl ?_
              refine q_skip rfl ?_
              refine q_pick1 rfl rfl (.bool _) rfl ?_
              refine q_move rfl (.bool _) rfl ?_
              refine q_skip rfl ?_
              refine q_skip rfl ?_
              refine q_skip rfl ?_
              refine q_skip rfl ?_
              refine q_skip rfl ?_
              refine q_skip rfl ?_
              refine q_skip rfl ?_
              refine q_skip rfl ?_
              refine q_skip rfl ?_
              refine q_skip rfl ?_
              refine q_skip rfl ?_
              refine q_skip rfl ?_
              refine q_skip rfl ?_
              refine q_skip rfl ?_
              refine q_skip rfl ?_
              refine q_skip rfl ?_
              refine q_skip rfl ?_
              refine q_pick1 rfl rfl (.bool _) rfl ?_
              refine q_nil ?_
              rintro _ rfl
              replace H := H.drew
              refine at_then ?_
              exact ⟨(), rfl, ⟨congrArg Value.bool (by clear hgdu hghu hgdv hghv hgo hdu hhu hdv hhw; rw [Bool.eq_iff_iff]; simp_all; try omega), trivial⟩, H⟩
            · intro h2
              replace h2 := dec_f h2
              refine q_move rfl (.pointer _) rfl ?_
              refine q_nilCheck rfl rfl ?_
              refine q_fieldAddr rfl fo_224_2_SeK rfl ?_
              first | refine q_ldb rfl ag_203_SeK rfl (by rintro _ rfl; exact H.drew) (by first | exact at0 | exact at1 | exact at2 | exact at3 | exact at4 | exact at5 | exact at6 | exact at7 | exact at8 | exact at9) rfl ?_ | refine q_ld rfl ag_203_SeK rfl (by rintro _ rfl; exact ((by rw [cell_bl (H.drew.ext.to hf nf')]; rfl))) ?_ | refine q_ld rfl ag_203_SeK rfl (by rintro _ rfl; exact (((RD.ext H.drew.ext nd').fld hgdu rfl (j := 0) rfl))) ?_ | refine q_ld rfl ag_203_SeK rfl (by rintro _ rfl; exact (((RD.ext H.drew.ext nd').fld hgdv rfl (j := 0) rfl))) ?_ | refine q_ld rfl ag_203_SeK rfl (by rintro _ rfl; exact (((RH.ext H.drew.ext nh').fld hghu rfl (j := 0) rfl))) ?_ | refine q_ld rfl ag_203_SeK rfl (by rintro _ rfl; exact (((RH.ext H.drew.ext nh').fld hghv rfl (j := 0) rfl))) ?_
              refine q_fieldAddr rfl fo_229_2_SeK rfl ?_
              first | refine q_ldb rfl ag_3_SeK rfl (by rintro _ rfl; exact H.drew) (by first | exact at0 | exact at1 | exact at2 | exact at3 | exact at4 | exact at5 | exact at6 | exact at7 | exact at8 | exact at9) rfl ?_ | refine q_ld rfl ag_3_SeK rfl (by rintro _ rfl; exact ((by rw [cell_bl (H.drew.ext.to hf nf')]; rfl))) ?_ | refine q_ld rfl ag_3_SeK rfl (by rintro _ rfl; exact (((RD.ext H.drew.ext nd').fld hgdu rfl (j := 0) rfl))) ?_ | refine q_ld rfl ag_3_SeK rfl (by rintro _ rfl; exact (((RD.ext H.drew.ext nd').fld hgdv rfl (j := 0) rfl))) ?_ | refine q_ld rfl ag_3_SeK rfl (by rintro _ rfl; exact (((RH.ext H.drew.ext nh').fld hghu rfl (j := 0) rfl))) ?_ | refine q_ld rfl ag_3_SeK rfl (by rintro _ rfl; exact (((RH.ext H.drew.ext nh').fld hghv rfl (j := 0) rfl))) ?_
              refine q_indexAddr rfl el_203_SeK sz_3_SeK rfl rfl (by omega) (by omega) ?_
              first | refine q_ldb rfl ag_3_SeK rfl (by rintro _ rfl; exact H.drew) (by first | exact at0 | exact at1 | exact at2 | exact at3 | exact at4 | exact at5 | exact at6 | exact at7 | exact at8 | exact at9) rfl ?_ | refine q_ld rfl ag_3_SeK rfl (by rintro _ rfl; exact ((by rw [cell_bl (H.drew.ext.to hf nf')]; rfl))) ?_ | refine q_ld rfl ag_3_SeK rfl (by rintro _ rfl; exact (((RD.ext H.drew.ext nd').fld hgdu rfl (j := 0) rfl))) ?_ | refine q_ld rfl ag_3_SeK rfl (by rintro _ rfl; exact (((RD.ext H.drew.ext nd').fld hgdv rfl (j := 0) rfl))) ?_ | refine q_ld rfl ag_3_SeK rfl (by rintro _ rfl; exact (((RH.ext H.drew.ext nh').fld hghu rfl (j := 0) rfl))) ?_ | refine q_ld rfl ag_3_SeK rfl (by rintro _ rfl; exact (((RH.ext H.drew.ext nh').fld hghv rfl (j := 0) rfl))) ?_
              refine q_eql rfl rfl rfl ?_
              refine q_pick0 rfl rfl (.bool _) rfl ?_
              refine q_move rfl (.bool _) rfl ?_
              refine Wq_split 42 rfl ?_ ?_
              · intro h3
                replace h3 := dec_t h3
                refine q_skip rfl ?_
                refine q_skip rfl ?_
                refine q_skip rfl ?_
                refine q_skip rfl ?_
                refine q_skip rfl ?_
                refine q_skip rfl ?_
                refine q_skip rfl ?_
                refine q_skip rfl ?_
                refine q_skip rfl ?_
                refine q_skip rfl ?_
                refine q_skip rfl ?_
                refine q_skip rfl ?_
                refine q_skip rfl ?_
                refine q_skip rfl ?_
                refine q_skip rfl ?_
                refine q_skip rfl ?_
                refine q_skip rfl ?_
                refine q_skip rfl ?_
                refine q_skip rfl ?_
                refine q_pick1 rfl rfl (.bool _) rfl ?_
                refine q_move rfl (.bool _) rfl ?_
                refine q_skip rfl ?_
                refine q_skip rfl ?_
                refine q_skip rfl ?_
                refine q_skip rfl ?_
                refine q_skip rfl ?_
                refine q_skip rfl ?_
                refine q_skip rfl ?_
                refine q_skip rfl ?_
                refine q_skip rfl ?_
                refine q_skip rfl ?_
                refine q_skip rfl ?_
                refine q_skip rfl ?_
                refine q_skip rfl ?_
                refine q_skip rfl ?_
                refine q_skip rfl ?_
                refine q_skip rfl ?_
                refine q_skip rfl ?_
                refine q_pick1 rfl rfl (.bool _) rfl ?_
                refine q_nil ?_
                rintro _ rfl
                replace H := H.drew
                refine at_then ?_
                exact ⟨(), rfl, ⟨congrArg Value.bool (by clear hgdu hghu hgdv hghv hgo hdu hhu hdv hhw; rw [Bool.eq_iff_iff]; simp_all; try omega), trivial⟩, H⟩
              · intro h4
                replace h4 := dec_f h4
                refine q_move rfl (.pointer _) rfl ?_
                refine q_nilCheck rfl rfl ?_
                refine q_fieldAddr rfl fo_224_1_SeK rfl ?_
                first | refine q_ldb rfl ag_29_SeK rfl (by rintro _ rfl; exact H.drew) (by first | exact at0 | exact at1 | exact at2 | exact at3 | exact at4 | exact at5 | exact at6 | exact at7 | exact at8 | exact at9) rfl ?_ | refine q_ld rfl ag_29_SeK rfl (by rintro _ rfl; exact ((by rw [cell_bl (H.drew.ext.to hf nf')]; rfl))) ?_ | refine q_ld rfl ag_29_SeK rfl (by rintro _ rfl; exact (((RD.ext H.drew.ext nd').fld hgdu rfl (j := 0) rfl))) ?_ | refine q_ld rfl ag_29_SeK rfl (by rintro _ rfl; exact (((RD.ext H.drew.ext nd').fld hgdv rfl (j := 0) rfl))) ?_ | refine q_ld rfl ag_29_SeK rfl (by rintro _ rfl; exact (((RH.ext H.drew.ext nh').fld hghu rfl (j := 0) rfl))) ?_ | refine q_ld rfl ag_29_SeK rfl (by rintro _ rfl; exact (((RH.ext H.drew.ext nh').fld hghv rfl (j := 0) rfl))) ?_
                refine q_move rfl (.int _ _) rfl ?_
                refine q_indexAddr rfl el_29_SeK sz_2_SeK rfl rfl (by omega) (by omega) ?_
                first | refine q_ldb rfl ag_2_SeK rfl (by rintro _ rfl; exact H.drew) (by first | exact at0 | exact at1 | exact at2 | exact at3 | exact at4 | exact at5 | exact at6 | exact at7 | exact at8 | exact at9) rfl ?_ | refine q_ld rfl ag_2_SeK rfl (by rintro _ rfl; exact ((by rw [cell_bl (H.drew.ext.to hf nf')]; rfl))) ?_ | refine q_ld rfl ag_2_SeK rfl (by rintro _ rfl; exact (((RD.ext H.drew.ext nd').fld hgdu rfl (j := 0) rfl))) ?_ | refine q_ld rfl ag_2_SeK rfl (by rintro _ rfl; exact (((RD.ext H.drew.ext nd').fld hgdv rfl (j := 0) rfl))) ?_ | refine q_ld rfl ag_2_SeK rfl (by rintro _ rfl; exact (((RH.ext H.drew.ext nh').fld hghu rfl (j := 0) rfl))) ?_ | refine q_ld rfl ag_2_SeK rfl (by rintro _ rfl; exact (((RH.ext H.drew.ext nh').fld hghv rfl (j := 0) rfl))) ?_
                refine q_fieldAddr rfl fo_229_3_SeK rfl ?_
                first | refine q_ldb rfl ag_2_SeK rfl (by rintro _ rfl; exact H.drew) (by first | exact at0 | exact at1 | exact at2 | exact at3 | exact at4 | exact at5 | exact at6 | exact at7 | exact at8 | exact at9) rfl ?_ | refine q_ld rfl ag_2_SeK rfl (by rintro _ rfl; exact ((by rw [cell_bl (H.drew.ext.to hf nf')]; rfl))) ?_ | refine q_ld rfl ag_2_SeK rfl (by rintro _ rfl; exact (((RD.ext H.drew.ext nd').fld hgdu rfl (j := 0) rfl))) ?_ | refine q_ld rfl ag_2_SeK rfl (by rintro _ rfl; exact (((RD.ext H.drew.ext nd').fld hgdv rfl (j := 0) rfl))) ?_ | refine q_ld rfl ag_2_SeK rfl (by rintro _ rfl; exact (((RH.ext H.drew.ext nh').fld hghu rfl (j := 0) rfl))) ?_ | refine q_ld rfl ag_2_SeK rfl (by rintro _ rfl; exact (((RH.ext H.drew.ext nh').fld hghv rfl (j := 0) rfl))) ?_
                refine q_add_i64 rfl rfl rfl (by omega) (by omega) ?_
                refine q_move rfl (.pointer _) rfl ?_
                refine q_nilCheck rfl rfl ?_
                refine q_fieldAddr rfl fo_224_1_SeK rfl ?_
                first | refine q_ldb rfl ag_29_SeK rfl (by rintro _ rfl; exact H.drew) (by first | exact at0 | exact at1 | exact at2 | exact at3 | exact at4 | exact at5 | exact at6 | exact at7 | exact at8 | exact at9) rfl ?_ | refine q_ld rfl ag_29_SeK rfl (by rintro _ rfl; exact ((by rw [cell_bl (H.drew.ext.to hf nf')]; rfl))) ?_ | refine q_ld rfl ag_29_SeK rfl (by rintro _ rfl; exact (((RD.ext H.drew.ext nd').fld hgdu rfl (j := 0) rfl))) ?_ | refine q_ld rfl ag_29_SeK rfl (by rintro _ rfl; exact (((RD.ext H.drew.ext nd').fld hgdv rfl (j := 0) rfl))) ?_ | refine q_ld rfl ag_29_SeK rfl (by rintro _ rfl; exact (((RH.ext H.drew.ext nh').fld hghu rfl (j := 0) rfl))) ?_ | refine q_ld rfl ag_29_SeK rfl (by rintro _ rfl; exact (((RH.ext H.drew.ext nh').fld hghv rfl (j := 0) rfl))) ?_
                refine q_fieldAddr rfl fo_229_2_SeK rfl ?_
                first | refine q_ldb rfl ag_3_SeK rfl (by rintro _ rfl; exact H.drew) (by first | exact at0 | exact at1 | exact at2 | exact at3 | exact at4 | exact at5 | exact at6 | exact at7 | exact at8 | exact at9) rfl ?_ | refine q_ld rfl ag_3_SeK rfl (by rintro _ rfl; exact ((by rw [cell_bl (H.drew.ext.to hf nf')]; rfl))) ?_ | refine q_ld rfl ag_3_SeK rfl (by rintro _ rfl; exact (((RD.ext H.drew.ext nd').fld hgdu rfl (j := 0) rfl))) ?_ | refine q_ld rfl ag_3_SeK rfl (by rintro _ rfl; exact (((RD.ext H.drew.ext nd').fld hgdv rfl (j := 0) rfl))) ?_ | refine q_ld rfl ag_3_SeK rfl (by rintro _ rfl; exact (((RH.ext H.drew.ext nh').fld hghu rfl (j := 0) rfl))) ?_ | refine q_ld rfl ag_3_SeK rfl (by rintro _ rfl; exact (((RH.ext H.drew.ext nh').fld hghv rfl (j := 0) rfl))) ?_
                refine q_indexAddr rfl el_29_SeK sz_2_SeK rfl rfl (by omega) (by omega) ?_
                first | refine q_ldb rfl ag_2_SeK rfl (by rintro _ rfl; exact H.drew) (by first | exact at0 | exact at1 | exact at2 | exact at3 | exact at4 | exact at5 | exact at6 | exact at7 | exact at8 | exact at9) rfl ?_ | refine q_ld rfl ag_2_SeK rfl (by rintro _ rfl; exact ((by rw [cell_bl (H.drew.ext.to hf nf')]; rfl))) ?_ | refine q_ld rfl ag_2_SeK rfl (by rintro _ rfl; exact (((RD.ext H.drew.ext nd').fld hgdu rfl (j := 0) rfl))) ?_ | refine q_ld rfl ag_2_SeK rfl (by rintro _ rfl; exact (((RD.ext H.drew.ext nd').fld hgdv rfl (j := 0) rfl))) ?_ | refine q_ld rfl ag_2_SeK rfl (by rintro _ rfl; exact (((RH.ext H.drew.ext nh').fld hghu rfl (j := 0) rfl))) ?_ | refine q_ld rfl ag_2_SeK rfl (by rintro _ rfl; exact (((RH.ext H.drew.ext nh').fld hghv rfl (j := 0) rfl))) ?_
                refine q_neq rfl rfl rfl ?_
                refine q_pick0 rfl rfl (.bool _) rfl ?_
                refine q_move rfl (.bool _) rfl ?_
                refine Wq_split 63 rfl ?_ ?_
                · intro h5
                  replace h5 := ndec_t h5
                  refine q_skip rfl ?_
                  refine q_skip rfl ?_
                  refine q_skip rfl ?_
                  refine q_skip rfl ?_
                  refine q_skip rfl ?_
                  refine q_skip rfl ?_
                  refine q_skip rfl ?_
                  refine q_skip rfl ?_
                  refine q_skip rfl ?_
                  refine q_skip rfl ?_
                  refine q_skip rfl ?_
                  refine q_skip rfl ?_
                  refine q_skip rfl ?_
                  refine q_skip rfl ?_
                  refine q_skip rfl ?_
                  refine q_skip rfl ?_
                  refine q_skip rfl ?_
                  refine q_pick1 rfl rfl (.bool _) rfl ?_
                  refine q_nil ?_
                  rintro _ rfl
                  replace H := H.drew
                  refine at_then ?_
                  exact ⟨(), rfl, ⟨congrArg Value.bool (by clear hgdu hghu hgdv hghv hgo hdu hhu hdv hhw; rw [Bool.eq_iff_iff]; simp_all; try omega), trivial⟩, H⟩
                · intro h6
                  replace h6 := ndec_f h6
                  refine q_move rfl (.pointer _) rfl ?_
                  refine q_nilCheck rfl rfl ?_
                  refine q_fieldAddr rfl fo_224_2_SeK rfl ?_
                  first | refine q_ldb rfl ag_203_SeK rfl (by rintro _ rfl; exact H.drew) (by first | exact at0 | exact at1 | exact at2 | exact at3 | exact at4 | exact at5 | exact at6 | exact at7 | exact at8 | exact at9) rfl ?_ | refine q_ld rfl ag_203_SeK rfl (by rintro _ rfl; exact ((by rw [cell_bl (H.drew.ext.to hf nf')]; rfl))) ?_ | refine q_ld rfl ag_203_SeK rfl (by rintro _ rfl; exact (((RD.ext H.drew.ext nd').fld hgdu rfl (j := 0) rfl))) ?_ | refine q_ld rfl ag_203_SeK rfl (by rintro _ rfl; exact (((RD.ext H.drew.ext nd').fld hgdv rfl (j := 0) rfl))) ?_ | refine q_ld rfl ag_203_SeK rfl (by rintro _ rfl; exact (((RH.ext H.drew.ext nh').fld hghu rfl (j := 0) rfl))) ?_ | refine q_ld rfl ag_203_SeK rfl (by rintro _ rfl; exact (((RH.ext H.drew.ext nh').fld hghv rfl (j := 0) rfl))) ?_
                  refine q_move rfl (.int _ _) rfl ?_
                  refine q_indexAddr rfl el_203_SeK sz_3_SeK rfl rfl (by omega) (by omega) ?_
                  first | refine q_ldb rfl ag_3_SeK rfl (by rintro _ rfl; exact H.drew) (by first | exact at0 | exact at1 | exact at2 | exact at3 | exact at4 | exact at5 | exact at6 | exact at7 | exact at8 | exact at9) rfl ?_ | refine q_ld rfl ag_3_SeK rfl (by rintro _ rfl; exact ((by rw [cell_bl (H.drew.ext.to hf nf')]; rfl))) ?_ | refine q_ld rfl ag_3_SeK rfl (by rintro _ rfl; exact (((RD.ext H.drew.ext nd').fld hgdu rfl (j := 0) rfl))) ?_ | refine q_ld rfl ag_3_SeK rfl (by rintro _ rfl; exact (((RD.ext H.drew.ext nd').fld hgdv rfl (j := 0) rfl))) ?_ | refine q_ld rfl ag_3_SeK rfl (by rintro _ rfl; exact (((RH.ext H.drew.ext nh').fld hghu rfl (j := 0) rfl))) ?_ | refine q_ld rfl ag_3_SeK rfl (by rintro _ rfl; exact (((RH.ext H.drew.ext nh').fld hghv rfl (j := 0) rfl))) ?_
                  refine q_add_i64 rfl rfl rfl (by omega) (by omega) ?_
                  refine q_move rfl (.pointer _) rfl ?_
                  refine q_nilCheck rfl rfl ?_
                  refine q_fieldAddr rfl fo_224_2_SeK rfl ?_
                  first | refine q_ldb rfl ag_203_SeK rfl (by rintro _ rfl; exact H.drew) (by first | exact at0 | exact at1 | exact at2 | exact at3 | exact at4 | exact at5 | exact at6 | exact at7 | exact at8 | exact at9) rfl ?_ | refine q_ld rfl ag_203_SeK rfl (by rintro _ rfl; exact ((by rw [cell_bl (H.drew.ext.to hf nf')]; rfl))) ?_ | refine q_ld rfl ag_203_SeK rfl (by rintro _ rfl; exact (((RD.ext H.drew.ext nd').fld hgdu rfl (j := 0) rfl))) ?_ | refine q_ld rfl ag_203_SeK rfl (by rintro _ rfl; exact (((RD.ext H.drew.ext nd').fld hgdv rfl (j := 0) rfl))) ?_ | refine q_ld rfl ag_203_SeK rfl (by rintro _ rfl; exact (((RH.ext H.drew.ext nh').fld hghu rfl (j := 0) rfl))) ?_ | refine q_ld rfl ag_203_SeK rfl (by rintro _ rfl; exact (((RH.ext H.drew.ext nh').fld hghv rfl (j := 0) rfl))) ?_
                  refine q_fieldAddr rfl fo_229_2_SeK rfl ?_
                  first | refine q_ldb rfl ag_3_SeK rfl (by rintro _ rfl; exact H.drew) (by first | exact at0 | exact at1 | exact at2 | exact at3 | exact at4 | exact at5 | exact at6 | exact at7 | exact at8 | exact at9) rfl ?_ | refine q_ld rfl ag_3_SeK rfl (by rintro _ rfl; exact ((by rw [cell_bl (H.drew.ext.to hf nf')]; rfl))) ?_ | refine q_ld rfl ag_3_SeK rfl (by rintro _ rfl; exact (((RD.ext H.drew.ext nd').fld hgdu rfl (j := 0) rfl))) ?_ | refine q_ld rfl ag_3_SeK rfl (by rintro _ rfl; exact (((RD.ext H.drew.ext nd').fld hgdv rfl (j := 0) rfl))) ?_ | refine q_ld rfl ag_3_SeK rfl (by rintro _ rfl; exact (((RH.ext H.drew.ext nh').fld hghu rfl (j := 0) rfl))) ?_ | refine q_ld rfl ag_3_SeK rfl (by rintro _ rfl; exact (((RH.ext H.drew.ext nh').fld hghv rfl (j := 0) rfl))) ?_
                  refine q_indexAddr rfl el_203_SeK sz_3_SeK rfl rfl (by omega) (by omega) ?_
                  first | refine q_ldb rfl ag_3_SeK rfl (by rintro _ rfl; exact H.drew) (by first | exact at0 | exact at1 | exact at2 | exact at3 | exact at4 | exact at5 | exact at6 | exact at7 | exact at8 | exact at9) rfl ?_ | refine q_ld rfl ag_3_SeK rfl (by rintro _ rfl; exact ((by rw [cell_bl (H.drew.ext.to hf nf')]; rfl))) ?_ | refine q_ld rfl ag_3_SeK rfl (by rintro _ rfl; exact (((RD.ext H.drew.ext nd').fld hgdu rfl (j := 0) rfl))) ?_ | refine q_ld rfl ag_3_SeK rfl (by rintro _ rfl; exact (((RD.ext H.drew.ext nd').fld hgdv rfl (j := 0) rfl))) ?_ | refine q_ld rfl ag_3_SeK rfl (by rintro _ rfl; exact (((RH.ext H.drew.ext nh').fld hghu rfl (j := 0) rfl))) ?_ | refine q_ld rfl ag_3_SeK rfl (by rintro _ rfl; exact (((RH.ext H.drew.ext nh').fld hghv rfl (j := 0) rfl))) ?_
                  refine q_neq rfl rfl rfl ?_
                  refine q_pick0 rfl rfl (.bool _) rfl ?_
                  refine q_nil ?_
                  rintro _ rfl
                  replace H := H.drew
                  refine at_then ?_
                  exact ⟨(), rfl, ⟨congrArg Value.bool (by clear hgdu hghu hgdv hghv hgo hdu hhu hdv hhw; rw [Bool.eq_iff_iff]; simp_all; try omega), trivial⟩, H⟩
          · rintro - j6 w H
            refine W_cond _ rfl ?_ ?_
            · intro h3
              have hng : ¬ goodA g p s x := by rw [hgo]; exact of_decide_eq_false (by simpa only [Bool.not_eq_true'] using h3)
              refine W_exit (exit_then (exit_here (at_then ?_)))
              refine W_region ?_
              refine op_add_i64 rfl rfl rfl (by omega) (by omega) ?_
              refine op_move rfl (.int _ _) rfl ?_
              refine op_nil (at_then ?_)
              exact ⟨(i + 1, by'), rfl, ⟨rfl, trivial⟩, ⟨by dsimp only; omega, (B.skip (.inl hng)).congr hsub, H.tail⟩, by dsimp only; omega⟩
            · intro h3
              have hg : goodA g p s x := by rw [hgo]; simpa using h3
              have hgb : (tab by' n)[v]? = some (by' v) := tab_get hxv
              have hnot : by' v ≠ -1 → BI g p s (fun a => a ∈ outL (g.u a)) (fun a => (g.u a < u ∧ a ∈ outL (g.u a)) ∨ a ∈ La.take (i + 1)) by' := fun h => (B.skip (.inr (hv ▸ h))).congr hsub
              refine W_skip (at_then ?_)
              refine W_qseq (fun x => x = _) mixed_SeK (by kernel_rfl) rfl ?_
              refine q_move rfl (.pointer _) rfl ?_
              refine q_nilCheck rfl rfl ?_
              refine q_fieldAddr rfl fo_224_3_SeK rfl ?_
              first | refine q_ldb rfl ag_203_SeK rfl (by rintro _ rfl; exact H.drew) (by first | exact at0 | exact at1 | exact at2 | exact at3 | exact at4 | exact at5 | exact at6 | exact at7 | exact at8 | exact at9) rfl ?_ | refine q_ld rfl ag_203_SeK rfl (by rintro _ rfl; exact ((by rw [cell_bl (H.drew.ext.to hf nf')]; rfl))) ?_ | refine q_ld rfl ag_203_SeK rfl (by rintro _ rfl; exact (((tab_rd (H.drew.get at1)).fld hgb rfl (j := 0) rfl))) ?_
              refine q_fieldAddr rfl fo_229_2_SeK rfl ?_
              first | refine q_ldb rfl ag_3_SeK rfl (by rintro _ rfl; exact H.drew) (by first | exact at0 | exact at1 | exact at2 | exact at3 | exact at4 | exact at5 | exact at6 | exact at7 | exact at8 | exact at9) rfl ?_ | refine q_ld rfl ag_3_SeK rfl (by rintro _ rfl; exact ((by rw [cell_bl (H.drew.ext.to hf nf')]; rfl))) ?_ | refine q_ld rfl ag_3_SeK rfl (by rintro _ rfl; exact (((tab_rd (H.drew.get at1)).fld hgb rfl (j := 0) rfl))) ?_
              refine q_indexAddr rfl el_203_SeK sz_3_SeK rfl rfl (by omega) (by omega) ?_
              first | refine q_ldb rfl ag_3_SeK rfl (by rintro _ rfl; exact H.drew) (by first | exact at0 | exact at1 | exact at2 | exact at3 | exact at4 | exact at5 | exact at6 | exact at7 | exact at8 | exact at9) rfl ?_ | refine q_ld rfl ag_3_SeK rfl (by rintro _ rfl; exact ((by rw [cell_bl (H.drew.ext.to hf nf')]; rfl))) ?_ | refine q_ld rfl ag_3_SeK rfl (by rintro _ rfl; exact (((tab_rd (H.drew.get at1)).fld hgb rfl (j := 0) rfl))) ?_
              refine q_assign rfl (.int _ _) rfl ?_
              refine q_nil ?_
              rintro _ rfl
              replace H := H.drew
              refine W_rseq ?_
              refine op_move rfl (.int _ _) rfl ?_
              refine op_eql rfl rfl rfl ?_
              refine op_move rfl (.bool _) rfl ?_
              refine Wops_split 92 rfl ?_ ?_
              · intro h4
                replace h4 := dec_t h4
                refine op_skip rfl ?_
                refine op_skip rfl ?_
                refine op_skip rfl ?_
                refine op_skip rfl ?_
                refine op_pick1 rfl rfl (.bool _) rfl ?_
                refine op_nil (at_then ?_)
                refine W_cond1 rfl ?_
                refine W_segz [([0, 1, 2, 3, 4, 5, 6, 7, 8], 9)] (fun z => z.heap[bf]? = some (Bl 224 (FB oo od oh ob n)) ∧ z.heap[b5]? = some (Bl 229 [.int .i64 (x : Int), .int .i64 (u : Int), .int .i64 (v : Int), .int .i64 ln])) [9] mixed_SeK (by kernel_rfl) (⟨H.drew.ext.to hf nf', H.drew.get at0⟩) ?_
                refine seg_cons rfl rfl ?_
                refine t_move rfl (.pointer _) rfl ?_
                refine t_nilCheck rfl rfl ?_
                refine t_fieldAddr rfl fo_224_3_SeK rfl ?_
                first | refine t_ldb rfl ag_203_SeK rfl True.intro (by first | exact at0 | exact at1 | exact at2 | exact at3 | exact at4 | exact at5 | exact at6 | exact at7 | exact at8 | exact at9) rfl ?_ | refine t_ld rfl ag_203_SeK rfl (fun _ hx => (by rw [cell_bl hx.1]; rfl)) ?_ | refine t_ld rfl ag_203_SeK rfl (fun _ hx => (by rw [cell_bl hx.2]; rfl)) ?_
                refine t_fieldAddr rfl fo_229_2_SeK rfl ?_
                first | refine t_ldb rfl ag_3_SeK rfl True.intro (by first | exact at0 | exact at1 | exact at2 | exact at3 | exact at4 | exact at5 | exact at6 | exact at7 | exact at8 | exact at9) rfl ?_ | refine t_ld rfl ag_3_SeK rfl (fun _ hx => (by rw [cell_bl hx.1]; rfl)) ?_ | refine t_ld rfl ag_3_SeK rfl (fun _ hx => (by rw [cell_bl hx.2]; rfl)) ?_
                refine t_fieldAddr rfl fo_229_0_SeK rfl ?_
                first | refine t_ldb rfl ag_3_SeK rfl True.intro (by first | exact at0 | exact at1 | exact at2 | exact at3 | exact at4 | exact at5 | exact at6 | exact at7 | exact at8 | exact at9) rfl ?_ | refine t_ld rfl ag_3_SeK rfl (fun _ hx => (by rw [cell_bl hx.1]; rfl)) ?_ | refine t_ld rfl ag_3_SeK rfl (fun _ hx => (by rw [cell_bl hx.2]; rfl)) ?_
                refine t_indexAddr rfl el_203_SeK sz_3_SeK rfl rfl (by omega) (by omega) ?_
                refine t_nil ?_
                replace H := H.drew
                refine op_str v (fun q => .int .i64 (upd by' v (x : Int) q)) (.int _ _) rfl sz_3_SeK rfl rfl rfl H at1 (by simp) (by omega) (by rw [upd_same]) (fun q _ hq => by rw [upd_ne hq]) ?_
                rintro w H
                refine op_nil (at_segz rfl ?_)
                refine seg_nil ?_
                refine at_block (at_then ?_)
                refine W_region ?_
                refine op_add_i64 rfl rfl rfl (by omega) (by omega) ?_
                refine op_move rfl (.int _ _) rfl ?_
                refine op_nil (at_then ?_)
                exact ⟨(i + 1, upd by' v (x : Int)), rfl, ⟨rfl, trivial⟩, ⟨by dsimp only; omega, (hv ▸ B.put hall hg).congr hsub, H.tail⟩, by dsimp only; omega⟩
              · intro h4
                replace h4 := dec_f h4
                refine op_fieldAddr rfl fo_229_0_SeK rfl ?_
                first | refine op_ldb rfl ag_3_SeK rfl H (by first | exact at0 | exact at1 | exact at2 | exact at3 | exact at4 | exact at5 | exact at6 | exact at7 | exact at8 | exact at9) rfl ?_ | refine op_ld rfl ag_3_SeK rfl ((by rw [cell_bl hx.1]; rfl)) ?_ | refine op_ld rfl ag_3_SeK rfl ((by rw [cell_bl hx.2]; rfl)) ?_
                refine op_move rfl (.int _ _) rfl ?_
                refine op_lss rfl rfl rfl ?_
                refine op_pick0 rfl rfl (.bool _) rfl ?_
                refine op_nil (at_then ?_)
                refine W_cond _ rfl ?_ ?_
                · intro h5
                  replace h5 := dec_t h5
                  refine W_segz [([0, 1, 2, 3, 4, 5, 6, 7, 8], 9)] (fun z => z.heap[bf]? = some (Bl 224 (FB oo od oh ob n)) ∧ z.heap[b5]? = some (Bl 229 [.int .i64 (x : Int), .int .i64 (u : Int), .int .i64 (v : Int), .int .i64 ln])) [9] mixed_SeK (by kernel_rfl) (⟨H.drew.ext.to hf nf', H.drew.get at0⟩) ?_
                  refine seg_cons rfl rfl ?_
                  refine t_move rfl (.pointer _) rfl ?_
                  refine t_nilCheck rfl rfl ?_
                  refine t_fieldAddr rfl fo_224_3_SeK rfl ?_
                  first | refine t_ldb rfl ag_203_SeK rfl True.intro (by first | exact at0 | exact at1 | exact at2 | exact at3 | exact at4 | exact at5 | exact at6 | exact at7 | exact at8 | exact at9) rfl ?_ | refine t_ld rfl ag_203_SeK rfl (fun _ hx => (by rw [cell_bl hx.1]; rfl)) ?_ | refine t_ld rfl ag_203_SeK rfl (fun _ hx => (by rw [cell_bl hx.2]; rfl)) ?_
                  refine t_fieldAddr rfl fo_229_2_SeK rfl ?_
                  first | refine t_ldb rfl ag_3_SeK rfl True.intro (by first | exact at0 | exact at1 | exact at2 | exact at3 | exact at4 | exact at5 | exact at6 | exact at7 | exact at8 | exact at9) rfl ?_ | refine t_ld rfl ag_3_SeK rfl (fun _ hx => (by rw [cell_bl hx.1]; rfl)) ?_ | refine t_ld rfl ag_3_SeK rfl (fun _ hx => (by rw [cell_bl hx.2]; rfl)) ?_
                  refine t_fieldAddr rfl fo_229_0_SeK rfl ?_
                  first | refine t_ldb rfl ag_3_SeK rfl True.intro (by first | exact at0 | exact at1 | exact at2 | exact at3 | exact at4 | exact at5 | exact at6 | exact at7 | exact at8 | exact at9) rfl ?_ | refine t_ld rfl ag_3_SeK rfl (fun _ hx => (by rw [cell_bl hx.1]; rfl)) ?_ | refine t_ld rfl ag_3_SeK rfl (fun _ hx => (by rw [cell_bl hx.2]; rfl)) ?_
                  refine t_indexAddr rfl el_203_SeK sz_3_SeK rfl rfl (by omega) (by omega) ?_
                  refine t_nil ?_
                  replace H := H.drew
                  refine op_str v (fun q => .int .i64 (upd by' v (x : Int) q)) (.int _ _) rfl sz_3_SeK rfl rfl rfl H at1 (by simp) (by omega) (by rw [upd_same]) (fun q _ hq => by rw [upd_ne hq]) ?_
                  rintro w H
                  refine op_nil (at_segz rfl ?_)
                  refine seg_nil ?_
                  refine at_block (at_then ?_)
                  refine W_region ?_
                  refine op_add_i64 rfl rfl rfl (by omega) (by omega) ?_
                  refine op_move rfl (.int _ _) rfl ?_
                  refine op_nil (at_then ?_)
                  exact ⟨(i + 1, upd by' v (x : Int)), rfl, ⟨rfl, trivial⟩, ⟨by dsimp only; omega, (hv ▸ B.put hall hg).congr hsub, H.tail⟩, by dsimp only; omega⟩
                · intro h5
                  replace h5 := dec_f h5
                  refine W_skip (at_block (at_then ?_))
                  refine W_region ?_
                  refine op_add_i64 rfl rfl rfl (by omega) (by omega) ?_
                  refine op_move rfl (.int _ _) rfl ?_
                  refine op_nil (at_then ?_)
                  exact ⟨(i + 1, by'), rfl, ⟨rfl, trivial⟩, ⟨by dsimp only; omega, hnot h4, H.tail⟩, by dsimp only; omega⟩
        · intro h2
          replace h2 := dec_f h2
          refine W_exit (exit_then (exit_then (exit_here (at_block (at_then ?_)))))
          refine W_region ?_
          refine op_add_i64 rfl rfl rfl (by omega) (by omega) ?_
          refine op_move rfl (.int _ _) rfl ?_
          refine op_nil (at_then ?_)
          have hiL : i = La.length := by omega
          refine ⟨(u + 1, by'), rfl, ⟨rfl, trivial⟩, ⟨by dsimp only; omega, B.congr fun y hy => ?_, H⟩, by dsimp only; omega⟩
          rw [hiL, List.take_length]
          rcases Nat.lt_or_ge (g.u y) u with h7 | h7
          · exact .inl ⟨h7, hy.2⟩
          · have hyu : g.u y = u := by have := hy.1; dsimp only at this; omega
            exact .inr (by rw [hLa, ← hyu]; exact hy.2)
    · intro h1
      replace h1 := dec_f h1
      refine W_exit (exit_then (exit_then (exit_here (leave0n rfl rfl ?_))))
      obtain rfl : u = n := by omega
      exact ⟨rfl, by', B, H⟩

end Go.Proofs.YtapphbmlkdhnmaaGreat

/- The arcs that leave each node, in arrays of their own. -/
namespace Go.Proofs.YtapphbmlkdhnmaaGreat
open Go.GV
attribute [local irreducible] Wops W Wq Wt

structure Slo where
  a : Option Addr
  n : Nat
  c : Nat
  full : List Value
def sloV (s : Slo) : Value := .slice s.a s.n s.c
abbrev sloE (s : Slo) : List (Nat × Obj) := ent s.a 229 s.full
abbrev outT (nn : Nat) (st : Nat → Slo) : List Value := (List.range nn).map fun u => sloV (st u)
/-- The table of the arrays, and the arrays. oth: blocks that are none of theirs. -/
structure OutR (w0 w : World) (oo nn : Nat) (g : Gr) (p : Nat → Int) (st : Nat → Slo) (sel : Nat → List Nat) (oth : Nat → Prop) : Prop where
  tbl : w.heap[oo]? = some (Bl 230 (outT nn st))
  os : ∀ u, u < nn → OS (st u).a (st u).n (st u).c 4 (st u).full ((sel u).flatMap (rowA g p))
  blk : ∀ u, u < nn → ∀ y ∈ sloE (st u), w.heap[y.1]? = some y.2 ∧ w0.heap.size ≤ y.1 ∧ ¬ oth y.1 ∧ y.1 ≠ oo
  ne : ∀ u v, u < nn → v < nn → u ≠ v → ∀ y ∈ sloE (st u), ∀ z ∈ sloE (st v), y.1 ≠ z.1
def outM (oo nn : Nat) (st : Nat → Slo) : Mt := fun x => x = oo ∨ ∃ u, u < nn ∧ ∃ y ∈ sloE (st u), y.1 = x
theorem OutR.keep {w0 w w' : World} {oo nn : Nat} {g : Gr} {p : Nat → Int} {st : Nat → Slo} {sel : Nat → List Nat} {oth : Nat → Prop} (R : OutR w0 w oo nn g p st sel oth) {S : List Nat} (h : Ext S w w') (hS : ∀ x ∈ S, ¬ outM oo nn st x) : OutR w0 w' oo nn g p st sel oth :=
  ⟨h.to R.tbl fun hm => hS _ hm (.inl rfl), R.os, fun u hu y hy => ⟨h.to (R.blk u hu y hy).1 fun hm => hS _ hm (.inr ⟨u, hu, y, hy, rfl⟩), (R.blk u hu y hy).2⟩, R.ne⟩
def stS (st : Nat → Slo) (u : Nat) (s : Slo) : Nat → Slo := fun q => if q = u then s else st q
theorem stS_same (st : Nat → Slo) (u : Nat) (s : Slo) : stS st u s u = s := if_pos rfl
theorem stS_ne {st : Nat → Slo} {u : Nat} {s : Slo} {q : Nat} (h : q ≠ u) : stS st u s q = st q := if_neg h
theorem OutR.step {w0 w w' : World} {oo nn : Nat} {g : Gr} {p : Nat → Int} {st : Nat → Slo} {sel sel' : Nat → List Nat} {oth : Nat → Prop} (R : OutR w0 w oo nn g p st sel oth) {u : Nat} (hu : u < nn) {s : Slo} (hoth : ∀ x, oth x → x < w.heap.size) (h0 : w0.heap.size ≤ w.heap.size)
    (H : Ctx w ((oo :: (sloE (st u)).map (·.1))) w' ((oo, Bl 230 (outT nn (stS st u s))) :: sloE s)) (O : OS s.a s.n s.c 4 s.full ((sel' u).flatMap (rowA g p))) (hsel : ∀ q, q ≠ u → sel' q = sel q) :
    OutR w0 w' oo nn g p (stS st u s) sel' oth ∧ ∀ x, outM oo nn (stS st u s) x → outM oo nn st x ∨ w.heap.size ≤ x := by
  have hlt : ∀ q, q < nn → ∀ y ∈ sloE (st q), y.1 < w.heap.size := fun q hq y hy => heap_lt (R.blk q hq y hy).1
  have hoo := heap_lt R.tbl
  have hnd := (List.pairwise_cons.1 H.nd).1
  have hnew : ∀ y ∈ sloE s, (∃ z ∈ sloE (st u), z.1 = y.1) ∨ w.heap.size ≤ y.1 := fun y hy => by
    rcases H.own y (List.mem_cons_of_mem _ hy) with h | h
    · rcases List.mem_cons.1 h with h | h
      · exact absurd h.symm (hnd y hy)
      · obtain ⟨z, hz, he⟩ := List.mem_map.1 h
        exact .inl ⟨z, hz, he⟩
    · exact .inr h
  have hout : ∀ q, q < nn → q ≠ u → ∀ y ∈ sloE (st q), y.1 ∉ oo :: (sloE (st u)).map (·.1) := fun q hq hqu y hy hm => by
    rcases List.mem_cons.1 hm with h | h
    · exact (R.blk q hq y hy).2.2.2 h
    · obtain ⟨z, hz, he⟩ := List.mem_map.1 h
      exact R.ne q u hq hu hqu y hy z hz he.symm
  refine ⟨⟨H.get at0, fun q hq => ?_, fun q hq y hy => ?_, fun q v hq hv hqv y hy z hz => ?_⟩, fun x hx => ?_⟩
  · by_cases e : q = u
    · subst e; rw [stS_same]; exact O
    · rw [stS_ne e, hsel q e]; exact R.os q hq
  · by_cases e : q = u
    · subst e
      rw [stS_same] at hy
      refine ⟨H.blk y (List.mem_cons_of_mem _ hy), ?_, ?_, fun h => hnd y hy h.symm⟩
      · rcases hnew y hy with ⟨z, hz, he⟩ | h
        · rw [← he]; exact (R.blk q hq z hz).2.1
        · omega
      · rcases hnew y hy with ⟨z, hz, he⟩ | h
        · rw [← he]; exact (R.blk q hq z hz).2.2.1
        · exact fun ho => by have := hoth _ ho; omega
    · rw [stS_ne e] at hy
      obtain ⟨h1, h2, h3, h4⟩ := R.blk q hq y hy
      exact ⟨H.ext.to h1 (hout q hq e y hy), h2, h3, h4⟩
  · by_cases e : q = u
    · subst e
      rw [stS_same] at hy
      rw [stS_ne (Ne.symm hqv)] at hz
      rcases hnew y hy with ⟨t, ht, he⟩ | h
      · rw [← he]; exact R.ne q v hq hv hqv t ht z hz
      · have := hlt v hv z hz; omega
    · rw [stS_ne e] at hy
      by_cases e2 : v = u
      · subst e2
        rw [stS_same] at hz
        rcases hnew z hz with ⟨t, ht, he⟩ | h
        · rw [← he]; exact R.ne q v hq hv hqv y hy t ht
        · have := hlt q hq y hy; omega
      · rw [stS_ne e2] at hz
        exact R.ne q v hq hv hqv y hy z hz
  · rcases hx with h | ⟨q, hq, y, hy, rfl⟩
    · exact .inl (.inl h)
    · by_cases e : q = u
      · subst e
        rw [stS_same] at hy
        rcases hnew y hy with ⟨t, ht, he⟩ | h
        · exact .inl (.inr ⟨q, hq, t, ht, he⟩)
        · exact .inr h
      · rw [stS_ne e] at hy
        exact .inl (.inr ⟨q, hq, y, hy, rfl⟩)
/-- What may be lent of it for one node. -/
theorem OutR.ctx {w0 w : World} {oo nn : Nat} {g : Gr} {p : Nat → Int} {st : Nat → Slo} {sel : Nat → List Nat} {oth : Nat → Prop} (R : OutR w0 w oo nn g p st sel oth) {u : Nat} (hu : u < nn) : Ctx w (oo :: (sloE (st u)).map (·.1)) w ((oo, Bl 230 (outT nn st)) :: sloE (st u)) := by
  refine ⟨.refl _ _, fun x hx => ?_, List.pairwise_cons.2 ⟨fun y hy h => (R.blk u hu y hy).2.2.2 h.symm, ent_nd⟩, fun x hx => .inl ?_⟩
  · rcases List.mem_cons.1 hx with rfl | hx
    · exact R.tbl
    · exact (R.blk u hu x hx).1
  · rcases List.mem_cons.1 hx with rfl | hx
    · exact List.mem_cons_self ..
    · exact List.mem_cons_of_mem _ (List.mem_map.2 ⟨x, hx, rfl⟩)
def selL (g : Gr) (l : List Nat) (u : Nat) : List Nat := l.filter fun a => decide (g.u a = u)
theorem selL_snoc {g : Gr} {l : List Nat} {i a : Nat} (h : l[i]? = some a) : selL g (l.take (i + 1)) (g.u a) = selL g (l.take i) (g.u a) ++ [a] ∧ ∀ q, q ≠ g.u a → selL g (l.take (i + 1)) q = selL g (l.take i) q := by
  unfold selL
  rw [take_snoc h]
  refine ⟨by rw [List.filter_append]; congr 1; rw [List.filter_cons, decide_eq_true rfl]; rfl, fun q hq => ?_⟩
  rw [List.filter_append, List.filter_cons, decide_eq_false (Ne.symm hq)]
  simp

end Go.Proofs.YtapphbmlkdhnmaaGreat

/- Plain law of shortest ways: what the labels and the last arcs tell in the end; how long the heap may get. -/
namespace Go.Proofs.YtapphbmlkdhnmaaGreat
open Go.GV

theorem bys_of {g : Gr} {cap x p : Nat → Int} {src : List Nat} {n : Nat} {m : Int} {s : Lb} {by' : Nat → Int} {all done : Nat → Prop} (D : Done (arcL g cap x p) src n m s) (hA : Arcs (arcL g cap x p) n m) (B : BI g p s all done by') (hall : ∀ a, all a → a < 2 * g.E ∧ 0 < roomA cap x a) (hdone : ∀ a, a < 2 * g.E → 0 < roomA cap x a → done a) :
    Bys g cap x p s fun v => if by' v = -1 then none else some (by' v).toNat := by
  have hmem : ∀ a, a < 2 * g.E → 0 < roomA cap x a → (g.u a, g.v a, g.len p a) ∈ arcL g cap x p := fun a h1 h2 => arcL_mem.2 ⟨a, h1, h2, rfl⟩
  refine ⟨fun v hv => ?_, fun v hd hh => ?_⟩
  · dsimp only
    by_cases e : by' v = -1
    · rw [if_pos e]
    · exfalso
      rcases B.val v with h | ⟨a, _, ha, ⟨h1, h2, h3, h4⟩, hva⟩
      · exact e h
      · obtain ⟨ha1, ha2⟩ := hall a ha
        have hl := (hA _ (hmem a ha1 ha2)).2.2.1
        dsimp only at hl
        rw [hva] at h2 h3
        rcases hv with hv | hv
        · have := D.J.low (g.u a)
          omega
        · exact h2 hv
  · obtain ⟨b, hb, hbv, hb1, hb2, hb3⟩ := D.pre v hd hh
    obtain ⟨a, ha1, ha2, rfl⟩ := arcL_mem.1 hb
    dsimp only at hbv hb1 hb2 hb3
    have hg : goodA g p s a := ⟨hb1, by rw [hbv]; exact hh, by rw [hbv]; exact hb2, by rw [hbv]; exact hb3⟩
    have hne := B.in' a (hdone a ha1 ha2) hg
    rw [hbv] at hne
    rcases B.val v with h | ⟨a', hby, ha', ⟨h1, h2, h3, h4⟩, hva⟩
    · exact absurd h hne
    · obtain ⟨q1, q2⟩ := hall a' ha'
      refine ⟨a', by dsimp only; rw [if_neg hne, hby]; rfl, ⟨q1, q2, h1, by rw [hva]; exact hd, h3, h4⟩, hva⟩
theorem psi_start {n : Nat} {A : List Ar} {src : List Nat} {d : Int} (hd : 0 ≤ d) (hA : ∀ v, v < n → degA A v ≤ d) : psi n A (-1) (lb0 src) (itemsL src) ≤ src.length + n * (d * (n + 1)) := by
  have hg : ∀ v, gv n (-1) (lb0 src) (itemsL src) v = (n : Int) + 1 := fun v => by
    unfold gv
    rw [if_neg]
    rintro ⟨h1, h2⟩
    unfold lb0 at h1 h2
    dsimp only at h1 h2
    split at h1 <;> split at h2 <;> omega
  have h1 := sum_le (f := fun v => degA A v * gv n (-1) (lb0 src) (itemsL src) v) (g := fun _ => d * ((n : Int) + 1)) (k := n) fun i hi => by
    rw [hg]; exact Int.mul_le_mul_of_nonneg_right (hA i hi) (by omega)
  have h2 : ∀ (c : Int) (k : Nat), sumTo (fun _ => c) k = k * c := fun c k => by
    induction k with
    | zero => show (0 : Int) = ((0 : Nat) : Int) * c; rw [show ((0 : Nat) : Int) = 0 from rfl, Int.zero_mul]
    | succ k ih =>
      show sumTo (fun _ => c) k + c = _
      rw [ih, Int.natCast_add, Int.add_mul]; simp
  rw [h2] at h1
  unfold psi itemsL
  rw [List.length_map]
  have h3 : sumTo (fun v => degA A v * gv n (-1) (lb0 src) (List.map (fun v => ((0 : Int), v)) src) v) n ≤ (n : Int) * (d * ((n : Int) + 1)) := h1
  omega

theorem go_fold {A : List Ar} {src : List Nat} {n : Nat} {m D : Int} {u : Nat} (hA : Arcs A n m) (hm : 0 ≤ m) (hn : n ≤ 60) (hD : 0 ≤ D) : ∀ (l dn : List Ar) (s : Lb) (hp : List Tg), DJ A src n m s → Clo A s hp u dn → (∀ a ∈ l, a ∈ A ∧ a.1 = u) → s.d u = D → PI n D s hp →
    DJ A src n m (l.foldl relP (s, hp)).1 ∧ Clo A (l.foldl relP (s, hp)).1 (l.foldl relP (s, hp)).2 u (dn ++ l) ∧ (l.foldl relP (s, hp)).1.d u = D ∧ PI n D (l.foldl relP (s, hp)).1 (l.foldl relP (s, hp)).2 ∧ psi n A D (l.foldl relP (s, hp)).1 (l.foldl relP (s, hp)).2 ≤ psi n A D s hp + l.length
  | [], dn, s, hp, J, K, _, hu, P => ⟨J, by simpa using K, hu, P, by simp⟩
  | a :: l, dn, s, hp, J, K, hl, hu, P => by
    obtain ⟨ha, hau⟩ := hl a (List.mem_cons_self ..)
    obtain ⟨J1, K1, h1, h2, -⟩ := DJ.relax hA hm hn J K ha hau (by rw [hu]; omega)
    obtain ⟨P1, h3⟩ := P.relax (A := A) (a := a) (by rw [hau]; exact hu) hD (hA a ha).2.2.1 J.low fun h => J1.hops h
    obtain ⟨r1, r2, r3, r4, r5⟩ := go_fold hA hm hn hD l (dn ++ [a]) (relS s a) (relH s a hp) J1 K1 (fun b hb => hl b (List.mem_cons_of_mem _ hb)) (by rw [h1]; exact hu) P1
    rw [List.append_assoc] at r2
    refine ⟨r1, r2, r3, r4, ?_⟩
    rw [List.length_cons, List.foldl_cons]
    have h4 : relP (s, hp) a = (relS s a, relH s a hp) := rfl
    rw [h4]
    omega

end Go.Proofs.YtapphbmlkdhnmaaGreat

/- Plain law of shortest ways: the main loop's invariant; numbers that fit. -/
namespace Go.Proofs.YtapphbmlkdhnmaaGreat
open Go.GV

/-- What holds between two rounds. -/
structure MI (A : List Ar) (src : List Nat) (n : Nat) (m D : Int) (s : Lb) (hp : List Tg) : Prop where
  dj : DJ A src n m s
  clo : Clo A s hp 0 A
  pi : PI n D s hp
theorem Clo.any {A : List Ar} {s : Lb} {hp : List Tg} {u : Nat} (K : Clo A s hp u A) (v : Nat) : Clo A s hp v A := fun x hx => (K x hx).imp id fun h a ha hax _ => h a ha hax fun _ => ha
theorem Clo.perm {A : List Ar} {s : Lb} {hp hq : List Tg} {u : Nat} {dn : List Ar} (K : Clo A s hp u dn) (h : hp.Perm hq) : Clo A s hq u dn := fun x hx => (K x hx).imp (fun h' => h.mem_iff.1 h') id
theorem MI.perm {A : List Ar} {src : List Nat} {n : Nat} {m D : Int} {s : Lb} {hp hq : List Tg} (M : MI A src n m D s hp) (h : hp.Perm hq) : MI A src n m D s hq := ⟨M.dj, M.clo.perm h, M.pi.perm h⟩
theorem MI.start {A : List Ar} {src : List Nat} {n : Nat} {m : Int} (hs : ∀ v ∈ src, v < n) (hnd : src.Nodup) : MI A src n m (-1) (lb0 src) (itemsL src) := by
  refine ⟨DJ.start hs, fun v hv => ?_, fun t ht => ?_, fun t ht => ?_, fun v hv => ?_⟩
  · have hm : v ∈ src := by
      rcases Decidable.em (v ∈ src) with h | h
      · exact h
      · exact absurd (if_neg h) hv
    have : (lb0 src).d v = 0 := if_pos hm
    rw [this]
    exact .inl (List.mem_map.2 ⟨v, hm, rfl⟩)
  · obtain ⟨v, _, rfl⟩ := List.mem_map.1 ht
    show (-1 : Int) ≤ 0
    omega
  · obtain ⟨v, hv, rfl⟩ := List.mem_map.1 ht
    have : (lb0 src).d v = 0 := if_pos hv
    dsimp only
    rw [this]
    omega
  · have hm : v ∈ src := by
      rcases Decidable.em (v ∈ src) with h | h
      · exact h
      · exact absurd (if_neg h) hv
    have h1 : (itemsL src).Nodup := List.Pairwise.map _ (fun a b h e => h (Prod.mk.inj e).2) hnd
    have h2 := List.nodup_iff_count.1 h1 ((lb0 src).d v, v)
    have h3 := hs v hm
    show _ + 0 ≤ n
    omega
section
variable {A : List Ar} {src : List Nat} {n : Nat} {m D : Int} {s : Lb} {hp : List Tg} {t : Tg}
theorem MI.lt (hA : Arcs A n m) (M : MI A src n m D s hp) {v : Nat} (hv : s.d v ≠ -1) : v < n := by
  by_cases h : s.h v = 0
  · exact (M.dj.src' v (M.dj.zero v hv h)).1
  · obtain ⟨a, ha, h1, _⟩ := M.dj.pre v hv h
    rw [← h1]
    exact (hA a ha).2.1
theorem MI.top (hA : Arcs A n m) (M : MI A src n m D s (t :: hp)) : t.2 < n := M.lt hA (M.pi.item t (List.mem_cons_self ..)).1
theorem MI.drop (hA : Arcs A n m) (M : MI A src n m D s (t :: hp)) (hmin : ∀ x ∈ hp, t.1 ≤ x.1) (hne : t.1 ≠ s.d t.2) : MI A src n m t.1 s hp ∧ psi n A t.1 s hp + 1 ≤ psi n A D s (t :: hp) := by
  obtain ⟨P1, h1, -⟩ := M.pi.pop (A := A) hmin (M.top hA)
  refine ⟨⟨M.dj, fun v hv => (M.clo v hv).imp (fun h => ?_) id, P1⟩, h1⟩
  rcases List.mem_cons.1 h with h | h
  · exact absurd (by rw [← h]) hne
  · exact h
theorem MI.key0 (M : MI A src n m D s (t :: hp)) (he : t.1 = s.d t.2) : 0 ≤ t.1 := by
  have h1 := (M.pi.item t (List.mem_cons_self ..)).1
  have := M.dj.low t.2
  omega
theorem MI.go (hA : Arcs A n m) (hm : 0 ≤ m) (hn : n ≤ 60) (M : MI A src n m D s (t :: hp)) (hmin : ∀ x ∈ hp, t.1 ≤ x.1) (he : t.1 = s.d t.2) {l l1 : List Ar} (hl : A.filter (fun a => decide (a.1 = t.2)) = l ++ l1) :
    DJ A src n m (l.foldl relP (s, hp)).1 ∧ (l1 = [] → MI A src n m t.1 (l.foldl relP (s, hp)).1 (l.foldl relP (s, hp)).2 ∧ psi n A t.1 (l.foldl relP (s, hp)).1 (l.foldl relP (s, hp)).2 + 1 ≤ psi n A D s (t :: hp)) := by
  obtain ⟨P1, -, h1⟩ := M.pi.pop (A := A) hmin (M.top hA)
  have hla : ∀ a ∈ l, a ∈ A ∧ a.1 = t.2 := fun a ha => by
    have h2 : a ∈ A.filter (fun a => decide (a.1 = t.2)) := by rw [hl]; exact List.mem_append_left _ ha
    obtain ⟨h3, h4⟩ := List.mem_filter.1 h2
    exact ⟨h3, of_decide_eq_true h4⟩
  have K0 : Clo A s hp t.2 [] := fun v hv => by
    by_cases e : v = t.2
    · exact .inr fun a _ hav hd => by cases hd e
    · refine (M.clo v hv).imp (fun h => ?_) fun h a ha hav _ => h a ha hav fun _ => ha
      rcases List.mem_cons.1 h with h | h
      · exact absurd (by rw [← h]) e
      · exact h
  obtain ⟨r1, r2, r3, r4, r5⟩ := go_fold hA hm hn (M.key0 he) l [] s hp M.dj K0 hla he.symm P1
  refine ⟨r1, fun hl1 => ?_⟩
  rw [hl1, List.append_nil] at hl
  have KK : Clo A (l.foldl relP (s, hp)).1 (l.foldl relP (s, hp)).2 t.2 A := fun v hv => (r2 v hv).imp id fun h a ha hav hd => h a ha hav fun e => by
    rw [List.nil_append, ← hl]
    exact List.mem_filter.2 ⟨ha, decide_eq_true (hav.trans e)⟩
  refine ⟨⟨r1, KK.any 0, r4⟩, ?_⟩
  have h2 := h1 he
  have h3 : degA A t.2 = (l.length : Nat) := by unfold degA; rw [hl]
  omega
theorem MI.ends (M : MI A src n m D s []) : Done A src n m s := M.dj.ends M.clo
end
theorem arcL_map (g : Gr) (cap x p : Nat → Int) : arcL g cap x p = (roomL cap x g.E).map (arOf g p) := rfl
theorem arcL_filter (g : Gr) (cap x p : Nat → Int) (u : Nat) : (arcL g cap x p).filter (fun a => decide (a.1 = u)) = (selL g (roomL cap x g.E) u).map (arOf g p) := by
  rw [arcL_map, List.filter_map]; rfl

/-- Numbers that fit, as the program asks for them. -/
theorem fine_of_fits {N : Int} {es : List Ed} {fl pot : List Int} (h : fitsN N es fl pot = true) : Fine (grE N es) (capE es) (flE fl) (potE pot) := by
  unfold fitsN at h
  simp only [Bool.and_eq_true] at h
  obtain ⟨hw, _, ha⟩ := h
  obtain ⟨h1, _, h2⟩ := within_of hw
  refine ⟨fun i hi => ?_, fun a ha' hr => ?_⟩
  · obtain ⟨e, he⟩ := get_some (l := es) (i := i) hi
    obtain ⟨x, hx⟩ := get_some (l := fl) (i := i) (by rw [h1]; exact hi)
    have := h2 i e x he hx
    unfold flE capE
    rw [getD_of he, getD_of hx]
    exact this
  · have := List.all_eq_true.1 ha a (List.mem_filter.2 ⟨List.mem_range.2 ha', decide_eq_true hr⟩)
    exact of_decide_eq_true this
theorem fits_of_fine {N : Int} {es : List Ed} {fl pot : List Int} (hw : withinN N es fl = true) (hp : potN N pot = true) (h : Fine (grE N es) (capE es) (flE fl) (potE pot)) : fitsN N es fl pot = true := by
  unfold fitsN
  rw [hw, hp, Bool.true_and, Bool.true_and]
  refine List.all_eq_true.2 fun a ha => ?_
  obtain ⟨h1, h2⟩ := List.mem_filter.1 ha
  exact decide_eq_true (h.fit a (List.mem_range.1 h1) (of_decide_eq_true h2))
theorem len_bnd {N : Int} {es : List Ed} {pot : List Int} (hr : rightN N es = true) {B : Int} (hB : ∀ v, -B ≤ potE pot v ∧ potE pot v ≤ B) (a : Nat) : (grE N es).len (potE pot) a ≤ 1000 + 2 * B ∧ -(1000 + 2 * B) ≤ (grE N es).len (potE pot) a := by
  have h1 : -1000 ≤ (grE N es).c a ∧ (grE N es).c a ≤ 1000 := by
    have h2 : -1000 ≤ (grE N es).co (a / 2) ∧ (grE N es).co (a / 2) ≤ 1000 := by
      show -1000 ≤ (es.getD (a / 2) e0).cost ∧ (es.getD (a / 2) e0).cost ≤ 1000
      rcases Nat.lt_or_ge (a / 2) es.length with h | h
      · obtain ⟨e, he⟩ := get_some (l := es) h
        have := edge_of ((right_of hr).2.2.2.1 e (List.mem_of_getElem? he))
        rw [getD_of he]
        omega
      · rw [List.getD_eq_getElem?_getD, List.getElem?_eq_none h]
        exact ⟨by decide, by decide⟩
    unfold Gr.c
    split
    · exact h2
    · omega
  have h3 := hB ((grE N es).u a)
  have h4 := hB ((grE N es).v a)
  unfold Gr.len
  omega
theorem pot_bnd {N : Int} {pot : List Int} (hp : potN N pot = true) (v : Nat) : -1099511627776 ≤ potE pot v ∧ potE pot v ≤ 1099511627776 := by
  unfold potE
  rcases Nat.lt_or_ge v pot.length with h | h
  · obtain ⟨x, hx⟩ := get_some (l := pot) h
    rw [getD_of hx]
    exact (pot_in hp).2 v x hx
  · rw [List.getD_eq_getElem?_getD, List.getElem?_eq_none h]
    exact ⟨by decide, by decide⟩
theorem DJ.dist {A : List Ar} {src : List Nat} {n : Nat} {m : Int} {s : Lb} (J : DJ A src n m s) (hm : 0 ≤ m) (hn : n ≤ 60) (v : Nat) : -1 ≤ s.d v ∧ s.d v ≤ 60 * m ∧ s.h v ≤ 60 := by
  by_cases h : s.d v = -1
  · have h1 := J.none' v h
    have : 0 ≤ 60 * m := by omega
    omega
  · have h1 := J.hops h
    have h2 := J.bnd v h
    have h3 := J.low v
    have h4 : (s.h v : Int) * m ≤ 60 * m := Int.mul_le_mul_of_nonneg_right (by omega) hm
    omega

end Go.Proofs.YtapphbmlkdhnmaaGreat

/- Slices: clear. It holds for every program. -/
namespace Go.GV
open Go

section
variable {P : Program} {r : Option Nat} {ops rest : List Oper} {Q : Exit → Env → World → Prop} {e : Env} {w w0 : World} {S : List Nat} {L : List (Nat × Obj)}
  {dst : Option Tmp} {ty : TypeId} {pos : String} {af : Array Edge} {g : Option (Nat × Bool)}

theorem zeroCells_list (z : Array Value) (n : Nat) : (Builtin.zeroCells z n).toList = (List.replicate n z.toList).flatten := by
  have hr : (List.replicate n z.toList).flatten = (List.replicate n z.toList).flatMap id := List.flatMap_id.symm
  rw [hr]
  rcases Nat.eq_zero_or_pos z.size with h | h
  · have h2 : z.toList = [] := by rw [← List.length_eq_zero_iff]; simpa using h
    simp [Builtin.zeroCells, h, h2]
  · refine List.ext_getElem? fun j => ?_
    rw [flat_get (s := z.size) (fun x hx => by rw [(List.mem_replicate.1 hx).2]; simp) h j]
    unfold Builtin.zeroCells
    simp only [Array.toList_map, List.getElem?_map, Array.toList_range, List.getElem?_replicate]
    have hm : j % z.size < z.size := Nat.mod_lt _ h
    by_cases hj : j < n * z.size
    · rw [List.getElem?_eq_getElem (by simpa using hj), if_pos (Nat.div_lt_of_lt_mul (by rw [Nat.mul_comm]; exact hj))]
      simp [hm]
    · rw [List.getElem?_eq_none (by simpa using hj), if_neg (fun h7 => hj (by have := (Nat.div_lt_iff_lt_mul h).1 h7; exact this))]
      rfl

/-- clear of a slice. -/
theorem op_clearS {t el : TypeId} {x : Operand} {b o k n c s : Nat} {t2 : TypeId} {l zl : List Value} (hg : wants ⟨dst, .call ⟨.builtin .clear, #[x], #[t]⟩, ty, pos, af, g⟩ ops e = true) (hu : elemT P t = some el) (hz : zcells P el = some zl) (hzl : zl.length = s) (h1 : ∀ v ∈ zl, oneCell v = true)
    (hx : ev e x = .slice (some ⟨b, o, none⟩) n c) (H : Ctx w0 S w L) (hk : L[k]? = some (b, Bl t2 l)) (hi : o + n * s ≤ l.length)
    (h : ∀ w', Ctx w0 S w' (L.set k (b, Bl t2 (over l o (List.replicate n zl).flatten))) → Wops P r ops Q rest (put e dst (.tuple #[])) w') :
    Wops P r ops Q (⟨dst, .call ⟨.builtin .clear, #[x], #[t]⟩, ty, pos, af, g⟩ :: rest) e w := by
  obtain ⟨z, hz1, hz2⟩ := run_zero hz w
  have hlen : (List.replicate n zl).flatten.length = n * s := by simp [hzl]
  obtain ⟨w', hr, he, hb⟩ := run_storeCells (P := P) (o := o) (List.replicate n zl).flatten l w 0 (fun v hv => by
    obtain ⟨y, hy, hvy⟩ := List.mem_flatten.1 hv
    obtain ⟨-, rfl⟩ := List.mem_replicate.1 hy
    exact h1 v hvy) (H.get hk) (by omega)
  cases n with
  | zero =>
    have hw : Ctx w0 S w (L.set k (b, Bl t2 (over l o (List.replicate 0 zl).flatten))) := by
      have hset : L.set k (b, Bl t2 l) = L := by
        obtain ⟨h1, h2⟩ := List.getElem?_eq_some_iff.1 hk
        rw [← h2]; exact List.set_getElem_self h1
      show Ctx w0 S w (L.set k (b, Bl t2 l))
      rw [hset]; exact H
    refine op_val (w' := w) (v := .tuple #[]) hg rfl ?_ (h w hw)
    simp [execOp, resolve, invoke, builtin, hx, Builtin.clear_, run_under (elemT_u hu)]
  | succ n =>
    refine op_val (w' := w') (v := .tuple #[]) hg rfl ?_ (h w' (H.turn hk _ he (by simpa using hb)))
    simp [execOp, resolve, invoke, builtin, hx, Builtin.clear_, run_under (elemT_u hu), hz1, zeroCells_list, hz2, hr]
end
end Go.GV
