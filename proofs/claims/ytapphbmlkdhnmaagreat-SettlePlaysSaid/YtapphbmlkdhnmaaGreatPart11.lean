/- Part 11 of the proof. -/
import Derived.Test.YtapphbmlkdhnmaaGreatPart10
/- Sorting numbers of 64 bits: parted by a pivot. -/
namespace Go.Proofs.YtapphbmlkdhnmaaGreat
open Go.GV
theorem ag_24_SoD : aggB Tryz.prog 24 = some false := by kernel_rfl
theorem ca_206_SoD : callable Tryz.prog 206 = true := by kernel_rfl
theorem el_25_SoD : elemT Tryz.prog 25 = some 24 := by kernel_rfl
theorem mixed_SoD : Tryz.prog.follows .mixedOrders = true := by kernel_rfl
theorem sz_24_SoD : tsize Tryz.prog 24 = some 1 := by kernel_rfl
attribute [local irreducible] Wops W Wq Wt

/-- What stands ahead of one is no greater, what stands behind it no less. -/
structure PartU (g : Nat → Int) (a mid b : Nat) : Prop where
  le : ∀ x, a ≤ x → x < mid → g x ≤ g mid
  ge : ∀ y, mid < y → y < b → g mid ≤ g y
theorem part_done {g : Nat → Int} {a j b : Nat} (hj : a ≤ j) (h1 : ∀ x, a < x → x ≤ j → g x < g a) (h2 : ∀ y, j < y → y < b → g a ≤ g y) : PartU (sw g j a) a j b := by
  have hv : sw g j a j = g a := sw_fst g j a
  refine ⟨fun x hx hxj => ?_, fun y hy hyb => ?_⟩
  · rw [hv]
    by_cases e : x = a
    · rw [e, sw_snd]
      exact Int.le_of_lt (h1 j (by omega) (Nat.le_refl _))
    · rw [sw_ne (by omega) e]; exact Int.le_of_lt (h1 x (by omega) (by omega))
  · rw [hv, sw_ne (by omega) (by omega)]; exact h2 y hy hyb
theorem part_step {g : Nat → Int} {a i j b : Nat} (h : a + 1 ≤ i ∧ i ≤ j + 1 ∧ j < b ∧ (∀ x, a < x → x < i → g x < g a) ∧ ∀ y, j < y → y < b → g a ≤ g y) (hij : i < j) (hi : g a ≤ g i) (hj : g j < g a) :
    a + 1 ≤ i + 1 ∧ i + 1 ≤ j - 1 + 1 ∧ j - 1 < b ∧ (∀ x, a < x → x < i + 1 → sw g i j x < sw g i j a) ∧ ∀ y, j - 1 < y → y < b → sw g i j a ≤ sw g i j y := by
  obtain ⟨h1, h2, h3, h4, h5⟩ := h
  have ha : sw g i j a = g a := sw_ne (by omega) (by omega)
  rw [ha]
  refine ⟨by omega, by omega, by omega, fun x hx hxi => ?_, fun y hy hyb => ?_⟩
  · by_cases e : x = i
    · rw [e, sw_fst]; exact hj
    · rw [sw_ne e (by omega)]; exact h4 x hx (by omega)
  · by_cases e : y = j
    · rw [e, sw_snd]; exact hi
    · rw [sw_ne (by omega) e]; exact h5 y (by omega) hyb

section
variable {w : World} {q n c m : Nat} {f : Nat → Int}
set_option maxRecDepth 20000 in
set_option maxHeartbeats 4000000 in
theorem partition_ok {a b p : Nat} (hd : w.heap[q]? = some (Bl 24 (tabU f m))) (hab : a < b) (hb : b ≤ n) (hn : n ≤ m) (hm : n ≤ 1000000000) (hp : a ≤ p ∧ p < b) :
    Ret Tryz.prog 208 #[.slice (some ⟨q, 0, none⟩) n c, .int .i64 (a : Int), .int .i64 (b : Int), .int .i64 (p : Int)] w fun v w' => ∃ (mid : Nat) (t : Bool) (g : Nat → Int), v = .tuple #[.int .i64 (mid : Int), .bool t] ∧ Sw a b f g ∧ a ≤ mid ∧ mid < b ∧ PartU g a mid b ∧ Ctx w [q] w' [(q, Bl 24 (tabU g m))] := by
  obtain ⟨w0, rfl⟩ : ∃ w0, w0 = w := ⟨_, rfl⟩
  have H := Ctx.start1 hd
  refine ret_of_W (fn := Tryz.f208) Tryz.func208 rfl [.slice (some ⟨q, 0, none⟩) n c, .int .i64 (a : Int), .int .i64 (b : Int), .int .i64 (p : Int)] rfl (by kernel_rfl) ?_
  refine W_rseq ?_
  refine op_assign rfl (.int _ _) rfl ?_
  refine op_assign rfl (.bool _) rfl ?_
  refine op_nil (at_then ?_)
  refine W_sseqz [([0, 1, 2, 3, 4, 5, 6, 7, 8, 9, 10, 11, 12], 13), ([14], 15)] (fun z => z.heap[q]? = some (Bl 24 (tabU (f) m))) [13, 15] mixed_SoD (by kernel_rfl) (H.drew.get at0) ?_
  refine seg_cons rfl rfl ?_
  refine t_move rfl (.slice _ _ _) rfl ?_
  refine t_move rfl (.int _ _) rfl ?_
  refine t_move rfl (.slice _ _ _) rfl ?_
  refine t_move rfl (.int _ _) rfl ?_
  refine t_move rfl (.slice _ _ _) rfl ?_
  refine t_move rfl (.int _ _) rfl ?_
  refine t_indexAddr rfl el_25_SoD sz_24_SoD rfl rfl (by omega) (by omega) ?_
  first | refine t_ldb rfl ag_24_SoD rfl True.intro (by first | exact at0 | exact at1 | exact at2 | exact at3 | exact at4 | exact at5 | exact at6 | exact at7 | exact at8 | exact at9) rfl ?_ | refine t_ld rfl ag_24_SoD rfl (fun _ hx => (cellU hx (by omega))) ?_
  refine t_move rfl (.slice _ _ _) rfl ?_
  refine t_move rfl (.int _ _) rfl ?_
  refine t_indexAddr rfl el_25_SoD sz_24_SoD rfl rfl (by omega) (by omega) ?_
  first | refine t_ldb rfl ag_24_SoD rfl True.intro (by first | exact at0 | exact at1 | exact at2 | exact at3 | exact at4 | exact at5 | exact at6 | exact at7 | exact at8 | exact at9) rfl ?_ | refine t_ld rfl ag_24_SoD rfl (fun _ hx => (cellU hx (by omega))) ?_
  refine t_indexAddr rfl el_25_SoD sz_24_SoD rfl rfl (by omega) (by omega) ?_
  refine t_nil ?_
  replace H := H.drew
  refine op_str (a) (fun z => .int .u64 (if z = a then (f) (p) else (f) z)) (.int _ _) rfl sz_24_SoD rfl rfl rfl H at0 (by omega) (by omega) (by rw [if_pos rfl]; exact congrArg (fun z => Value.int .u64 ((f) z)) (by omega)) (fun z _ hz => by rw [if_neg hz]) ?_
  rintro w H
  refine op_nil (at_segz rfl ?_)
  refine seg_cons rfl rfl ?_
  refine t_indexAddr rfl el_25_SoD sz_24_SoD rfl rfl (by omega) (by omega) ?_
  refine t_nil ?_
  refine op_str (p) (fun z => .int .u64 (sw (f) (a) (p) z)) (.int _ _) rfl sz_24_SoD rfl rfl rfl H at0 (by omega) (by omega) (by rw [sw_snd]; exact congrArg (fun z => Value.int .u64 ((f) z)) (by omega)) (fun z _ hz => by rw [sw_other hz]) ?_
  rintro w H
  refine op_nil (at_segz rfl ?_)
  refine seg_nil ?_
  have hS0 := (Sw.refl (a := a) (b := b) f).step a p ⟨by omega, by omega⟩ hp
  obtain ⟨g, hg⟩ : ∃ g, g = sw f a p := ⟨_, rfl⟩
  rw [← hg] at hS0 H
  have hi0 : a + 1 ≤ (a + 1) ∧ (a + 1) ≤ (b - 1) + 1 ∧ (b - 1) < b ∧ (∀ x, a < x → x < (a + 1) → (g) x < (g) a) ∧ ∀ y, (b - 1) < y → y < b → (g) a ≤ (g) y := ⟨Nat.le_refl _, by omega, by omega, fun x h1 h2 => by omega, fun y h1 h2 => by omega⟩
  refine W_rseq ?_
  refine op_move rfl (.int _ _) rfl ?_
  refine op_add_i64 rfl rfl rfl (by omega) (by omega) ?_
  rw [show (a : Int) + 1 = ((a + 1 : Nat) : Int) by omega]
  refine op_move rfl (.int _ _) rfl ?_
  refine op_sub_i64 rfl rfl rfl (by omega) (by omega) ?_
  rw [show (b : Int) - 1 = ((b - 1 : Nat) : Int) by omega]
  refine op_assign rfl (.int _ _) rfl ?_
  refine op_assign rfl (.int _ _) rfl ?_
  refine op_nil (at_then ?_)
  refine W_seq ?_
  refine W_block ?_
  refine W_loop 70367670436864 (α := Nat) (fun i => [(10, .int .i64 (i : Int))]) (fun i w' => (a + 1 ≤ i ∧ i ≤ (b - 1) + 1 ∧ (b - 1) < b ∧ (∀ x, a < x → x < i → (g) x < (g) a) ∧ ∀ y, (b - 1) < y → y < b → (g) a ≤ (g) y) ∧ Ctx w0 [q] w' [(q, Bl 24 (tabU (g) m))]) (fun i => b - i) (a + 1) rfl ?_ ?_ ?_
  · exact ⟨by first | rfl | exact congrArg (Value.int .i64) (by omega), trivial⟩
  · exact ⟨by assumption, H⟩
  · rintro i jx w ⟨hiv, H⟩
    refine W_seq ?_
    refine W_join 17591112302592 (α := Unit) (fun _ => [(43, .bool (decide (i ≤ b - 1 ∧ g i < g a)))]) (fun _ w' => Ctx w0 [q] w' [(q, Bl 24 (tabU (g) m))]) rfl ?_ ?_
    · skip
      refine W_tail 12 mixed_SoD (by kernel_rfl) rfl rfl ?_
      refine q_move rfl (.int _ _) rfl ?_
      refine q_move rfl (.int _ _) rfl ?_
      refine q_leq rfl rfl rfl ?_
      refine q_move rfl (.bool _) rfl ?_
      refine Wq_split 33 rfl ?_ ?_
      · intro h1
        replace h1 := dec_t h1
        refine q_move rfl (.slice _ _ _) rfl ?_
        refine q_move rfl (.int _ _) rfl ?_
        refine q_indexAddr rfl el_25_SoD sz_24_SoD rfl rfl (by omega) (by omega) ?_
        first | refine q_ldb rfl ag_24_SoD rfl (by rintro _ rfl; exact H.drew) (by first | exact at0 | exact at1 | exact at2 | exact at3 | exact at4 | exact at5 | exact at6 | exact at7 | exact at8 | exact at9) rfl ?_ | refine q_ld rfl ag_24_SoD rfl (by rintro _ rfl; exact ((cellU (H.drew.get at0) (by omega)))) ?_
        refine q_move rfl (.slice _ _ _) rfl ?_
        refine q_move rfl (.int _ _) rfl ?_
        refine q_indexAddr rfl el_25_SoD sz_24_SoD rfl rfl (by omega) (by omega) ?_
        first | refine q_ldb rfl ag_24_SoD rfl (by rintro _ rfl; exact H.drew) (by first | exact at0 | exact at1 | exact at2 | exact at3 | exact at4 | exact at5 | exact at6 | exact at7 | exact at8 | exact at9) rfl ?_ | refine q_ld rfl ag_24_SoD rfl (by rintro _ rfl; exact ((cellU (H.drew.get at0) (by omega)))) ?_
        refine q_nil ?_
        replace H := H.drew
        refine op_call rfl ca_206_SoD (less_ok _ _ _) rfl ?_
        rintro v w ⟨rfl, rfl⟩
        simp only [Int.toNat_natCast]
        refine op_pick1 rfl rfl (.bool _) rfl ?_
        refine op_nil (at_then ?_)
        exact ⟨(), rfl, ⟨congrArg Value.bool (by clear hiv; rw [Bool.eq_iff_iff]; simp_all; try omega), trivial⟩, H⟩
      · intro h2
        replace h2 := dec_f h2
        refine q_skip rfl ?_
        refine q_skip rfl ?_
        refine q_skip rfl ?_
        refine q_skip rfl ?_
        refine q_skip rfl ?_
        refine q_skip rfl ?_
        refine q_skip rfl ?_
        refine q_skip rfl ?_
        refine q_nil ?_
        replace H := H.drew
        refine op_skip rfl ?_
        refine op_pick0 rfl rfl (.bool _) rfl ?_
        refine op_nil (at_then ?_)
        exact ⟨(), rfl, ⟨congrArg Value.bool (by clear hiv; rw [Bool.eq_iff_iff]; simp_all; try omega), trivial⟩, H⟩
    · rintro - jy w H
      refine W_cond _ rfl ?_ ?_
      · intro hc
        have hc := of_decide_eq_true hc
        refine W_skip (at_then ?_)
        refine W_block ?_
        refine W_region ?_
        refine op_move rfl (.int _ _) rfl ?_
        refine op_add_i64 rfl rfl rfl (by omega) (by omega) ?_
        refine op_assign rfl (.int _ _) rfl ?_
        refine op_nil (at_block (at_then ?_))
        exact ⟨i + 1, rfl, ⟨congrArg (Value.int .i64) (by omega), trivial⟩, ⟨⟨by omega, by omega, by omega, fun x h1 h2 => (if e : x = i then by rw [e]; exact hc.2 else hiv.2.2.2.1 x h1 (by omega)), hiv.2.2.2.2⟩, H⟩, by omega⟩
      · intro hc
        have hc := of_decide_eq_false hc
        have hci := hc
        have hi0 := hiv
        refine W_exit (exit_then (exit_then (exit_here (at_then ?_))))
        refine W_seq ?_
        refine W_block ?_
        refine W_loop 9223301668110600192 (α := Nat) (fun j => [(11, .int .i64 (j : Int))]) (fun j w' => (a + 1 ≤ i ∧ i ≤ j + 1 ∧ j < b ∧ (∀ x, a < x → x < i → (g) x < (g) a) ∧ ∀ y, j < y → y < b → (g) a ≤ (g) y) ∧ Ctx w0 [q] w' [(q, Bl 24 (tabU (g) m))]) (fun j => j) (b - 1) rfl ?_ ?_ ?_
        · exact ⟨by first | rfl | exact congrArg (Value.int .i64) (by omega), trivial⟩
        · exact ⟨by assumption, H⟩
        · rintro j jx w ⟨hiv, H⟩
          refine W_seq ?_
          refine W_join 2305772640469516288 (α := Unit) (fun _ => [(60, .bool (decide (i ≤ j ∧ g a ≤ g j)))]) (fun _ w' => Ctx w0 [q] w' [(q, Bl 24 (tabU (g) m))]) rfl ?_ ?_
          · skip
            refine W_tail 12 mixed_SoD (by kernel_rfl) rfl rfl ?_
            refine q_move rfl (.int _ _) rfl ?_
            refine q_move rfl (.int _ _) rfl ?_
            refine q_leq rfl rfl rfl ?_
            refine q_move rfl (.bool _) rfl ?_
            refine Wq_split 49 rfl ?_ ?_
            · intro h3
              replace h3 := dec_t h3
              refine q_move rfl (.slice _ _ _) rfl ?_
              refine q_move rfl (.int _ _) rfl ?_
              refine q_indexAddr rfl el_25_SoD sz_24_SoD rfl rfl (by omega) (by omega) ?_
              first | refine q_ldb rfl ag_24_SoD rfl (by rintro _ rfl; exact H.drew) (by first | exact at0 | exact at1 | exact at2 | exact at3 | exact at4 | exact at5 | exact at6 | exact at7 | exact at8 | exact at9) rfl ?_ | refine q_ld rfl ag_24_SoD rfl (by rintro _ rfl; exact ((cellU (H.drew.get at0) (by omega)))) ?_
              refine q_move rfl (.slice _ _ _) rfl ?_
              refine q_move rfl (.int _ _) rfl ?_
              refine q_indexAddr rfl el_25_SoD sz_24_SoD rfl rfl (by omega) (by omega) ?_
              first | refine q_ldb rfl ag_24_SoD rfl (by rintro _ rfl; exact H.drew) (by first | exact at0 | exact at1 | exact at2 | exact at3 | exact at4 | exact at5 | exact at6 | exact at7 | exact at8 | exact at9) rfl ?_ | refine q_ld rfl ag_24_SoD rfl (by rintro _ rfl; exact ((cellU (H.drew.get at0) (by omega)))) ?_
              refine q_nil ?_
              replace H := H.drew
              refine op_call rfl ca_206_SoD (less_ok _ _ _) rfl ?_
              rintro v w ⟨rfl, rfl⟩
              simp only [Int.toNat_natCast]
              refine op_not rfl rfl ?_
              refine op_pick1 rfl rfl (.bool _) rfl ?_
              refine op_nil (at_then ?_)
              exact ⟨(), rfl, ⟨congrArg Value.bool (by clear hiv; rw [Bool.eq_iff_iff]; simp_all; try omega), trivial⟩, H⟩
            · intro h4
              replace h4 := dec_f h4
              refine q_skip rfl ?_
              refine q_skip rfl ?_
              refine q_skip rfl ?_
              refine q_skip rfl ?_
              refine q_skip rfl ?_
              refine q_skip rfl ?_
              refine q_skip rfl ?_
              refine q_skip rfl ?_
              refine q_nil ?_
              replace H := H.drew
              refine op_skip rfl ?_
              refine op_skip rfl ?_
              refine op_pick0 rfl rfl (.bool _) rfl ?_
              refine op_nil (at_then ?_)
              exact ⟨(), rfl, ⟨congrArg Value.bool (by clear hiv; rw [Bool.eq_iff_iff]; simp_all; try omega), trivial⟩, H⟩
          · rintro - jy w H
            refine W_cond _ rfl ?_ ?_
            · intro hc
              have hc := of_decide_eq_true hc
              refine W_skip (at_then ?_)
              refine W_block ?_
              refine W_region ?_
              refine op_move rfl (.int _ _) rfl ?_
              refine op_sub_i64 rfl rfl rfl (by omega) (by omega) ?_
              refine op_assign rfl (.int _ _) rfl ?_
              refine op_nil (at_block (at_then ?_))
              exact ⟨j - 1, rfl, ⟨congrArg (Value.int .i64) (by omega), trivial⟩, ⟨⟨by omega, by omega, by omega, hiv.2.2.2.1, fun y h1 h2 => (if e : y = j then by rw [e]; exact hc.2 else hiv.2.2.2.2 y (by omega) h2)⟩, H⟩, by omega⟩
            · intro hc
              have hc := of_decide_eq_false hc
              have hci : ¬ (i ≤ j ∧ g i < g a) := fun h => hci ⟨by omega, h.2⟩
              refine W_exit (exit_then (exit_then (exit_here (at_then ?_))))
              refine W_seq ?_
              refine W_rseq ?_
              refine op_move rfl (.int _ _) rfl ?_
              refine op_move rfl (.int _ _) rfl ?_
              refine op_gtr rfl rfl rfl ?_
              refine op_nil (at_then ?_)
              refine W_cond _ rfl ?_ ?_
              · intro h5
                replace h5 := dec_t h5
                have hji : j + 1 = i := by omega
                refine W_sseqz [([0, 1, 2, 3, 4, 5, 6, 7, 8, 9, 10, 11, 12], 13), ([14], 15)] (fun z => z.heap[q]? = some (Bl 24 (tabU (g) m))) [13, 15] mixed_SoD (by kernel_rfl) (H.drew.get at0) ?_
                refine seg_cons rfl rfl ?_
                refine t_move rfl (.slice _ _ _) rfl ?_
                refine t_move rfl (.int _ _) rfl ?_
                refine t_move rfl (.slice _ _ _) rfl ?_
                refine t_move rfl (.int _ _) rfl ?_
                refine t_move rfl (.slice _ _ _) rfl ?_
                refine t_move rfl (.int _ _) rfl ?_
                refine t_indexAddr rfl el_25_SoD sz_24_SoD rfl rfl (by omega) (by omega) ?_
                first | refine t_ldb rfl ag_24_SoD rfl True.intro (by first | exact at0 | exact at1 | exact at2 | exact at3 | exact at4 | exact at5 | exact at6 | exact at7 | exact at8 | exact at9) rfl ?_ | refine t_ld rfl ag_24_SoD rfl (fun _ hx => (cellU hx (by omega))) ?_
                refine t_move rfl (.slice _ _ _) rfl ?_
                refine t_move rfl (.int _ _) rfl ?_
                refine t_indexAddr rfl el_25_SoD sz_24_SoD rfl rfl (by omega) (by omega) ?_
                first | refine t_ldb rfl ag_24_SoD rfl True.intro (by first | exact at0 | exact at1 | exact at2 | exact at3 | exact at4 | exact at5 | exact at6 | exact at7 | exact at8 | exact at9) rfl ?_ | refine t_ld rfl ag_24_SoD rfl (fun _ hx => (cellU hx (by omega))) ?_
                refine t_indexAddr rfl el_25_SoD sz_24_SoD rfl rfl (by omega) (by omega) ?_
                refine t_nil ?_
                replace H := H.drew
                refine op_str (j) (fun z => .int .u64 (if z = j then (g) (a) else (g) z)) (.int _ _) rfl sz_24_SoD rfl rfl rfl H at0 (by omega) (by omega) (by rw [if_pos rfl]; exact congrArg (fun z => Value.int .u64 ((g) z)) (by omega)) (fun z _ hz => by rw [if_neg hz]) ?_
                rintro w H
                refine op_nil (at_segz rfl ?_)
                refine seg_cons rfl rfl ?_
                refine t_indexAddr rfl el_25_SoD sz_24_SoD rfl rfl (by omega) (by omega) ?_
                refine t_nil ?_
                refine op_str (a) (fun z => .int .u64 (sw (g) (j) (a) z)) (.int _ _) rfl sz_24_SoD rfl rfl rfl H at0 (by omega) (by omega) (by rw [sw_snd]; exact congrArg (fun z => Value.int .u64 ((g) z)) (by omega)) (fun z _ hz => by rw [sw_other hz]) ?_
                rintro w H
                refine op_nil (at_segz rfl ?_)
                refine seg_nil ?_
                refine W_rseq ?_
                refine op_move rfl (.int _ _) rfl ?_
                refine op_assign rfl (.int _ _) rfl ?_
                refine op_assign rfl (.bool _) rfl ?_
                refine op_nil (at_then ?_)
                refine W_ret (ret_then (leave2 (v1 := (.int _ _)) (v2 := (.bool _)) rfl rfl rfl rfl ?_))
                exact ⟨j, true, sw g j a, rfl, hS0.step j a ⟨by omega, by omega⟩ ⟨by omega, by omega⟩, by omega, by omega, part_done (by omega) (fun x h1 h2 => hiv.2.2.2.1 x h1 (by omega)) hiv.2.2.2.2, H⟩
              · intro h5
                replace h5 := dec_f h5
                have hne : i < j := by
                  rcases Nat.lt_or_ge i j with h | h
                  · exact h
                  · obtain rfl : i = j := by omega
                    exact absurd ⟨Nat.le_refl i, by rcases Int.lt_or_le (g i) (g a) with h7 | h7; exact absurd ⟨Nat.le_refl i, h7⟩ hci; exact h7⟩ hc
                have hgi : g a ≤ g i := by rcases Int.lt_or_le (g i) (g a) with h7 | h7; exact absurd ⟨by omega, h7⟩ hci; exact h7
                have hgj : g j < g a := by rcases Int.lt_or_le (g j) (g a) with h7 | h7; exact h7; exact absurd ⟨by omega, h7⟩ hc
                refine W_skip (at_then ?_)
                refine W_sseqz [([0, 1, 2, 3, 4, 5, 6, 7, 8, 9, 10, 11, 12], 13), ([14], 15)] (fun z => z.heap[q]? = some (Bl 24 (tabU (g) m))) [13, 15] mixed_SoD (by kernel_rfl) (H.drew.get at0) ?_
                refine seg_cons rfl rfl ?_
                refine t_move rfl (.slice _ _ _) rfl ?_
                refine t_move rfl (.int _ _) rfl ?_
                refine t_move rfl (.slice _ _ _) rfl ?_
                refine t_move rfl (.int _ _) rfl ?_
                refine t_move rfl (.slice _ _ _) rfl ?_
                refine t_move rfl (.int _ _) rfl ?_
                refine t_indexAddr rfl el_25_SoD sz_24_SoD rfl rfl (by omega) (by omega) ?_
                first | refine t_ldb rfl ag_24_SoD rfl True.intro (by first | exact at0 | exact at1 | exact at2 | exact at3 | exact at4 | exact at5 | exact at6 | exact at7 | exact at8 | exact at9) rfl ?_ | refine t_ld rfl ag_24_SoD rfl (fun _ hx => (cellU hx (by omega))) ?_
                refine t_move rfl (.slice _ _ _) rfl ?_
                refine t_move rfl (.int _ _) rfl ?_
                refine t_indexAddr rfl el_25_SoD sz_24_SoD rfl rfl (by omega) (by omega) ?_
                first | refine t_ldb rfl ag_24_SoD rfl True.intro (by first | exact at0 | exact at1 | exact at2 | exact at3 | exact at4 | exact at5 | exact at6 | exact at7 | exact at8 | exact at9) rfl ?_ | refine t_ld rfl ag_24_SoD rfl (fun _ hx => (cellU hx (by omega))) ?_
                refine t_indexAddr rfl el_25_SoD sz_24_SoD rfl rfl (by omega) (by omega) ?_
                refine t_nil ?_
                replace H := H.drew
                refine op_str (i) (fun z => .int .u64 (if z = i then (g) (j) else (g) z)) (.int _ _) rfl sz_24_SoD rfl rfl rfl H at0 (by omega) (by omega) (by rw [if_pos rfl]; exact congrArg (fun z => Value.int .u64 ((g) z)) (by omega)) (fun z _ hz => by rw [if_neg hz]) ?_
                rintro w H
                refine op_nil (at_segz rfl ?_)
                refine seg_cons rfl rfl ?_
                refine t_indexAddr rfl el_25_SoD sz_24_SoD rfl rfl (by omega) (by omega) ?_
                refine t_nil ?_
                refine op_str (j) (fun z => .int .u64 (sw (g) (i) (j) z)) (.int _ _) rfl sz_24_SoD rfl rfl rfl H at0 (by omega) (by omega) (by rw [sw_snd]; exact congrArg (fun z => Value.int .u64 ((g) z)) (by omega)) (fun z _ hz => by rw [sw_other hz]) ?_
                rintro w H
                refine op_nil (at_segz rfl ?_)
                refine seg_nil ?_
                refine W_rseq ?_
                refine op_move rfl (.int _ _) rfl ?_
                refine op_add_i64 rfl rfl rfl (by omega) (by omega) ?_
                refine op_assign rfl (.int _ _) rfl ?_
                refine op_nil (at_then ?_)
                refine W_rseq ?_
                refine op_move rfl (.int _ _) rfl ?_
                refine op_sub_i64 rfl rfl rfl (by omega) (by omega) ?_
                refine op_assign rfl (.int _ _) rfl ?_
                refine op_nil (at_then ?_)
                refine W_seq ?_
                refine W_block ?_
                refine W_loop 11417981541647678414640987641481260342710373376 (α := Nat × Nat × (Nat → Int)) (fun t => [(10, .int .i64 (t.1 : Int)), (11, .int .i64 (t.2.1 : Int))]) (fun t w' => (a + 1 ≤ t.1 ∧ t.1 ≤ t.2.1 + 1 ∧ t.2.1 < b ∧ (∀ x, a < x → x < t.1 → (t.2.2) x < (t.2.2) a) ∧ ∀ y, t.2.1 < y → y < b → (t.2.2) a ≤ (t.2.2) y) ∧ Sw a b f t.2.2 ∧ Ctx w0 [q] w' [(q, Bl 24 (tabU t.2.2 m))]) (fun t => b - t.1) (i + 1, j - 1, sw g i j) rfl ?_ ?_ ?_
                · exact ⟨rfl, congrArg (Value.int .i64) (by dsimp only; omega), trivial⟩
                · exact ⟨part_step hiv hne hgi hgj, hS0.step i j ⟨by omega, by omega⟩ ⟨by omega, by omega⟩, H⟩
                · rintro ⟨i, j, g⟩ j0 w ⟨hi0, hS0, H⟩; dsimp only at hi0 hS0 H; dsimp only
                  obtain ⟨i0, hi0e⟩ : ∃ i0, i0 = i := ⟨_, rfl⟩
                  obtain ⟨j1, hj1e⟩ : ∃ j1, j1 = j := ⟨_, rfl⟩
                  have hi1 : i0 ≤ i ∧ a + 1 ≤ i ∧ i ≤ j + 1 ∧ j < b ∧ (∀ x, a < x → x < i → (g) x < (g) a) ∧ ∀ y, j < y → y < b → (g) a ≤ (g) y := ⟨by omega, hi0⟩
                  refine W_block ?_
                  refine W_seq ?_
                  refine W_block ?_
                  refine W_loop 41537741042978506913543222282159104 (α := Nat) (fun i => [(10, .int .i64 (i : Int))]) (fun i w' => (i0 ≤ i ∧ a + 1 ≤ i ∧ i ≤ j + 1 ∧ j < b ∧ (∀ x, a < x → x < i → (g) x < (g) a) ∧ ∀ y, j < y → y < b → (g) a ≤ (g) y) ∧ Ctx w0 [q] w' [(q, Bl 24 (tabU (g) m))]) (fun i => j + 1 - i) i rfl ?_ ?_ ?_
                  · exact ⟨by first | rfl | exact congrArg (Value.int .i64) (by omega), trivial⟩
                  · exact ⟨hi1, H⟩
                  · rintro i jx w ⟨hiv, H⟩
                    refine W_seq ?_
                    refine W_join 10383959891769541142360244306837504 (α := Unit) (fun _ => [(112, .bool (decide (i ≤ j ∧ g i < g a)))]) (fun _ w' => Ctx w0 [q] w' [(q, Bl 24 (tabU (g) m))]) rfl ?_ ?_
                    · skip
                      refine W_tail 12 mixed_SoD (by kernel_rfl) rfl rfl ?_
                      refine q_move rfl (.int _ _) rfl ?_
                      refine q_move rfl (.int _ _) rfl ?_
                      refine q_leq rfl rfl rfl ?_
                      refine q_move rfl (.bool _) rfl ?_
                      refine Wq_split 102 rfl ?_ ?_
                      · intro h5
                        replace h5 := dec_t h5
                        refine q_move rfl (.slice _ _ _) rfl ?_
                        refine q_move rfl (.int _ _) rfl ?_
                        refine q_indexAddr rfl el_25_SoD sz_24_SoD rfl rfl (by omega) (by omega) ?_
                        first | refine q_ldb rfl ag_24_SoD rfl (by rintro _ rfl; exact H.drew) (by first | exact at0 | exact at1 | exact at2 | exact at3 | exact at4 | exact at5 | exact at6 | exact at7 | exact at8 | exact at9) rfl ?_ | refine q_ld rfl ag_24_SoD rfl (by rintro _ rfl; exact ((cellU (H.drew.get at0) (by omega)))) ?_
                        refine q_move rfl (.slice _ _ _) rfl ?_
                        refine q_move rfl (.int _ _) rfl ?_
                        refine q_indexAddr rfl el_25_SoD sz_24_SoD rfl rfl (by omega) (by omega) ?_
                        first | refine q_ldb rfl ag_24_SoD rfl (by rintro _ rfl; exact H.drew) (by first | exact at0 | exact at1 | exact at2 | exact at3 | exact at4 | exact at5 | exact at6 | exact at7 | exact at8 | exact at9) rfl ?_ | refine q_ld rfl ag_24_SoD rfl (by rintro _ rfl; exact ((cellU (H.drew.get at0) (by omega)))) ?_
                        refine q_nil ?_
                        replace H := H.drew
                        refine op_call rfl ca_206_SoD (less_ok _ _ _) rfl ?_
                        rintro v w ⟨rfl, rfl⟩
                        simp only [Int.toNat_natCast]
                        refine op_pick1 rfl rfl (.bool _) rfl ?_
                        refine op_nil (at_then ?_)
                        exact ⟨(), rfl, ⟨congrArg Value.bool (by clear hiv; rw [Bool.eq_iff_iff]; simp_all; try omega), trivial⟩, H⟩
                      · intro h6
                        replace h6 := dec_f h6
                        refine q_skip rfl ?_
                        refine q_skip rfl ?_
                        refine q_skip rfl ?_
                        refine q_skip rfl ?_
                        refine q_skip rfl ?_
                        refine q_skip rfl ?_
                        refine q_skip rfl ?_
                        refine q_skip rfl ?_
                        refine q_nil ?_
                        replace H := H.drew
                        refine op_skip rfl ?_
                        refine op_pick0 rfl rfl (.bool _) rfl ?_
                        refine op_nil (at_then ?_)
                        exact ⟨(), rfl, ⟨congrArg Value.bool (by clear hiv; rw [Bool.eq_iff_iff]; simp_all; try omega), trivial⟩, H⟩
                    · rintro - jy w H
                      refine W_cond _ rfl ?_ ?_
                      · intro hc
                        have hc := of_decide_eq_true hc
                        refine W_skip (at_then ?_)
                        refine W_block ?_
                        refine W_region ?_
                        refine op_move rfl (.int _ _) rfl ?_
                        refine op_add_i64 rfl rfl rfl (by omega) (by omega) ?_
                        refine op_assign rfl (.int _ _) rfl ?_
                        refine op_nil (at_block (at_then ?_))
                        exact ⟨i + 1, rfl, ⟨congrArg (Value.int .i64) (by omega), trivial⟩, ⟨⟨by omega, by omega, by omega, by omega, fun x h1 h2 => (if e : x = i then by rw [e]; exact hc.2 else hiv.2.2.2.2.1 x h1 (by omega)), hiv.2.2.2.2.2⟩, H⟩, by omega⟩
                      · intro hc
                        have hc := of_decide_eq_false hc
                        have hci := hc
                        have hi2 : j ≤ j1 ∧ a + 1 ≤ i ∧ i ≤ j + 1 ∧ j < b ∧ (∀ x, a < x → x < i → (g) x < (g) a) ∧ ∀ y, j < y → y < b → (g) a ≤ (g) y := ⟨by omega, hiv.2⟩
                        have hi3 := hiv.1
                        refine W_exit (exit_then (exit_then (exit_here (at_then ?_))))
                        refine W_seq ?_
                        refine W_block ?_
                        refine W_loop 5444476332360147136792965474937657624576 (α := Nat) (fun j => [(11, .int .i64 (j : Int))]) (fun j w' => (j ≤ j1 ∧ a + 1 ≤ i ∧ i ≤ j + 1 ∧ j < b ∧ (∀ x, a < x → x < i → (g) x < (g) a) ∧ ∀ y, j < y → y < b → (g) a ≤ (g) y) ∧ Ctx w0 [q] w' [(q, Bl 24 (tabU (g) m))]) (fun j => j) j rfl ?_ ?_ ?_
                        · exact ⟨by first | rfl | exact congrArg (Value.int .i64) (by omega), trivial⟩
                        · exact ⟨hi2, H⟩
                        · rintro j jx w ⟨hiv, H⟩
                          refine W_seq ?_
                          refine W_join 1361087929308885575232470185756439085056 (α := Unit) (fun _ => [(129, .bool (decide (i ≤ j ∧ g a ≤ g j)))]) (fun _ w' => Ctx w0 [q] w' [(q, Bl 24 (tabU (g) m))]) rfl ?_ ?_
                          · skip
                            refine W_tail 12 mixed_SoD (by kernel_rfl) rfl rfl ?_
                            refine q_move rfl (.int _ _) rfl ?_
                            refine q_move rfl (.int _ _) rfl ?_
                            refine q_leq rfl rfl rfl ?_
                            refine q_move rfl (.bool _) rfl ?_
                            refine Wq_split 118 rfl ?_ ?_
                            · intro h7
                              replace h7 := dec_t h7
                              refine q_move rfl (.slice _ _ _) rfl ?_
                              refine q_move rfl (.int _ _) rfl ?_
                              refine q_indexAddr rfl el_25_SoD sz_24_SoD rfl rfl (by omega) (by omega) ?_
                              first | refine q_ldb rfl ag_24_SoD rfl (by rintro _ rfl; exact H.drew) (by first | exact at0 | exact at1 | exact at2 | exact at3 | exact at4 | exact at5 | exact at6 | exact at7 | exact at8 | exact at9) rfl ?_ | refine q_ld rfl ag_24_SoD rfl (by rintro _ rfl; exact ((cellU (H.drew.get at0) (by omega)))) ?_
                              refine q_move rfl (.slice _ _ _) rfl ?_
                              refine q_move rfl (.int _ _) rfl ?_
                              refine q_indexAddr rfl el_25_SoD sz_24_SoD rfl rfl (by omega) (by omega) ?_
                              first | refine q_ldb rfl ag_24_SoD rfl (by rintro _ rfl; exact H.drew) (by first | exact at0 | exact at1 | exact at2 | exact at3 | exact at4 | exact at5 | exact at6 | exact at7 | exact at8 | exact at9) rfl ?_ | refine q_ld rfl ag_24_SoD rfl (by rintro _ rfl; exact ((cellU (H.drew.get at0) (by omega)))) ?_
                              refine q_nil ?_
                              replace H := H.drew
                              refine op_call rfl ca_206_SoD (less_ok _ _ _) rfl ?_
                              rintro v w ⟨rfl, rfl⟩
                              simp only [Int.toNat_natCast]
                              refine op_not rfl rfl ?_
                              refine op_pick1 rfl rfl (.bool _) rfl ?_
                              refine op_nil (at_then ?_)
                              exact ⟨(), rfl, ⟨congrArg Value.bool (by clear hiv; rw [Bool.eq_iff_iff]; simp_all; try omega), trivial⟩, H⟩
                            · intro h8
                              replace h8 := dec_f h8
                              refine q_skip rfl ?_
                              refine q_skip rfl ?_
                              refine q_skip rfl ?_
                              refine q_skip rfl ?_
                              refine q_skip rfl ?_
                              refine q_skip rfl ?_
                              refine q_skip rfl ?_
                              refine q_skip rfl ?_
                              refine q_nil ?_
                              replace H := H.drew
                              refine op_skip rfl ?_
                              refine op_skip rfl ?_
                              refine op_pick0 rfl rfl (.bool _) rfl ?_
                              refine op_nil (at_then ?_)
                              exact ⟨(), rfl, ⟨congrArg Value.bool (by clear hiv; rw [Bool.eq_iff_iff]; simp_all; try omega), trivial⟩, H⟩
                          · rintro - jy w H
                            refine W_cond _ rfl ?_ ?_
                            · intro hc
                              have hc := of_decide_eq_true hc
                              refine W_skip (at_then ?_)
                              refine W_block ?_
                              refine W_region ?_
                              refine op_move rfl (.int _ _) rfl ?_
                              refine op_sub_i64 rfl rfl rfl (by omega) (by omega) ?_
                              refine op_assign rfl (.int _ _) rfl ?_
                              refine op_nil (at_block (at_then ?_))
                              exact ⟨j - 1, rfl, ⟨congrArg (Value.int .i64) (by omega), trivial⟩, ⟨⟨by omega, by omega, by omega, by omega, hiv.2.2.2.2.1, fun y h1 h2 => (if e : y = j then by rw [e]; exact hc.2 else hiv.2.2.2.2.2 y (by omega) h2)⟩, H⟩, by omega⟩
                            · intro hc
                              have hc := of_decide_eq_false hc
                              have hci : ¬ (i ≤ j ∧ g i < g a) := fun h => hci ⟨by omega, h.2⟩
                              replace hiv := hiv.2
                              refine W_exit (exit_then (exit_then (exit_here (at_then ?_))))
                              refine W_seq ?_
                              refine W_rseq ?_
                              refine op_move rfl (.int _ _) rfl ?_
                              refine op_move rfl (.int _ _) rfl ?_
                              refine op_gtr rfl rfl rfl ?_
                              refine op_nil (at_then ?_)
                              refine W_cond _ rfl ?_ ?_
                              · intro h5
                                replace h5 := dec_t h5
                                have hji : j + 1 = i := by omega
                                refine W_exit (exit_then (exit_pass rfl (exit_then (exit_here (at_then ?_)))))
                                refine W_sseqz [([0, 1, 2, 3, 4, 5, 6, 7, 8, 9, 10, 11, 12], 13), ([14], 15)] (fun z => z.heap[q]? = some (Bl 24 (tabU (g) m))) [13, 15] mixed_SoD (by kernel_rfl) (H.drew.get at0) ?_
                                refine seg_cons rfl rfl ?_
                                refine t_move rfl (.slice _ _ _) rfl ?_
                                refine t_move rfl (.int _ _) rfl ?_
                                refine t_move rfl (.slice _ _ _) rfl ?_
                                refine t_move rfl (.int _ _) rfl ?_
                                refine t_move rfl (.slice _ _ _) rfl ?_
                                refine t_move rfl (.int _ _) rfl ?_
                                refine t_indexAddr rfl el_25_SoD sz_24_SoD rfl rfl (by omega) (by omega) ?_
                                first | refine t_ldb rfl ag_24_SoD rfl True.intro (by first | exact at0 | exact at1 | exact at2 | exact at3 | exact at4 | exact at5 | exact at6 | exact at7 | exact at8 | exact at9) rfl ?_ | refine t_ld rfl ag_24_SoD rfl (fun _ hx => (cellU hx (by omega))) ?_
                                refine t_move rfl (.slice _ _ _) rfl ?_
                                refine t_move rfl (.int _ _) rfl ?_
                                refine t_indexAddr rfl el_25_SoD sz_24_SoD rfl rfl (by omega) (by omega) ?_
                                first | refine t_ldb rfl ag_24_SoD rfl True.intro (by first | exact at0 | exact at1 | exact at2 | exact at3 | exact at4 | exact at5 | exact at6 | exact at7 | exact at8 | exact at9) rfl ?_ | refine t_ld rfl ag_24_SoD rfl (fun _ hx => (cellU hx (by omega))) ?_
                                refine t_indexAddr rfl el_25_SoD sz_24_SoD rfl rfl (by omega) (by omega) ?_
                                refine t_nil ?_
                                replace H := H.drew
                                refine op_str (j) (fun z => .int .u64 (if z = j then (g) (a) else (g) z)) (.int _ _) rfl sz_24_SoD rfl rfl rfl H at0 (by omega) (by omega) (by rw [if_pos rfl]; exact congrArg (fun z => Value.int .u64 ((g) z)) (by omega)) (fun z _ hz => by rw [if_neg hz]) ?_
                                rintro w H
                                refine op_nil (at_segz rfl ?_)
                                refine seg_cons rfl rfl ?_
                                refine t_indexAddr rfl el_25_SoD sz_24_SoD rfl rfl (by omega) (by omega) ?_
                                refine t_nil ?_
                                refine op_str (a) (fun z => .int .u64 (sw (g) (j) (a) z)) (.int _ _) rfl sz_24_SoD rfl rfl rfl H at0 (by omega) (by omega) (by rw [sw_snd]; exact congrArg (fun z => Value.int .u64 ((g) z)) (by omega)) (fun z _ hz => by rw [sw_other hz]) ?_
                                rintro w H
                                refine op_nil (at_segz rfl ?_)
                                refine seg_nil ?_
                                refine W_rseq ?_
                                refine op_move rfl (.int _ _) rfl ?_
                                refine op_assign rfl (.int _ _) rfl ?_
                                refine op_assign rfl (.bool _) rfl ?_
                                refine op_nil (at_then ?_)
                                refine W_ret (leave2 (v1 := (.int _ _)) (v2 := (.bool _)) rfl rfl rfl rfl ?_)
                                exact ⟨j, false, sw g j a, rfl, hS0.step j a ⟨by omega, by omega⟩ ⟨by omega, by omega⟩, by omega, by omega, part_done (by omega) (fun x h1 h2 => hiv.2.2.2.1 x h1 (by omega)) hiv.2.2.2.2, H⟩
                              · intro h5
                                replace h5 := dec_f h5
                                have hne : i < j := by
                                  rcases Nat.lt_or_ge i j with h | h
                                  · exact h
                                  · obtain rfl : i = j := by omega
                                    exact absurd ⟨Nat.le_refl i, by rcases Int.lt_or_le (g i) (g a) with h7 | h7; exact absurd ⟨Nat.le_refl i, h7⟩ hci; exact h7⟩ hc
                                refine W_skip (at_then ?_)
                                refine W_sseqz [([0, 1, 2, 3, 4, 5, 6, 7, 8, 9, 10, 11, 12], 13), ([14], 15)] (fun z => z.heap[q]? = some (Bl 24 (tabU (g) m))) [13, 15] mixed_SoD (by kernel_rfl) (H.drew.get at0) ?_
                                refine seg_cons rfl rfl ?_
                                refine t_move rfl (.slice _ _ _) rfl ?_
                                refine t_move rfl (.int _ _) rfl ?_
                                refine t_move rfl (.slice _ _ _) rfl ?_
                                refine t_move rfl (.int _ _) rfl ?_
                                refine t_move rfl (.slice _ _ _) rfl ?_
                                refine t_move rfl (.int _ _) rfl ?_
                                refine t_indexAddr rfl el_25_SoD sz_24_SoD rfl rfl (by omega) (by omega) ?_
                                first | refine t_ldb rfl ag_24_SoD rfl True.intro (by first | exact at0 | exact at1 | exact at2 | exact at3 | exact at4 | exact at5 | exact at6 | exact at7 | exact at8 | exact at9) rfl ?_ | refine t_ld rfl ag_24_SoD rfl (fun _ hx => (cellU hx (by omega))) ?_
                                refine t_move rfl (.slice _ _ _) rfl ?_
                                refine t_move rfl (.int _ _) rfl ?_
                                refine t_indexAddr rfl el_25_SoD sz_24_SoD rfl rfl (by omega) (by omega) ?_
                                first | refine t_ldb rfl ag_24_SoD rfl True.intro (by first | exact at0 | exact at1 | exact at2 | exact at3 | exact at4 | exact at5 | exact at6 | exact at7 | exact at8 | exact at9) rfl ?_ | refine t_ld rfl ag_24_SoD rfl (fun _ hx => (cellU hx (by omega))) ?_
                                refine t_indexAddr rfl el_25_SoD sz_24_SoD rfl rfl (by omega) (by omega) ?_
                                refine t_nil ?_
                                replace H := H.drew
                                refine op_str (i) (fun z => .int .u64 (if z = i then (g) (j) else (g) z)) (.int _ _) rfl sz_24_SoD rfl rfl rfl H at0 (by omega) (by omega) (by rw [if_pos rfl]; exact congrArg (fun z => Value.int .u64 ((g) z)) (by omega)) (fun z _ hz => by rw [if_neg hz]) ?_
                                rintro w H
                                refine op_nil (at_segz rfl ?_)
                                refine seg_cons rfl rfl ?_
                                refine t_indexAddr rfl el_25_SoD sz_24_SoD rfl rfl (by omega) (by omega) ?_
                                refine t_nil ?_
                                refine op_str (j) (fun z => .int .u64 (sw (g) (i) (j) z)) (.int _ _) rfl sz_24_SoD rfl rfl rfl H at0 (by omega) (by omega) (by rw [sw_snd]; exact congrArg (fun z => Value.int .u64 ((g) z)) (by omega)) (fun z _ hz => by rw [sw_other hz]) ?_
                                rintro w H
                                refine op_nil (at_segz rfl ?_)
                                refine seg_nil ?_
                                refine W_rseq ?_
                                refine op_move rfl (.int _ _) rfl ?_
                                refine op_add_i64 rfl rfl rfl (by omega) (by omega) ?_
                                refine op_assign rfl (.int _ _) rfl ?_
                                refine op_nil (at_then ?_)
                                refine W_region ?_
                                refine op_move rfl (.int _ _) rfl ?_
                                refine op_sub_i64 rfl rfl rfl (by omega) (by omega) ?_
                                refine op_assign rfl (.int _ _) rfl ?_
                                refine op_nil (at_block (at_then ?_))
                                have hgi : g a ≤ g i := by rcases Int.lt_or_le (g i) (g a) with h7 | h7; exact absurd ⟨by omega, h7⟩ hci; exact h7
                                have hgj : g j < g a := by rcases Int.lt_or_le (g j) (g a) with h7 | h7; exact h7; exact absurd ⟨by omega, h7⟩ hc
                                exact ⟨(i + 1, j - 1, sw g i j), rfl, ⟨rfl, congrArg (Value.int .i64) (by dsimp only; omega), trivial⟩, ⟨part_step hiv hne hgi hgj, hS0.step i j ⟨by omega, by omega⟩ ⟨by omega, by omega⟩, H⟩, by dsimp only; omega⟩
end

end Go.Proofs.YtapphbmlkdhnmaaGreat

/- Sorting numbers of 64 bits: those that are the same as the pivot; patterns broken; almost sorted. -/
namespace Go.Proofs.YtapphbmlkdhnmaaGreat
open Go.GV
theorem ag_24_SoE : aggB Tryz.prog 24 = some false := by kernel_rfl
theorem ca_206_SoE : callable Tryz.prog 206 = true := by kernel_rfl
theorem el_25_SoE : elemT Tryz.prog 25 = some 24 := by kernel_rfl
theorem mixed_SoE : Tryz.prog.follows .mixedOrders = true := by kernel_rfl
theorem sz_24_SoE : tsize Tryz.prog 24 = some 1 := by kernel_rfl
attribute [local irreducible] Wops W Wq Wt

theorem eq_step {g : Nat → Int} {a i j b : Nat} (h : a + 1 ≤ i ∧ i ≤ j + 1 ∧ j < b ∧ (∀ x, a < x → x < i → (g) x ≤ (g) a) ∧ ∀ y, j < y → y < b → (g) a < (g) y) (hij : i < j) (hi : g a < g i) (hj : g j ≤ g a) : a + 1 ≤ i + 1 ∧ i + 1 ≤ (j - 1) + 1 ∧ (j - 1) < b ∧ (∀ x, a < x → x < i + 1 → (sw g i j) x ≤ (sw g i j) a) ∧ ∀ y, (j - 1) < y → y < b → (sw g i j) a < (sw g i j) y := by
  obtain ⟨h1, h2, h3, h4, h5⟩ := h
  have ha : sw g i j a = g a := sw_ne (by omega) (by omega)
  rw [ha]
  refine ⟨by omega, by omega, by omega, fun x hx hxi => ?_, fun y hy hyb => ?_⟩
  · by_cases e : x = i
    · rw [e, sw_fst]; exact hj
    · rw [sw_ne e (by omega)]; exact h4 x hx (by omega)
  · by_cases e : y = j
    · rw [e, sw_snd]; exact hi
    · rw [sw_ne (by omega) e]; exact h5 y (by omega) hyb

section
variable {w : World} {q n c m : Nat} {f : Nat → Int}
set_option maxRecDepth 20000 in
set_option maxHeartbeats 4000000 in
theorem parteq_ok {a b p : Nat} (hd : w.heap[q]? = some (Bl 24 (tabU f m))) (hab : a < b) (hb : b ≤ n) (hn : n ≤ m) (hm : n ≤ 1000000000) (hp : a ≤ p ∧ p < b) :
    Ret Tryz.prog 207 #[.slice (some ⟨q, 0, none⟩) n c, .int .i64 (a : Int), .int .i64 (b : Int), .int .i64 (p : Int)] w fun v w' => ∃ (i : Nat) (g : Nat → Int), v = .int .i64 (i : Int) ∧ Sw a b f g ∧ a < i ∧ i ≤ b ∧ g a = f p ∧ (∀ x, a ≤ x → x < i → g x ≤ g a) ∧ (∀ y, i ≤ y → y < b → g a < g y) ∧ Ctx w [q] w' [(q, Bl 24 (tabU g m))] := by
  obtain ⟨w0, rfl⟩ : ∃ w0, w0 = w := ⟨_, rfl⟩
  have H := Ctx.start1 hd
  refine ret_of_W (fn := Tryz.f207) Tryz.func207 rfl [.slice (some ⟨q, 0, none⟩) n c, .int .i64 (a : Int), .int .i64 (b : Int), .int .i64 (p : Int)] rfl (by kernel_rfl) ?_
  refine W_rseq ?_
  refine op_assign rfl (.int _ _) rfl ?_
  refine op_nil (at_then ?_)
  refine W_sseqz [([0, 1, 2, 3, 4, 5, 6, 7, 8, 9, 10, 11, 12], 13), ([14], 15)] (fun z => z.heap[q]? = some (Bl 24 (tabU (f) m))) [13, 15] mixed_SoE (by kernel_rfl) (H.drew.get at0) ?_
  refine seg_cons rfl rfl ?_
  refine t_move rfl (.slice _ _ _) rfl ?_
  refine t_move rfl (.int _ _) rfl ?_
  refine t_move rfl (.slice _ _ _) rfl ?_
  refine t_move rfl (.int _ _) rfl ?_
  refine t_move rfl (.slice _ _ _) rfl ?_
  refine t_move rfl (.int _ _) rfl ?_
  refine t_indexAddr rfl el_25_SoE sz_24_SoE rfl rfl (by omega) (by omega) ?_
  first | refine t_ldb rfl ag_24_SoE rfl True.intro (by first | exact at0 | exact at1 | exact at2 | exact at3 | exact at4 | exact at5 | exact at6 | exact at7 | exact at8 | exact at9) rfl ?_ | refine t_ld rfl ag_24_SoE rfl (fun _ hx => (cellU hx (by omega))) ?_
  refine t_move rfl (.slice _ _ _) rfl ?_
  refine t_move rfl (.int _ _) rfl ?_
  refine t_indexAddr rfl el_25_SoE sz_24_SoE rfl rfl (by omega) (by omega) ?_
  first | refine t_ldb rfl ag_24_SoE rfl True.intro (by first | exact at0 | exact at1 | exact at2 | exact at3 | exact at4 | exact at5 | exact at6 | exact at7 | exact at8 | exact at9) rfl ?_ | refine t_ld rfl ag_24_SoE rfl (fun _ hx => (cellU hx (by omega))) ?_
  refine t_indexAddr rfl el_25_SoE sz_24_SoE rfl rfl (by omega) (by omega) ?_
  refine t_nil ?_
  replace H := H.drew
  refine op_str (a) (fun z => .int .u64 (if z = a then (f) (p) else (f) z)) (.int _ _) rfl sz_24_SoE rfl rfl rfl H at0 (by omega) (by omega) (by rw [if_pos rfl]; exact congrArg (fun z => Value.int .u64 ((f) z)) (by omega)) (fun z _ hz => by rw [if_neg hz]) ?_
  rintro w H
  refine op_nil (at_segz rfl ?_)
  refine seg_cons rfl rfl ?_
  refine t_indexAddr rfl el_25_SoE sz_24_SoE rfl rfl (by omega) (by omega) ?_
  refine t_nil ?_
  refine op_str (p) (fun z => .int .u64 (sw (f) (a) (p) z)) (.int _ _) rfl sz_24_SoE rfl rfl rfl H at0 (by omega) (by omega) (by rw [sw_snd]; exact congrArg (fun z => Value.int .u64 ((f) z)) (by omega)) (fun z _ hz => by rw [sw_other hz]) ?_
  rintro w H
  refine op_nil (at_segz rfl ?_)
  refine seg_nil ?_
  have hS0 := (Sw.refl (a := a) (b := b) f).step a p ⟨by omega, by omega⟩ hp
  obtain ⟨g, hg⟩ : ∃ g, g = sw f a p := ⟨_, rfl⟩
  have hga : g a = f p := by rw [hg, sw_fst]
  rw [← hg] at hS0 H
  refine W_rseq ?_
  refine op_move rfl (.int _ _) rfl ?_
  refine op_add_i64 rfl rfl rfl (by omega) (by omega) ?_
  rw [show (a : Int) + 1 = ((a + 1 : Nat) : Int) by omega]
  refine op_move rfl (.int _ _) rfl ?_
  refine op_sub_i64 rfl rfl rfl (by omega) (by omega) ?_
  rw [show (b : Int) - 1 = ((b - 1 : Nat) : Int) by omega]
  refine op_assign rfl (.int _ _) rfl ?_
  refine op_assign rfl (.int _ _) rfl ?_
  refine op_nil (at_then ?_)
  refine W_seq ?_
  refine W_block ?_
  refine W_loop 9671406556917032860780032 (α := Nat × Nat × (Nat → Int)) (fun t => [(9, .int .i64 (t.1 : Int)), (10, .int .i64 (t.2.1 : Int))]) (fun t w' => (a + 1 ≤ t.1 ∧ t.1 ≤ t.2.1 + 1 ∧ t.2.1 < b ∧ (∀ x, a < x → x < t.1 → (t.2.2) x ≤ (t.2.2) a) ∧ ∀ y, t.2.1 < y → y < b → (t.2.2) a < (t.2.2) y) ∧ t.2.2 a = f p ∧ Sw a b f t.2.2 ∧ Ctx w0 [q] w' [(q, Bl 24 (tabU t.2.2 m))]) (fun t => b - t.1) (a + 1, b - 1, g) rfl ?_ ?_ ?_
  · exact ⟨rfl, rfl, trivial⟩
  · exact ⟨⟨Nat.le_refl _, by dsimp only; omega, by dsimp only; omega, fun x h1 h2 => by dsimp only at h2; omega, fun y h1 h2 => by dsimp only at h1; omega⟩, hga, hS0, H⟩
  · rintro ⟨i, j, g⟩ j0 w ⟨hi0, hga, hS0, H⟩; dsimp only at hi0 hga hS0 H; dsimp only
    obtain ⟨i0, hi0e⟩ : ∃ i0, i0 = i := ⟨_, rfl⟩
    obtain ⟨j1, hj1e⟩ : ∃ j1, j1 = j := ⟨_, rfl⟩
    have hi1 : i0 ≤ i ∧ a + 1 ≤ i ∧ i ≤ j + 1 ∧ j < b ∧ (∀ x, a < x → x < i → (g) x ≤ (g) a) ∧ ∀ y, j < y → y < b → (g) a < (g) y := ⟨by omega, hi0⟩
    refine W_block ?_
    refine W_seq ?_
    refine W_block ?_
    refine W_loop 70368207307264 (α := Nat) (fun i => [(9, .int .i64 (i : Int))]) (fun i w' => (i0 ≤ i ∧ a + 1 ≤ i ∧ i ≤ j + 1 ∧ j < b ∧ (∀ x, a < x → x < i → (g) x ≤ (g) a) ∧ ∀ y, j < y → y < b → (g) a < (g) y) ∧ Ctx w0 [q] w' [(q, Bl 24 (tabU (g) m))]) (fun i => j + 1 - i) i rfl ?_ ?_ ?_
    · exact ⟨by first | rfl | exact congrArg (Value.int .i64) (by omega), trivial⟩
    · exact ⟨hi1, H⟩
    · rintro i jx w ⟨hiv, H⟩
      refine W_seq ?_
      refine W_join 17591649173504 (α := Unit) (fun _ => [(43, .bool (decide (i ≤ j ∧ ¬ g a < g i)))]) (fun _ w' => Ctx w0 [q] w' [(q, Bl 24 (tabU (g) m))]) rfl ?_ ?_
      · skip
        refine W_tail 12 mixed_SoE (by kernel_rfl) rfl rfl ?_
        refine q_move rfl (.int _ _) rfl ?_
        refine q_move rfl (.int _ _) rfl ?_
        refine q_leq rfl rfl rfl ?_
        refine q_move rfl (.bool _) rfl ?_
        refine Wq_split 32 rfl ?_ ?_
        · intro h1
          replace h1 := dec_t h1
          refine q_move rfl (.slice _ _ _) rfl ?_
          refine q_move rfl (.int _ _) rfl ?_
          refine q_indexAddr rfl el_25_SoE sz_24_SoE rfl rfl (by omega) (by omega) ?_
          first | refine q_ldb rfl ag_24_SoE rfl (by rintro _ rfl; exact H.drew) (by first | exact at0 | exact at1 | exact at2 | exact at3 | exact at4 | exact at5 | exact at6 | exact at7 | exact at8 | exact at9) rfl ?_ | refine q_ld rfl ag_24_SoE rfl (by rintro _ rfl; exact ((cellU (H.drew.get at0) (by omega)))) ?_
          refine q_move rfl (.slice _ _ _) rfl ?_
          refine q_move rfl (.int _ _) rfl ?_
          refine q_indexAddr rfl el_25_SoE sz_24_SoE rfl rfl (by omega) (by omega) ?_
          first | refine q_ldb rfl ag_24_SoE rfl (by rintro _ rfl; exact H.drew) (by first | exact at0 | exact at1 | exact at2 | exact at3 | exact at4 | exact at5 | exact at6 | exact at7 | exact at8 | exact at9) rfl ?_ | refine q_ld rfl ag_24_SoE rfl (by rintro _ rfl; exact ((cellU (H.drew.get at0) (by omega)))) ?_
          refine q_nil ?_
          replace H := H.drew
          refine op_call rfl ca_206_SoE (less_ok _ _ _) rfl ?_
          rintro v w ⟨rfl, rfl⟩
          simp only [Int.toNat_natCast]
          refine op_not rfl rfl ?_
          refine op_pick1 rfl rfl (.bool _) rfl ?_
          refine op_nil (at_then ?_)
          exact ⟨(), rfl, ⟨congrArg Value.bool (by clear hiv; rw [Bool.eq_iff_iff]; simp_all; try omega), trivial⟩, H⟩
        · intro h2
          replace h2 := dec_f h2
          refine q_skip rfl ?_
          refine q_skip rfl ?_
          refine q_skip rfl ?_
          refine q_skip rfl ?_
          refine q_skip rfl ?_
          refine q_skip rfl ?_
          refine q_skip rfl ?_
          refine q_skip rfl ?_
          refine q_nil ?_
          replace H := H.drew
          refine op_skip rfl ?_
          refine op_skip rfl ?_
          refine op_pick0 rfl rfl (.bool _) rfl ?_
          refine op_nil (at_then ?_)
          exact ⟨(), rfl, ⟨congrArg Value.bool (by clear hiv; rw [Bool.eq_iff_iff]; simp_all; try omega), trivial⟩, H⟩
      · rintro - jy w H
        refine W_cond _ rfl ?_ ?_
        · intro hc
          have hc := of_decide_eq_true hc
          refine W_skip (at_then ?_)
          refine W_block ?_
          refine W_region ?_
          refine op_move rfl (.int _ _) rfl ?_
          refine op_add_i64 rfl rfl rfl (by omega) (by omega) ?_
          refine op_assign rfl (.int _ _) rfl ?_
          refine op_nil (at_block (at_then ?_))
          exact ⟨i + 1, rfl, ⟨congrArg (Value.int .i64) (by omega), trivial⟩, ⟨⟨by omega, by omega, by omega, by omega, fun x h1 h2 => (if e : x = i then by rw [e]; omega else hiv.2.2.2.2.1 x h1 (by omega)), hiv.2.2.2.2.2⟩, H⟩, by omega⟩
        · intro hc
          have hc := of_decide_eq_false hc
          have hci := hc
          have hi2 : j ≤ j1 ∧ a + 1 ≤ i ∧ i ≤ j + 1 ∧ j < b ∧ (∀ x, a < x → x < i → (g) x ≤ (g) a) ∧ ∀ y, j < y → y < b → (g) a < (g) y := ⟨by omega, hiv.2⟩
          have hi3 := hiv.1
          refine W_exit (exit_then (exit_then (exit_here (at_then ?_))))
          refine W_seq ?_
          refine W_block ?_
          refine W_loop 4611615649683211264 (α := Nat) (fun j => [(10, .int .i64 (j : Int))]) (fun j w' => (j ≤ j1 ∧ a + 1 ≤ i ∧ i ≤ j + 1 ∧ j < b ∧ (∀ x, a < x → x < i → (g) x ≤ (g) a) ∧ ∀ y, j < y → y < b → (g) a < (g) y) ∧ Ctx w0 [q] w' [(q, Bl 24 (tabU (g) m))]) (fun j => j) j rfl ?_ ?_ ?_
          · exact ⟨by first | rfl | exact congrArg (Value.int .i64) (by omega), trivial⟩
          · exact ⟨hi2, H⟩
          · rintro j jx w ⟨hiv, H⟩
            refine W_seq ?_
            refine W_join 1152851135862669312 (α := Unit) (fun _ => [(59, .bool (decide (i ≤ j ∧ g a < g j)))]) (fun _ w' => Ctx w0 [q] w' [(q, Bl 24 (tabU (g) m))]) rfl ?_ ?_
            · skip
              refine W_tail 12 mixed_SoE (by kernel_rfl) rfl rfl ?_
              refine q_move rfl (.int _ _) rfl ?_
              refine q_move rfl (.int _ _) rfl ?_
              refine q_leq rfl rfl rfl ?_
              refine q_move rfl (.bool _) rfl ?_
              refine Wq_split 49 rfl ?_ ?_
              · intro h3
                replace h3 := dec_t h3
                refine q_move rfl (.slice _ _ _) rfl ?_
                refine q_move rfl (.int _ _) rfl ?_
                refine q_indexAddr rfl el_25_SoE sz_24_SoE rfl rfl (by omega) (by omega) ?_
                first | refine q_ldb rfl ag_24_SoE rfl (by rintro _ rfl; exact H.drew) (by first | exact at0 | exact at1 | exact at2 | exact at3 | exact at4 | exact at5 | exact at6 | exact at7 | exact at8 | exact at9) rfl ?_ | refine q_ld rfl ag_24_SoE rfl (by rintro _ rfl; exact ((cellU (H.drew.get at0) (by omega)))) ?_
                refine q_move rfl (.slice _ _ _) rfl ?_
                refine q_move rfl (.int _ _) rfl ?_
                refine q_indexAddr rfl el_25_SoE sz_24_SoE rfl rfl (by omega) (by omega) ?_
                first | refine q_ldb rfl ag_24_SoE rfl (by rintro _ rfl; exact H.drew) (by first | exact at0 | exact at1 | exact at2 | exact at3 | exact at4 | exact at5 | exact at6 | exact at7 | exact at8 | exact at9) rfl ?_ | refine q_ld rfl ag_24_SoE rfl (by rintro _ rfl; exact ((cellU (H.drew.get at0) (by omega)))) ?_
                refine q_nil ?_
                replace H := H.drew
                refine op_call rfl ca_206_SoE (less_ok _ _ _) rfl ?_
                rintro v w ⟨rfl, rfl⟩
                simp only [Int.toNat_natCast]
                refine op_pick1 rfl rfl (.bool _) rfl ?_
                refine op_nil (at_then ?_)
                exact ⟨(), rfl, ⟨congrArg Value.bool (by clear hiv; rw [Bool.eq_iff_iff]; simp_all; try omega), trivial⟩, H⟩
              · intro h4
                replace h4 := dec_f h4
                refine q_skip rfl ?_
                refine q_skip rfl ?_
                refine q_skip rfl ?_
                refine q_skip rfl ?_
                refine q_skip rfl ?_
                refine q_skip rfl ?_
                refine q_skip rfl ?_
                refine q_skip rfl ?_
                refine q_nil ?_
                replace H := H.drew
                refine op_skip rfl ?_
                refine op_pick0 rfl rfl (.bool _) rfl ?_
                refine op_nil (at_then ?_)
                exact ⟨(), rfl, ⟨congrArg Value.bool (by clear hiv; rw [Bool.eq_iff_iff]; simp_all; try omega), trivial⟩, H⟩
            · rintro - jy w H
              refine W_cond _ rfl ?_ ?_
              · intro hc
                have hc := of_decide_eq_true hc
                refine W_skip (at_then ?_)
                refine W_block ?_
                refine W_region ?_
                refine op_move rfl (.int _ _) rfl ?_
                refine op_sub_i64 rfl rfl rfl (by omega) (by omega) ?_
                refine op_assign rfl (.int _ _) rfl ?_
                refine op_nil (at_block (at_then ?_))
                exact ⟨j - 1, rfl, ⟨congrArg (Value.int .i64) (by omega), trivial⟩, ⟨⟨by omega, by omega, by omega, by omega, hiv.2.2.2.2.1, fun y h1 h2 => (if e : y = j then by rw [e]; exact hc.2 else hiv.2.2.2.2.2 y (by omega) h2)⟩, H⟩, by omega⟩
              · intro hc
                have hc := of_decide_eq_false hc
                have hci : ¬ (i ≤ j ∧ ¬ g a < g i) := fun h => hci ⟨by omega, h.2⟩
                replace hiv := hiv.2
                refine W_exit (exit_then (exit_then (exit_here (at_then ?_))))
                refine W_seq ?_
                refine W_rseq ?_
                refine op_move rfl (.int _ _) rfl ?_
                refine op_move rfl (.int _ _) rfl ?_
                refine op_gtr rfl rfl rfl ?_
                refine op_nil (at_then ?_)
                refine W_cond _ rfl ?_ ?_
                · intro h5
                  replace h5 := dec_t h5
                  have hji : j + 1 = i := by omega
                  refine W_exit (exit_then (exit_pass rfl (exit_then (exit_here (at_then ?_)))))
                  refine W_rseq ?_
                  refine op_move rfl (.int _ _) rfl ?_
                  refine op_assign rfl (.int _ _) rfl ?_
                  refine op_nil (at_then ?_)
                  refine W_ret (leave1 (v := (.int _ _)) rfl rfl rfl ?_)
                  exact ⟨i, g, rfl, hS0, by omega, by omega, hga, fun x h1 h2 => (if e : x = a then by rw [e]; exact Int.le_refl _ else hiv.2.2.2.1 x (by omega) h2), fun y h1 h2 => hiv.2.2.2.2 y (by omega) h2, H⟩
                · intro h5
                  replace h5 := dec_f h5
                  have hgi : g a < g i := by rcases Int.lt_or_le (g a) (g i) with h7 | h7; exact h7; exact absurd ⟨by omega, by omega⟩ hci
                  have hgj : g j ≤ g a := by rcases Int.lt_or_le (g a) (g j) with h7 | h7; exact absurd ⟨by omega, h7⟩ hc; exact h7
                  have hne : i < j := by
                    rcases Nat.lt_or_ge i j with h | h
                    · exact h
                    · obtain rfl : i = j := by omega
                      omega
                  refine W_skip (at_then ?_)
                  refine W_sseqz [([0, 1, 2, 3, 4, 5, 6, 7, 8, 9, 10, 11, 12], 13), ([14], 15)] (fun z => z.heap[q]? = some (Bl 24 (tabU (g) m))) [13, 15] mixed_SoE (by kernel_rfl) (H.drew.get at0) ?_
                  refine seg_cons rfl rfl ?_
                  refine t_move rfl (.slice _ _ _) rfl ?_
                  refine t_move rfl (.int _ _) rfl ?_
                  refine t_move rfl (.slice _ _ _) rfl ?_
                  refine t_move rfl (.int _ _) rfl ?_
                  refine t_move rfl (.slice _ _ _) rfl ?_
                  refine t_move rfl (.int _ _) rfl ?_
                  refine t_indexAddr rfl el_25_SoE sz_24_SoE rfl rfl (by omega) (by omega) ?_
                  first | refine t_ldb rfl ag_24_SoE rfl True.intro (by first | exact at0 | exact at1 | exact at2 | exact at3 | exact at4 | exact at5 | exact at6 | exact at7 | exact at8 | exact at9) rfl ?_ | refine t_ld rfl ag_24_SoE rfl (fun _ hx => (cellU hx (by omega))) ?_
                  refine t_move rfl (.slice _ _ _) rfl ?_
                  refine t_move rfl (.int _ _) rfl ?_
                  refine t_indexAddr rfl el_25_SoE sz_24_SoE rfl rfl (by omega) (by omega) ?_
                  first | refine t_ldb rfl ag_24_SoE rfl True.intro (by first | exact at0 | exact at1 | exact at2 | exact at3 | exact at4 | exact at5 | exact at6 | exact at7 | exact at8 | exact at9) rfl ?_ | refine t_ld rfl ag_24_SoE rfl (fun _ hx => (cellU hx (by omega))) ?_
                  refine t_indexAddr rfl el_25_SoE sz_24_SoE rfl rfl (by omega) (by omega) ?_
                  refine t_nil ?_
                  replace H := H.drew
                  refine op_str (i) (fun z => .int .u64 (if z = i then (g) (j) else (g) z)) (.int _ _) rfl sz_24_SoE rfl rfl rfl H at0 (by omega) (by omega) (by rw [if_pos rfl]; exact congrArg (fun z => Value.int .u64 ((g) z)) (by omega)) (fun z _ hz => by rw [if_neg hz]) ?_
                  rintro w H
                  refine op_nil (at_segz rfl ?_)
                  refine seg_cons rfl rfl ?_
                  refine t_indexAddr rfl el_25_SoE sz_24_SoE rfl rfl (by omega) (by omega) ?_
                  refine t_nil ?_
                  refine op_str (j) (fun z => .int .u64 (sw (g) (i) (j) z)) (.int _ _) rfl sz_24_SoE rfl rfl rfl H at0 (by omega) (by omega) (by rw [sw_snd]; exact congrArg (fun z => Value.int .u64 ((g) z)) (by omega)) (fun z _ hz => by rw [sw_other hz]) ?_
                  rintro w H
                  refine op_nil (at_segz rfl ?_)
                  refine seg_nil ?_
                  refine W_rseq ?_
                  refine op_move rfl (.int _ _) rfl ?_
                  refine op_add_i64 rfl rfl rfl (by omega) (by omega) ?_
                  refine op_assign rfl (.int _ _) rfl ?_
                  refine op_nil (at_then ?_)
                  refine W_region ?_
                  refine op_move rfl (.int _ _) rfl ?_
                  refine op_sub_i64 rfl rfl rfl (by omega) (by omega) ?_
                  refine op_assign rfl (.int _ _) rfl ?_
                  refine op_nil (at_block (at_then ?_))
                  exact ⟨(i + 1, j - 1, sw g i j), rfl, ⟨rfl, congrArg (Value.int .i64) (by dsimp only; omega), trivial⟩, ⟨eq_step hiv hne hgi hgj, (sw_ne (by omega) (by omega)).trans hga, hS0.step i j ⟨by omega, by omega⟩ ⟨by omega, by omega⟩, H⟩, by dsimp only; omega⟩

set_option maxRecDepth 20000 in
set_option maxHeartbeats 4000000 in
theorem partial_ok {a b : Nat} (hd : w.heap[q]? = some (Bl 24 (tabU f m))) (hab : a < b) (hb : b ≤ n) (hn : n ≤ m) (hm : n ≤ 1000000000) (hLB : 0 < a → ∀ x, a ≤ x → x < b → f (a - 1) ≤ f x) :
    Ret Tryz.prog 205 #[.slice (some ⟨q, 0, none⟩) n c, .int .i64 (a : Int), .int .i64 (b : Int)] w fun v w' => ∃ (t : Bool) (g : Nat → Int), v = .bool t ∧ Sw a b f g ∧ (t = true → SrtU g a b) ∧ Ctx w [q] w' [(q, Bl 24 (tabU g m))] := by
  obtain ⟨w0, rfl⟩ : ∃ w0, w0 = w := ⟨_, rfl⟩
  have H := Ctx.start1 hd
  refine ret_of_W (fn := Tryz.f205) Tryz.func205 rfl [.slice (some ⟨q, 0, none⟩) n c, .int .i64 (a : Int), .int .i64 (b : Int)] rfl (by kernel_rfl) ?_
  refine W_rseq ?_
  refine op_assign rfl (.bool _) rfl ?_
  refine op_nil (at_then ?_)
  refine W_rseq ?_
  refine op_move rfl (.int _ _) rfl ?_
  refine op_add_i64 rfl rfl rfl (by omega) (by omega) ?_
  rw [show (a : Int) + 1 = ((a + 1 : Nat) : Int) by omega]
  refine op_assign rfl (.int _ _) rfl ?_
  refine op_nil (at_then ?_)
  refine W_seq ?_
  refine W_rseq ?_
  refine op_assign rfl (.int _ _) rfl ?_
  refine op_nil (at_then ?_)
  refine W_block ?_
  refine W_loop 10889035741470030830827987437816582760384 (α := Nat × Nat × (Nat → Int)) (fun t => [(8, .int .i64 (t.1 : Int)), (7, .int .i64 (t.2.1 : Int))]) (fun t w' => t.1 ≤ 5 ∧ (a + 1 ≤ t.2.1 ∧ t.2.1 ≤ b ∧ SrtU t.2.2 a t.2.1) ∧ Sw a b f t.2.2 ∧ Ctx w0 [q] w' [(q, Bl 24 (tabU t.2.2 m))]) (fun t => 5 - t.1) (0, a + 1, f) rfl ?_ ?_ ?_
  · exact ⟨rfl, rfl, trivial⟩
  · exact ⟨by dsimp only; omega, ⟨Nat.le_refl _, by dsimp only; omega, fun x y h1 h2 h3 => by dsimp only at h3; omega⟩, .refl _, H⟩
  · rintro ⟨st, i, g⟩ j0 w ⟨hst, hi0, hS0, H⟩; dsimp only at hst hi0 hS0 H; dsimp only
    refine W_seq ?_
    refine W_rseq ?_
    refine op_move rfl (.int _ _) rfl ?_
    refine op_lss rfl rfl rfl ?_
    refine op_nil (at_then ?_)
    refine W_cond _ rfl ?_ ?_
    · intro h1
      replace h1 := dec_t h1
      have hLBg : 0 < a → ∀ g', Sw a b f g' → ∀ x, a ≤ x → x < b → g' (a - 1) ≤ g' x := fun h0 g' h x hx hxb => by
        obtain ⟨z, hz1, hz2, hz3⟩ := h.mem x hx hxb
        rw [h.out (a - 1) (.inl (by omega)), hz3]
        exact hLB h0 z hz1 hz2
      refine W_skip (at_then ?_)
      refine W_seq ?_
      refine W_block ?_
      refine W_seq ?_
      refine W_block ?_
      refine W_loop 34359607424 (α := Nat) (fun i => [(7, .int .i64 (i : Int))]) (fun i w' => (a + 1 ≤ i ∧ i ≤ b ∧ SrtU g a i) ∧ Ctx w0 [q] w' [(q, Bl 24 (tabU (g) m))]) (fun i => b - i) i rfl ?_ ?_ ?_
      · exact ⟨by first | rfl | exact congrArg (Value.int .i64) (by omega), trivial⟩
      · exact ⟨hi0, H⟩
      · rintro i jx w ⟨hiv, H⟩
        refine W_seq ?_
        refine W_join 8589803520 (α := Unit) (fun _ => [(32, .bool (decide (i < b ∧ ¬ g i < g (i - 1))))]) (fun _ w' => Ctx w0 [q] w' [(q, Bl 24 (tabU (g) m))]) rfl ?_ ?_
        · skip
          refine W_tail 13 mixed_SoE (by kernel_rfl) rfl rfl ?_
          refine q_move rfl (.int _ _) rfl ?_
          refine q_move rfl (.int _ _) rfl ?_
          refine q_lss rfl rfl rfl ?_
          refine q_move rfl (.bool _) rfl ?_
          refine Wq_split 20 rfl ?_ ?_
          · intro h1
            replace h1 := dec_t h1
            refine q_move rfl (.slice _ _ _) rfl ?_
            refine q_move rfl (.int _ _) rfl ?_
            refine q_indexAddr rfl el_25_SoE sz_24_SoE rfl rfl (by omega) (by omega) ?_
            first | refine q_ldb rfl ag_24_SoE rfl (by rintro _ rfl; exact H.drew) (by first | exact at0 | exact at1 | exact at2 | exact at3 | exact at4 | exact at5 | exact at6 | exact at7 | exact at8 | exact at9) rfl ?_ | refine q_ld rfl ag_24_SoE rfl (by rintro _ rfl; exact ((cellU (H.drew.get at0) (by omega)))) ?_
            refine q_move rfl (.slice _ _ _) rfl ?_
            refine q_move rfl (.int _ _) rfl ?_
            refine q_sub_i64 rfl rfl rfl (by omega) (by omega) ?_
            refine q_indexAddr rfl el_25_SoE sz_24_SoE rfl rfl (by omega) (by omega) ?_
            first | refine q_ldb rfl ag_24_SoE rfl (by rintro _ rfl; exact H.drew) (by first | exact at0 | exact at1 | exact at2 | exact at3 | exact at4 | exact at5 | exact at6 | exact at7 | exact at8 | exact at9) rfl ?_ | refine q_ld rfl ag_24_SoE rfl (by rintro _ rfl; exact ((cellU (H.drew.get at0) (by omega)))) ?_
            refine q_nil ?_
            replace H := H.drew
            refine op_call rfl ca_206_SoE (less_ok _ _ _) rfl ?_
            rintro v w ⟨rfl, rfl⟩
            rw [show ((i : Int) - 1).toNat = i - 1 by omega, Int.toNat_natCast]
            refine op_not rfl rfl ?_
            refine op_pick1 rfl rfl (.bool _) rfl ?_
            refine op_nil (at_then ?_)
            exact ⟨(), rfl, ⟨congrArg Value.bool (by clear hiv; rw [Bool.eq_iff_iff]; simp_all; try omega), trivial⟩, H⟩
          · intro h2
            replace h2 := dec_f h2
            refine q_skip rfl ?_
            refine q_skip rfl ?_
            refine q_skip rfl ?_
            refine q_skip rfl ?_
            refine q_skip rfl ?_
            refine q_skip rfl ?_
            refine q_skip rfl ?_
            refine q_skip rfl ?_
            refine q_skip rfl ?_
            refine q_nil ?_
            replace H := H.drew
            refine op_skip rfl ?_
            refine op_skip rfl ?_
            refine op_pick0 rfl rfl (.bool _) rfl ?_
            refine op_nil (at_then ?_)
            exact ⟨(), rfl, ⟨congrArg Value.bool (by clear hiv; rw [Bool.eq_iff_iff]; simp_all; try omega), trivial⟩, H⟩
        · rintro - jy w H
          refine W_cond _ rfl ?_ ?_
          · intro hc
            have hc := of_decide_eq_true hc
            refine W_skip (at_then ?_)
            refine W_block ?_
            refine W_region ?_
            refine op_move rfl (.int _ _) rfl ?_
            refine op_add_i64 rfl rfl rfl (by omega) (by omega) ?_
            refine op_assign rfl (.int _ _) rfl ?_
            refine op_nil (at_block (at_then ?_))
            exact ⟨i + 1, rfl, ⟨congrArg (Value.int .i64) (by omega), trivial⟩, ⟨⟨by omega, by omega, fun x y hx hxy hy => (if e : y = i then (by rw [e]; exact (if e2 : x = i - 1 then by rw [e2]; omega else Int.le_trans (hiv.2.2 x (i - 1) hx (by omega) (by omega)) (by omega))) else hiv.2.2 x y hx hxy (by omega))⟩, H⟩, by omega⟩
          · intro hc
            have hc := of_decide_eq_false hc
            refine W_exit (exit_then (exit_then (exit_here (at_then ?_))))
            refine W_seq ?_
            refine W_rseq ?_
            refine op_move rfl (.int _ _) rfl ?_
            refine op_move rfl (.int _ _) rfl ?_
            refine op_eql rfl rfl rfl ?_
            refine op_nil (at_then ?_)
            refine W_cond _ rfl ?_ ?_
            · intro h2
              replace h2 := dec_t h2
              refine W_rseq ?_
              refine op_assign rfl (.bool _) rfl ?_
              refine op_nil (at_then ?_)
              refine W_ret (ret_then (ret_block (ret_then (ret_then (ret_block (ret_then (leave1 (v := (.bool _)) rfl rfl rfl ?_)))))))
              obtain rfl : i = b := by omega
              exact ⟨true, g, rfl, hS0, fun _ => hiv.2.2, H⟩
            · intro h2
              replace h2 := dec_f h2
              have hib : i < b := by omega
              have hlt : g i < g (i - 1) := by rcases Int.lt_or_le (g i) (g (i - 1)) with h7 | h7; exact h7; exact absurd ⟨hib, by omega⟩ hc
              refine W_skip (at_then ?_)
              refine W_seq ?_
              refine W_rseq ?_
              refine op_move rfl (.int _ _) rfl ?_
              refine op_move rfl (.int _ _) rfl ?_
              refine op_sub_i64 rfl rfl rfl (by omega) (by omega) ?_
              refine op_lss rfl rfl rfl ?_
              refine op_nil (at_then ?_)
              refine W_cond _ rfl ?_ ?_
              · intro h3
                replace h3 := dec_t h3
                refine W_rseq ?_
                refine op_assign rfl (.bool _) rfl ?_
                refine op_nil (at_then ?_)
                refine W_ret (ret_then (ret_block (ret_then (ret_then (ret_block (ret_then (leave1 (v := (.bool _)) rfl rfl rfl ?_)))))))
                exact ⟨false, g, rfl, hS0, (fun h => by cases h), H⟩
              · intro h3
                replace h3 := dec_f h3
                refine W_skip (at_then ?_)
                refine W_sseqz [([0, 1, 2, 3, 4, 5, 6, 7, 8, 9, 10, 11, 12, 13, 14], 15), ([16], 17)] (fun z => z.heap[q]? = some (Bl 24 (tabU (g) m))) [15, 17] mixed_SoE (by kernel_rfl) (H.drew.get at0) ?_
                refine seg_cons rfl rfl ?_
                refine t_move rfl (.slice _ _ _) rfl ?_
                refine t_move rfl (.int _ _) rfl ?_
                refine t_move rfl (.slice _ _ _) rfl ?_
                refine t_move rfl (.int _ _) rfl ?_
                refine t_sub_i64 rfl rfl rfl (by omega) (by omega) ?_
                refine t_move rfl (.slice _ _ _) rfl ?_
                refine t_move rfl (.int _ _) rfl ?_
                refine t_sub_i64 rfl rfl rfl (by omega) (by omega) ?_
                refine t_indexAddr rfl el_25_SoE sz_24_SoE rfl rfl (by omega) (by omega) ?_
                first | refine t_ldb rfl ag_24_SoE rfl True.intro (by first | exact at0 | exact at1 | exact at2 | exact at3 | exact at4 | exact at5 | exact at6 | exact at7 | exact at8 | exact at9) rfl ?_ | refine t_ld rfl ag_24_SoE rfl (fun _ hx => (cellU hx (by omega))) ?_
                refine t_move rfl (.slice _ _ _) rfl ?_
                refine t_move rfl (.int _ _) rfl ?_
                refine t_indexAddr rfl el_25_SoE sz_24_SoE rfl rfl (by omega) (by omega) ?_
                first | refine t_ldb rfl ag_24_SoE rfl True.intro (by first | exact at0 | exact at1 | exact at2 | exact at3 | exact at4 | exact at5 | exact at6 | exact at7 | exact at8 | exact at9) rfl ?_ | refine t_ld rfl ag_24_SoE rfl (fun _ hx => (cellU hx (by omega))) ?_
                refine t_indexAddr rfl el_25_SoE sz_24_SoE rfl rfl (by omega) (by omega) ?_
                refine t_nil ?_
                replace H := H.drew
                refine op_str (i) (fun z => .int .u64 (if z = i then (g) (i - 1) else (g) z)) (.int _ _) rfl sz_24_SoE rfl rfl rfl H at0 (by omega) (by omega) (by rw [if_pos rfl]; exact congrArg (fun z => Value.int .u64 ((g) z)) (by omega)) (fun z _ hz => by rw [if_neg hz]) ?_
                rintro w H
                refine op_nil (at_segz rfl ?_)
                refine seg_cons rfl rfl ?_
                refine t_indexAddr rfl el_25_SoE sz_24_SoE rfl rfl (by omega) (by omega) ?_
                refine t_nil ?_
                refine op_str (i - 1) (fun z => .int .u64 (sw (g) (i) (i - 1) z)) (.int _ _) rfl sz_24_SoE rfl rfl rfl H at0 (by omega) (by omega) (by rw [sw_snd]; exact congrArg (fun z => Value.int .u64 ((g) z)) (by omega)) (fun z _ hz => by rw [sw_other hz]) ?_
                rintro w H
                refine op_nil (at_segz rfl ?_)
                refine seg_nil ?_
                refine W_seq ?_
                have hS1 := hS0.step i (i - 1) ⟨by omega, by omega⟩ ⟨by omega, by omega⟩
                have hI1 : InsU (sw g i (i - 1)) a (i - 1) (i - 1) := fun x y hx hxy hy hne => by rw [sw_ne (by omega) (by omega), sw_ne (by omega) (by omega)]; exact hiv.2.2 x y hx hxy (by omega)
                obtain ⟨g1, hg1⟩ : ∃ g1, g1 = sw g i (i - 1) := ⟨_, rfl⟩
                rw [← hg1] at hS1 hI1 H
                refine W_rseq ?_
                refine op_move rfl (.int _ _) rfl ?_
                refine op_move rfl (.int _ _) rfl ?_
                refine op_sub_i64 rfl rfl rfl (by omega) (by omega) ?_
                refine op_geq rfl rfl rfl ?_
                refine op_nil (at_then ?_)
                refine W_joinK 39614081252520482778344587776 (α := Nat → Int) (fun _ => []) (fun g w' => SrtU g a i ∧ Sw a b f g ∧ Ctx w0 [q] w' [(q, Bl 24 (tabU g m))]) rfl ?_ ?_
                · skip
                  refine W_cond _ rfl ?_ ?_
                  · intro h4
                    replace h4 := dec_t h4
                    refine W_rseq ?_
                    refine op_move rfl (.int _ _) rfl ?_
                    refine op_sub_i64 rfl rfl rfl (by omega) (by omega) ?_
                    rw [show (i : Int) - 1 = ((i - 1 : Nat) : Int) by omega]
                    refine op_assign rfl (.int _ _) rfl ?_
                    refine op_nil (at_then ?_)
                    refine W_block ?_
                    refine W_loop 39614081238685424723062424064 (α := Nat × (Nat → Int)) (fun t => [(9, .int .i64 (t.1 : Int))]) (fun t w' => (a ≤ t.1 ∧ t.1 ≤ i - 1 ∧ InsU t.2 a t.1 (i - 1)) ∧ Sw a b f t.2 ∧ Ctx w0 [q] w' [(q, Bl 24 (tabU t.2 m))]) (fun t => t.1) (i - 1, g1) rfl ?_ ?_ ?_
                    · exact ⟨rfl, trivial⟩
                    · exact ⟨⟨by dsimp only; omega, Nat.le_refl _, hI1⟩, hS1, H⟩
                    · rintro ⟨j, g⟩ j3 w ⟨hj, hS, H⟩; dsimp only at hj hS H; dsimp only
                      have hex : (a < j → g (j - 1) ≤ g j) → SrtU g a i := fun h7 => by have h8 := hj.2.2.done hj.1 h7; rw [show i - 1 + 1 = i by omega] at h8; exact h8
                      refine W_seq ?_
                      refine W_rseq ?_
                      refine op_move rfl (.int _ _) rfl ?_
                      refine op_geq rfl rfl rfl ?_
                      refine op_nil (at_then ?_)
                      refine W_cond _ rfl ?_ ?_
                      · intro h5
                        replace h5 := dec_t h5
                        refine W_skip (at_then ?_)
                        refine W_seq ?_
                        refine W_block ?_
                        refine W_seq ?_
                        refine W_tseq 9 mixed_SoE (by kernel_rfl) rfl rfl ?_
                        refine q_move rfl (.slice _ _ _) rfl ?_
                        refine q_move rfl (.int _ _) rfl ?_
                        refine q_indexAddr rfl el_25_SoE sz_24_SoE rfl rfl (by omega) (by omega) ?_
                        first | refine q_ldb rfl ag_24_SoE rfl (by rintro _ rfl; exact H.drew) (by first | exact at0 | exact at1 | exact at2 | exact at3 | exact at4 | exact at5 | exact at6 | exact at7 | exact at8 | exact at9) rfl ?_ | refine q_ld rfl ag_24_SoE rfl (by rintro _ rfl; exact ((cellU (H.drew.get at0) (by omega)))) ?_
                        refine q_move rfl (.slice _ _ _) rfl ?_
                        refine q_move rfl (.int _ _) rfl ?_
                        refine q_sub_i64 rfl rfl rfl (by omega) (by omega) ?_
                        refine q_indexAddr rfl el_25_SoE sz_24_SoE rfl rfl (by omega) (by omega) ?_
                        first | refine q_ldb rfl ag_24_SoE rfl (by rintro _ rfl; exact H.drew) (by first | exact at0 | exact at1 | exact at2 | exact at3 | exact at4 | exact at5 | exact at6 | exact at7 | exact at8 | exact at9) rfl ?_ | refine q_ld rfl ag_24_SoE rfl (by rintro _ rfl; exact ((cellU (H.drew.get at0) (by omega)))) ?_
                        refine q_nil ?_
                        replace H := H.drew
                        refine op_call rfl ca_206_SoE (less_ok _ _ _) rfl ?_
                        rintro v w ⟨rfl, rfl⟩
                        rw [show ((j : Int) - 1).toNat = j - 1 by omega, Int.toNat_natCast]
                        refine op_not rfl rfl ?_
                        refine op_nil (at_then ?_)
                        refine W_cond _ rfl ?_ ?_
                        · intro h6
                          replace h6 := nvar_t h6
                          have h6 : ¬ g j < g (j - 1) := by simpa using h6
                          refine W_exit (exit_then (exit_pass rfl (exit_then (exit_then (exit_here (at_then ?_))))))
                          exact ⟨g, rfl, trivial, hex fun _ => by omega, hS, H⟩
                        · intro h6
                          replace h6 := nvar_f h6
                          have h6 : g j < g (j - 1) := by simpa using h6
                          have haj : a < j := by
                            rcases Nat.lt_or_ge a j with h | h
                            · exact h
                            · obtain rfl : a = j := by omega
                              have := hLBg (by omega) g hS a (Nat.le_refl _) hab
                              omega
                          refine W_skip (at_then ?_)
                          refine W_segz [([0, 1, 2, 3, 4, 5, 6, 7, 8, 9, 10, 11, 12, 13, 14], 15), ([16], 17)] (fun z => z.heap[q]? = some (Bl 24 (tabU (g) m))) [15, 17] mixed_SoE (by kernel_rfl) (H.drew.get at0) ?_
                          refine seg_cons rfl rfl ?_
                          refine t_move rfl (.slice _ _ _) rfl ?_
                          refine t_move rfl (.int _ _) rfl ?_
                          refine t_move rfl (.slice _ _ _) rfl ?_
                          refine t_move rfl (.int _ _) rfl ?_
                          refine t_sub_i64 rfl rfl rfl (by omega) (by omega) ?_
                          refine t_move rfl (.slice _ _ _) rfl ?_
                          refine t_move rfl (.int _ _) rfl ?_
                          refine t_sub_i64 rfl rfl rfl (by omega) (by omega) ?_
                          refine t_indexAddr rfl el_25_SoE sz_24_SoE rfl rfl (by omega) (by omega) ?_
                          first | refine t_ldb rfl ag_24_SoE rfl True.intro (by first | exact at0 | exact at1 | exact at2 | exact at3 | exact at4 | exact at5 | exact at6 | exact at7 | exact at8 | exact at9) rfl ?_ | refine t_ld rfl ag_24_SoE rfl (fun _ hx => (cellU hx (by omega))) ?_
                          refine t_move rfl (.slice _ _ _) rfl ?_
                          refine t_move rfl (.int _ _) rfl ?_
                          refine t_indexAddr rfl el_25_SoE sz_24_SoE rfl rfl (by omega) (by omega) ?_
                          first | refine t_ldb rfl ag_24_SoE rfl True.intro (by first | exact at0 | exact at1 | exact at2 | exact at3 | exact at4 | exact at5 | exact at6 | exact at7 | exact at8 | exact at9) rfl ?_ | refine t_ld rfl ag_24_SoE rfl (fun _ hx => (cellU hx (by omega))) ?_
                          refine t_indexAddr rfl el_25_SoE sz_24_SoE rfl rfl (by omega) (by omega) ?_
                          refine t_nil ?_
                          replace H := H.drew
                          refine op_str (j) (fun z => .int .u64 (if z = j then (g) (j - 1) else (g) z)) (.int _ _) rfl sz_24_SoE rfl rfl rfl H at0 (by omega) (by omega) (by rw [if_pos rfl]; exact congrArg (fun z => Value.int .u64 ((g) z)) (by omega)) (fun z _ hz => by rw [if_neg hz]) ?_
                          rintro w H
                          refine op_nil (at_segz rfl ?_)
                          refine seg_cons rfl rfl ?_
                          refine t_indexAddr rfl el_25_SoE sz_24_SoE rfl rfl (by omega) (by omega) ?_
                          refine t_nil ?_
                          refine op_str (j - 1) (fun z => .int .u64 (sw (g) (j) (j - 1) z)) (.int _ _) rfl sz_24_SoE rfl rfl rfl H at0 (by omega) (by omega) (by rw [sw_snd]; exact congrArg (fun z => Value.int .u64 ((g) z)) (by omega)) (fun z _ hz => by rw [sw_other hz]) ?_
                          rintro w H
                          refine op_nil (at_segz rfl ?_)
                          refine seg_nil ?_
                          refine at_block (at_then ?_)
                          refine W_region ?_
                          refine op_move rfl (.int _ _) rfl ?_
                          refine op_sub_i64 rfl rfl rfl (by omega) (by omega) ?_
                          refine op_assign rfl (.int _ _) rfl ?_
                          refine op_nil (at_then ?_)
                          exact ⟨(j - 1, sw g j (j - 1)), rfl, ⟨congrArg (Value.int .i64) (by dsimp only; omega), trivial⟩, ⟨⟨by dsimp only; omega, by dsimp only; omega, hj.2.2.step haj hj.2.1 h6⟩, hS.step j (j - 1) ⟨by omega, by omega⟩ ⟨by omega, by omega⟩, H⟩, by dsimp only; omega⟩
                      · intro h5
                        replace h5 := dec_f h5
                        refine W_exit (exit_then (exit_then (exit_here (at_then ?_))))
                        exact ⟨g, rfl, trivial, hex fun _ => by omega, hS, H⟩
                  · intro h4
                    replace h4 := dec_f h4
                    refine W_skip (at_then ?_)
                    exact ⟨g1, rfl, trivial, fun x y hx hxy hy => by omega, hS1, H⟩
                · rintro g2 j4 w ⟨hO2, hS2, H⟩
                  refine W_rseq ?_
                  refine op_move rfl (.int _ _) rfl ?_
                  refine op_move rfl (.int _ _) rfl ?_
                  refine op_sub_i64 rfl rfl rfl (by omega) (by omega) ?_
                  refine op_geq rfl rfl rfl ?_
                  refine op_nil (at_then ?_)
                  refine W_cond _ rfl ?_ ?_
                  · intro h4
                    replace h4 := dec_t h4
                    refine W_rseq ?_
                    refine op_move rfl (.int _ _) rfl ?_
                    refine op_add_i64 rfl rfl rfl (by omega) (by omega) ?_
                    rw [show (i : Int) + 1 = ((i + 1 : Nat) : Int) by omega]
                    refine op_assign rfl (.int _ _) rfl ?_
                    refine op_nil (at_then ?_)
                    refine W_block ?_
                    refine W_loop 10889035738934729630371528634823176356864 (α := Nat × (Nat → Int)) (fun t => [(10, .int .i64 (t.1 : Int))]) (fun t w' => (i + 1 ≤ t.1 ∧ t.1 ≤ b ∧ SrtU t.2 a i) ∧ Sw a b f t.2 ∧ Ctx w0 [q] w' [(q, Bl 24 (tabU t.2 m))]) (fun t => b - t.1) (i + 1, g2) rfl ?_ ?_ ?_
                    · exact ⟨rfl, trivial⟩
                    · exact ⟨⟨Nat.le_refl _, by dsimp only; omega, hO2⟩, hS2, H⟩
                    · rintro ⟨j, g⟩ j5 w ⟨hj, hS, H⟩; dsimp only at hj hS H; dsimp only
                      refine W_seq ?_
                      refine W_rseq ?_
                      refine op_move rfl (.int _ _) rfl ?_
                      refine op_move rfl (.int _ _) rfl ?_
                      refine op_lss rfl rfl rfl ?_
                      refine op_nil (at_then ?_)
                      refine W_cond _ rfl ?_ ?_
                      · intro h5
                        replace h5 := dec_t h5
                        refine W_skip (at_then ?_)
                        refine W_seq ?_
                        refine W_block ?_
                        refine W_seq ?_
                        refine W_tseq 9 mixed_SoE (by kernel_rfl) rfl rfl ?_
                        refine q_move rfl (.slice _ _ _) rfl ?_
                        refine q_move rfl (.int _ _) rfl ?_
                        refine q_indexAddr rfl el_25_SoE sz_24_SoE rfl rfl (by omega) (by omega) ?_
                        first | refine q_ldb rfl ag_24_SoE rfl (by rintro _ rfl; exact H.drew) (by first | exact at0 | exact at1 | exact at2 | exact at3 | exact at4 | exact at5 | exact at6 | exact at7 | exact at8 | exact at9) rfl ?_ | refine q_ld rfl ag_24_SoE rfl (by rintro _ rfl; exact ((cellU (H.drew.get at0) (by omega)))) ?_
                        refine q_move rfl (.slice _ _ _) rfl ?_
                        refine q_move rfl (.int _ _) rfl ?_
                        refine q_sub_i64 rfl rfl rfl (by omega) (by omega) ?_
                        refine q_indexAddr rfl el_25_SoE sz_24_SoE rfl rfl (by omega) (by omega) ?_
                        first | refine q_ldb rfl ag_24_SoE rfl (by rintro _ rfl; exact H.drew) (by first | exact at0 | exact at1 | exact at2 | exact at3 | exact at4 | exact at5 | exact at6 | exact at7 | exact at8 | exact at9) rfl ?_ | refine q_ld rfl ag_24_SoE rfl (by rintro _ rfl; exact ((cellU (H.drew.get at0) (by omega)))) ?_
                        refine q_nil ?_
                        replace H := H.drew
                        refine op_call rfl ca_206_SoE (less_ok _ _ _) rfl ?_
                        rintro v w ⟨rfl, rfl⟩
                        rw [show ((j : Int) - 1).toNat = j - 1 by omega, Int.toNat_natCast]
                        refine op_not rfl rfl ?_
                        refine op_nil (at_then ?_)
                        refine W_cond _ rfl ?_ ?_
                        · intro h6
                          replace h6 := nvar_t h6
                          refine W_exit (exit_then (exit_pass rfl (exit_then (exit_then (exit_here (at_block (at_then ?_)))))))
                          refine W_region ?_
                          refine op_move rfl (.int _ _) rfl ?_
                          refine op_add_i64 rfl rfl rfl (by omega) (by omega) ?_
                          refine op_assign rfl (.int _ _) rfl ?_
                          refine op_nil (at_then ?_)
                          exact ⟨(st + 1, i, g), rfl, ⟨rfl, rfl, trivial⟩, ⟨by dsimp only; omega, ⟨by dsimp only; omega, by dsimp only; omega, hj.2.2⟩, hS, H⟩, by dsimp only; omega⟩
                        · intro h6
                          replace h6 := nvar_f h6
                          refine W_skip (at_then ?_)
                          refine W_segz [([0, 1, 2, 3, 4, 5, 6, 7, 8, 9, 10, 11, 12, 13, 14], 15), ([16], 17)] (fun z => z.heap[q]? = some (Bl 24 (tabU (g) m))) [15, 17] mixed_SoE (by kernel_rfl) (H.drew.get at0) ?_
                          refine seg_cons rfl rfl ?_
                          refine t_move rfl (.slice _ _ _) rfl ?_
                          refine t_move rfl (.int _ _) rfl ?_
                          refine t_move rfl (.slice _ _ _) rfl ?_
                          refine t_move rfl (.int _ _) rfl ?_
                          refine t_sub_i64 rfl rfl rfl (by omega) (by omega) ?_
                          refine t_move rfl (.slice _ _ _) rfl ?_
                          refine t_move rfl (.int _ _) rfl ?_
                          refine t_sub_i64 rfl rfl rfl (by omega) (by omega) ?_
                          refine t_indexAddr rfl el_25_SoE sz_24_SoE rfl rfl (by omega) (by omega) ?_
                          first | refine t_ldb rfl ag_24_SoE rfl True.intro (by first | exact at0 | exact at1 | exact at2 | exact at3 | exact at4 | exact at5 | exact at6 | exact at7 | exact at8 | exact at9) rfl ?_ | refine t_ld rfl ag_24_SoE rfl (fun _ hx => (cellU hx (by omega))) ?_
                          refine t_move rfl (.slice _ _ _) rfl ?_
                          refine t_move rfl (.int _ _) rfl ?_
                          refine t_indexAddr rfl el_25_SoE sz_24_SoE rfl rfl (by omega) (by omega) ?_
                          first | refine t_ldb rfl ag_24_SoE rfl True.intro (by first | exact at0 | exact at1 | exact at2 | exact at3 | exact at4 | exact at5 | exact at6 | exact at7 | exact at8 | exact at9) rfl ?_ | refine t_ld rfl ag_24_SoE rfl (fun _ hx => (cellU hx (by omega))) ?_
                          refine t_indexAddr rfl el_25_SoE sz_24_SoE rfl rfl (by omega) (by omega) ?_
                          refine t_nil ?_
                          replace H := H.drew
                          refine op_str (j) (fun z => .int .u64 (if z = j then (g) (j - 1) else (g) z)) (.int _ _) rfl sz_24_SoE rfl rfl rfl H at0 (by omega) (by omega) (by rw [if_pos rfl]; exact congrArg (fun z => Value.int .u64 ((g) z)) (by omega)) (fun z _ hz => by rw [if_neg hz]) ?_
                          rintro w H
                          refine op_nil (at_segz rfl ?_)
                          refine seg_cons rfl rfl ?_
                          refine t_indexAddr rfl el_25_SoE sz_24_SoE rfl rfl (by omega) (by omega) ?_
                          refine t_nil ?_
                          refine op_str (j - 1) (fun z => .int .u64 (sw (g) (j) (j - 1) z)) (.int _ _) rfl sz_24_SoE rfl rfl rfl H at0 (by omega) (by omega) (by rw [sw_snd]; exact congrArg (fun z => Value.int .u64 ((g) z)) (by omega)) (fun z _ hz => by rw [sw_other hz]) ?_
                          rintro w H
                          refine op_nil (at_segz rfl ?_)
                          refine seg_nil ?_
                          refine at_block (at_then ?_)
                          refine W_region ?_
                          refine op_move rfl (.int _ _) rfl ?_
                          refine op_add_i64 rfl rfl rfl (by omega) (by omega) ?_
                          refine op_assign rfl (.int _ _) rfl ?_
                          refine op_nil (at_then ?_)
                          exact ⟨(j + 1, sw g j (j - 1)), rfl, ⟨rfl, trivial⟩, ⟨⟨by dsimp only; omega, by dsimp only; omega, fun x y hx hxy hy => by dsimp only; rw [sw_ne (by omega) (by omega), sw_ne (by omega) (by omega)]; exact hj.2.2 x y hx hxy hy⟩, hS.step j (j - 1) ⟨by omega, by omega⟩ ⟨by omega, by omega⟩, H⟩, by dsimp only; omega⟩
                      · intro h5
                        replace h5 := dec_f h5
                        refine W_exit (exit_then (exit_then (exit_here (at_block (at_then ?_)))))
                        refine W_region ?_
                        refine op_move rfl (.int _ _) rfl ?_
                        refine op_add_i64 rfl rfl rfl (by omega) (by omega) ?_
                        refine op_assign rfl (.int _ _) rfl ?_
                        refine op_nil (at_then ?_)
                        exact ⟨(st + 1, i, g), rfl, ⟨rfl, rfl, trivial⟩, ⟨by dsimp only; omega, ⟨by dsimp only; omega, by dsimp only; omega, hj.2.2⟩, hS, H⟩, by dsimp only; omega⟩
                  · intro h4
                    replace h4 := dec_f h4
                    refine W_skip (at_block (at_then ?_))
                    refine W_region ?_
                    refine op_move rfl (.int _ _) rfl ?_
                    refine op_add_i64 rfl rfl rfl (by omega) (by omega) ?_
                    refine op_assign rfl (.int _ _) rfl ?_
                    refine op_nil (at_then ?_)
                    exact ⟨(st + 1, i, g2), rfl, ⟨rfl, rfl, trivial⟩, ⟨by dsimp only; omega, ⟨by dsimp only; omega, by dsimp only; omega, hO2⟩, hS2, H⟩, by dsimp only; omega⟩
    · intro h1
      replace h1 := dec_f h1
      refine W_exit (exit_then (exit_then (exit_here (at_then ?_))))
      refine W_rseq ?_
      refine op_assign rfl (.bool _) rfl ?_
      refine op_nil (at_then ?_)
      refine W_ret (leave1 (v := (.bool _)) rfl rfl rfl ?_)
      exact ⟨false, g, rfl, hS0, (fun h => by cases h), H⟩
end

end Go.Proofs.YtapphbmlkdhnmaaGreat

/- Sorting numbers of 64 bits: the whole. -/
namespace Go.Proofs.YtapphbmlkdhnmaaGreat
open Go.GV
theorem ag_24_SoF : aggB Tryz.prog 24 = some false := by kernel_rfl
theorem ag_260_SoF : aggB Tryz.prog 260 = some false := by kernel_rfl
theorem ca_118_SoF : callable Tryz.prog 118 = true := by kernel_rfl
theorem ca_175_SoF : callable Tryz.prog 175 = true := by kernel_rfl
theorem ca_219_SoF : callable Tryz.prog 219 = true := by kernel_rfl
theorem ca_220_SoF : callable Tryz.prog 220 = true := by kernel_rfl
theorem el_25_SoF : elemT Tryz.prog 25 = some 24 := by kernel_rfl
theorem mixed_SoF : Tryz.prog.follows .mixedOrders = true := by kernel_rfl
theorem sz_24_SoF : tsize Tryz.prog 24 = some 1 := by kernel_rfl
theorem sz_260_SoF : tsize Tryz.prog 260 = some 1 := by kernel_rfl
theorem un_260_SoF : Tryz.prog.underlying 260 = some (.int .u64) := by kernel_rfl
theorem un_3_SoF : Tryz.prog.underlying 3 = some (.int .i64) := by kernel_rfl
theorem un_79_SoF : Tryz.prog.underlying 79 = some (.int .u64) := by kernel_rfl
theorem zc_260_SoF : zcells Tryz.prog 260 = some ([.int .u64 0]) := by kernel_rfl
attribute [local irreducible] Wops W Wq Wt

theorem len_ok (x : Nat) (hx : x ≤ 4503599627370496) (w : World) : Ret Tryz.prog 175 #[.int .u64 (x : Int)] w fun v w' => ∃ r : Nat, v = .int .i64 (r : Int) ∧ x < 2 ^ r ∧ r ≤ 64 ∧ (0 < x → 2 ^ r ≤ 2 * x) ∧ w = w' := by
  refine ret_of_W (fn := Tryz.f175) Tryz.func175 rfl [.int .u64 (x : Int)] rfl (by kernel_rfl) ?_
  refine W_rseq ?_
  refine op_assign rfl (.int _ _) rfl ?_
  refine op_nil (at_then ?_)
  refine W_seq ?_
  refine W_cond _ rfl ?_ ?_
  · intro h
    cases h
  · intro h
    refine W_skip (at_then ?_)
    refine W_rseq ?_
    refine op_move rfl (.int _ _) rfl ?_
    refine op_call rfl ca_118_SoF (len64_ok x hx w) rfl ?_
    rintro v w ⟨r, rfl, h1, h2, h3, rfl⟩
    refine op_assign rfl (.int _ _) rfl ?_
    refine op_nil (at_then ?_)
    refine W_ret (leave1 (v := (.int _ _)) rfl rfl rfl ?_)
    exact ⟨r, rfl, h1, h2, h3, rfl⟩
theorem npow_ok (l : Nat) (h0 : 0 < l) (hl : l ≤ 1000000000) (w : World) : Ret Tryz.prog 219 #[.int .i64 (l : Int)] w fun v w' => ∃ r : Nat, v = .int .u64 (r : Int) ∧ 0 < r ∧ r ≤ 2 * l ∧ w = w' := by
  refine ret_of_W (fn := Tryz.f219) Tryz.func219 rfl [.int .i64 (l : Int)] rfl (by kernel_rfl) ?_
  refine W_rseq ?_
  refine op_assign rfl (.int _ _) rfl ?_
  refine op_nil (at_then ?_)
  refine W_rseq ?_
  refine op_move rfl (.int _ _) rfl ?_
  refine op_conv_u64 rfl rfl un_3_SoF un_79_SoF (by omega) (by omega) ?_
  refine op_call rfl ca_175_SoF (len_ok l (by omega) w) rfl ?_
  rintro v w ⟨r, rfl, h1, h2, h3, rfl⟩
  refine op_shl_u64 (a := 1) (n := r) rfl rfl rfl h2 ?_
  refine op_assign rfl (.int _ _) rfl ?_
  refine op_nil (at_then ?_)
  refine W_ret (leave1 (v := (.int _ _)) rfl rfl rfl ?_)
  have h4 := h3 h0
  have h5 := Nat.two_pow_pos r
  exact ⟨2 ^ r, congrArg (Value.int .u64) (by rw [Nat.one_mul, Nat.mod_eq_of_lt (by omega)]), h5, h4, rfl⟩
theorem xor64 {x y : Nat} (hx : x < 18446744073709551616) (hy : y < 18446744073709551616) : x ^^^ y < 18446744073709551616 := Nat.xor_lt_two_pow (n := 64) hx hy
section
variable {w : World} {q n c m s : Nat} {f : Nat → Int}
set_option maxRecDepth 20000 in
theorem next_ok {z : Nat} (hs : w.heap[s]? = some (Bl 260 [.int .u64 (z : Int)])) (hz : z < 18446744073709551616) :
    Ret Tryz.prog 220 #[ptr s] w fun v w' => ∃ z' : Nat, v = .int .u64 (z' : Int) ∧ z' < 18446744073709551616 ∧ Ctx w [s] w' [(s, Bl 260 [.int .u64 (z' : Int)])] := by
  obtain ⟨w0, rfl⟩ : ∃ w0, w0 = w := ⟨_, rfl⟩
  have H := Ctx.start1 hs
  refine ret_of_W (fn := Tryz.f220) Tryz.func220 rfl [.pointer (some ⟨s, 0, none⟩)] rfl (by kernel_rfl) ?_
  have b1 := Nat.mod_lt (z * 2 ^ 13) (show 0 < 18446744073709551616 by decide)
  obtain ⟨y1, hy1⟩ : ∃ y1, y1 = z * 2 ^ 13 % 18446744073709551616 := ⟨_, rfl⟩
  rw [← hy1] at b1
  refine W_rseq ?_
  refine op_assign rfl (.int _ _) rfl ?_
  refine op_nil (at_then ?_)
  refine W_tseq 9 mixed_SoF (by kernel_rfl) rfl rfl ?_
  refine q_move rfl (.pointer _) rfl ?_
  refine q_nilCheck rfl rfl ?_
  refine q_ldb rfl ag_260_SoF rfl (by rintro _ rfl; exact H.drew) (by first | exact at0 | exact at1 | exact at2 | exact at3 | exact at4 | exact at5 | exact at6 | exact at7 | exact at8 | exact at9) rfl ?_
  refine q_move rfl (.pointer _) rfl ?_
  refine q_nilCheck rfl rfl ?_
  refine q_ldb rfl ag_260_SoF rfl (by rintro _ rfl; exact H.drew) (by first | exact at0 | exact at1 | exact at2 | exact at3 | exact at4 | exact at5 | exact at6 | exact at7 | exact at8 | exact at9) rfl ?_
  refine q_shl_u64 (a := z) (n := 13) rfl rfl rfl (by decide) ?_
  rw [← hy1]
  refine q_xor_u64 (a := z) (b := y1) rfl rfl rfl hz b1 ?_
  refine q_nilCheck rfl rfl ?_
  refine q_nil ?_
  replace H := H.drew
  refine op_stb (.int _ _) rfl sz_260_SoF rfl rfl rfl H (by first | exact at0 | exact at1 | exact at2 | exact at3 | exact at4 | exact at5 | exact at6 | exact at7 | exact at8 | exact at9) (by first | decide | (simp; done) | (simp; omega)) ?_
  rintro w H
  refine op_nil (at_then ?_)
  obtain ⟨z1, hz1⟩ : ∃ z1, z1 = z ^^^ y1 := ⟨_, rfl⟩
  have c1 := xor64 hz b1
  rw [← hz1] at c1
  replace H : Ctx w0 [s] w [(s, Bl 260 [.int .u64 (z1 : Int)])] := by rw [hz1]; exact H
  have b2 : z1 / 2 ^ 7 < 18446744073709551616 := Nat.lt_of_le_of_lt (Nat.div_le_self _ _) c1
  obtain ⟨y2, hy2⟩ : ∃ y2, y2 = z1 / 2 ^ 7 := ⟨_, rfl⟩
  rw [← hy2] at b2
  refine W_tseq 9 mixed_SoF (by kernel_rfl) rfl rfl ?_
  refine q_move rfl (.pointer _) rfl ?_
  refine q_nilCheck rfl rfl ?_
  refine q_ldb rfl ag_260_SoF rfl (by rintro _ rfl; exact H.drew) (by first | exact at0 | exact at1 | exact at2 | exact at3 | exact at4 | exact at5 | exact at6 | exact at7 | exact at8 | exact at9) rfl ?_
  refine q_move rfl (.pointer _) rfl ?_
  refine q_nilCheck rfl rfl ?_
  refine q_ldb rfl ag_260_SoF rfl (by rintro _ rfl; exact H.drew) (by first | exact at0 | exact at1 | exact at2 | exact at3 | exact at4 | exact at5 | exact at6 | exact at7 | exact at8 | exact at9) rfl ?_
  refine q_shr_u64 (a := z1) (n := 7) rfl rfl rfl (by decide) ?_
  rw [← hy2]
  refine q_xor_u64 (a := z1) (b := y2) rfl rfl rfl c1 b2 ?_
  refine q_nilCheck rfl rfl ?_
  refine q_nil ?_
  replace H := H.drew
  refine op_stb (.int _ _) rfl sz_260_SoF rfl rfl rfl H (by first | exact at0 | exact at1 | exact at2 | exact at3 | exact at4 | exact at5 | exact at6 | exact at7 | exact at8 | exact at9) (by first | decide | (simp; done) | (simp; omega)) ?_
  rintro w H
  refine op_nil (at_then ?_)
  obtain ⟨z2, hz2⟩ : ∃ z2, z2 = z1 ^^^ y2 := ⟨_, rfl⟩
  have c2 := xor64 c1 b2
  rw [← hz2] at c2
  replace H : Ctx w0 [s] w [(s, Bl 260 [.int .u64 (z2 : Int)])] := by rw [hz2]; exact H
  have b3 := Nat.mod_lt (z2 * 2 ^ 17) (show 0 < 18446744073709551616 by decide)
  obtain ⟨y3, hy3⟩ : ∃ y3, y3 = z2 * 2 ^ 17 % 18446744073709551616 := ⟨_, rfl⟩
  rw [← hy3] at b3
  refine W_tseq 9 mixed_SoF (by kernel_rfl) rfl rfl ?_
  refine q_move rfl (.pointer _) rfl ?_
  refine q_nilCheck rfl rfl ?_
  refine q_ldb rfl ag_260_SoF rfl (by rintro _ rfl; exact H.drew) (by first | exact at0 | exact at1 | exact at2 | exact at3 | exact at4 | exact at5 | exact at6 | exact at7 | exact at8 | exact at9) rfl ?_
  refine q_move rfl (.pointer _) rfl ?_
  refine q_nilCheck rfl rfl ?_
  refine q_ldb rfl ag_260_SoF rfl (by rintro _ rfl; exact H.drew) (by first | exact at0 | exact at1 | exact at2 | exact at3 | exact at4 | exact at5 | exact at6 | exact at7 | exact at8 | exact at9) rfl ?_
  refine q_shl_u64 (a := z2) (n := 17) rfl rfl rfl (by decide) ?_
  rw [← hy3]
  refine q_xor_u64 (a := z2) (b := y3) rfl rfl rfl c2 b3 ?_
  refine q_nilCheck rfl rfl ?_
  refine q_nil ?_
  replace H := H.drew
  refine op_stb (.int _ _) rfl sz_260_SoF rfl rfl rfl H (by first | exact at0 | exact at1 | exact at2 | exact at3 | exact at4 | exact at5 | exact at6 | exact at7 | exact at8 | exact at9) (by first | decide | (simp; done) | (simp; omega)) ?_
  rintro w H
  refine op_nil (at_then ?_)
  refine W_rseq ?_
  refine op_move rfl (.pointer _) rfl ?_
  refine op_nilCheck rfl rfl ?_
  refine op_ldb rfl ag_260_SoF rfl H (by first | exact at0 | exact at1 | exact at2 | exact at3 | exact at4 | exact at5 | exact at6 | exact at7 | exact at8 | exact at9) rfl ?_
  refine op_assign rfl (.int _ _) rfl ?_
  refine op_nil (at_then ?_)
  refine W_ret (leave1 (v := (.int _ _)) rfl rfl rfl ?_)
  exact ⟨z2 ^^^ y3, rfl, xor64 c2 b3, H⟩

set_option maxRecDepth 20000 in
set_option maxHeartbeats 2000000 in
theorem break_ok {a b : Nat} (hd : w.heap[q]? = some (Bl 24 (tabU f m))) (hab : a < b) (hb : b ≤ n) (hn : n ≤ m) (hm : n ≤ 1000000000) :
    Ret Tryz.prog 202 #[.slice (some ⟨q, 0, none⟩) n c, .int .i64 (a : Int), .int .i64 (b : Int)] w fun v w' => v = .tuple #[] ∧ ∃ g, Sw a b f g ∧ Ctx w [q] w' [(q, Bl 24 (tabU g m))] := by
  obtain ⟨w0, rfl⟩ : ∃ w0, w0 = w := ⟨_, rfl⟩
  have H := Ctx.start1 hd
  obtain ⟨l, rfl⟩ : ∃ l, b = a + l := ⟨b - a, by omega⟩
  have hl : ((a + l : Nat) : Int) - (a : Int) = (l : Int) := by omega
  refine ret_of_W (fn := Tryz.f202) Tryz.func202 rfl [.slice (some ⟨q, 0, none⟩) n c, .int .i64 (a : Int), .int .i64 ((a + l : Nat) : Int)] rfl (by kernel_rfl) ?_
  refine W_rseq ?_
  refine op_move rfl (.int _ _) rfl ?_
  refine op_move rfl (.int _ _) rfl ?_
  refine op_sub_i64 rfl rfl rfl (by omega) (by omega) ?_
  rw [hl]
  refine op_assign rfl (.int _ _) rfl ?_
  refine op_nil (at_then ?_)
  refine W_rseq ?_
  refine op_move rfl (.int _ _) rfl ?_
  refine op_geq rfl rfl rfl ?_
  refine op_nil (at_then ?_)
  refine W_cond _ rfl ?_ ?_
  · intro h1
    replace h1 := dec_t h1
    refine W_rseq ?_
    refine op_move rfl (.int _ _) rfl ?_
    refine op_conv_u64 rfl rfl un_3_SoF un_260_SoF (by omega) (by omega) ?_
    refine op_alloc rfl zc_260_SoF H ?_
    rintro b7 w - H
    refine op_stb (.int _ _) rfl sz_260_SoF rfl rfl rfl H (by first | exact at0 | exact at1 | exact at2 | exact at3 | exact at4 | exact at5 | exact at6 | exact at7 | exact at8 | exact at9) (by first | decide | (simp; done) | (simp; omega)) ?_
    rintro w H
    refine op_nil (at_then ?_)
    refine W_rseq ?_
    refine op_move rfl (.int _ _) rfl ?_
    refine op_call rfl ca_219_SoF (npow_ok l (by omega) (by omega) _) rfl ?_
    rintro v w ⟨M, rfl, hM0, hM, rfl⟩
    refine op_assign rfl (.int _ _) rfl ?_
    refine op_nil (at_then ?_)
    refine W_rseq ?_
    refine op_move rfl (.int _ _) rfl ?_
    refine op_move rfl (.int _ _) rfl ?_
    refine op_quo rfl rfl rfl (by omega) (by omega) (show _ ≤ (9223372036854775807 : Int) by omega) ?_
    refine op_mul_i64 rfl rfl rfl (by omega) (by omega) ?_
    refine op_add_i64 rfl rfl rfl (by omega) (by omega) ?_
    refine op_sub_i64 rfl rfl rfl (by omega) (by omega) ?_
    rw [show (a : Int) + (l : Int) / 4 * 2 - 1 = ((a + l / 4 * 2 - 1 : Nat) : Int) by omega]
    refine op_assign rfl (.int _ _) rfl ?_
    refine op_nil (at_then ?_)
    refine W_block ?_
    refine W_loop 36893488147351995904 (α := Nat × (Nat → Int) × Nat) (fun t => [(9, .int .i64 (t.1 : Int))]) (fun t w' => a ≤ t.1 ∧ t.1 ≤ a + l / 4 * 2 + 2 ∧ t.2.2 < 18446744073709551616 ∧ Sw a (a + l) f t.2.1 ∧ Ctx w0 [q] w' [(b7, Bl 260 [.int .u64 (t.2.2 : Int)]), (q, Bl 24 (tabU t.2.1 m))]) (fun t => a + l / 4 * 2 + 2 - t.1) (a + l / 4 * 2 - 1, f, l) rfl ?_ ?_ ?_
    · exact ⟨rfl, trivial⟩
    · exact ⟨by dsimp only; omega, by dsimp only; omega, by dsimp only; omega, .refl _, H⟩
    · rintro ⟨i, g, z⟩ j0 w ⟨hi1, hi2, hz, hS, H⟩; dsimp only at hi1 hi2 hz hS H; dsimp only
      refine W_seq ?_
      refine W_rseq ?_
      refine op_move rfl (.int _ _) rfl ?_
      refine op_move rfl (.int _ _) rfl ?_
      refine op_move rfl (.int _ _) rfl ?_
      refine op_quo rfl rfl rfl (by omega) (by omega) (show _ ≤ (9223372036854775807 : Int) by omega) ?_
      refine op_mul_i64 rfl rfl rfl (by omega) (by omega) ?_
      refine op_add_i64 rfl rfl rfl (by omega) (by omega) ?_
      refine op_add_i64 rfl rfl rfl (by omega) (by omega) ?_
      refine op_leq rfl rfl rfl ?_
      refine op_nil (at_then ?_)
      refine W_cond _ rfl ?_ ?_
      · intro h2
        replace h2 := dec_t h2
        refine W_skip (at_then ?_)
        refine W_seq ?_
        refine W_block ?_
        refine W_rseq ?_
        refine op_call rfl ca_220_SoF (next_ok (H.get at0) hz) rfl ?_
        rintro v w ⟨z2, rfl, hz2, H2⟩
        replace H := Ctx.back (L1 := [_]) (L2 := [_]) H H2
        refine op_move rfl (.int _ _) rfl ?_
        refine op_sub_u64 rfl rfl rfl (by omega) (by omega) ?_
        rw [show (M : Int) - 1 = ((M - 1 : Nat) : Int) by omega]
        refine op_and_u64 (a := z2) (b := M - 1) rfl rfl rfl hz2 (by omega) ?_
        have hand : z2 &&& (M - 1) ≤ M - 1 := Nat.and_le_right
        refine op_conv_i64 rfl rfl un_79_SoF un_3_SoF (by omega) (by omega) ?_
        refine op_assign rfl (.int _ _) rfl ?_
        refine op_nil (at_then ?_)
        refine W_seq ?_
        refine W_rseq ?_
        refine op_move rfl (.int _ _) rfl ?_
        refine op_move rfl (.int _ _) rfl ?_
        refine op_geq rfl rfl rfl ?_
        refine op_nil (at_then ?_)
        obtain ⟨r, hr⟩ : ∃ r, r = z2 &&& (M - 1) := ⟨_, rfl⟩
        have hr2 : r ≤ M - 1 := by rw [hr]; exact Nat.and_le_right
        rw [← hr]
        refine W_joinK 123145302311936 (α := Nat) (fun r => [(10, .int .i64 (r : Int))]) (fun r w' => r < l ∧ Ctx w0 [q] w' [(b7, Bl 260 [.int .u64 (z2 : Int)]), (q, Bl 24 (tabU g m))]) rfl ?_ ?_
        · skip
          refine W_cond _ rfl ?_ ?_
          · intro h3
            replace h3 := dec_t h3
            refine W_region ?_
            refine op_move rfl (.int _ _) rfl ?_
            refine op_move rfl (.int _ _) rfl ?_
            refine op_sub_i64 rfl rfl rfl (by omega) (by omega) ?_
            refine op_assign rfl (.int _ _) rfl ?_
            refine op_nil (at_then ?_)
            exact ⟨r - l, rfl, ⟨congrArg (Value.int .i64) (by omega), trivial⟩, by omega, H⟩
          · intro h3
            replace h3 := dec_f h3
            refine W_skip (at_then ?_)
            exact ⟨r, rfl, ⟨rfl, trivial⟩, by omega, H⟩
        · rintro r2 j1 w ⟨hr3, H⟩
          refine W_segz [([0, 1, 2, 3, 4, 5, 6, 7, 8, 9, 10, 11, 12, 13, 14, 15, 16], 17), ([18], 19)] (fun z => z.heap[q]? = some (Bl 24 (tabU (g) m))) [17, 19] mixed_SoF (by kernel_rfl) (H.drew.get at1) ?_
          refine seg_cons rfl rfl ?_
          refine t_move rfl (.slice _ _ _) rfl ?_
          refine t_move rfl (.int _ _) rfl ?_
          refine t_move rfl (.slice _ _ _) rfl ?_
          refine t_move rfl (.int _ _) rfl ?_
          refine t_move rfl (.int _ _) rfl ?_
          refine t_add_i64 rfl rfl rfl (by omega) (by omega) ?_
          refine t_move rfl (.slice _ _ _) rfl ?_
          refine t_move rfl (.int _ _) rfl ?_
          refine t_move rfl (.int _ _) rfl ?_
          refine t_add_i64 rfl rfl rfl (by omega) (by omega) ?_
          refine t_indexAddr rfl el_25_SoF sz_24_SoF rfl rfl (by omega) (by omega) ?_
          first | refine t_ldb rfl ag_24_SoF rfl True.intro (by first | exact at0 | exact at1 | exact at2 | exact at3 | exact at4 | exact at5 | exact at6 | exact at7 | exact at8 | exact at9) rfl ?_ | refine t_ld rfl ag_24_SoF rfl (fun _ hx => (cellU hx (by omega))) ?_
          refine t_move rfl (.slice _ _ _) rfl ?_
          refine t_move rfl (.int _ _) rfl ?_
          refine t_indexAddr rfl el_25_SoF sz_24_SoF rfl rfl (by omega) (by omega) ?_
          first | refine t_ldb rfl ag_24_SoF rfl True.intro (by first | exact at0 | exact at1 | exact at2 | exact at3 | exact at4 | exact at5 | exact at6 | exact at7 | exact at8 | exact at9) rfl ?_ | refine t_ld rfl ag_24_SoF rfl (fun _ hx => (cellU hx (by omega))) ?_
          refine t_indexAddr rfl el_25_SoF sz_24_SoF rfl rfl (by omega) (by omega) ?_
          refine t_nil ?_
          replace H := H.drew
          refine op_str (i) (fun z => .int .u64 (if z = i then (g) (a + r2) else (g) z)) (.int _ _) rfl sz_24_SoF rfl rfl rfl H at1 (by omega) (by omega) (by rw [if_pos rfl]; exact congrArg (fun z => Value.int .u64 ((g) z)) (by omega)) (fun z _ hz => by rw [if_neg hz]) ?_
          rintro w H
          refine op_nil (at_segz rfl ?_)
          refine seg_cons rfl rfl ?_
          refine t_indexAddr rfl el_25_SoF sz_24_SoF rfl rfl (by omega) (by omega) ?_
          refine t_nil ?_
          refine op_str (a + r2) (fun z => .int .u64 (sw (g) (i) (a + r2) z)) (.int _ _) rfl sz_24_SoF rfl rfl rfl H at1 (by omega) (by omega) (by rw [sw_snd]; exact congrArg (fun z => Value.int .u64 ((g) z)) (by omega)) (fun z _ hz => by rw [sw_other hz]) ?_
          rintro w H
          refine op_nil (at_segz rfl ?_)
          refine seg_nil ?_
          refine at_block (at_then ?_)
          refine W_region ?_
          refine op_move rfl (.int _ _) rfl ?_
          refine op_add_i64 rfl rfl rfl (by omega) (by omega) ?_
          refine op_assign rfl (.int _ _) rfl ?_
          refine op_nil (at_then ?_)
          exact ⟨(i + 1, sw g i (a + r2), z2), rfl, ⟨rfl, trivial⟩, ⟨by dsimp only; omega, by dsimp only; omega, hz2, hS.step i (a + r2) ⟨by omega, by omega⟩ ⟨by omega, by omega⟩, H⟩, by dsimp only; omega⟩
      · intro h2
        replace h2 := dec_f h2
        refine W_exit (exit_then (exit_then (exit_here (leave0n rfl rfl ?_))))
        exact ⟨rfl, g, hS, H.tail⟩
  · intro h1
    replace h1 := dec_f h1
    refine W_skip (leave0n rfl rfl ?_)
    exact ⟨rfl, f, .refl _, H⟩
end

end Go.Proofs.YtapphbmlkdhnmaaGreat
