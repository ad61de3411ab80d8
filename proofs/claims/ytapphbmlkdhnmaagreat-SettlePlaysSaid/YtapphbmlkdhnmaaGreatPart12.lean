/- Part 12 of the proof. -/
import Derived.Test.YtapphbmlkdhnmaaGreatPart11
import Derived.Test.YtapphbmlkdhnmaaGreatPart4
import Derived.Test.YtapphbmlkdhnmaaGreatPart3
import Derived.Test.YtapphbmlkdhnmaaGreatPart7
import Derived.Maps.RangeRun
/- Sorting numbers of 64 bits: slices.Sort. -/
namespace Go.Proofs.YtapphbmlkdhnmaaGreat
open Go.GV
theorem ag_24_SoG : aggB Tryz.prog 24 = some false := by kernel_rfl
theorem ca_174_SoG : callable Tryz.prog 174 = true := by kernel_rfl
theorem ca_175_SoG : callable Tryz.prog 175 = true := by kernel_rfl
theorem ca_200_SoG : callable Tryz.prog 200 = true := by kernel_rfl
theorem ca_201_SoG : callable Tryz.prog 201 = true := by kernel_rfl
theorem ca_202_SoG : callable Tryz.prog 202 = true := by kernel_rfl
theorem ca_203_SoG : callable Tryz.prog 203 = true := by kernel_rfl
theorem ca_204_SoG : callable Tryz.prog 204 = true := by kernel_rfl
theorem ca_205_SoG : callable Tryz.prog 205 = true := by kernel_rfl
theorem ca_206_SoG : callable Tryz.prog 206 = true := by kernel_rfl
theorem ca_207_SoG : callable Tryz.prog 207 = true := by kernel_rfl
theorem ca_208_SoG : callable Tryz.prog 208 = true := by kernel_rfl
theorem el_25_SoG : elemT Tryz.prog 25 = some 24 := by kernel_rfl
theorem mixed_SoG : Tryz.prog.follows .mixedOrders = true := by kernel_rfl
theorem sz_24_SoG : tsize Tryz.prog 24 = some 1 := by kernel_rfl
theorem un_3_SoG : Tryz.prog.underlying 3 = some (.int .i64) := by kernel_rfl
theorem un_79_SoG : Tryz.prog.underlying 79 = some (.int .u64) := by kernel_rfl
attribute [local irreducible] Wops W Wq Wt

/-- Sorted, once what lies between a' and b' is. -/
structure PQ (f g : Nat → Int) (a b a' b' : Nat) : Prop where
  ha : a ≤ a'
  hab : a' ≤ b'
  hb : b' ≤ b
  sw : Sw a b f g
  out : ∀ x y, a ≤ x → x < y → y < b → ¬ (a' ≤ x ∧ y < b') → g x ≤ g y
  lb : 0 < a' → ∀ x, a' ≤ x → x < b' → g (a' - 1) ≤ g x
section
variable {f g g' : Nat → Int} {a b a' b' : Nat}
theorem PQ.swap (h : PQ f g a b a' b') (s : Sw a' b' g g') : PQ f g' a b a' b' := by
  refine ⟨h.ha, h.hab, h.hb, h.sw.trans (s.mono h.ha h.hb), fun x y hx hxy hy hn => ?_, fun h0 x hx hxb => ?_⟩
  · by_cases ix : a' ≤ x ∧ x < b'
    · obtain ⟨x2, h1, h2, h3⟩ := s.mem x ix.1 ix.2
      rw [h3, s.out y (.inr (by omega))]
      exact h.out x2 y (Nat.le_trans h.ha h1) (by omega) hy (by omega)
    · rw [s.out x (by omega)]
      by_cases iy : a' ≤ y ∧ y < b'
      · obtain ⟨y2, h1, h2, h3⟩ := s.mem y iy.1 iy.2
        rw [h3]
        exact h.out x y2 hx (by omega) (Nat.lt_of_lt_of_le h2 h.hb) (by omega)
      · rw [s.out y (by omega)]
        exact h.out x y hx hxy hy hn
  · obtain ⟨x2, h1, h2, h3⟩ := s.mem x hx hxb
    rw [h3, s.out (a' - 1) (.inl (by omega))]
    exact h.lb h0 x2 h1 h2
theorem PQ.done (h : PQ f g a b a' b') (s : SrtU g a' b') : SrtU g a b := fun x y hx hxy hy => by
  by_cases hn : a' ≤ x ∧ y < b'
  · exact s x y hn.1 hxy hn.2
  · exact h.out x y hx hxy hy hn
theorem PQ.eq {i : Nat} (h : PQ f g a b a' b') (h0 : 0 < a') (hle : g a' ≤ g (a' - 1)) (hi : a' < i) (hi2 : i ≤ b') (h1 : ∀ x, a' ≤ x → x < i → g x ≤ g a') (h2 : ∀ y, i ≤ y → y < b' → g a' < g y) : PQ f g a b i b' := by
  refine ⟨by have := h.ha; omega, hi2, h.hb, h.sw, fun x y hx hxy hy hn => ?_, fun _ x hx hxb => ?_⟩
  · by_cases hin : a' ≤ x ∧ y < b'
    · have hxi : x < i := by omega
      have hx1 := h1 x hin.1 hxi
      rcases Nat.lt_or_ge y i with h3 | h3
      · have := h.lb h0 y (by omega) hin.2
        omega
      · have := h2 y h3 hin.2
        omega
    · exact h.out x y hx hxy hy hin
  · have e1 := h1 (i - 1) (by omega) (by omega)
    have e2 := h2 x hx hxb
    omega
theorem PartU.sw {mid lo hi : Nat} (p : PartU g a' mid b') (s : Sw lo hi g g') (h : (a' ≤ lo ∧ hi ≤ mid) ∨ (mid < lo ∧ hi ≤ b')) : PartU g' a' mid b' := by
  have hm : g' mid = g mid := s.out mid (by omega)
  refine ⟨fun x hx hxm => ?_, fun y hy hyb => ?_⟩
  · rw [hm]
    by_cases ix : lo ≤ x ∧ x < hi
    · obtain ⟨x2, h1, h2, h3⟩ := s.mem x ix.1 ix.2
      rw [h3]; exact p.le x2 (by omega) (by omega)
    · rw [s.out x (by omega)]; exact p.le x hx hxm
  · rw [hm]
    by_cases iy : lo ≤ y ∧ y < hi
    · obtain ⟨y2, h1, h2, h3⟩ := s.mem y iy.1 iy.2
      rw [h3]; exact p.ge y2 (by omega) (by omega)
    · rw [s.out y (by omega)]; exact p.ge y hy hyb
theorem PQ.right {mid : Nat} (h : PQ f g a b a' b') (hm1 : a' ≤ mid) (hm2 : mid < b') (p : PartU g a' mid b') (s : SrtU g a' mid) : PQ f g a b (mid + 1) b' := by
  refine ⟨by have := h.ha; omega, by omega, h.hb, h.sw, fun x y hx hxy hy hn => ?_, fun _ x hx hxb => p.ge x (by omega) hxb⟩
  by_cases hin : a' ≤ x ∧ y < b'
  · rcases Nat.lt_or_ge y mid with h1 | h1
    · exact s x y hin.1 hxy h1
    · have hxm : x ≤ mid := by omega
      have e1 : g x ≤ g mid := by
        rcases Nat.lt_or_ge x mid with h2 | h2
        · exact p.le x hin.1 h2
        · rw [show x = mid by omega]; exact Int.le_refl _
      rcases Nat.lt_or_ge mid y with h2 | h2
      · exact Int.le_trans e1 (p.ge y h2 hin.2)
      · rw [show y = mid by omega]; exact e1
  · exact h.out x y hx hxy hy hin
theorem PQ.left {mid : Nat} (h : PQ f g a b a' b') (hm1 : a' ≤ mid) (hm2 : mid < b') (p : PartU g a' mid b') (s : SrtU g (mid + 1) b') : PQ f g a b a' mid := by
  refine ⟨h.ha, hm1, by have := h.hb; omega, h.sw, fun x y hx hxy hy hn => ?_, fun h0 x hx hxb => h.lb h0 x hx (by omega)⟩
  by_cases hin : a' ≤ x ∧ y < b'
  · rcases Nat.lt_or_ge mid x with h1 | h1
    · exact s x y h1 hxy hin.2
    · have hym : mid ≤ y := by omega
      have e1 : g x ≤ g mid := by
        rcases Nat.lt_or_ge x mid with h2 | h2
        · exact p.le x hin.1 h2
        · rw [show x = mid by omega]; exact Int.le_refl _
      rcases Nat.lt_or_ge mid y with h2 | h2
      · exact Int.le_trans e1 (p.ge y h2 hin.2)
      · rw [show y = mid by omega]; exact e1
  · exact h.out x y hx hxy hy hin
end
structure QSt where
  a : Nat
  b : Nat
  lim : Nat
  t8 : Bool
  t9 : Bool
  g : Nat → Int

set_option maxRecDepth 20000 in
set_option maxHeartbeats 8000000 in
theorem pdq_ok {q n c m : Nat} (hn : n ≤ m) (hm : n ≤ 1000000000) : ∀ (Z : Nat) {w : World} {f : Nat → Int} {a b lim : Nat}, b - a < Z → w.heap[q]? = some (Bl 24 (tabU f m)) → a ≤ b → b ≤ n → lim ≤ 1000 → (0 < a → ∀ x, a ≤ x → x < b → f (a - 1) ≤ f x) →
    Ret Tryz.prog 174 #[.slice (some ⟨q, 0, none⟩) n c, .int .i64 (a : Int), .int .i64 (b : Int), .int .i64 (lim : Int)] w fun v w' => v = .tuple #[] ∧ ∃ g, Sw a b f g ∧ SrtU g a b ∧ Ctx w [q] w' [(q, Bl 24 (tabU g m))] := by
  intro Z
  induction Z with
  | zero => intro w f a b lim h; omega
  | succ Z ih =>
  intro w f a b lim hZ hd hab hb hlim hLB
  obtain ⟨w0, rfl⟩ : ∃ w0, w0 = w := ⟨_, rfl⟩
  have H := Ctx.start1 hd
  refine ret_of_W (fn := Tryz.f174) Tryz.func174 rfl [.slice (some ⟨q, 0, none⟩) n c, .int .i64 (a : Int), .int .i64 (b : Int), .int .i64 (lim : Int)] rfl (by kernel_rfl) ?_
  refine W_rseq ?_
  refine op_assign rfl (.bool _) rfl ?_
  refine op_nil (at_then ?_)
  refine W_rseq ?_
  refine op_assign rfl (.bool _) rfl ?_
  refine op_nil (at_then ?_)
  refine W_block ?_
  refine W_loop 21778071482940061661655974875633165532942 (α := QSt) (fun t => [(1, .int .i64 (t.a : Int)), (2, .int .i64 (t.b : Int)), (3, .int .i64 (t.lim : Int)), (8, .bool t.t8), (9, .bool t.t9)]) (fun t w' => t.lim ≤ 1000 ∧ PQ f t.g a b t.a t.b ∧ Ctx w0 [q] w' [(q, Bl 24 (tabU t.g m))]) (fun t => t.b - t.a) ⟨a, b, lim, true, true, f⟩ rfl ?_ ?_ ?_
  · exact ⟨rfl, rfl, rfl, rfl, rfl, trivial⟩
  · exact ⟨hlim, ⟨Nat.le_refl _, hab, Nat.le_refl _, .refl _, fun x y h1 h2 h3 h4 => absurd ⟨h1, h3⟩ h4, hLB⟩, H⟩
  · rintro ⟨a', b', lim, t8, t9, g⟩ j0 w ⟨hlim, P, H⟩; dsimp only at hlim P H; dsimp only
    have hP1 := P.ha
    have hP2 := P.hab
    have hP3 := P.hb
    refine W_block ?_
    refine W_rseq ?_
    refine op_move rfl (.int _ _) rfl ?_
    refine op_move rfl (.int _ _) rfl ?_
    refine op_sub_i64 rfl rfl rfl (by omega) (by omega) ?_
    refine op_assign rfl (.int _ _) rfl ?_
    refine op_nil (at_then ?_)
    refine W_seq ?_
    refine W_rseq ?_
    refine op_move rfl (.int _ _) rfl ?_
    refine op_leq rfl rfl rfl ?_
    refine op_nil (at_then ?_)
    refine W_cond _ rfl ?_ ?_
    · intro h1
      replace h1 := dec_t h1
      refine W_rseq ?_
      refine op_move rfl (.slice _ _ _) rfl ?_
      refine op_move rfl (.int _ _) rfl ?_
      refine op_move rfl (.int _ _) rfl ?_
      refine op_call rfl ca_200_SoG (insertion_ok (a := a') (b := b') (H.get at0) hP2 (by omega) hn hm) rfl ?_
      rintro rv w ⟨rfl, g2, s2, o2, H2⟩
      replace H := Ctx.back (L1 := [_]) (L2 := []) H H2
      refine op_nil (at_then ?_)
      refine W_ret (ret_then (ret_block (ret_then (ret_block (leave0 rfl rfl ?_)))))
      exact ⟨rfl, g2, (P.swap s2).sw, (P.swap s2).done o2, H⟩
    · intro h1
      replace h1 := dec_f h1
      refine W_skip (at_then ?_)
      refine W_seq ?_
      refine W_rseq ?_
      refine op_move rfl (.int _ _) rfl ?_
      refine op_eql rfl rfl rfl ?_
      refine op_nil (at_then ?_)
      refine W_cond _ rfl ?_ ?_
      · intro h2
        replace h2 := dec_t h2
        refine W_rseq ?_
        refine op_move rfl (.slice _ _ _) rfl ?_
        refine op_move rfl (.int _ _) rfl ?_
        refine op_move rfl (.int _ _) rfl ?_
        refine op_call rfl ca_201_SoG (heapsort_ok (a := a') (b := b') (H.get at0) (by omega) (by omega) hn hm) rfl ?_
        rintro rv w ⟨rfl, g2, s2, o2, H2⟩
        replace H := Ctx.back (L1 := [_]) (L2 := []) H H2
        refine op_nil (at_then ?_)
        refine W_ret (ret_then (ret_block (ret_then (ret_block (leave0 rfl rfl ?_)))))
        exact ⟨rfl, g2, (P.swap s2).sw, (P.swap s2).done o2, H⟩
      · intro h2
        replace h2 := dec_f h2
        refine W_skip (at_then ?_)
        refine W_seq ?_
        refine W_rseq ?_
        refine op_move rfl (.bool _) rfl ?_
        refine op_not rfl rfl ?_
        refine op_nil (at_then ?_)
        refine W_joinK 4329327034376 (α := Nat × (Nat → Int)) (fun t => [(3, .int .i64 (t.1 : Int))]) (fun t w' => t.1 ≤ 1000 ∧ PQ f t.2 a b a' b' ∧ Ctx w0 [q] w' [(q, Bl 24 (tabU t.2 m))]) rfl ?_ ?_
        · skip
          refine W_cond _ rfl ?_ ?_
          · intro h3
            replace h3 := nvar_t h3
            refine W_rseq ?_
            refine op_move rfl (.slice _ _ _) rfl ?_
            refine op_move rfl (.int _ _) rfl ?_
            refine op_move rfl (.int _ _) rfl ?_
            refine op_call rfl ca_202_SoG (break_ok (a := a') (b := b') (H.get at0) (by omega) (by omega) hn hm) rfl ?_
            rintro rv w ⟨rfl, g2, s2, H2⟩
            replace H := Ctx.back (L1 := [_]) (L2 := []) H H2
            refine op_nil (at_then ?_)
            refine W_region ?_
            refine op_move rfl (.int _ _) rfl ?_
            refine op_sub_i64 rfl rfl rfl (by omega) (by omega) ?_
            refine op_assign rfl (.int _ _) rfl ?_
            refine op_nil (at_then ?_)
            exact ⟨(lim - 1, g2), rfl, ⟨congrArg (Value.int .i64) (by dsimp only; omega), trivial⟩, by dsimp only; omega, P.swap s2, H⟩
          · intro h3
            replace h3 := nvar_f h3
            refine W_skip (at_then ?_)
            exact ⟨(lim, g), rfl, ⟨rfl, trivial⟩, hlim, P, H⟩
        · rintro ⟨lim, g⟩ j1 w ⟨hlim, P, H⟩; dsimp only at hlim P H; dsimp only
          refine W_rseq ?_
          refine op_move rfl (.slice _ _ _) rfl ?_
          refine op_move rfl (.int _ _) rfl ?_
          refine op_move rfl (.int _ _) rfl ?_
          refine op_call rfl ca_203_SoG (pivot_ok (a := a') (b := b') (H.get at0) (by omega) (by omega) hn hm) rfl ?_
          rintro rv w ⟨p, hint, hp1, hp2, rfl, hx46⟩
          replace H := H.call hx46
          refine op_move rfl (.tuple _) rfl ?_
          refine op_extract rfl rfl rfl ?_
          refine op_extract rfl rfl rfl ?_
          refine op_assign rfl (.int _ _) rfl ?_
          refine op_assign rfl (.int _ _) rfl ?_
          refine op_nil (at_then ?_)
          refine W_seq ?_
          refine W_rseq ?_
          refine op_move rfl (.int _ _) rfl ?_
          refine op_eql rfl rfl rfl ?_
          refine op_nil (at_then ?_)
          refine W_joinK 2303591209400014848 (α := Nat × Int × (Nat → Int)) (fun t => [(11, .int .i64 (t.1 : Int)), (12, .int .i64 t.2.1)]) (fun t w' => a' ≤ t.1 ∧ t.1 < b' ∧ PQ f t.2.2 a b a' b' ∧ Ctx w0 [q] w' [(q, Bl 24 (tabU t.2.2 m))]) rfl ?_ ?_
          · skip
            refine W_cond _ rfl ?_ ?_
            · intro h4
              replace h4 := dec_t h4
              refine W_rseq ?_
              refine op_move rfl (.slice _ _ _) rfl ?_
              refine op_move rfl (.int _ _) rfl ?_
              refine op_move rfl (.int _ _) rfl ?_
              refine op_call rfl ca_204_SoG (reverse_ok (a := a') (b := b') (H.get at0) (by omega) (by omega) hn hm) rfl ?_
              rintro rv w ⟨rfl, g2, s2, H2⟩
              replace H := Ctx.back (L1 := [_]) (L2 := []) H H2
              refine op_nil (at_then ?_)
              refine W_rseq ?_
              refine op_move rfl (.int _ _) rfl ?_
              refine op_sub_i64 rfl rfl rfl (by omega) (by omega) ?_
              refine op_move rfl (.int _ _) rfl ?_
              refine op_move rfl (.int _ _) rfl ?_
              refine op_sub_i64 rfl rfl rfl (by omega) (by omega) ?_
              refine op_sub_i64 rfl rfl rfl (by omega) (by omega) ?_
              refine op_assign rfl (.int _ _) rfl ?_
              refine op_nil (at_then ?_)
              refine W_region ?_
              refine op_assign rfl (.int _ _) rfl ?_
              refine op_nil (at_then ?_)
              exact ⟨(b' - 1 - (p - a'), 1, g2), rfl, ⟨congrArg (Value.int .i64) (by dsimp only; omega), rfl, trivial⟩, by dsimp only; omega, by dsimp only; omega, P.swap s2, H⟩
            · intro h4
              replace h4 := dec_f h4
              refine W_skip (at_then ?_)
              exact ⟨(p, hint, g), rfl, ⟨rfl, rfl, trivial⟩, hp1, hp2, P, H⟩
          · rintro ⟨p, hint, g⟩ j2 w ⟨hp1, hp2, P, H⟩; dsimp only at hp1 hp2 P H; dsimp only
            refine W_seq ?_
            refine W_join 587989967349491957760 (α := Bool) (fun t => [(68, .bool t)]) (fun _ w' => Ctx w0 [q] w' [(q, Bl 24 (tabU g m))]) rfl ?_ ?_
            · skip
              refine W_region ?_
              refine op_move rfl (.bool _) rfl ?_
              refine op_move rfl (.bool _) rfl ?_
              refine Wops_split 62 rfl ?_ ?_
              · intro h1
                refine op_move rfl (.bool _) rfl ?_
                refine op_pick1 rfl rfl (.bool _) rfl ?_
                refine op_move rfl (.bool _) rfl ?_
                refine Wops_split 65 rfl ?_ ?_
                · intro h2
                  refine op_move rfl (.int _ _) rfl ?_
                  refine op_eql rfl rfl rfl ?_
                  refine op_pick1 rfl rfl (.bool _) rfl ?_
                  refine op_nil (at_then ?_)
                  exact ⟨_, rfl, ⟨rfl, trivial⟩, H⟩
                · intro h3
                  refine op_skip rfl ?_
                  refine op_skip rfl ?_
                  refine op_pick0 rfl rfl (.bool _) rfl ?_
                  refine op_nil (at_then ?_)
                  exact ⟨_, rfl, ⟨rfl, trivial⟩, H⟩
              · intro h4
                refine op_skip rfl ?_
                refine op_pick0 rfl rfl (.bool _) rfl ?_
                refine op_move rfl (.bool _) rfl ?_
                refine op_skip rfl ?_
                refine op_skip rfl ?_
                refine op_pick0 rfl rfl (.bool _) rfl ?_
                refine op_nil (at_then ?_)
                exact ⟨_, rfl, ⟨rfl, trivial⟩, H⟩
            · rintro t68 j3 w H
              refine W_joinK 8854437155380584775680 (α := Nat → Int) (fun _ => []) (fun g w' => PQ f g a b a' b' ∧ Ctx w0 [q] w' [(q, Bl 24 (tabU g m))]) rfl ?_ ?_
              · skip
                refine W_cond _ rfl ?_ ?_
                · intro h5
                  refine W_rseq ?_
                  refine op_move rfl (.slice _ _ _) rfl ?_
                  refine op_move rfl (.int _ _) rfl ?_
                  refine op_move rfl (.int _ _) rfl ?_
                  refine op_call rfl ca_205_SoG (partial_ok (a := a') (b := b') (H.get at0) (by omega) (by omega) hn hm P.lb) rfl ?_
                  rintro rv w ⟨t72, g2, rfl, s2, o2, H2⟩
                  replace H := Ctx.back (L1 := [_]) (L2 := []) H H2
                  refine op_nil (at_then ?_)
                  refine W_cond _ rfl ?_ ?_
                  · intro h6
                    refine W_ret (ret_then (ret_block (ret_then (ret_block (leave0 rfl rfl ?_)))))
                    exact ⟨rfl, g2, (P.swap s2).sw, (P.swap s2).done (o2 h6), H⟩
                  · intro h6
                    refine W_skip (at_then ?_)
                    exact ⟨g2, rfl, trivial, P.swap s2, H⟩
                · intro h5
                  refine W_skip (at_then ?_)
                  exact ⟨g, rfl, trivial, P, H⟩
              · rintro g j4 w ⟨P, H⟩
                have hP1 := P.ha
                have hP3 := P.hb
                have e1 : ((a' : Int) - 1).toNat = a' - 1 := by omega
                refine W_seq ?_
                refine W_join 309475565088379329434353664 (α := Unit) (fun _ => [(87, .bool (decide (0 < a' ∧ ¬ g (a' - 1) < g p)))]) (fun _ w' => Ctx w0 [q] w' [(q, Bl 24 (tabU g m))]) rfl ?_ ?_
                · skip
                  refine W_tail 12 mixed_SoG (by kernel_rfl) rfl rfl ?_
                  refine q_move rfl (.int _ _) rfl ?_
                  refine q_gtr rfl rfl rfl ?_
                  refine q_move rfl (.bool _) rfl ?_
                  refine Wq_split 75 rfl ?_ ?_
                  · intro h5
                    replace h5 := dec_t h5
                    refine q_move rfl (.slice _ _ _) rfl ?_
                    refine q_move rfl (.int _ _) rfl ?_
                    refine q_sub_i64 rfl rfl rfl (by omega) (by omega) ?_
                    refine q_indexAddr rfl el_25_SoG sz_24_SoG rfl rfl (by omega) (by omega) ?_
                    first | refine q_ldb rfl ag_24_SoG rfl (by rintro _ rfl; exact H.drew) (by first | exact at0 | exact at1 | exact at2 | exact at3 | exact at4 | exact at5 | exact at6 | exact at7 | exact at8 | exact at9) rfl ?_ | refine q_ld rfl ag_24_SoG rfl (by rintro _ rfl; exact ((cellU (H.drew.get at0) (by omega)))) ?_
                    refine q_move rfl (.slice _ _ _) rfl ?_
                    refine q_move rfl (.int _ _) rfl ?_
                    refine q_indexAddr rfl el_25_SoG sz_24_SoG rfl rfl (by omega) (by omega) ?_
                    first | refine q_ldb rfl ag_24_SoG rfl (by rintro _ rfl; exact H.drew) (by first | exact at0 | exact at1 | exact at2 | exact at3 | exact at4 | exact at5 | exact at6 | exact at7 | exact at8 | exact at9) rfl ?_ | refine q_ld rfl ag_24_SoG rfl (by rintro _ rfl; exact ((cellU (H.drew.get at0) (by omega)))) ?_
                    refine q_nil ?_
                    replace H := H.drew
                    refine op_call rfl ca_206_SoG (less_ok _ _ _) rfl ?_
                    rintro v w ⟨rfl, rfl⟩
                    rw [e1, Int.toNat_natCast]
                    refine op_not rfl rfl ?_
                    refine op_pick1 rfl rfl (.bool _) rfl ?_
                    refine op_nil (at_then ?_)
                    exact ⟨(), rfl, ⟨congrArg Value.bool (by clear P ih hLB; rw [Bool.eq_iff_iff]; simp_all; try omega), trivial⟩, H⟩
                  · intro h6
                    replace h6 := dec_f h6
                    refine q_skip rfl ?_
                    refine q_skip rfl ?_
                    refine q_skip rfl ?_
                    refine q_skip rfl ?_
                    refine q_skip rfl ?_
                    refine q_skip rfl ?_
                    refine q_skip rfl ?_
                    refine q_skip rfl ?_
                    refine q_skip rfl ?_
                    refine q_nil ?_
                    replace H := H.drew
                    refine op_skip rfl ?_
                    refine op_skip rfl ?_
                    refine op_pick0 rfl rfl (.bool _) rfl ?_
                    refine op_nil (at_then ?_)
                    exact ⟨(), rfl, ⟨congrArg Value.bool (by clear P ih hLB; rw [Bool.eq_iff_iff]; simp_all; try omega), trivial⟩, H⟩
                · rintro - j5 w H
                  refine W_cond _ rfl ?_ ?_
                  · intro h7
                    have h7 := of_decide_eq_true h7
                    refine W_rseq ?_
                    refine op_move rfl (.slice _ _ _) rfl ?_
                    refine op_move rfl (.int _ _) rfl ?_
                    refine op_move rfl (.int _ _) rfl ?_
                    refine op_move rfl (.int _ _) rfl ?_
                    refine op_call rfl ca_207_SoG (parteq_ok (a := a') (b := b') (p := p) (H.get at0) (by omega) (by omega) hn hm ⟨hp1, hp2⟩) rfl ?_
                    rintro rv w ⟨i, g2, rfl, s2, hi1, hi2, hga, o1, o2, H2⟩
                    replace H := Ctx.back (L1 := [_]) (L2 := []) H H2
                    refine op_assign rfl (.int _ _) rfl ?_
                    refine op_nil (at_then ?_)
                    refine W_rseq ?_
                    refine op_move rfl (.int _ _) rfl ?_
                    refine op_assign rfl (.int _ _) rfl ?_
                    refine op_nil (at_then ?_)
                    refine W_exit (exit_then (exit_here (at_then ?_)))
                    have P2 := P.swap s2
                    have hout := s2.out (a' - 1) (.inl (by omega))
                    exact ⟨⟨i, b', lim, t8, t9, g2⟩, rfl, ⟨rfl, rfl, rfl, rfl, rfl, trivial⟩, ⟨hlim, P2.eq h7.1 (by rw [hga, hout]; omega) hi1 hi2 o1 o2, H⟩, by dsimp only; omega⟩
                  · intro h7
                    refine W_skip (at_then ?_)
                    refine W_rseq ?_
                    refine op_move rfl (.slice _ _ _) rfl ?_
                    refine op_move rfl (.int _ _) rfl ?_
                    refine op_move rfl (.int _ _) rfl ?_
                    refine op_move rfl (.int _ _) rfl ?_
                    refine op_call rfl ca_208_SoG (partition_ok (a := a') (b := b') (p := p) (H.get at0) (by omega) (by omega) hn hm ⟨hp1, hp2⟩) rfl ?_
                    rintro rv w ⟨mid, t, g2, rfl, s2, hm1, hm2, PP, H2⟩
                    replace H := Ctx.back (L1 := [_]) (L2 := []) H H2
                    refine op_move rfl (.tuple _) rfl ?_
                    refine op_extract rfl rfl rfl ?_
                    refine op_extract rfl rfl rfl ?_
                    refine op_assign rfl (.int _ _) rfl ?_
                    refine op_assign rfl (.bool _) rfl ?_
                    refine op_nil (at_then ?_)
                    have P2 := P.swap s2
                    refine W_rseq ?_
                    refine op_move rfl (.bool _) rfl ?_
                    refine op_assign rfl (.bool _) rfl ?_
                    refine op_nil (at_then ?_)
                    refine W_rseq ?_
                    refine op_move rfl (.int _ _) rfl ?_
                    refine op_move rfl (.int _ _) rfl ?_
                    refine op_sub_i64 rfl rfl rfl (by omega) (by omega) ?_
                    refine op_move rfl (.int _ _) rfl ?_
                    refine op_move rfl (.int _ _) rfl ?_
                    refine op_sub_i64 rfl rfl rfl (by omega) (by omega) ?_
                    refine op_assign rfl (.int _ _) rfl ?_
                    refine op_assign rfl (.int _ _) rfl ?_
                    refine op_nil (at_then ?_)
                    refine W_rseq ?_
                    refine op_move rfl (.int _ _) rfl ?_
                    refine op_quo rfl rfl rfl (by omega) (by omega) (show _ ≤ (9223372036854775807 : Int) by omega) ?_
                    refine op_assign rfl (.int _ _) rfl ?_
                    refine op_nil (at_then ?_)
                    refine W_rseq ?_
                    refine op_move rfl (.int _ _) rfl ?_
                    refine op_move rfl (.int _ _) rfl ?_
                    refine op_lss rfl rfl rfl ?_
                    refine op_nil (at_then ?_)
                    refine W_cond _ rfl ?_ ?_
                    · intro h8
                      replace h8 := dec_t h8
                      refine W_rseq ?_
                      refine op_move rfl (.int _ _) rfl ?_
                      refine op_move rfl (.int _ _) rfl ?_
                      refine op_geq rfl rfl rfl ?_
                      refine op_assign rfl (.bool _) rfl ?_
                      refine op_nil (at_then ?_)
                      refine W_rseq ?_
                      refine op_move rfl (.slice _ _ _) rfl ?_
                      refine op_move rfl (.int _ _) rfl ?_
                      refine op_move rfl (.int _ _) rfl ?_
                      refine op_move rfl (.int _ _) rfl ?_
                      refine op_call rfl ca_174_SoG (ih (a := a') (b := mid) (lim := lim) (f := g2) (by omega) (H.get at0) hm1 (by omega) hlim (fun h0 x hx hxb => P2.lb h0 x hx (by omega))) rfl ?_
                      rintro rv w ⟨rfl, g3, s3, o3, H2⟩
                      replace H := Ctx.back (L1 := [_]) (L2 := []) H H2
                      refine op_nil (at_then ?_)
                      refine W_region ?_
                      refine op_move rfl (.int _ _) rfl ?_
                      refine op_add_i64 rfl rfl rfl (by omega) (by omega) ?_
                      refine op_assign rfl (.int _ _) rfl ?_
                      refine op_nil (at_block (at_then ?_))
                      have P3 := P2.swap (s3.mono (Nat.le_refl _) (by omega))
                      exact ⟨⟨mid + 1, b', lim, _, t, g3⟩, rfl, ⟨rfl, rfl, rfl, rfl, rfl, trivial⟩, ⟨hlim, P3.right hm1 hm2 (PartU.sw PP s3 (.inl ⟨Nat.le_refl _, Nat.le_refl _⟩)) o3, H⟩, by dsimp only; omega⟩
                    · intro h8
                      replace h8 := dec_f h8
                      refine W_rseq ?_
                      refine op_move rfl (.int _ _) rfl ?_
                      refine op_move rfl (.int _ _) rfl ?_
                      refine op_geq rfl rfl rfl ?_
                      refine op_assign rfl (.bool _) rfl ?_
                      refine op_nil (at_then ?_)
                      refine W_rseq ?_
                      refine op_move rfl (.slice _ _ _) rfl ?_
                      refine op_move rfl (.int _ _) rfl ?_
                      refine op_add_i64 rfl rfl rfl (by omega) (by omega) ?_
                      rw [show (mid : Int) + 1 = ((mid + 1 : Nat) : Int) by omega]
                      refine op_move rfl (.int _ _) rfl ?_
                      refine op_move rfl (.int _ _) rfl ?_
                      refine op_call rfl ca_174_SoG (ih (a := mid + 1) (b := b') (lim := lim) (f := g2) (by omega) (H.get at0) (by omega) (by omega) hlim (fun _ x hx hxb => PP.ge x (by omega) hxb)) rfl ?_
                      rintro rv w ⟨rfl, g3, s3, o3, H2⟩
                      replace H := Ctx.back (L1 := [_]) (L2 := []) H H2
                      refine op_nil (at_then ?_)
                      refine W_region ?_
                      refine op_move rfl (.int _ _) rfl ?_
                      refine op_assign rfl (.int _ _) rfl ?_
                      refine op_nil (at_block (at_then ?_))
                      have P3 := P2.swap (s3.mono (by omega) (Nat.le_refl _))
                      have P4 := P3.left hm1 hm2 (PartU.sw PP s3 (.inr ⟨by omega, Nat.le_refl _⟩)) o3
                      exact ⟨⟨a', mid, lim, _, t, g3⟩, rfl, ⟨rfl, rfl, rfl, rfl, rfl, trivial⟩, ⟨hlim, P4, H⟩, by show mid - a' < b' - a'; omega⟩

set_option maxRecDepth 20000 in
theorem sortU_ok {q n c m : Nat} {w : World} {f : Nat → Int} (hd : w.heap[q]? = some (Bl 24 (tabU f m))) (hn : n ≤ m) (hm : n ≤ 1000000000) :
    Ret Tryz.prog 122 #[.slice (some ⟨q, 0, none⟩) n c] w fun v w' => v = .tuple #[] ∧ ∃ g, (tab g n).Perm (tab f n) ∧ SrtU g 0 n ∧ Ctx w [q] w' [(q, Bl 24 (tabU g m))] := by
  obtain ⟨w0, rfl⟩ : ∃ w0, w0 = w := ⟨_, rfl⟩
  refine ret_of_W (fn := Tryz.f122) Tryz.func122 rfl [.slice (some ⟨q, 0, none⟩) n c] rfl (by kernel_rfl) ?_
  refine W_rseq ?_
  refine op_move rfl (.slice _ _ _) rfl ?_
  refine op_len rfl el_25_SoG rfl ?_
  refine op_assign rfl (.int _ _) rfl ?_
  refine op_nil (at_then ?_)
  refine W_region ?_
  refine op_move rfl (.slice _ _ _) rfl ?_
  refine op_move rfl (.int _ _) rfl ?_
  refine op_move rfl (.int _ _) rfl ?_
  refine op_conv_u64 rfl rfl un_3_SoG un_79_SoG (by omega) (by omega) ?_
  refine op_call rfl ca_175_SoG (len_ok n (by omega) _) rfl ?_
  rintro v w ⟨r, rfl, h1, h2, h3, rfl⟩
  refine op_call rfl ca_174_SoG (pdq_ok hn hm (n + 1) (a := 0) (b := n) (lim := r) (by omega) hd (Nat.zero_le _) (Nat.le_refl _) (by omega) (fun h => absurd h (Nat.lt_irrefl _))) rfl ?_
  rintro rv w ⟨rfl, g, s, o, H⟩
  refine op_nil (leave0n rfl rfl ?_)
  exact ⟨rfl, g, s.perm (Nat.le_refl _), o, H⟩
theorem sortU_none (c : Nat) (w : World) : Ret Tryz.prog 122 #[.slice none 0 c] w fun v w' => v = .tuple #[] ∧ w = w' := by
  have ins : ∀ w, Ret Tryz.prog 200 #[.slice none 0 c, .int .i64 0, .int .i64 0] w fun v w' => v = .tuple #[] ∧ w = w' := fun w => by
    refine ret_of_W (fn := Tryz.f200) Tryz.func200 rfl [.slice none 0 c, .int .i64 0, .int .i64 0] rfl (by kernel_rfl) ?_
    refine W_rseq ?_
    refine op_move rfl (.int _ _) rfl ?_
    refine op_add_i64 rfl rfl rfl (by omega) (by omega) ?_
    refine op_assign rfl (.int _ _) rfl ?_
    refine op_nil (at_then ?_)
    refine W_block ?_
    refine W_loop 562949953420480 (α := Unit) (fun _ => [(6, .int .i64 1)]) (fun _ w' => w = w') (fun _ => 0) () rfl ?_ ?_ ?_
    · exact ⟨rfl, trivial⟩
    · rfl
    · rintro - j0 w rfl
      refine W_seq ?_
      refine W_rseq ?_
      refine op_move rfl (.int _ _) rfl ?_
      refine op_move rfl (.int _ _) rfl ?_
      refine op_lss rfl rfl rfl ?_
      refine op_nil (at_then ?_)
      refine W_cond _ rfl ?_ ?_
      · intro h1
        replace h1 := dec_t h1
        omega
      · intro h1
        replace h1 := dec_f h1
        refine W_exit (exit_then (exit_then (exit_here (leave0n rfl rfl ?_))))
        exact ⟨rfl, rfl⟩
  have pdq : ∀ (r : Nat) (w : World), Ret Tryz.prog 174 #[.slice none 0 c, .int .i64 0, .int .i64 0, .int .i64 (r : Int)] w fun v w' => v = .tuple #[] ∧ w = w' := fun r w => by
    refine ret_of_W (fn := Tryz.f174) Tryz.func174 rfl [.slice none 0 c, .int .i64 0, .int .i64 0, .int .i64 (r : Int)] rfl (by kernel_rfl) ?_
    refine W_rseq ?_
    refine op_assign rfl (.bool _) rfl ?_
    refine op_nil (at_then ?_)
    refine W_rseq ?_
    refine op_assign rfl (.bool _) rfl ?_
    refine op_nil (at_then ?_)
    refine W_block ?_
    refine W_loop 21778071482940061661655974875633165532942 (α := Unit) (fun _ => [(1, .int .i64 0), (2, .int .i64 0), (3, .int .i64 (r : Int)), (8, .bool true), (9, .bool true)]) (fun _ w' => w = w') (fun _ => 0) () rfl ?_ ?_ ?_
    · exact ⟨rfl, rfl, rfl, rfl, rfl, trivial⟩
    · rfl
    · rintro - j0 w rfl
      refine W_block ?_
      refine W_rseq ?_
      refine op_move rfl (.int _ _) rfl ?_
      refine op_move rfl (.int _ _) rfl ?_
      refine op_sub_i64 rfl rfl rfl (by omega) (by omega) ?_
      refine op_assign rfl (.int _ _) rfl ?_
      refine op_nil (at_then ?_)
      refine W_seq ?_
      refine W_rseq ?_
      refine op_move rfl (.int _ _) rfl ?_
      refine op_leq rfl rfl rfl ?_
      refine op_nil (at_then ?_)
      refine W_cond _ rfl ?_ ?_
      · intro h1
        replace h1 := dec_t h1
        refine W_rseq ?_
        refine op_move rfl (.slice _ _ _) rfl ?_
        refine op_move rfl (.int _ _) rfl ?_
        refine op_move rfl (.int _ _) rfl ?_
        refine op_call rfl ca_200_SoG (ins _) rfl ?_
        rintro v w ⟨rfl, rfl⟩
        refine op_nil (at_then ?_)
        refine W_ret (ret_then (ret_block (ret_then (ret_block (leave0 rfl rfl ?_)))))
        exact ⟨rfl, rfl⟩
      · intro h1
        replace h1 := dec_f h1
        omega
  refine ret_of_W (fn := Tryz.f122) Tryz.func122 rfl [.slice none 0 c] rfl (by kernel_rfl) ?_
  refine W_rseq ?_
  refine op_move rfl (.slice _ _ _) rfl ?_
  refine op_len rfl el_25_SoG rfl ?_
  refine op_assign rfl (.int _ _) rfl ?_
  refine op_nil (at_then ?_)
  refine W_region ?_
  refine op_move rfl (.slice _ _ _) rfl ?_
  refine op_move rfl (.int _ _) rfl ?_
  refine op_move rfl (.int _ _) rfl ?_
  refine op_conv_u64 rfl rfl un_3_SoG un_79_SoG (by omega) (by omega) ?_
  refine op_call rfl ca_175_SoG (len_ok 0 (by omega) _) rfl ?_
  rintro v w ⟨r, rfl, h1, h2, h3, rfl⟩
  refine op_call rfl ca_174_SoG (pdq r _) rfl ?_
  rintro v w ⟨rfl, rfl⟩
  refine op_nil (leave0n rfl rfl ?_)
  exact ⟨rfl, rfl⟩

end Go.Proofs.YtapphbmlkdhnmaaGreat

/- Money: the walks. -/
namespace Go.Proofs.YtapphbmlkdhnmaaGreat
open Go.GV
theorem ag_2_SmA : aggB Tryz.prog 2 = some false := by kernel_rfl
theorem ca_109_SmA : callable Tryz.prog 109 = true := by kernel_rfl
theorem ca_160_SmA : callable Tryz.prog 160 = true := by kernel_rfl
theorem el_29_SmA : elemT Tryz.prog 29 = some 2 := by kernel_rfl
theorem sz_2_SmA : tsize Tryz.prog 2 = some 1 := by kernel_rfl
attribute [local irreducible] Wops W Wq Wt

def mayM (x : Int) : Bool := decide (0 ≤ x) && decide (x ≤ 4503599627370496)
theorem may_ok (x : Int) (w : World) : Ret Tryz.prog 109 #[.int .i64 x] w fun v w' => v = .bool (mayM x) ∧ w = w' := by
  obtain ⟨w0, rfl⟩ : ∃ w0, w0 = w := ⟨_, rfl⟩
  refine ret_of_W (fn := Tryz.f109) Tryz.func109 rfl [.int .i64 x] rfl (by kernel_rfl) ?_
  refine W_rseq ?_
  refine op_assign rfl (.bool _) rfl ?_
  refine op_nil (at_then ?_)
  refine W_rseq ?_
  refine op_move rfl (.int _ _) rfl ?_
  refine op_geq rfl rfl rfl ?_
  refine op_move rfl (.bool _) rfl ?_
  refine Wops_split 5 rfl ?_ ?_
  · intro h1
    replace h1 := dec_t h1
    refine op_move rfl (.int _ _) rfl ?_
    refine op_leq rfl rfl rfl ?_
    refine op_pick1 rfl rfl (.bool _) rfl ?_
    refine op_assign rfl (.bool _) rfl ?_
    refine op_nil (at_then ?_)
    refine W_ret (leave1 (v := (.bool _)) rfl rfl rfl ?_)
    exact ⟨congrArg Value.bool (by unfold mayM; rw [Bool.eq_iff_iff]; simp_all; try omega), rfl⟩
  · intro h2
    replace h2 := dec_f h2
    refine op_skip rfl ?_
    refine op_skip rfl ?_
    refine op_pick0 rfl rfl (.bool _) rfl ?_
    refine op_assign rfl (.bool _) rfl ?_
    refine op_nil (at_then ?_)
    refine W_ret (leave1 (v := (.bool _)) rfl rfl rfl ?_)
    exact ⟨congrArg Value.bool (by unfold mayM; rw [Bool.eq_iff_iff]; simp_all; try omega), rfl⟩
set_option maxRecDepth 20000 in
theorem mright_ok (a : Option Addr) (n c : Nat) (xs : List Int) (w : World) (R : Rd w a 1 I1 xs) (hn : xs.length = n) (hn2 : n ≤ 1000000) :
    Ret Tryz.prog 160 #[.slice a n c] w fun v w' => v = .bool (xs.all mayM) ∧ w = w' := by
  subst hn
  obtain ⟨w0, rfl⟩ : ∃ w0, w0 = w := ⟨_, rfl⟩
  refine ret_of_W (fn := Tryz.f160) Tryz.func160 rfl [.slice a xs.length c] rfl (by kernel_rfl) ?_
  refine W_rseq ?_
  refine op_assign rfl (.bool _) rfl ?_
  refine op_nil (at_then ?_)
  refine W_seq ?_
  refine W_rseq ?_
  refine op_move rfl (.slice _ _ _) rfl ?_
  refine op_len rfl el_29_SmA rfl ?_
  refine op_move rfl (.int _ _) rfl ?_
  refine op_nil (at_then ?_)
  refine W_block ?_
  refine W_loop 32660 (α := Nat) (fun i => [(7, .int .i64 (i : Int))]) (fun i w' => i ≤ xs.length ∧ w0 = w' ∧ ∀ (k : Nat) (x : Int), k < i → xs[k]? = some x → mayM x = true) (fun i => xs.length - i) 0 rfl ?_ ?_ ?_
  · exact ⟨rfl, trivial⟩
  · exact ⟨Nat.zero_le _, rfl, fun k x h => absurd h (Nat.not_lt_zero _)⟩
  · rintro i j w ⟨hi, rfl, hb⟩
    refine W_rseq ?_
    refine op_lss rfl rfl rfl ?_
    refine op_nil (at_then ?_)
    refine W_seq ?_
    refine W_cond _ rfl ?_ ?_
    · intro h1
      replace h1 := dec_t h1
      obtain ⟨x, hx⟩ := get_some (l := xs) (i := i) (by omega)
      refine W_skip (at_then ?_)
      refine W_seq ?_
      refine W_block ?_
      refine W_rseq ?_
      first | refine op_indexRd R rfl el_29_SmA sz_2_SmA rfl rfl (by omega) (by omega) (by first | rfl | omega) ?_ | refine op_indexAddr rfl el_29_SmA sz_2_SmA rfl rfl (by omega) (by omega) ?_
      first | refine op_ldb rfl ag_2_SmA rfl H (by first | exact at0 | exact at1 | exact at2 | exact at3 | exact at4 | exact at5 | exact at6 | exact at7 | exact at8 | exact at9) rfl ?_ | refine op_ld rfl ag_2_SmA rfl ((R.fld hx rfl (j := 0) rfl)) ?_
      refine op_assign rfl (.int _ _) rfl ?_
      refine op_nil (at_then ?_)
      refine W_rseq ?_
      refine op_move rfl (.int _ _) rfl ?_
      refine op_call rfl ca_109_SmA (may_ok x _) rfl ?_
      rintro v w ⟨rfl, rfl⟩
      refine op_not rfl rfl ?_
      refine op_nil (at_then ?_)
      refine W_cond _ rfl ?_ ?_
      · intro h2
        replace h2 := nvar_t h2
        refine W_rseq ?_
        refine op_assign rfl (.bool _) rfl ?_
        refine op_nil (at_then ?_)
        refine W_ret (ret_block (ret_then (ret_then (ret_block (ret_then (leave1 (v := (.bool _)) rfl rfl rfl ?_))))))
        refine ⟨congrArg Value.bool ?_, rfl⟩
        exact (all_false hx (show mayM x = false by simpa using h2)).symm
      · intro h2
        replace h2 := nvar_f h2
        refine W_skip (at_block (at_then ?_))
        refine W_region ?_
        refine op_add_i64 rfl rfl rfl (by omega) (by omega) ?_
        refine op_move rfl (.int _ _) rfl ?_
        refine op_nil (at_then ?_)
        refine ⟨i + 1, rfl, ⟨rfl, trivial⟩, ⟨by omega, rfl, fun k y hk hy => ?_⟩, by omega⟩
        rcases Nat.lt_or_ge k i with h7 | h7
        · exact hb k y h7 hy
        · obtain rfl : k = i := by omega
          rw [hx] at hy
          cases hy
          simpa using h2
    · intro h1
      replace h1 := dec_f h1
      refine W_exit (exit_then (exit_then (exit_here (at_then ?_))))
      refine W_rseq ?_
      refine op_assign rfl (.bool _) rfl ?_
      refine op_nil (at_then ?_)
      refine W_ret (leave1 (v := (.bool _)) rfl rfl rfl ?_)
      exact ⟨congrArg Value.bool (all_true fun k x hk hx => hb k x (by omega) hx).symm, rfl⟩
/-! ### The sum -/
def sumM (xs : List Int) : Int := xs.foldl (· + ·) 0
theorem foldl_add (xs : List Int) : ∀ a : Int, xs.foldl (· + ·) a = a + sumM xs := by
  induction xs with
  | nil => intro a; show a = a + 0; omega
  | cons x xs ih =>
    intro a
    show xs.foldl (· + ·) (a + x) = a + xs.foldl (· + ·) (0 + x)
    rw [ih, ih (0 + x)]; omega
theorem sumM_take {xs : List Int} {i : Nat} {x : Int} (h : xs[i]? = some x) : sumM (xs.take (i + 1)) = sumM (xs.take i) + x := by
  rw [List.take_succ, h]
  unfold sumM
  rw [List.foldl_append]; rfl
theorem sumM_cons (x : Int) (xs : List Int) : sumM (x :: xs) = x + sumM xs := by
  show xs.foldl (· + ·) (0 + x) = _
  rw [foldl_add]; omega
theorem sumM_append (xs ys : List Int) : sumM (xs ++ ys) = sumM xs + sumM ys := by
  induction xs with
  | nil => show sumM ys = 0 + _; omega
  | cons x xs ih => rw [List.cons_append, sumM_cons, sumM_cons, ih]; omega
theorem sumM_perm {xs ys : List Int} (h : xs.Perm ys) : sumM xs = sumM ys := by
  induction h with
  | nil => rfl
  | cons x _ ih => rw [sumM_cons, sumM_cons, ih]
  | swap x y l => rw [sumM_cons, sumM_cons, sumM_cons, sumM_cons]; omega
  | trans _ _ h1 h2 => exact h1.trans h2
theorem sumM_nonneg {xs : List Int} (h : ∀ x ∈ xs, 0 ≤ x) : 0 ≤ sumM xs := by
  induction xs with
  | nil => exact Int.le_refl _
  | cons x xs ih =>
    rw [sumM_cons]
    have := h x (List.mem_cons_self ..)
    have := ih fun y hy => h y (List.mem_cons_of_mem _ hy)
    omega
theorem sumM_tab (f : Nat → Int) (n : Nat) : sumM (tab f n) = sumTo f n := by
  induction n with
  | zero => rfl
  | succ n ih =>
    unfold tab at ih ⊢
    rw [List.range_succ, List.map_append, sumM_append, ih]
    show _ + (0 + f n) = sumTo f n + f n
    omega
/-- What Sum answers: the total, and a code. -/
def totM (xs : List Int) : Int × Int := if xs.all mayM = false then (0, 1) else if sumM xs ≤ 4503599627370496 then (sumM xs, 0) else (0, 13)
theorem mayM_iff {x : Int} : mayM x = true ↔ 0 ≤ x ∧ x ≤ 4503599627370496 := by unfold mayM; simp
set_option maxRecDepth 20000 in
set_option maxHeartbeats 2000000 in
theorem msum_ok (a : Option Addr) (n c : Nat) (xs : List Int) (w : World) (R : Rd w a 1 I1 xs) (hn : xs.length = n) (hn2 : n ≤ 1000000) :
    Ret Tryz.prog 110 #[.slice a n c] w fun v w' => v = .tuple #[.int .i64 (totM xs).1, .int .i64 (totM xs).2] ∧ w = w' := by
  subst hn
  obtain ⟨w0, rfl⟩ : ∃ w0, w0 = w := ⟨_, rfl⟩
  refine ret_of_W (fn := Tryz.f110) Tryz.func110 rfl [.slice a xs.length c] rfl (by kernel_rfl) ?_
  refine W_rseq ?_
  refine op_assign rfl (.int _ _) rfl ?_
  refine op_assign rfl (.int _ _) rfl ?_
  refine op_nil (at_then ?_)
  refine W_seq ?_
  refine W_rseq ?_
  refine op_move rfl (.slice _ _ _) rfl ?_
  refine op_call rfl ca_160_SmA (mright_ok a xs.length c xs _ R rfl hn2) rfl ?_
  rintro v w ⟨rfl, rfl⟩
  refine op_not rfl rfl ?_
  refine op_nil (at_then ?_)
  refine W_cond _ rfl ?_ ?_
  · intro h1
    replace h1 := nvar_t h1
    refine W_rseq ?_
    refine op_assign rfl (.int _ _) rfl ?_
    refine op_assign rfl (.int _ _) rfl ?_
    refine op_nil (at_then ?_)
    refine W_ret (ret_then (leave2 (v1 := (.int _ _)) (v2 := (.int _ _)) rfl rfl rfl rfl ?_))
    have h1' : xs.all mayM = false := by simpa using h1
    exact ⟨by unfold totM; rw [if_pos h1'], rfl⟩
  · intro h1
    replace h1 := nvar_f h1
    have h1' : xs.all mayM = true := by simpa using h1
    have hall : ∀ (k : Nat) (x : Int), xs[k]? = some x → 0 ≤ x ∧ x ≤ 4503599627370496 := fun k x hx => mayM_iff.1 (List.all_eq_true.1 h1' x (List.mem_of_getElem? hx))
    have hpos : ∀ x ∈ xs, 0 ≤ x := fun x hx => (mayM_iff.1 (List.all_eq_true.1 h1' x hx)).1
    refine W_skip (at_then ?_)
    refine W_rseq ?_
    refine op_assign rfl (.int _ _) rfl ?_
    refine op_nil (at_then ?_)
    refine W_seq ?_
    refine W_rseq ?_
    refine op_move rfl (.slice _ _ _) rfl ?_
    refine op_len rfl el_29_SmA rfl ?_
    refine op_move rfl (.int _ _) rfl ?_
    refine op_nil (at_then ?_)
    refine W_block ?_
    refine W_loop 8384604 (α := Nat) (fun i => [(4, .int .i64 (sumM (xs.take i))), (12, .int .i64 (i : Int))]) (fun i w' => i ≤ xs.length ∧ w0 = w' ∧ sumM (xs.take i) ≤ 4503599627370496) (fun i => xs.length - i) 0 rfl ?_ ?_ ?_
    · exact ⟨rfl, rfl, trivial⟩
    · exact ⟨Nat.zero_le _, rfl, by show (0 : Int) ≤ _; omega⟩
    · rintro i j w ⟨hi, rfl, hb⟩
      have hs0 : 0 ≤ sumM (xs.take i) := sumM_nonneg fun y hy => hpos y (List.mem_of_mem_take hy)
      refine W_rseq ?_
      refine op_lss rfl rfl rfl ?_
      refine op_nil (at_then ?_)
      refine W_seq ?_
      refine W_cond _ rfl ?_ ?_
      · intro h2
        replace h2 := dec_t h2
        obtain ⟨x, hx⟩ := get_some (l := xs) (i := i) (by omega)
        obtain ⟨hx0, hx1⟩ := hall i x hx
        have hst := sumM_take hx
        refine W_skip (at_then ?_)
        refine W_seq ?_
        refine W_block ?_
        refine W_rseq ?_
        first | refine op_indexRd R rfl el_29_SmA sz_2_SmA rfl rfl (by omega) (by omega) (by first | rfl | omega) ?_ | refine op_indexAddr rfl el_29_SmA sz_2_SmA rfl rfl (by omega) (by omega) ?_
        first | refine op_ldb rfl ag_2_SmA rfl H (by first | exact at0 | exact at1 | exact at2 | exact at3 | exact at4 | exact at5 | exact at6 | exact at7 | exact at8 | exact at9) rfl ?_ | refine op_ld rfl ag_2_SmA rfl ((R.fld hx rfl (j := 0) rfl)) ?_
        refine op_assign rfl (.int _ _) rfl ?_
        refine op_nil (at_then ?_)
        refine W_rseq ?_
        refine op_move rfl (.int _ _) rfl ?_
        refine op_move rfl (.int _ _) rfl ?_
        refine op_add_i64 rfl rfl rfl (by omega) (by omega) ?_
        rw [← hst]
        refine op_assign rfl (.int _ _) rfl ?_
        refine op_nil (at_then ?_)
        refine W_rseq ?_
        refine op_move rfl (.int _ _) rfl ?_
        refine op_call rfl ca_109_SmA (may_ok (sumM (xs.take (i + 1))) _) rfl ?_
        rintro v w ⟨rfl, rfl⟩
        refine op_not rfl rfl ?_
        refine op_nil (at_then ?_)
        refine W_cond _ rfl ?_ ?_
        · intro h3
          replace h3 := nvar_t h3
          refine W_rseq ?_
          refine op_assign rfl (.int _ _) rfl ?_
          refine op_assign rfl (.int _ _) rfl ?_
          refine op_nil (at_then ?_)
          refine W_ret (ret_block (ret_then (ret_then (ret_block (ret_then (leave2 (v1 := (.int _ _)) (v2 := (.int _ _)) rfl rfl rfl rfl ?_))))))
          have h4 : mayM (sumM (xs.take (i + 1))) = false := by simpa using h3
          have h5 : ¬ sumM (xs.take (i + 1)) ≤ 4503599627370496 := fun h => by
            rw [mayM_iff.2 ⟨by omega, h⟩] at h4; cases h4
          have h6 : sumM xs = sumM (xs.take (i + 1)) + sumM (xs.drop (i + 1)) := by rw [← sumM_append, List.take_append_drop]
          have h7 := sumM_nonneg (xs := xs.drop (i + 1)) fun y hy => hpos y (List.mem_of_mem_drop hy)
          exact ⟨by unfold totM; rw [if_neg (by rw [h1']; decide), if_neg (by omega)], rfl⟩
        · intro h3
          replace h3 := nvar_f h3
          refine W_skip (at_block (at_then ?_))
          refine W_region ?_
          refine op_add_i64 rfl rfl rfl (by omega) (by omega) ?_
          refine op_move rfl (.int _ _) rfl ?_
          refine op_nil (at_then ?_)
          have h4 : mayM (sumM (xs.take (i + 1))) = true := by simpa using h3
          exact ⟨i + 1, rfl, ⟨rfl, rfl, trivial⟩, ⟨by omega, rfl, (mayM_iff.1 h4).2⟩, by omega⟩
      · intro h2
        replace h2 := dec_f h2
        refine W_exit (exit_then (exit_then (exit_here (at_then ?_))))
        refine W_rseq ?_
        refine op_move rfl (.int _ _) rfl ?_
        refine op_assign rfl (.int _ _) rfl ?_
        refine op_assign rfl (.int _ _) rfl ?_
        refine op_nil (at_then ?_)
        refine W_ret (leave2 (v1 := (.int _ _)) (v2 := (.int _ _)) rfl rfl rfl rfl ?_)
        obtain rfl : i = xs.length := by omega
        rw [List.take_length] at hb ⊢
        exact ⟨by unfold totM; rw [if_neg (by rw [h1']; decide), if_pos hb], rfl⟩
end Go.Proofs.YtapphbmlkdhnmaaGreat

/- Money: sums that come to nothing, shifts. -/
namespace Go.Proofs.YtapphbmlkdhnmaaGreat
open Go.GV
theorem ag_2_SmB : aggB Tryz.prog 2 = some false := by kernel_rfl
theorem by_2_SmB : tbytes Tryz.prog 2 = some 8 := by kernel_rfl
theorem ca_109_SmB : callable Tryz.prog 109 = true := by kernel_rfl
theorem ca_160_SmB : callable Tryz.prog 160 = true := by kernel_rfl
theorem ca_181_SmB : callable Tryz.prog 181 = true := by kernel_rfl
theorem el_29_SmB : elemT Tryz.prog 29 = some 2 := by kernel_rfl
theorem sz_2_SmB : tsize Tryz.prog 2 = some 1 := by kernel_rfl
theorem zc_2_SmB : zcells Tryz.prog 2 = some ([.int .i64 0]) := by kernel_rfl
attribute [local irreducible] Wops W Wq Wt

section
variable {P : Program} {r : Option Nat} {ops rest : List Oper} {Q : Exit → Env → World → Prop} {e : Env} {w : World} {dst : Option Tmp} {ty : TypeId} {pos : String} {af : Array Edge} {g : Option (Nat × Bool)}
/-- Go's quotient. -/
theorem op_quot {t t2 : TypeId} {x y : Operand} {a b : Int} (hg : wants ⟨dst, .binOp .quo t x y t2, ty, pos, af, g⟩ ops e = true) (hx : ev e x = .int .i64 a) (hy : ev e y = .int .i64 b) (hb : 0 < b) (h1 : -9223372036854775808 ≤ a.tdiv b) (h2 : a.tdiv b ≤ 9223372036854775807)
    (h : Wops P r ops Q rest (put e dst (.int .i64 (a.tdiv b))) w) : Wops P r ops Q (⟨dst, .binOp .quo t x y t2, ty, pos, af, g⟩ :: rest) e w :=
  op_val hg rfl (run_bin hx hy (v := .int .i64 (a.tdiv b)) (by simp [binOp, Op.intDiv, show ¬ b = 0 from by omega, wrap_in (k := .i64) (n := a.tdiv b) h1 h2])) h
end
theorem tdm (t : Int) : ∃ q r, t.tdiv 4503599627370496 = q ∧ t.tmod 4503599627370496 = r ∧ t = 4503599627370496 * q + r ∧ -4503599627370496 < r ∧ r < 4503599627370496 ∧ (-9007199254740992 < t → t < 9007199254740992 → -1 ≤ q ∧ q ≤ 1) := by
  refine ⟨_, _, rfl, rfl, ?_⟩
  rcases ltge t 0 with h | h
  · obtain ⟨s, rfl⟩ : ∃ s, t = -s := ⟨-t, by omega⟩
    rw [Int.neg_tdiv, Int.neg_tmod, Int.tdiv_eq_ediv_of_nonneg (by omega), Int.tmod_eq_emod_of_nonneg (by omega)]
    exact ⟨by omega, by omega, by omega, fun h1 h2 => by omega⟩
  · rw [Int.tdiv_eq_ediv_of_nonneg h, Int.tmod_eq_emod_of_nonneg h]
    exact ⟨by omega, by omega, by omega, fun h1 h2 => by omega⟩
def smallM (x : Int) : Bool := decide (-4503599627370496 ≤ x) && decide (x ≤ 4503599627370496)
def evenM (xs : List Int) : Bool := xs.all smallM && decide (sumM xs = 0)
set_option maxRecDepth 20000 in
set_option maxHeartbeats 2000000 in
theorem meven_ok (a : Option Addr) (n c : Nat) (xs : List Int) (w : World) (R : Rd w a 1 I1 xs) (hn : xs.length = n) (hn2 : n ≤ 1000000) :
    Ret Tryz.prog 181 #[.slice a n c] w fun v w' => v = .bool (evenM xs) ∧ w = w' := by
  subst hn
  obtain ⟨w0, rfl⟩ : ∃ w0, w0 = w := ⟨_, rfl⟩
  refine ret_of_W (fn := Tryz.f181) Tryz.func181 rfl [.slice a xs.length c] rfl (by kernel_rfl) ?_
  refine W_rseq ?_
  refine op_assign rfl (.bool _) rfl ?_
  refine op_nil (at_then ?_)
  refine W_rseq ?_
  refine op_assign rfl (.int _ _) rfl ?_
  refine op_assign rfl (.int _ _) rfl ?_
  refine op_nil (at_then ?_)
  refine W_seq ?_
  refine W_rseq ?_
  refine op_move rfl (.slice _ _ _) rfl ?_
  refine op_len rfl el_29_SmB rfl ?_
  refine op_move rfl (.int _ _) rfl ?_
  refine op_nil (at_then ?_)
  refine W_block ?_
  refine W_loop 536870492 (α := Nat × Int × Int) (fun t => [(3, .int .i64 t.2.1), (4, .int .i64 t.2.2), (9, .int .i64 (t.1 : Int))]) (fun t w' => t.1 ≤ xs.length ∧ w0 = w' ∧ sumM (xs.take t.1) = 4503599627370496 * t.2.1 + t.2.2 ∧ -4503599627370496 < t.2.2 ∧ t.2.2 < 4503599627370496 ∧ -(t.1 : Int) ≤ t.2.1 ∧ t.2.1 ≤ t.1 ∧ ∀ (k : Nat) (x : Int), k < t.1 → xs[k]? = some x → smallM x = true) (fun t => xs.length - t.1) (0, 0, 0) rfl ?_ ?_ ?_
  · exact ⟨rfl, rfl, rfl, trivial⟩
  · exact ⟨Nat.zero_le _, rfl, rfl, by dsimp only; omega, by dsimp only; omega, by dsimp only; omega, by dsimp only; omega, fun k x h => absurd h (Nat.not_lt_zero _)⟩
  · rintro ⟨i, hh, ll⟩ j w ⟨hi, rfl, hs, hl1, hl2, hh1, hh2, hb⟩; dsimp only at hi hs hl1 hl2 hh1 hh2 hb; dsimp only
    refine W_rseq ?_
    refine op_lss rfl rfl rfl ?_
    refine op_nil (at_then ?_)
    refine W_seq ?_
    refine W_cond _ rfl ?_ ?_
    · intro h1
      replace h1 := dec_t h1
      obtain ⟨x, hx⟩ := get_some (l := xs) (i := i) (by omega)
      refine W_skip (at_then ?_)
      refine W_seq ?_
      refine W_block ?_
      refine W_rseq ?_
      first | refine op_indexRd R rfl el_29_SmB sz_2_SmB rfl rfl (by omega) (by omega) (by first | rfl | omega) ?_ | refine op_indexAddr rfl el_29_SmB sz_2_SmB rfl rfl (by omega) (by omega) ?_
      first | refine op_ldb rfl ag_2_SmB rfl H (by first | exact at0 | exact at1 | exact at2 | exact at3 | exact at4 | exact at5 | exact at6 | exact at7 | exact at8 | exact at9) rfl ?_ | refine op_ld rfl ag_2_SmB rfl ((R.fld hx rfl (j := 0) rfl)) ?_
      refine op_assign rfl (.int _ _) rfl ?_
      refine op_nil (at_then ?_)
      refine W_seq ?_
      refine W_rseq (Wops_join (α := Unit) 516096 (fun _ => [(18, .bool (!smallM x))]) (fun _ w' => w' = w0) rfl ?_ ?_)
      · refine op_move rfl (.int _ _) rfl ?_
        refine op_lss rfl rfl rfl ?_
        refine op_move rfl (.bool _) rfl ?_
        refine Wops_split 15 rfl ?_ ?_
        · intro h1
          replace h1 := dec_t h1
          refine op_skip rfl ?_
          refine op_skip rfl ?_
          refine op_pick1 rfl rfl (.bool _) rfl ?_
          refine op_nil ?_
          exact ⟨rfl, (), rfl, ⟨congrArg Value.bool (by unfold smallM; rw [Bool.eq_iff_iff]; simp_all; try omega), trivial⟩, rfl⟩
        · intro h2
          replace h2 := dec_f h2
          refine op_move rfl (.int _ _) rfl ?_
          refine op_gtr rfl rfl rfl ?_
          refine op_pick0 rfl rfl (.bool _) rfl ?_
          refine op_nil ?_
          exact ⟨rfl, (), rfl, ⟨congrArg Value.bool (by unfold smallM; rw [Bool.eq_iff_iff]; simp_all; try omega), trivial⟩, rfl⟩
      rintro - j18 w hw
      subst hw
      refine W_cond _ rfl ?_ ?_
      · intro h2
        replace h2 := nvar_t h2
        refine W_rseq ?_
        refine op_assign rfl (.bool _) rfl ?_
        refine op_nil (at_then ?_)
        refine W_ret (ret_then (ret_block (ret_then (ret_then (ret_block (ret_then (leave1 (v := (.bool _)) rfl rfl rfl ?_)))))))
        refine ⟨congrArg Value.bool ?_, rfl⟩
        unfold evenM
        rw [all_false hx (show smallM x = false by simpa using h2)]; rfl
      · intro h2
        replace h2 := nvar_f h2
        have h2' : smallM x = true := by simpa using h2
        have h3 : -4503599627370496 ≤ x ∧ x ≤ 4503599627370496 := by unfold smallM at h2'; simpa using h2'
        have hst := sumM_take hx
        obtain ⟨q, r, hq, hr, he, hr1, hr2, hq2⟩ := tdm (ll + x)
        have hq3 := hq2 (by omega) (by omega)
        refine W_skip (at_then ?_)
        refine W_rseq ?_
        refine op_move rfl (.int _ _) rfl ?_
        refine op_move rfl (.int _ _) rfl ?_
        refine op_add_i64 rfl rfl rfl (by omega) (by omega) ?_
        refine op_assign rfl (.int _ _) rfl ?_
        refine op_nil (at_then ?_)
        refine W_rseq ?_
        refine op_move rfl (.int _ _) rfl ?_
        refine op_move rfl (.int _ _) rfl ?_
        refine op_quot rfl rfl rfl (by decide) (by omega) (by omega) ?_
        rw [hq]
        refine op_add_i64 rfl rfl rfl (by omega) (by omega) ?_
        refine op_assign rfl (.int _ _) rfl ?_
        refine op_nil (at_then ?_)
        refine W_region ?_
        refine op_move rfl (.int _ _) rfl ?_
        refine op_remt rfl rfl rfl (by decide) ?_
        rw [hr]
        refine op_assign rfl (.int _ _) rfl ?_
        refine op_nil (at_block (at_then ?_))
        refine W_region ?_
        refine op_add_i64 rfl rfl rfl (by omega) (by omega) ?_
        refine op_move rfl (.int _ _) rfl ?_
        refine op_nil (at_then ?_)
        refine ⟨(i + 1, hh + q, r), rfl, ⟨rfl, rfl, rfl, trivial⟩, ⟨by dsimp only; omega, rfl, by dsimp only; omega, hr1, hr2, by dsimp only; omega, by dsimp only; omega, fun k y hk hy => ?_⟩, by dsimp only; omega⟩
        rcases Nat.lt_or_ge k i with h7 | h7
        · exact hb k y h7 hy
        · obtain rfl : k = i := by dsimp only at hk; omega
          rw [hx] at hy
          cases hy
          exact h2'
    · intro h1
      replace h1 := dec_f h1
      obtain rfl : i = xs.length := by omega
      rw [List.take_length] at hs
      have hall : xs.all smallM = true := all_true fun k x hk hx => hb k x hk hx
      refine W_exit (exit_then (exit_then (exit_here (at_then ?_))))
      refine W_rseq ?_
      refine op_move rfl (.int _ _) rfl ?_
      refine op_eql rfl rfl rfl ?_
      refine op_move rfl (.bool _) rfl ?_
      refine Wops_split 31 rfl ?_ ?_
      · intro h3
        replace h3 := dec_t h3
        refine op_move rfl (.int _ _) rfl ?_
        refine op_eql rfl rfl rfl ?_
        refine op_pick1 rfl rfl (.bool _) rfl ?_
        refine op_assign rfl (.bool _) rfl ?_
        refine op_nil (at_then ?_)
        refine W_ret (leave1 (v := (.bool _)) rfl rfl rfl ?_)
        exact ⟨congrArg Value.bool (by unfold evenM; rw [hall, Bool.true_and, Bool.eq_iff_iff]; simp_all; try omega), rfl⟩
      · intro h4
        replace h4 := dec_f h4
        refine op_skip rfl ?_
        refine op_skip rfl ?_
        refine op_pick0 rfl rfl (.bool _) rfl ?_
        refine op_assign rfl (.bool _) rfl ?_
        refine op_nil (at_then ?_)
        refine W_ret (leave1 (v := (.bool _)) rfl rfl rfl ?_)
        exact ⟨congrArg Value.bool (by unfold evenM; rw [hall, Bool.true_and, Bool.eq_iff_iff]; simp_all; try omega), rfl⟩

/-! ### Shift -/
def shiftM (xs ys : List Int) : List Int := List.zipWith (· + ·) xs ys
/-- Its code. -/
def shiftC (xs ys : List Int) : Int :=
  if (decide (xs.length = ys.length) && (xs.all mayM && evenM ys)) = false then 1 else if (shiftM xs ys).all (fun x => decide (0 ≤ x)) = false then 12 else if (shiftM xs ys).all mayM = false then 13 else 0
theorem shift_at {xs ys : List Int} {i : Nat} {x y : Int} (hx : xs[i]? = some x) (hy : ys[i]? = some y) : (shiftM xs ys)[i]? = some (x + y) := by
  unfold shiftM; rw [List.getElem?_zipWith, hx, hy]
theorem shift_take {xs ys : List Int} {i : Nat} {x y : Int} (hx : xs[i]? = some x) (hy : ys[i]? = some y) : (shiftM xs ys).take (i + 1) = (shiftM xs ys).take i ++ [x + y] := by
  rw [List.take_succ, shift_at hx hy]; rfl
set_option maxRecDepth 20000 in
set_option maxHeartbeats 4000000 in
theorem mshift_ok (a b : Option Addr) (n c m d : Nat) (xs ys : List Int) (w : World) (R : Rd w a 1 I1 xs) (hn : xs.length = n) (hn2 : n ≤ 1000000) (Ry : Rd w b 1 I1 ys) (hm : ys.length = m) (hm2 : m ≤ 1000000) :
    Ret Tryz.prog 140 #[.slice a n c, .slice b m d] w fun v w' => ∃ v', v = .tuple #[v', .int .i64 (shiftC xs ys)] ∧ (shiftC xs ys ≠ 0 → v' = .slice none 0 0) ∧ (shiftC xs ys = 0 → Fresh w w' 2 1 v' ((shiftM xs ys).map i64v)) ∧ Ext [] w w' := by
  subst hn hm
  obtain ⟨w0, rfl⟩ : ∃ w0, w0 = w := ⟨_, rfl⟩
  have H := Ctx.start w0 []
  refine ret_of_W (fn := Tryz.f140) Tryz.func140 rfl [.slice a xs.length c, .slice b ys.length d] rfl (by kernel_rfl) ?_
  refine W_rseq ?_
  refine op_assign rfl (.slice _ _ _) rfl ?_
  refine op_assign rfl (.int _ _) rfl ?_
  refine op_nil (at_then ?_)
  refine W_seq ?_
  refine W_rseq (Wops_join (α := Unit) 33553408 (fun _ => [(24, .bool (!(decide (xs.length = ys.length) && (xs.all mayM && evenM ys))))]) (fun _ w' => w' = w0) rfl ?_ ?_)
  · refine op_move rfl (.slice _ _ _) rfl ?_
    refine op_len rfl el_29_SmB rfl ?_
    refine op_move rfl (.slice _ _ _) rfl ?_
    refine op_len rfl el_29_SmB rfl ?_
    refine op_neq rfl rfl rfl ?_
    refine op_move rfl (.bool _) rfl ?_
    refine Wops_split 15 rfl ?_ ?_
    · intro h1
      replace h1 := ndec_t h1
      refine op_skip rfl ?_
      refine op_skip rfl ?_
      refine op_skip rfl ?_
      refine op_pick1 rfl rfl (.bool _) rfl ?_
      refine op_move rfl (.bool _) rfl ?_
      refine op_skip rfl ?_
      refine op_skip rfl ?_
      refine op_skip rfl ?_
      refine op_pick1 rfl rfl (.bool _) rfl ?_
      refine op_nil ?_
      exact ⟨rfl, (), rfl, ⟨congrArg Value.bool (by generalize xs.all mayM = A at *; generalize evenM ys = B at *; rw [Bool.eq_iff_iff]; simp_all; try omega), trivial⟩, rfl⟩
    · intro h2
      replace h2 := ndec_f h2
      refine op_move rfl (.slice _ _ _) rfl ?_
      refine op_call rfl ca_160_SmB (mright_ok a xs.length c xs _ R rfl hn2) rfl ?_
      rintro v w ⟨rfl, rfl⟩
      refine op_not rfl rfl ?_
      refine op_pick0 rfl rfl (.bool _) rfl ?_
      refine op_move rfl (.bool _) rfl ?_
      refine Wops_split 20 rfl ?_ ?_
      · intro h3
        replace h3 := nvar_t h3
        refine op_skip rfl ?_
        refine op_skip rfl ?_
        refine op_skip rfl ?_
        refine op_pick1 rfl rfl (.bool _) rfl ?_
        refine op_nil ?_
        exact ⟨rfl, (), rfl, ⟨congrArg Value.bool (by generalize xs.all mayM = A at *; generalize evenM ys = B at *; rw [Bool.eq_iff_iff]; simp_all; try omega), trivial⟩, rfl⟩
      · intro h4
        replace h4 := nvar_f h4
        refine op_move rfl (.slice _ _ _) rfl ?_
        refine op_call rfl ca_181_SmB (meven_ok b ys.length d ys _ Ry rfl hm2) rfl ?_
        rintro v w ⟨rfl, rfl⟩
        refine op_not rfl rfl ?_
        refine op_pick0 rfl rfl (.bool _) rfl ?_
        refine op_nil ?_
        exact ⟨rfl, (), rfl, ⟨congrArg Value.bool (by generalize xs.all mayM = A at *; generalize evenM ys = B at *; rw [Bool.eq_iff_iff]; simp_all; try omega), trivial⟩, rfl⟩
  rintro - j24 w hw
  subst w
  refine W_cond _ rfl ?_ ?_
  · intro h1
    replace h1 := nvar_t h1
    refine W_rseq ?_
    refine op_assign rfl (.slice _ _ _) rfl ?_
    refine op_assign rfl (.int _ _) rfl ?_
    refine op_nil (at_then ?_)
    refine W_ret (ret_then (leave2 (v1 := (.slice _ _ _)) (v2 := (.int _ _)) rfl rfl rfl rfl ?_))
    have h1' : shiftC xs ys = 1 := by unfold shiftC; rw [if_pos (by simpa using h1)]
    exact ⟨_, by rw [h1'], fun _ => rfl, (fun h => by omega), H.ext⟩
  · intro h1
    replace h1 := nvar_f h1
    have h1' : (decide (xs.length = ys.length) && (xs.all mayM && evenM ys)) = true := by simpa using h1
    have h1c : ¬ (decide (xs.length = ys.length) && (xs.all mayM && evenM ys)) = false := by rw [h1']; decide
    have hE := h1'
    simp only [Bool.and_eq_true, decide_eq_true_eq, List.all_eq_true] at hE
    obtain ⟨hle, hma, hev⟩ := hE
    have hsm : ∀ y ∈ ys, -4503599627370496 ≤ y ∧ y ≤ 4503599627370496 := fun y hy => by
      unfold evenM at hev
      simp only [Bool.and_eq_true, List.all_eq_true] at hev
      have := hev.1 y hy
      unfold smallM at this
      simpa using this
    have hlen : (shiftM xs ys).length = xs.length := by unfold shiftM; rw [List.length_zipWith]; omega
    refine W_skip (at_then ?_)
    refine W_rseq ?_
    refine op_assign rfl (.slice _ _ _) rfl ?_
    refine op_nil (at_then ?_)
    refine W_rseq ?_
    refine op_assign rfl (.int _ _) rfl ?_
    refine op_nil (at_then ?_)
    refine W_seq ?_
    refine W_rseq ?_
    refine op_move rfl (.slice _ _ _) rfl ?_
    refine op_len rfl el_29_SmB rfl ?_
    refine op_move rfl (.int _ _) rfl ?_
    refine op_nil (at_then ?_)
    refine W_block ?_
    refine W_loop 1125899772625904 (α := LSt × Int) (fun t => [(6, .slice t.1.a t.1.i t.1.c), (7, .int .i64 t.2), (27, .int .i64 (t.1.i : Int))]) (fun t w' => t.1.i ≤ xs.length ∧ OS t.1.a t.1.i t.1.c 1 t.1.full (((shiftM xs ys).take t.1.i).map i64v) ∧ Ctx w0 [] w' (ent t.1.a 2 t.1.full) ∧ (∀ (k : Nat) (x : Int), k < t.1.i → (shiftM xs ys)[k]? = some x → 0 ≤ x) ∧ ((t.2 = 0 ∧ ∀ (k : Nat) (x : Int), k < t.1.i → (shiftM xs ys)[k]? = some x → mayM x = true) ∨ (t.2 = 13 ∧ (shiftM xs ys).all mayM = false))) (fun t => xs.length - t.1.i) (⟨0, none, 0, []⟩, 0) rfl ?_ ?_ ?_
    · exact ⟨rfl, rfl, rfl, trivial⟩
    · exact ⟨Nat.zero_le _, OS.nil, H, fun k x h => absurd h (Nat.not_lt_zero _), .inl ⟨rfl, fun k x h => absurd h (Nat.not_lt_zero _)⟩⟩
    · rintro ⟨⟨i, a2, c2, full⟩, ov⟩ j w ⟨hi, O, H, hp, hov⟩; dsimp only at hi O H hp hov; dsimp only
      refine W_rseq ?_
      refine op_lss rfl rfl rfl ?_
      refine op_nil (at_then ?_)
      refine W_seq ?_
      refine W_cond _ rfl ?_ ?_
      · intro h2
        replace h2 := dec_t h2
        obtain ⟨x, hx⟩ := get_some (l := xs) (i := i) (by omega)
        obtain ⟨y, hy⟩ := get_some (l := ys) (i := i) (by omega)
        have hx1 := mayM_iff.1 (hma x (List.mem_of_getElem? hx))
        have hy1 := hsm y (List.mem_of_getElem? hy)
        have hat := shift_at hx hy
        have htk := shift_take hx hy
        refine W_skip (at_then ?_)
        refine W_seq ?_
        refine W_block ?_
        refine W_rseq ?_
        refine op_move rfl (.int _ _) rfl ?_
        first | refine op_indexRd R rfl el_29_SmB sz_2_SmB rfl rfl (by omega) (by omega) (by first | rfl | omega) ?_ | refine op_indexRd Ry rfl el_29_SmB sz_2_SmB rfl rfl (by omega) (by omega) (by first | rfl | omega) ?_ | refine op_indexAddr rfl el_29_SmB sz_2_SmB rfl rfl (by omega) (by omega) ?_
        first | refine op_ldb rfl ag_2_SmB rfl H (by first | exact at0 | exact at1 | exact at2 | exact at3 | exact at4 | exact at5 | exact at6 | exact at7 | exact at8 | exact at9) rfl ?_ | refine op_ld rfl ag_2_SmB rfl (((R.ext0 H.ext).fld hx rfl (j := 0) rfl)) ?_ | refine op_ld rfl ag_2_SmB rfl (((Ry.ext0 H.ext).fld hy rfl (j := 0) rfl)) ?_
        refine op_assign rfl (.int _ _) rfl ?_
        refine op_assign rfl (.int _ _) rfl ?_
        refine op_nil (at_then ?_)
        refine W_rseq ?_
        refine op_move rfl (.int _ _) rfl ?_
        refine op_move rfl (.slice _ _ _) rfl ?_
        refine op_move rfl (.int _ _) rfl ?_
        first | refine op_indexRd R rfl el_29_SmB sz_2_SmB rfl rfl (by omega) (by omega) (by first | rfl | omega) ?_ | refine op_indexRd Ry rfl el_29_SmB sz_2_SmB rfl rfl (by omega) (by omega) (by first | rfl | omega) ?_ | refine op_indexAddr rfl el_29_SmB sz_2_SmB rfl rfl (by omega) (by omega) ?_
        first | refine op_ldb rfl ag_2_SmB rfl H (by first | exact at0 | exact at1 | exact at2 | exact at3 | exact at4 | exact at5 | exact at6 | exact at7 | exact at8 | exact at9) rfl ?_ | refine op_ld rfl ag_2_SmB rfl (((R.ext0 H.ext).fld hx rfl (j := 0) rfl)) ?_ | refine op_ld rfl ag_2_SmB rfl (((Ry.ext0 H.ext).fld hy rfl (j := 0) rfl)) ?_
        refine op_add_i64 rfl rfl rfl (by omega) (by omega) ?_
        refine op_assign rfl (.int _ _) rfl ?_
        refine op_nil (at_then ?_)
        refine W_seq ?_
        refine W_block ?_
        refine W_rseq ?_
        refine op_move rfl (.int _ _) rfl ?_
        refine op_lss rfl rfl rfl ?_
        refine op_assign rfl (.bool _) rfl ?_
        refine op_nil (at_then ?_)
        refine W_cond _ rfl ?_ ?_
        · intro h3
          replace h3 := dec_t h3
          refine W_rseq ?_
          refine op_assign rfl (.slice _ _ _) rfl ?_
          refine op_assign rfl (.int _ _) rfl ?_
          refine op_nil (at_then ?_)
          refine W_ret (ret_block (ret_then (ret_block (ret_then (ret_then (ret_block (ret_then (leave2 (v1 := (.slice _ _ _)) (v2 := (.int _ _)) rfl rfl rfl rfl ?_))))))))
          have h4 : shiftC xs ys = 12 := by
            unfold shiftC
            rw [if_neg h1c, if_pos (all_false hat (by simpa using h3))]
          exact ⟨_, by rw [h4], fun _ => rfl, (fun h => by omega), H.ext⟩
        · intro h3
          replace h3 := dec_f h3
          have hp' : ∀ (k : Nat) (z : Int), k < i + 1 → (shiftM xs ys)[k]? = some z → 0 ≤ z := fun k z hk hz => by
            rcases Nat.lt_or_ge k i with h7 | h7
            · exact hp k z h7 hz
            · obtain rfl : k = i := by omega
              rw [hat] at hz; cases hz; omega
          have hO : ((shiftM xs ys).take (i + 1)).map i64v = ((shiftM xs ys).take i).map i64v ++ [.int .i64 (x + y)] := by rw [htk, List.map_append]; rfl
          refine W_rseq ?_
          refine op_move rfl (.int _ _) rfl ?_
          refine op_call rfl ca_109_SmB (may_ok (x + y) _) rfl ?_
          rintro v w ⟨rfl, rfl⟩
          refine op_not rfl rfl ?_
          refine op_assign rfl (.bool _) rfl ?_
          refine op_nil (at_then ?_)
          refine W_cond _ rfl ?_ ?_
          · intro h4
            replace h4 := nvar_t h4
            have h4' : mayM (x + y) = false := by simpa using h4
            refine W_region ?_
            refine op_assign rfl (.int _ _) rfl ?_
            refine op_nil (at_block (at_then ?_))
            refine W_region ?_
            refine op_move rfl (.slice _ _ _) rfl ?_
            refine op_move rfl (.int _ _) rfl ?_
            refine op_build1 _ (.int _ _) rfl el_29_SmB sz_2_SmB zc_2_SmB rfl (by decide) (by decide) rfl rfl rfl H ?_
            rintro b47 w - H
            refine op_appendb (L := []) rfl el_29_SmB el_29_SmB sz_2_SmB by_2_SmB zc_2_SmB rfl (by decide) rfl rfl H O rfl (by simp [oneCell]) (by omega) ?_
            rintro a' c' full' w H O
            refine op_assign rfl (.slice _ _ _) rfl ?_
            refine op_nil (at_block (at_then ?_))
            refine W_region ?_
            refine op_add_i64 rfl rfl rfl (by omega) (by omega) ?_
            refine op_move rfl (.int _ _) rfl ?_
            refine op_nil (at_then ?_)
            exact ⟨(⟨i + 1, a', c', full'⟩, 13), rfl, ⟨rfl, rfl, rfl, trivial⟩, ⟨by dsimp only; omega, by dsimp only; rw [hO]; exact O, H, hp', .inr ⟨rfl, all_false hat h4'⟩⟩, by dsimp only; omega⟩
          · intro h4
            replace h4 := nvar_f h4
            have h4' : mayM (x + y) = true := by simpa using h4
            refine W_skip (at_block (at_then ?_))
            refine W_region ?_
            refine op_move rfl (.slice _ _ _) rfl ?_
            refine op_move rfl (.int _ _) rfl ?_
            refine op_build1 _ (.int _ _) rfl el_29_SmB sz_2_SmB zc_2_SmB rfl (by decide) (by decide) rfl rfl rfl H ?_
            rintro b47 w - H
            refine op_appendb (L := []) rfl el_29_SmB el_29_SmB sz_2_SmB by_2_SmB zc_2_SmB rfl (by decide) rfl rfl H O rfl (by simp [oneCell]) (by omega) ?_
            rintro a' c' full' w H O
            refine op_assign rfl (.slice _ _ _) rfl ?_
            refine op_nil (at_block (at_then ?_))
            refine W_region ?_
            refine op_add_i64 rfl rfl rfl (by omega) (by omega) ?_
            refine op_move rfl (.int _ _) rfl ?_
            refine op_nil (at_then ?_)
            refine ⟨(⟨i + 1, a', c', full'⟩, ov), rfl, ⟨rfl, rfl, rfl, trivial⟩, ⟨by dsimp only; omega, by dsimp only; rw [hO]; exact O, H, hp', ?_⟩, by dsimp only; omega⟩
            rcases hov with ⟨h5, h6⟩ | h5
            · refine .inl ⟨h5, fun k z hk hz => ?_⟩
              rcases Nat.lt_or_ge k i with h7 | h7
              · exact h6 k z h7 hz
              · obtain rfl : k = i := by dsimp only at hk; omega
                rw [hat] at hz; cases hz; exact h4'
            · exact .inr h5
      · intro h2
        replace h2 := dec_f h2
        obtain rfl : i = xs.length := by omega
        have hpa : ¬ (shiftM xs ys).all (fun x => decide (0 ≤ x)) = false := by
          rw [all_true fun k x hk hx => decide_eq_true (hp k x (by omega) hx)]; decide
        rw [show (shiftM xs ys).take xs.length = shiftM xs ys by rw [← hlen, List.take_length]] at O
        refine W_exit (exit_then (exit_then (exit_here (at_then ?_))))
        refine W_seq ?_
        refine W_rseq ?_
        refine op_move rfl (.int _ _) rfl ?_
        refine op_neq rfl rfl rfl ?_
        refine op_nil (at_then ?_)
        refine W_cond _ rfl ?_ ?_
        · intro h3
          replace h3 := ndec_t h3
          rcases hov with ⟨h5, -⟩ | ⟨rfl, h6⟩
          · exact absurd h5 h3
          · refine W_rseq ?_
            refine op_move rfl (.int _ _) rfl ?_
            refine op_assign rfl (.slice _ _ _) rfl ?_
            refine op_assign rfl (.int _ _) rfl ?_
            refine op_nil (at_then ?_)
            refine W_ret (ret_then (leave2 (v1 := (.slice _ _ _)) (v2 := (.int _ _)) rfl rfl rfl rfl ?_))
            have h4 : shiftC xs ys = 13 := by unfold shiftC; rw [if_neg h1c, if_neg hpa, if_pos h6]
            exact ⟨_, by rw [h4], fun _ => rfl, (fun h => by omega), H.ext⟩
        · intro h3
          replace h3 := ndec_f h3
          refine W_skip (at_then ?_)
          refine W_rseq ?_
          refine op_move rfl (.slice _ _ _) rfl ?_
          refine op_assign rfl (.slice _ _ _) rfl ?_
          refine op_assign rfl (.int _ _) rfl ?_
          refine op_nil (at_then ?_)
          refine W_ret (leave2 (v1 := (.slice _ _ _)) (v2 := (.int _ _)) rfl rfl rfl rfl ?_)
          have h4 : shiftC xs ys = 0 := by
            unfold shiftC
            rcases hov with ⟨-, h6⟩ | ⟨h5, -⟩
            · rw [if_neg h1c, if_neg hpa, if_neg (by rw [all_true fun k x hk hx => h6 k x (by omega) hx]; decide)]
            · omega
          exact ⟨_, by rw [h4], (fun h => absurd h4 h), (fun _ => Ctx.fresh (L := []) H O), H.ext⟩
end Go.Proofs.YtapphbmlkdhnmaaGreat

/- Ranges over a function that may choose what comes next: the same rule, with the states it may go through. It holds for every program. -/
namespace Go.GV
open Go

/-- The same, of an iterator that goes from state to state: what it yields, and what it leaves. -/
def IterOkG (P : Program) (gf : FuncId) (ca : Array Value) (Z : List Nat) (K : Mt → World → Prop) {σ : Type} (z0 : σ) (St : σ → List Value → σ → Prop) (En : σ → Prop) (S0 : World → Prop) : Prop :=
  ∀ (l : Nat) (w : World), S0 w → ∀ (J : σ → Mt → World → Prop) (E : World → Prop), (∃ M, J z0 M w) → (∀ i M w' w'' T, J i M w' → (∀ x ∈ T, ¬ M x ∧ w.heap.size ≤ x) → Ext T w' w'' → J i M w'') → (∀ w' w'', E w' → Ext Z w' w'' → E w'') → (∀ i M w', J i M w' → (∀ x, M x → x < w'.heap.size) ∧ K M w') →
    (∀ i v i' M w', St i v i' → J i M w' → YieldAt P l v w' fun u w'' => (u = .bool true ∧ ∃ M', J i' M' w'' ∧ Grw M M' w' w'') ∨ (u = .bool false ∧ E w'')) →
    Ret P gf (#[.func (.yield l) #[] #[]] ++ ca) w fun _ w' => (∃ i M, En i ∧ J i M w') ∨ E w'

section
variable {P : Program} {Q : Exit → Env → World → Prop} {e : Env} {w : World} {n : Nat}
/-- The statement. -/
theorem W_rangeG {f : Operand} {ps : Array Tmp} {assign body : Code} {gf : Nat} {ca : Array Value} {Z : List Nat} {K : Mt → World → Prop} {σ : Type} {z0 : σ} {St : σ → List Value → σ → Prop} {En : σ → Prop} {S0 : World → Prop} (hf : ev e f = .func (.func gf) #[] ca) (hc : callable P gf = true)
    (hI : IterOkG P gf ca Z K z0 St En S0) (hfit : (fits n assign && fits n body) = true) (hps : (ps.toList.all fun p => decide (p < n)) = true) (hlen : ∀ i v i', St i v i' → v.length = ps.size)
    (J : σ → Mt → World → Prop) (E : World → Prop) (hZ : w.heap.size ∉ Z ∧ w.heap.size + 1 ∉ Z) (hS0 : ∀ w2, Ext [] w w2 → S0 w2) (hj0 : ∀ w2, Ext [] w w2 → w.heap.size + 1 < w2.heap.size → ∃ M, J z0 M w2)
    (hjs : ∀ i M w' w'' T, J i M w' → (∀ x ∈ T, ¬ M x ∧ w.heap.size ≤ x) → Ext T w' w'' → J i M w'') (hes : ∀ w' w'', E w' → Ext (w.heap.size :: (w.heap.size + 1) :: Z) w' w'' → E w'')
    (hk : ∀ i M w', J i M w' → (∀ x, M x → x < w'.heap.size ∧ x ≠ w.heap.size ∧ x ≠ w.heap.size + 1) ∧ K (fun x => x = w.heap.size + 1 ∨ M x) w')
    (hb : ∀ i v i' M w', St i v i' → J i M w' → w.heap.size + 1 < w'.heap.size → W P (some (w.heap.size + 1)) n assign (Qassign P w.heap.size (w.heap.size + 1) n body (J i') E M w') (putsP ⟨e.g, []⟩ (ps.toList.zip v)) w')
    (hend : ∀ i M w4, En i → J i M w4 → w4.heap[w.heap.size]? = some (.deferred (some [])) → Q .normal ⟨e.g, { target := .collected w.heap.size, args := #[] } :: e.ds⟩ w4)
    (hret : ∀ w4, E w4 → w4.heap[w.heap.size]? = some (.deferred (some [])) → Q .ret ⟨e.g, { target := .collected w.heap.size, args := #[] } :: e.ds⟩ w4) : W P none n (.rangeFunc f ps assign body) Q e w := by
  refine W_rangeFunc hf hc ?_
  intro fn tmps hts htm D l w2 hDe hle hx2 hD hrec
  subst hDe hle
  obtain ⟨lo, hlo, hrec'⟩ : ∃ lo, lo = ({ state := .ready, pending := none, fn, tmps, params := ps, assign, body, defers := w.heap.size } : Loop) ∧ w2.heap[w.heap.size + 1]? = some (.loop lo) := ⟨_, rfl, hrec⟩
  have hsz2 := heap_lt hrec'
  have hne : w.heap.size ≠ w.heap.size + 1 := by omega
  refine Ret.mono (hI (w.heap.size + 1) w2 (hS0 w2 hx2) (fun i Mh w' => (∃ M : Mt, (Mh = fun x => x = w.heap.size + 1 ∨ M x) ∧ J i M w') ∧ w'.heap[w.heap.size + 1]? = some (.loop lo) ∧ w'.heap[w.heap.size]? = some (.deferred (some []))) (fun w' => E w' ∧ (∃ lp, w'.heap[w.heap.size + 1]? = some (.loop lp) ∧ lp.state = .done ∧ lp.pending = some .ret) ∧ w'.heap[w.heap.size]? = some (.deferred (some [])))
    (let ⟨M, hM⟩ := hj0 w2 hx2 hsz2; ⟨_, ⟨M, rfl, hM⟩, hrec', hD⟩) (fun i Mh w' w'' T h hT hx => by
      obtain ⟨⟨M, rfl, hM⟩, h2, h3⟩ := h
      exact ⟨⟨M, rfl, hjs i M w' w'' T hM (fun x hx => ⟨fun h => (hT x hx).1 (.inr h), by have := (hT x hx).2; omega⟩) hx⟩, hx.to h2 (fun h => (hT _ h).1 (.inl rfl)), hx.to h3 (fun h => by have := (hT _ h).2; omega)⟩)
    (fun w' w'' h hx => ⟨hes w' w'' h.1 (hx.mono fun x hx => List.mem_cons_of_mem _ (List.mem_cons_of_mem _ hx)), let ⟨lp, h1, h2⟩ := h.2.1; ⟨lp, hx.to h1 hZ.2, h2⟩, hx.to h.2.2 hZ.1⟩) (fun i Mh w' h => by
      obtain ⟨⟨M, rfl, hM⟩, hl, _⟩ := h
      exact ⟨fun x hx => hx.elim (fun h => by rw [h]; exact heap_lt hl) fun h => ((hk i M w' hM).1 x h).1, (hk i M w' hM).2⟩) ?_) ?_
  · rintro i v i' Mh w' hx ⟨⟨M, rfl, hJ⟩, hl, hDw⟩
    have hsz := heap_lt hl
    have hkM := (hk i M w' hJ).1
    have hbody := hb i v i' M w' hx hJ hsz
    have hlp : lo.params = ps := by rw [hlo]
    have hla : lo.assign = assign := by rw [hlo]
    have hlb : lo.body = body := by rw [hlo]
    have hlt : lo.tmps = tmps := by rw [hlo]
    have hls : lo.state = .ready := by rw [hlo]
    have hpd : lo.pending = none := by rw [hlo]
    refine yield_of hl (by rw [hlp]; exact hlen i v i' hx) ?_
    rw [hlp, hla, hlb, hlt, fold_zip]
    have hs0 : Sim n (⟨e.g, []⟩ : Env) ({ tmps := tmps, defers := [] } : Act) := ⟨rfl, hts, htm⟩
    refine round_of_W (putsP ⟨e.g, []⟩ (ps.toList.zip v)) (sim_zip _ hs0 fun p hp => ?_) hfit ?_
    · have h1 := List.all_eq_true.1 hps p.1 (List.of_mem_zip hp).1
      exact of_decide_eq_true h1
    · refine W_mono assign ?_ hbody
      intro x e1 w1 hq
      cases x with
      | normal =>
        obtain ⟨hS, hW⟩ := hq
        have hl1 := hS.to hl (by simp)
        have hD1 := hS.to hDw (by simp)
        have hxB := Ext.setB w1 (w.heap.size + 1) (.loop { lo with state := .busy })
        refine ⟨lo, hl1, hls, W_mono body ?_ (hW _ hxB)⟩
        have hlB : (w1.putObj (w.heap.size + 1) (.loop { lo with state := .busy })).heap[w.heap.size + 1]? = some (.loop { lo with state := .busy }) := setB_same hl1
        have hDB : (w1.putObj (w.heap.size + 1) (.loop { lo with state := .busy })).heap[w.heap.size]? = some (.deferred (some [])) := hxB.to hD1 (by simp)
        intro y e3 w3 hq3
        cases y with
        | normal =>
          obtain ⟨M', hJ3, hM', S3, hS3, hin⟩ := hq3
          have hlS3 : w.heap.size + 1 ∉ S3 := fun h => by
            rcases hin _ h with h | h
            · exact (hkM _ h).2.2 rfl
            · omega
          have hDS3 : w.heap.size ∉ S3 := fun h => by
            rcases hin _ h with h | h
            · exact (hkM _ h).2.1 rfl
            · omega
          have hl3 := hS3.to hlB hlS3
          have hD3 := hS3.to hDB hDS3
          have hx4 := Ext.setB w3 (w.heap.size + 1) (.loop { ({ lo with state := .busy } : Loop) with state := .ready, pending := none })
          refine ⟨_, hl3, .inl ⟨rfl, fun x => x = w.heap.size + 1 ∨ M' x, ⟨⟨M', rfl, hjs _ _ _ _ [w.heap.size + 1] hJ3 (fun x hx => by rw [List.mem_singleton] at hx; subst hx; exact ⟨fun h => (hM' _ h).elim (fun h => (hkM _ h).2.2 rfl) (fun h => by omega), by omega⟩) hx4⟩, ?_, hx4.to hD3 (by simp)⟩, ⟨⟨(w.heap.size + 1) :: S3, fun x hx => ?_, ?_⟩, fun x hx => ?_⟩⟩⟩
          · rw [setB_same hl3]
            congr 2
            cases lo
            simp_all
          · rcases List.mem_cons.1 hx with h | h
            · exact .inl (.inl h)
            · exact (hin x h).imp .inr id
          · exact (((hS.mono (by simp)).trans (hxB.mono (by simp))).trans (hS3.mono fun x h => List.mem_cons_of_mem _ h)).trans (hx4.mono (by simp))
          · rcases hx with h | h
            · exact .inl (.inl h)
            · exact (hM' x h).imp .inr id
        | ret =>
          obtain ⟨hE3, S3, hS3, hDS3, hlS3⟩ := hq3
          have hl3 := hS3.to hlB hlS3
          have hD3 := hS3.to hDB hDS3
          have hx4 := Ext.setB w3 (w.heap.size + 1) (.loop { ({ lo with state := .busy } : Loop) with state := .done, pending := some .ret })
          exact ⟨_, hl3, .inr ⟨rfl, hes _ _ hE3 (hx4.mono (by simp)), ⟨_, setB_same hl3, rfl, rfl⟩, hx4.to hD3 (by simp)⟩⟩
        | exit id => exact hq3.elim
        | goto t => exact hq3.elim
        | panic c => exact hq3.elim
        | outgrown => exact hq3.elim
      | exit id => exact hq.elim
      | goto t => exact hq.elim
      | ret => exact hq.elim
      | panic c => exact hq.elim
      | outgrown => exact hq.elim
  · intro v w3 h
    rcases h with ⟨i, Mh, hE, ⟨M, _, h1⟩, h2, h3⟩ | ⟨h1, h2, h3⟩
    · have hx4 := Ext.setB w3 (w.heap.size + 1) (.loop { lo with state := .exhausted })
      exact ⟨lo, h2, by rw [hlo]; exact (fun h => by cases h), jump_none (by rw [hlo]) (hend i M _ hE (hjs _ _ _ _ [w.heap.size + 1] h1 (fun x hx => by rw [List.mem_singleton] at hx; subst hx; exact ⟨fun h => ((hk i M w3 h1).1 _ h).2.2 rfl, by omega⟩) hx4) (hx4.to h3 (by simp)))⟩
    · obtain ⟨lp, h2, h4, h5⟩ := h2
      have hx4 := Ext.setB w3 (w.heap.size + 1) (.loop { lp with state := .exhausted })
      exact ⟨lp, h2, by rw [h4]; exact (fun h => by cases h), jump_ret h5 (hret _ (hes _ _ h1 (hx4.mono (by simp))) (hx4.to h3 (by simp)))⟩
end
end Go.GV

/- Ranges over maps whose keys are integers; delete; entries. It holds for every program. -/
namespace Go.GV
open Go

theorem set_self {α : Type} {l : List α} {i : Nat} {x : α} (h : l[i]? = some x) : l.set i x = l := by
  apply List.ext_getElem?
  intro j
  rw [List.getElem?_set]
  split
  · rename_i e; subst e
    rw [if_pos (List.getElem?_eq_some_iff.1 h).1, h]
  · rfl
def kvE (e : MapEntry) : Value × Value := (e.key, e.val)
def kvP (kk : IntKind) (p : Int × Value) : Value × Value := (.int kk p.1, p.2)
def kvD : Value × Value → Int × Value
  | (.int _ n, v) => (n, v)
  | (_, v) => (0, v)
theorem kvD_P (kk : IntKind) (m : List (Int × Value)) : (m.map (kvP kk)).map kvD = m := by
  rw [List.map_map]; exact List.map_id'' (fun _ => rfl) m
/-- An iterator over the map at block b, which reads as m: vis have come out. -/
def VisO (kk : IntKind) (b : Nat) (m vis : List (Int × Value)) (o it : Obj) : Prop :=
  ∃ (es : Array MapEntry) (clock : Nat) (ves rest : List MapEntry), o = .map es clock ∧ es.toList.map kvE = m.map (kvP kk) ∧ (∀ e ∈ es.toList, e.born < clock) ∧ (es.toList.map (·.born)).Nodup ∧
    it = .mapIter (some b) clock (ves.map (·.born)).toArray clock ∧ (ves ++ rest).Perm es.toList ∧ ves.map kvE = vis.map (kvP kk)
theorem VisO.perm {kk : IntKind} {b : Nat} {m vis : List (Int × Value)} {o it : Obj} (h : VisO kk b m vis o it) : ∃ res, (vis ++ res).Perm m := by
  obtain ⟨es, clock, ves, rest, _, hes, _, _, _, hp, hv⟩ := h
  have h1 := (hp.map kvE).map kvD
  rw [List.map_append, List.map_append, hv, kvD_P, hes, kvD_P] at h1
  exact ⟨_, h1⟩
theorem VisO.le {kk : IntKind} {b : Nat} {m vis : List (Int × Value)} {o it : Obj} (h : VisO kk b m vis o it) : vis.length ≤ m.length := by
  obtain ⟨res, h⟩ := h.perm
  have := h.length_eq
  rw [List.length_append] at this
  omega
theorem VisO.mem {kk : IntKind} {b : Nat} {m vis : List (Int × Value)} {o it : Obj} (h : VisO kk b m vis o it) : ∀ p ∈ vis, p ∈ m := fun p hp => by
  obtain ⟨res, h⟩ := h.perm
  exact h.mem_iff.1 (List.mem_append_left _ hp)

section
variable {P : Program} {r : Option Nat} {ops rest : List Oper} {Q : Exit → Env → World → Prop} {e : Env} {w w0 : World} {S : List Nat} {L : List (Nat × Obj)}
  {dst dst2 : Option Tmp} {ty ty2 : TypeId} {pos pos2 : String} {af af2 : Array Edge} {g g2 : Option (Nat × Bool)}

theorem op_range {t k el : TypeId} {kk : IntKind} {x : Operand} {b : Nat} {o : Obj} {m : List (Int × Value)} (hg : wants ⟨dst, .range t x, ty, pos, af, g⟩ ops e = true)
    (ht : mapT P t = some (k, el)) (hx : ev e x = .map (some b)) (H : Ctx w0 S w L) (hm : w.heap[b]? = some o) (hM : MapO kk m o)
    (h : ∀ bi it w', VisO kk b m [] o it → Ctx w0 S w' ((bi, it) :: L) → Wops P r ops Q rest (put e dst (.pointer (some ⟨bi, 0, none⟩))) w') :
    Wops P r ops Q (⟨dst, .range t x, ty, pos, af, g⟩ :: rest) e w := by
  obtain ⟨es, clock, rfl, hes, hb, hn⟩ := hM
  have hgo : (getObj b).run P w = .ok (.map es clock) w := by simp [getObj, Sem.run, hm]
  refine op_val (w' := w.alloc (.mapIter (some b) clock #[] clock)) (v := .pointer (some ⟨w.heap.size, 0, none⟩)) hg rfl ?_ (h _ _ _ ⟨es, clock, [], es.toList, rfl, hes, hb, hn, rfl, List.Perm.refl _, rfl⟩ (H.alloc _))
  simp [execOp, Instr.range, run_under (mapT_u ht), hx, hgo, newObj, Sem.run]

theorem perm_mid {es : List MapEntry} {ves rest : List MapEntry} {x : MapEntry} (hp : (ves ++ rest).Perm es) (hx : x ∈ es) (hn : x ∉ ves) : ∃ res, ((ves ++ [x]) ++ res).Perm es := by
  have h1 : x ∈ rest := (List.mem_append.1 (hp.mem_iff.2 hx)).resolve_left hn
  obtain ⟨l1, l2, rfl⟩ := List.append_of_mem h1
  refine ⟨l1 ++ l2, List.Perm.trans ?_ hp⟩
  rw [List.append_assoc]
  exact List.Perm.append_left ves (show (x :: (l1 ++ l2)).Perm (l1 ++ x :: l2) from List.perm_middle.symm)

theorem run_nextM {kk : IntKind} {b bi i : Nat} {o it : Obj} {m vis : List (Int × Value)} (ty : TypeId) (H : Ctx w0 S w L) (hm : w.heap[b]? = some o) (hi : L[i]? = some (bi, it)) (hV : VisO kk b m vis o it) :
    ∃ vs more it' w', (Instr.next (.pointer (some ⟨bi, 0, none⟩)) false ty).run P w = .ok (.tuple vs) w' ∧ vs[0]? = some (.bool more) ∧ ((more = false ∧ vis.Perm m ∧ it' = it) ∨ (more = true ∧ ∃ p, VisO kk b m (vis ++ [p]) o it')) ∧ Ctx w0 S w' (L.set i (bi, it')) := by
  obtain ⟨es, clock, ves, rest, rfl, hes, hb, hn, rfl, hp, hv⟩ := hV
  rcases run_next_at (P := P) w ty bi b clock clock (ves.map (·.born)).toArray es clock (H.get hi) (hm) hb (Nat.le_refl _) with ⟨h0, hr⟩ | ⟨x, hx, w1, hw1, hr⟩
  · have hall := all_seen es _ h0
    have hrest : rest = [] := by
      cases rest with
      | nil => rfl
      | cons x rest =>
        exfalso
        have hx := hall x (hp.mem_iff.1 (List.mem_append_right _ (List.mem_cons_self ..)))
        have h2 := (hp.map (·.born)).nodup_iff.2 hn
        rw [List.map_append, List.nodup_append] at h2
        have hx2 : x.born ∈ ves.map (·.born) := by
          rw [List.contains_toArray] at hx
          exact List.contains_iff_mem.1 hx
        exact h2.2.2 _ hx2 _ (List.mem_map_of_mem (List.mem_cons_self ..)) rfl
    subst hrest
    rw [List.append_nil] at hp
    have h1 := (hp.map kvE).map kvD
    rw [hv, kvD_P, hes, kvD_P] at h1
    refine ⟨_, false, _, w, hr, rfl, .inl ⟨rfl, h1, rfl⟩, ?_⟩
    rw [set_self hi]
    exact H
  · obtain ⟨hxe, hxs⟩ := mem_left hx
    have hxv : x ∉ ves := fun h => by
      rw [List.contains_toArray] at hxs
      have : (ves.map (·.born)).contains x.born = true := List.contains_iff_mem.2 (List.mem_map_of_mem h)
      rw [this] at hxs; cases hxs
    obtain ⟨res, hp2⟩ := perm_mid hp hxe hxv
    have hk : ∃ p ∈ m, kvP kk p = kvE x := by
      have h1 : kvE x ∈ es.toList.map kvE := List.mem_map_of_mem hxe
      rw [hes] at h1
      exact List.mem_map.1 h1
    obtain ⟨p, -, hpx⟩ := hk
    have H1 : Ctx w0 S w1 L := by rcases hw1 with rfl | rfl; exact H; exact H.drew
    refine ⟨_, true, _, _, hr, rfl, .inr ⟨rfl, p, es, clock, ves ++ [x], res, rfl, hes, hb, hn, rfl, hp2, by rw [List.map_append, List.map_append, hv]; simp [hpx]⟩, ?_⟩
    have h3 : ((ves.map (·.born)).toArray.push x.born) = ((ves ++ [x]).map (·.born)).toArray := by simp
    rw [← h3]
    exact H1.setB hi _

theorem op_next {kk : IntKind} {d : Tmp} {x : Operand} {b bi i : Nat} {o it : Obj} {m vis : List (Int × Value)} (hg : wants ⟨some d, .next x false, ty, pos, af, g⟩ ops e = true) (hg2 : ∀ v, wants ⟨dst2, .extract (.tmp d) 0, ty2, pos2, af2, g2⟩ ops (put e (some d) v) = true)
    (hx : ev e x = .pointer (some ⟨bi, 0, none⟩)) (H : Ctx w0 S w L) (hm : w.heap[b]? = some o) (hi : L[i]? = some (bi, it)) (hV : VisO kk b m vis o it)
    (h : ∀ vs more it' w', ((more = false ∧ vis.Perm m ∧ it' = it) ∨ (more = true ∧ ∃ p, VisO kk b m (vis ++ [p]) o it')) → Ctx w0 S w' (L.set i (bi, it')) → Wops P r ops Q rest (put (put e (some d) (.tuple vs)) dst2 (.bool more)) w') :
    Wops P r ops Q (⟨some d, .next x false, ty, pos, af, g⟩ :: ⟨dst2, .extract (.tmp d) 0, ty2, pos2, af2, g2⟩ :: rest) e w := by
  obtain ⟨vs, more, it', w', hr, hv, hc, H'⟩ := run_nextM (P := P) ty H hm hi hV
  refine op_val (w' := w') (v := .tuple vs) hg rfl (by simp [execOp, hx, hr]) ?_
  exact op_extract (hg2 _) (by simp [ev, put]) hv (h vs more it' w' hc H')

theorem op_entry {kk : IntKind} {x : Operand} {b bi i : Nat} {o it : Obj} {m vis : List (Int × Value)} {p : Int × Value} (hg : wants ⟨dst, .entry x, ty, pos, af, g⟩ ops e = true)
    (hx : ev e x = .pointer (some ⟨bi, 0, none⟩)) (H : Ctx w0 S w L) (hm : w.heap[b]? = some o) (hi : L[i]? = some (bi, it)) (hV : VisO kk b m (vis ++ [p]) o it)
    (h : Wops P r ops Q rest (put e dst (.tuple #[.int kk p.1, p.2])) w) : Wops P r ops Q (⟨dst, .entry x, ty, pos, af, g⟩ :: rest) e w := by
  obtain ⟨es, clock, ves, rest, rfl, hes, hb, hn, rfl, hp, hv⟩ := hV
  rw [List.map_append] at hv
  obtain ⟨v1, v2, rfl, h1, h2⟩ := List.map_eq_append_iff.1 hv
  obtain ⟨y, v3, rfl, hy, h3⟩ := List.map_eq_cons_iff.1 h2
  cases List.map_eq_nil_iff.1 h3
  have he : y ∈ es.toList := hp.mem_iff.1 (List.mem_append_left _ (List.mem_append_right _ (List.mem_cons_self ..)))
  have hpush : (((v1 ++ [y]).map (·.born)).toArray) = (v1.map (·.born)).toArray.push y.born := by simp
  have hi2 := H.get hi
  rw [hpush] at hi2
  have hr := run_entry_at (P := P) w bi b clock _ es clock y hi2 (hm) he hn
  have hy2 : y.key = .int kk p.1 ∧ y.val = p.2 := by unfold kvE kvP at hy; exact ⟨(Prod.mk.inj hy).1, (Prod.mk.inj hy).2⟩
  rw [hy2.1, hy2.2] at hr
  exact op_val hg rfl (by simp [execOp, hx, hr]) h

theorem op_entry2 {kk : IntKind} {x : Operand} {b bi i : Nat} {o it : Obj} {m vis : List (Int × Value)} {n : Int} {v : Value} (hg : wants ⟨dst, .entry x, ty, pos, af, g⟩ ops e = true)
    (hx : ev e x = .pointer (some ⟨bi, 0, none⟩)) (H : Ctx w0 S w L) (hm : w.heap[b]? = some o) (hi : L[i]? = some (bi, it)) (hV : VisO kk b m (vis ++ [(n, v)]) o it)
    (h : Wops P r ops Q rest (put e dst (.tuple #[.int kk n, v])) w) : Wops P r ops Q (⟨dst, .entry x, ty, pos, af, g⟩ :: rest) e w := op_entry hg hx H hm hi hV h

/-! ### delete -/
theorem mdel_none {α : Type} {k : Int} : ∀ {m : List (Int × α)}, mget m k = none → mdel m k = m
  | [], _ => rfl
  | p :: m, h => by
    have hp : ¬ p.1 = k := fun hp => by simp [mget, hp] at h
    have hb2 : (p.1 == k) = false := by simpa using hp
    have hm2 : mget m k = none := by rw [← h]; simp [mget, hb2]
    simp [mdel, hp, mdel_none hm2]
theorem run_delete {t t2 k el ty : TypeId} {kk : IntKind} {b j : Nat} {o : Obj} {m : List (Int × Value)} {n : Int} (ht : mapT P t = some (k, el)) (hk : P.underlying k = some (.int kk)) (H : Ctx w0 S w L) (hl : L[j]? = some (b, o)) (hM : MapO kk m o) :
    ∃ o' w', (Builtin.delete_ #[t, t2] ty #[.map (some b), .int kk n]).run P w = .ok (.tuple #[]) w' ∧ MapO kk (mdel m n) o' ∧ Ctx w0 S w' (L.set j (b, o')) := by
  obtain ⟨es, clock, rfl, hes, hbn, hnd⟩ := hM
  have hb := H.get hl
  have hf := findNow_at kk n es.toList m 0 hes
  have hgo : (getObj b).run P w = .ok (.map es clock) w := by simp [getObj, Sem.run, hb]
  have hso : ∀ o', (setObj b o').run P w = .ok () (w.putObj b o') := fun o' => by simp [setObj, Sem.run, hb, World.putObj]
  cases hm : mget m n with
  | none =>
    refine ⟨.map es clock, w.putObj b _, ?_, ⟨_, _, rfl, by rw [mdel_none hm]; exact hes, hbn, hnd⟩, H.setB hl _⟩
    simp [Builtin.delete_, run_under (mapT_u ht), hgo, run_checkKey hk, Instr.findKey, run_under hk, hf.1 hm, hso]
  | some v0 =>
    obtain ⟨i, hi, hil, h3⟩ := hf.2 v0 hm
    obtain ⟨_, _, a3⟩ := h3 v0
    have htl : (es.eraseIdxIfInBounds i).toList = es.toList.eraseIdx i := by
      rw [Array.eraseIdxIfInBounds, dif_pos (by simpa using hil)]; simp
    refine ⟨.map (es.eraseIdxIfInBounds i) clock, w.putObj b _, ?_, ⟨_, _, rfl, by rw [htl]; exact a3, ?_, ?_⟩, H.setB hl _⟩
    · simp [Builtin.delete_, run_under (mapT_u ht), hgo, run_checkKey hk, Instr.findKey, run_under hk, hi, hso]
    · intro x hx
      rw [htl] at hx
      exact hbn x (List.mem_of_mem_eraseIdx hx)
    · rw [htl]
      exact List.Sublist.nodup (List.Sublist.map _ (List.eraseIdx_sublist ..)) hnd
theorem op_delete {t t2 k el : TypeId} {kk : IntKind} {x y : Operand} {b j : Nat} {o : Obj} {m : List (Int × Value)} {n : Int} (hg : wants ⟨dst, .call ⟨.builtin .delete, #[x, y], #[t, t2]⟩, ty, pos, af, g⟩ ops e = true)
    (ht : mapT P t = some (k, el)) (hk : P.underlying k = some (.int kk)) (hx : ev e x = .map (some b)) (hy : ev e y = .int kk n) (H : Ctx w0 S w L) (hl : L[j]? = some (b, o)) (hM : MapO kk m o)
    (h : ∀ o' w', MapO kk (mdel m n) o' → Ctx w0 S w' (L.set j (b, o')) → Wops P r ops Q rest (put e dst (.tuple #[])) w') : Wops P r ops Q (⟨dst, .call ⟨.builtin .delete, #[x, y], #[t, t2]⟩, ty, pos, af, g⟩ :: rest) e w := by
  obtain ⟨o', w', hr, hM', H'⟩ := run_delete (ty := ty) (t2 := t2) (n := n) ht hk H hl hM
  exact op_val (w' := w') (v := .tuple #[]) hg rfl (by simp [execOp, resolve, invoke, builtin, hx, hy, hr]) (h o' w' hM' H')

/-! ### The two steps of 'm[k], .. = v, ..' at a key that is new -/
def EntO (kk : IntKind) (n st : Int) (m : List (Int × Value)) (o : Obj) : Prop :=
  ∃ (es : Array MapEntry) (clock : Nat) (z : Value), o = .map (es.push { key := .int kk n, val := z, born := clock }) (clock + 1) ∧ st = (clock : Nat) ∧ es.toList.map (fun e => (e.key, e.val)) = m.map (fun p => (Value.int kk p.1, p.2)) ∧ (∀ e ∈ es.toList, e.born < clock) ∧ (es.toList.map (·.born)).Nodup
theorem op_mapEntry {t k el : TypeId} {kk : IntKind} {x y : Operand} {b j : Nat} {o : Obj} {m : List (Int × Value)} {n : Int} {z : Value} (hg : wants ⟨dst, .mapEntry t x y, ty, pos, af, g⟩ ops e = true)
    (ht : mapT P t = some (k, el)) (hk : P.underlying k = some (.int kk)) (hz : (P.info? el).bind (·.zero) = some z) (hx : ev e x = .map (some b)) (hy : ev e y = .int kk n) (H : Ctx w0 S w L) (hl : L[j]? = some (b, o)) (hM : MapO kk m o) (hm : mget m n = none)
    (h : ∀ st o' w', EntO kk n st m o' → Ctx w0 S w' (L.set j (b, o')) → Wops P r ops Q rest (put e dst (.tuple #[z, .int .i64 st])) w') : Wops P r ops Q (⟨dst, .mapEntry t x y, ty, pos, af, g⟩ :: rest) e w := by
  obtain ⟨es, clock, rfl, hes, hbn, hnd⟩ := hM
  have hb := H.get hl
  have hf := findNow_at kk n es.toList m 0 hes
  have hgo : (getObj b).run P w = .ok (.map es clock) w := by simp [getObj, Sem.run, hb]
  have hso : ∀ o', (setObj b o').run P w = .ok () (w.putObj b o') := fun o' => by simp [setObj, Sem.run, hb, World.putObj]
  have hzr : (zeroValue el).run P w = .ok z w := by
    cases hi : P.info? el with
    | none => rw [hi] at hz; cases hz
    | some i => rw [hi] at hz; simp at hz; simp [zeroValue, typeInfo, program, Sem.run, hi, hz]
  refine op_val (w' := w.putObj b _) (v := .tuple #[z, .int .i64 (clock : Nat)]) hg rfl ?_ (h _ _ _ ⟨es, clock, z, rfl, rfl, hes, hbn, hnd⟩ (H.setB hl _))
  simp [execOp, Instr.mapEntry, run_under (mapT_u ht), hx, hy, hgo, run_checkKey hk, Instr.findKey, run_under hk, hf.1 hm, hzr, hso, goInt]
theorem op_entryStore {t : TypeId} {kk : IntKind} {x y z : Operand} {b j : Nat} {o : Obj} {m : List (Int × Value)} {n st : Int} (v : Value) (hg : wants ⟨dst, .entryStore t x y z, ty, pos, af, g⟩ ops e = true)
    (hx : ev e x = .map (some b)) (hy : ev e y = .int .i64 st) (hz : ev e z = v) (H : Ctx w0 S w L) (hl : L[j]? = some (b, o)) (hE : EntO kk n st m o)
    (h : ∀ o' w', MapO kk (m ++ [(n, v)]) o' → Ctx w0 S w' (L.set j (b, o')) → Wops P r ops Q rest (put e dst undef) w') : Wops P r ops Q (⟨dst, .entryStore t x y z, ty, pos, af, g⟩ :: rest) e w := by
  obtain ⟨es, clock, z0, rfl, rfl, hes, hbn, hnd⟩ := hE
  have hb := H.get hl
  have hgo : (getObj b).run P w = .ok (.map (es.push { key := .int kk n, val := z0, born := clock }) (clock + 1)) w := by simp [getObj, Sem.run, hb]
  have hso : ∀ o', (setObj b o').run P w = .ok () (w.putObj b o') := fun o' => by simp [setObj, Sem.run, hb, World.putObj]
  have hno : es.findIdx? (fun e => ((e.born : Nat) : Int) == ((clock : Nat) : Int)) = none := by
    rw [Array.findIdx?_eq_none_iff]
    intro x hx
    have := hbn x (Array.mem_toList_iff.2 hx)
    simp only [beq_eq_false_iff_ne, ne_eq]
    omega
  have hfi : (es.push { key := .int kk n, val := z0, born := clock }).findIdx? (fun e => ((e.born : Nat) : Int) == ((clock : Nat) : Int)) = some es.size := by
    rw [Array.findIdx?_push, hno]; simp
  refine op_unit (w' := w.putObj b (.map (es.push { key := .int kk n, val := v, born := clock }) (clock + 1))) hg rfl ?_ (h _ _ ⟨_, _, rfl, ?_, ?_, ?_⟩ (H.setB hl _))
  · have hmod : (es.push { key := .int kk n, val := z0, born := clock }).modify es.size (fun e => { e with val := v }) = es.push { key := .int kk n, val := v, born := clock } := by
      apply Array.ext'
      rw [Array.toList_modify, Array.toList_push, Array.toList_push]
      have : es.size = es.toList.length := by simp
      rw [this]
      generalize es.toList = l
      induction l with
      | nil => rfl
      | cons x l ih => simp only [List.length_cons, List.cons_append, List.modify_succ_cons, ih]
    simp [execOp, Instr.entryStore, hx, hy, hz, hgo, asInt, asIntOf, hfi, hso, hmod]
  · simp [hes]
  · intro x hx
    simp only [Array.toList_push, List.mem_append, List.mem_singleton] at hx
    rcases hx with hx | rfl
    · have := hbn x hx; omega
    · simp
  · simp only [Array.toList_push, List.map_append, List.map_cons, List.map_nil]
    rw [List.nodup_append]
    refine ⟨hnd, by simp, ?_⟩
    intro x hx y hy
    simp only [List.mem_singleton] at hy
    subst hy
    rw [List.mem_map] at hx
    obtain ⟨e', he', rfl⟩ := hx
    have := hbn e' he'
    omega
end
end Go.GV

/- Keys of the dues' map, in whatever order. -/
namespace Go.Proofs.YtapphbmlkdhnmaaGreat
open Go.GV
theorem ag_121_SnA : aggB Tryz.prog 121 = some false := by kernel_rfl
theorem mt_121_SnA : mapT Tryz.prog 121 = some (24, 62) := by kernel_rfl
attribute [local irreducible] Wops W Wq Wt

structure DueK (b2 b : Nat) (o : Obj) (w : World) : Prop where
  h2 : w.heap[b2]? = some (Bl 121 [.map (some b)])
  hb : w.heap[b]? = some o
def keySt (m : List (Int × Value)) (vis : List (Int × Value)) (v : List Value) (vis' : List (Int × Value)) : Prop := ∃ p, vis' = vis ++ [p] ∧ v = [.int .u64 p.1] ∧ p ∈ m ∧ vis.length < m.length
set_option maxRecDepth 20000 in
set_option maxHeartbeats 2000000 in
theorem keys1_ok {b2 b : Nat} {o : Obj} {m : List (Int × Value)} (hM : MapO .u64 m o) : IterOkG Tryz.prog 123 #[ptr b2] [] (fun _ w => DueK b2 b o w) ([] : List (Int × Value)) (keySt m) (fun vis => vis.Perm m) (fun _ => True) := by
  intro l w _ J E hJ0 hJs hEs hK hY
  obtain ⟨M0, hJ0⟩ := hJ0
  obtain ⟨w0, rfl⟩ : ∃ w0, w0 = w := ⟨_, rfl⟩
  have H := Ctx.start w0 []
  refine ret_of_W (fn := Tryz.f123) Tryz.func123 rfl [.func (.yield l) #[] #[], .pointer (some ⟨b2, 0, none⟩)] rfl (by kernel_rfl) ?_
  have K0 := (hK _ _ _ hJ0).2
  refine W_rseq ?_
  first | refine op_ldb rfl ag_121_SnA rfl H (by first | exact at0 | exact at1 | exact at2 | exact at3 | exact at4 | exact at5 | exact at6 | exact at7 | exact at8 | exact at9) rfl ?_ | refine op_ld rfl ag_121_SnA rfl ((by rw [cell_bl K0.h2]; rfl)) ?_
  refine op_range rfl mt_121_SnA rfl H K0.hb hM ?_
  rintro bi it w hV H
  refine op_nil (at_then ?_)
  refine W_block ?_
  have hbi : w0.heap.size ≤ bi := (H.own (bi, it) (List.mem_cons_self ..)).elim (fun h => by cases h) id
  have hJ1 := hJs _ _ _ _ [] hJ0 (fun x hx => by cases hx) H.ext
  have hM0 : ¬ M0 bi := fun h => by
    have := (hK _ _ _ hJ0).1 bi h; omega
  refine W_loop 16328 (α := List (Int × Value) × Obj) (fun _ => []) (fun z w' => VisO .u64 b m z.1 o z.2 ∧ ∃ M, J z.1 M w' ∧ ¬ M bi ∧ w'.heap[bi]? = some z.2) (fun z => m.length - z.1.length) (([] : List (Int × Value)), it) rfl ?_ ?_ ?_
  · exact trivial
  · exact ⟨hV, M0, hJ1, hM0, H.get at0⟩
  · rintro ⟨vis, it⟩ j w ⟨hV, M, hJ, hMb, hit⟩; dsimp only at hV hJ hit; dsimp only
    have KK := (hK _ _ _ hJ).2
    obtain ⟨w1, rfl⟩ : ∃ w1, w1 = w := ⟨_, rfl⟩
    have H := Ctx.start1 hit
    have hT : ∀ x ∈ [bi], ¬ M x ∧ w0.heap.size ≤ x := fun x hx => by rw [List.mem_singleton] at hx; subst hx; exact ⟨hMb, hbi⟩
    refine W_rseq ?_
    refine op_next rfl (fun _ => rfl) rfl H KK.hb at0 hV ?_
    rintro vs more it' w hc H
    skip
    refine op_nil (at_then ?_)
    refine W_seq ?_
    refine W_cond _ rfl ?_ ?_
    · intro h1
      obtain ⟨p, hV'⟩ : ∃ p, VisO .u64 b m (vis ++ [p]) o it' := hc.elim (fun h => by rw [h.1] at h1; cases h1) fun h => h.2
      have hJw := hJs _ _ _ _ [bi] hJ hT H.ext
      have KR := (hK _ _ _ hJw).2
      have hle := hV'.le
      rw [List.length_append] at hle
      have hst : keySt m vis [.int .u64 p.1] (vis ++ [p]) := ⟨p, rfl, rfl, hV'.mem p (by simp), by simp at hle; omega⟩
      refine W_skip (at_then ?_)
      refine W_block ?_
      refine W_rseq ?_
      refine op_entry rfl rfl H KR.hb at0 hV' ?_
      refine op_extract rfl rfl rfl ?_
      refine op_assign rfl (.int _ _) rfl ?_
      refine op_nil (at_then ?_)
      have hY1 := hY vis [.int .u64 p.1] (vis ++ [p]) M w hst hJw
      refine W_rseq ?_
      refine op_move rfl (.func _ _ _) rfl ?_
      refine op_move rfl (.int _ _) rfl ?_
      refine op_yield (vs := [.int .u64 p.1]) rfl rfl hY1 rfl ?_
      rintro u w hu
      obtain ⟨bb, rfl, hu1, hu0⟩ : ∃ bb, u = .bool bb ∧ (bb = true → ∃ M, J (vis ++ [p]) M w ∧ ¬ M bi ∧ w.heap[bi]? = some it') ∧ (bb = false → E w) := hu.elim (fun h => ⟨true, h.1, fun _ => let ⟨M', h1, g⟩ := h.2; ⟨M', h1, fun hx => (g.new _ hx).elim hMb (fun h => by have := H.lt at0; omega), g.to (H.get at0) hMb⟩, fun h => by cases h⟩) (fun h => ⟨false, h.1, (fun h => by cases h), fun _ => h.2⟩)
      refine op_not rfl rfl ?_
      refine op_nil (at_then ?_)
      refine W_cond _ rfl ?_ ?_
      · intro h2
        replace h2 := nvar_t h2
        refine W_ret (ret_block (ret_then (ret_block (leave0 rfl rfl ?_))))
        exact .inr (hu0 (by simpa using h2))
      · intro h2
        replace h2 := nvar_f h2
        refine W_skip (at_block (at_then ?_))
        exact ⟨(vis ++ [p], it'), rfl, trivial, ⟨hV', hu1 (by simpa using h2)⟩, by dsimp only; rw [List.length_append]; simp; simp at hle; omega⟩
    · intro h1
      obtain ⟨hp, rfl⟩ : vis.Perm m ∧ it' = it := hc.elim (fun h => h.2) fun h => by rw [h.1] at h1; cases h1
      refine W_exit (exit_then (exit_then (exit_here (leave0n rfl rfl ?_))))
      exact .inl ⟨vis, M, hp, hJs _ _ _ _ [bi] hJ hT H.ext⟩
end Go.Proofs.YtapphbmlkdhnmaaGreat

/- append, and what the cells beyond the length hold. It holds for every program. -/
namespace Go.GV
open Go

theorem over_mem : ∀ (vs l : List Value) (i : Nat) (v : Value), v ∈ over l i vs → v ∈ l ∨ v ∈ vs
  | [], _, _, _, h => .inl h
  | x :: vs, l, i, v, h => by
    rcases over_mem vs (l.set i x) (i + 1) v h with h | h
    · rcases List.mem_or_eq_of_mem_set h with h | h
      · exact .inl h
      · exact .inr (by rw [h]; exact List.mem_cons_self ..)
    · exact .inr (List.mem_cons_of_mem _ h)
theorem zeroCells_mem (z : Array Value) (n : Nat) (v : Value) (h : v ∈ (Builtin.zeroCells z n).toList) : v ∈ z.toList := by
  unfold Builtin.zeroCells at h
  rw [Array.toList_map, List.mem_map] at h
  obtain ⟨i, hi, rfl⟩ := h
  have h0 : 0 < z.size := by
    rw [Array.toList_range, List.mem_range] at hi
    rcases Nat.eq_zero_or_pos z.size with h | h
    · rw [h, Nat.mul_zero] at hi; omega
    · exact h
  have hm := Nat.mod_lt i h0
  rw [getElem!_pos z (i % z.size) hm]
  exact Array.getElem_mem_toList hm
section
variable {P : Program} {w w0 : World} {S : List Nat} {L : List (Nat × Obj)}

/-- append onto a slice that the call owns; the source's cells are known. -/
theorem run_appendZ {t t2 el el2 ty : TypeId} {s by' : Nat} {zl : List Value} (hu : elemT P t = some el) (hu2 : elemT P t2 = some el2) (hs : tsize P el = some s) (hby : tbytes P el = some by') (hz : zcells P el = some zl) (hzl : zl.length = s) (hpos : 0 < by')
    {a a2 : Option Addr} {n c m c2 : Nat} {full l new : List Value} (H : Ctx w0 S w (L ++ ent a el full)) (O : OS a n c s full l)
    (hn : new.length = m * s) (h1 : ∀ v ∈ new, oneCell v = true) (hc : ∀ j v, new[j]? = some v → ∃ p, a2 = some p ∧ w.cell? (p.add j) = some v) (hbound : (2 * (n + m) + 768) * by' ≤ 281474976710656) :
    ∃ a' c' full' w', (Builtin.append_ #[t, t2] ty #[.slice a n c, .slice a2 m c2]).run P w = .ok (.slice a' (n + m) c') w' ∧ Ctx w0 S w' (L ++ ent a' el full') ∧ OS a' (n + m) c' s full' (l ++ new) ∧ ∀ v ∈ full', v ∈ full ∨ v ∈ new ∨ v ∈ zl := by
  have hfc := run_firstCells (P := P) (w := w) (s := s) (m := m) (a := a2) (c := m) (k := c2) hn hc
  by_cases hfit : n + m ≤ c
  · -- in place
    cases a with
    | none =>
      have h0 := O.none' rfl
      have hm : m = 0 := by omega
      have hn0 : n = 0 := by omega
      subst hm hn0 h0
      have hnew : new = [] := List.eq_nil_of_length_eq_zero (by omega)
      have hl : l = [] := List.eq_nil_of_length_eq_zero (by have := O.llen; omega)
      have hfull : full = [] := List.eq_nil_of_length_eq_zero (by have := O.len; omega)
      subst hnew hl hfull
      refine ⟨none, 0, [], w, ?_, H, OS.nil, by simp⟩
      simp [Builtin.append_, run_under (elemT_u hu), run_under (elemT_u hu2), run_size hs, Builtin.lenOf, hfc]
    | some p =>
      have hp := O.zero p rfl
      obtain ⟨b, o, sp⟩ := p
      simp only [Addr.mk.injEq, true_and] at hp
      obtain ⟨rfl, rfl⟩ := hp
      have hk : (L ++ ent (some ⟨b, 0, none⟩) el full)[L.length]? = some (b, Bl el full) := by simp [ent]
      have hb := H.get hk
      have hmul : (n + m) * s ≤ c * s := Nat.mul_le_mul_right _ hfit
      have hadd : (n + m) * s = n * s + m * s := Nat.add_mul _ _ _
      obtain ⟨w', hr, he, hb'⟩ := run_storeCells (P := P) (o := n * s) new full w 0 h1 hb (by rw [O.len]; omega)
      have hwr := H.turn hk _ he hb'
      rw [show (L ++ ent (some ⟨b, 0, none⟩) el full).set L.length (b, Bl el (over full (n * s + 0) new)) = L ++ ent (some ⟨b, 0, none⟩) el (over full (n * s) new) from by simp [ent]] at hwr
      refine ⟨some ⟨b, 0, none⟩, c, over full (n * s) new, w', ?_, hwr, ?_, fun v hv => (over_mem new full _ v hv).elim .inl fun h => .inr (.inl h)⟩
      · have hst : (storeCells (Addr.add ⟨b, 0, none⟩ (n * s)) new).run P w = .ok () w' := by
          rw [add_none, Nat.zero_add]; exact hr
        simp [Builtin.append_, run_under (elemT_u hu), run_under (elemT_u hu2), run_size hs, Builtin.lenOf, hfc, hfit, hst]
      · refine ⟨fun q hq => by injection hq with hq; subst hq; rfl, (fun h => by cases h), by rw [over_length]; exact O.len, hfit, ?_⟩
        have hsp := O.split
        have hll := O.llen
        have htl : (full.drop (n * s)).length = c * s - n * s := by rw [List.length_drop, O.len]
        have hcut : full.drop (n * s) = (full.drop (n * s)).take (m * s) ++ (full.drop (n * s)).drop (m * s) := by rw [List.take_append_drop]
        have hover : ∀ (vs a b c : List Value), b.length = vs.length → over (a ++ b ++ c) a.length vs = a ++ vs ++ c := by
          intro vs
          induction vs with
          | nil => intro a b c hb; have : b = [] := List.eq_nil_of_length_eq_zero (by simpa using hb); subst this; simp [over]
          | cons v vs ih =>
            intro a b c hb
            cases b with
            | nil => simp at hb
            | cons x b =>
              have := ih (a ++ [v]) b c (by simpa using hb)
              simp only [over]
              rw [show (a ++ x :: b ++ c).set a.length v = a ++ [v] ++ b ++ c from by simp]
              rw [show a.length + 1 = (a ++ [v]).length from by simp, this]
              simp
        have hgoal : over full (n * s) new = l ++ new ++ (full.drop (n * s)).drop (m * s) := by
          have h4 := hover new l ((full.drop (n * s)).take (m * s)) ((full.drop (n * s)).drop (m * s)) (by rw [List.length_take, htl, hn]; omega)
          rw [List.append_assoc, ← hcut, ← hsp, hll] at h4
          exact h4
        rw [hgoal, List.take_left' (by rw [List.length_append, hll, hn]; omega)]
  · -- a new block
    have hfit' : c < n + m := by omega
    have hncap := nextcap_le (n + m) c hfit'
    have hbig : ¬ (281474976710656 : Int) < ((Builtin.nextslicecap (n + m) c * by' : Nat) : Int) := by
      have : Builtin.nextslicecap (n + m) c * by' ≤ (2 * (n + m) + 768) * by' := Nat.mul_le_mul_right _ hncap
      omega
    have hnm : n + m ≤ 281474976710656 := by
      have h1 : (2 * (n + m) + 768) * 1 ≤ (2 * (n + m) + 768) * by' := Nat.mul_le_mul_left _ hpos
      omega
    -- the capacity that is drawn
    generalize hq : (Question.appendCap (n + m) c el).cut (w.tape w.drawn (Question.appendCap (n + m) c el)) = cap
    have hcap : n + m ≤ cap := by rw [← hq]; unfold Question.cut; exact Nat.le_add_right _ _
    obtain ⟨zv, hzr, hzc⟩ := run_zero (P := P) hz w.drew
    have hzs : zv.cells.size = s := by rw [← hzl, ← hzc]; simp
    let full' := l ++ new ++ (Builtin.zeroCells zv.cells (cap - (n + m))).toList
    have hH : Ctx w0 S (w.drew.alloc (Bl el full')) ((w.drew.heap.size, Bl el full') :: L) := by
      have := (H.left.drew).alloc (Bl el full')
      exact this
    refine ⟨some ⟨w.drew.heap.size, 0, none⟩, cap, full', w.drew.alloc (Bl el full'), ?_, ?_, ?_, ?_⟩
    · have hforced : (Question.appendCap (n + m) c el).forced = false := rfl
      have hby2 : ∃ i, P.info? el = some i ∧ i.bytes = by' := by
        unfold tbytes at hby
        cases hi : P.info? el with
        | none => rw [hi] at hby; cases hby
        | some i => rw [hi] at hby; simp at hby; exact ⟨i, rfl, hby⟩
      obtain ⟨i, hi, hib⟩ := hby2
      have hti : ∀ w, (typeInfo el).run P w = .ok i w := fun w => by simp [typeInfo, program, Sem.run, hi]
      have hold' : (Builtin.firstCells s n (.slice a n c)).run P w.drew = .ok l.toArray w.drew := by
        refine run_firstCells (O.llen) (fun j v hv => ?_)
        have hjl : j < l.length := (List.getElem?_eq_some_iff.1 hv).1
        have hn0 : 0 < n := by
          rcases Nat.eq_zero_or_pos n with h | h
          · have h5 := O.llen; rw [h, Nat.zero_mul] at h5; omega
          · exact h
        obtain ⟨b, rfl⟩ := O.form hn0
        refine ⟨_, rfl, ?_⟩
        have hk : (L ++ ent (some ⟨b, 0, none⟩) el full)[L.length]? = some (b, Bl el full) := by simp [ent]
        show w.cell? _ = _
        rw [add_none, Nat.zero_add, cell_bl (H.get hk), O.split, List.getElem?_append_left hjl]
        exact hv
      have hfc' : (Builtin.firstCells s m (.slice a2 m c2)).run P w.drew = .ok new.toArray w.drew := run_firstCells hn hc
      have hroom : ∀ k w, (askRoom k).run P w = .ok () w := fun k w => by unfold askRoom; split <;> rfl
      have hby0 : ¬ by' = 0 := by omega
      have hnn : (Builtin.append_ #[t, t2] ty #[.slice a n c, .slice a2 m c2]).run P w = .ok (.slice (some ⟨w.drew.heap.size, 0, none⟩) (n + m) cap) (w.drew.alloc (.cells (l.toArray ++ (new.toArray ++ Builtin.zeroCells zv.cells (cap - (n + m)))) el)) := by
        have hb3 : ¬ 281474976710656 < Builtin.nextslicecap (n + m) c * by' := by omega
        simp [Builtin.append_, run_under (elemT_u hu), run_under (elemT_u hu2), run_size hs, Builtin.lenOf, hfc', hold', hfit, hti, hib, hb3, hby0, hforced, hq, hroom, hzr, newRow, newObj, Sem.run]
      rw [hnn]
      have harr : l.toArray ++ (new.toArray ++ Builtin.zeroCells zv.cells (cap - (n + m))) = full'.toArray := by
        apply Array.ext'; simp [full']
      rw [harr]
      rfl
    · exact hH.perm (List.perm_append_comm (l₁ := [(w.drew.heap.size, Bl el full')]) (l₂ := L))
    · refine ⟨(fun q hq => by injection hq with hq; subst hq; rfl), (fun h => by cases h), ?_, hcap, ?_⟩
      · show (l ++ new ++ (Builtin.zeroCells zv.cells (cap - (n + m))).toList).length = cap * s
        rw [List.length_append, List.length_append, O.llen, hn, Array.length_toList, zeroCells_length, hzs, ← Nat.add_mul, ← Nat.add_mul]
        congr 1
        omega
      · show (l ++ new ++ (Builtin.zeroCells zv.cells (cap - (n + m))).toList).take ((n + m) * s) = l ++ new
        rw [List.take_left' (by rw [List.length_append, O.llen, hn, Nat.add_mul])]
    · intro v hv
      rcases List.mem_append.1 hv with h | h
      · rcases List.mem_append.1 h with h | h
        · exact .inl (List.mem_of_mem_take (by rw [O.pre]; exact h))
        · exact .inr (.inl h)
      · refine .inr (.inr ?_)
        have h5 := zeroCells_mem _ _ v h
        rw [hzc] at h5
        simpa using h5
end

section
variable {P : Program} {r : Option Nat} {ops rest : List Oper} {Q : Exit → Env → World → Prop} {e : Env} {w w0 : World} {S : List Nat} {L : List (Nat × Obj)}
  {dst : Option Tmp} {ty : TypeId} {pos : String} {af : Array Edge} {g : Option (Nat × Bool)}
theorem op_appendbZ {t t2 el el2 : TypeId} {x y : Operand} {s by' : Nat} {zl : List Value} (hg : wants ⟨dst, .call ⟨.builtin .append, #[x, y], #[t, t2]⟩, ty, pos, af, g⟩ ops e = true)
    (hu : elemT P t = some el) (hu2 : elemT P t2 = some el2) (hs : tsize P el = some s) (hby : tbytes P el = some by') (hz : zcells P el = some zl) (hzl : zl.length = s) (hpos : 0 < by')
    {a : Option Addr} {n c m c2 b2 : Nat} {t3 : TypeId} {full l new : List Value} (hx : ev e x = .slice a n c) (hy : ev e y = .slice (some ⟨b2, 0, none⟩) m c2) (H : Ctx w0 S w ((b2, Bl t3 new) :: (L ++ ent a el full))) (O : OS a n c s full l)
    (hn : new.length = m * s) (h1 : ∀ v ∈ new, oneCell v = true) (hbound : (2 * (n + m) + 768) * by' ≤ 281474976710656)
    (h : ∀ a' c' full' w', Ctx w0 S w' (L ++ ent a' el full') → OS a' (n + m) c' s full' (l ++ new) → (∀ v ∈ full', v ∈ full ∨ v ∈ new ∨ v ∈ zl) → Wops P r ops Q rest (put e dst (.slice a' (n + m) c')) w') :
    Wops P r ops Q (⟨dst, .call ⟨.builtin .append, #[x, y], #[t, t2]⟩, ty, pos, af, g⟩ :: rest) e w := by
  obtain ⟨a', c', full', w', hr, H', O', Z'⟩ := run_appendZ (ty := ty) hu hu2 hs hby hz hzl hpos H.tail O hn h1 (fun j v hv => ⟨_, rfl, by rw [add_none, Nat.zero_add, cell_bl (H.get at0)]; exact hv⟩) hbound (c2 := c2)
  exact op_val hg rfl (by simp [execOp, resolve, invoke, builtin, hx, hy, hr]) (h a' c' full' w' H' O' Z')
end
end Go.GV
