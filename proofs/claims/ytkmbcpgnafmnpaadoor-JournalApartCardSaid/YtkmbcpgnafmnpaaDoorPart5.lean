/- Part 5 of the proof. -/
import Derived.Test.YtkmbcpgnafmnpaaDoorPart4
/- How many blocks strings take; the document's small functions. -/
namespace Go.Proofs.YtkmbcpgnafmnpaaDoor
open Go.GV
attribute [local irreducible] Wops W Wq Wt

def blkI (n : Int) : Int := max 1 ((max n 0 + 480 - 1) / 480) + 1
def blk (n : Nat) : Nat := max 1 ((n + 479) / 480) + 1
theorem blkI_nat (n : Nat) : blkI (n : Int) = (blk n : Int) := by unfold blkI blk; omega
theorem blk_two (n : Nat) : 2 ≤ blk n := by unfold blk; omega
theorem blk_le (n : Nat) : blk n ≤ n + 2 := by unfold blk; omega

theorem jblocks_ok (n : Int) (h : n ≤ 9000000000000000000) (w : World) : Ret Tryd.prog 35 #[.int .i64 n] w fun v w' => v = .int .i64 (blkI n) ∧ w = w' := by
  refine ret_of_W (fn := Tryd.f35) Tryd.func35 rfl [.int .i64 n] rfl (by kernel_rfl) ?_
  refine W_rseq ?_
  refine op_assign rfl (.int _ _) rfl ?_
  refine op_nil (at_then ?_)
  refine W_rseq ?_
  refine op_move rfl (.int _ _) rfl ?_
  refine op_max2 rfl rfl rfl ?_
  refine op_add_i64 rfl rfl rfl (by omega) (by omega) ?_
  refine op_sub_i64 rfl rfl rfl (by omega) (by omega) ?_
  refine op_quo rfl rfl rfl (by omega) (by omega) (show _ ≤ (9223372036854775807 : Int) by omega) ?_
  refine op_max2 rfl rfl rfl ?_
  refine op_add_i64 rfl rfl rfl (by omega) (by omega) ?_
  refine op_assign rfl (.int _ _) rfl ?_
  refine op_nil (at_then ?_)
  refine W_ret (leave1 (v := (.int _ _)) rfl rfl rfl ?_)
  exact ⟨rfl, rfl⟩

set_option maxHeartbeats 1000000 in
theorem rblocks_ok (n : Int) (h : n ≤ 1000000000000000000) (w : World) : Ret Tryd.prog 36 #[.int .i64 n] w fun v w' => v = .int .i64 (blkI n) ∧ w = w' := by
  obtain ⟨w0, rfl⟩ : ∃ w0, w0 = w := ⟨_, rfl⟩
  refine ret_of_W (fn := Tryd.f36) Tryd.func36 rfl [.int .i64 n] rfl (by kernel_rfl) ?_
  refine W_rseq ?_
  refine op_assign rfl (.int _ _) rfl ?_
  refine op_nil (at_then ?_)
  refine W_rseq ?_
  refine op_assign rfl (.int _ _) rfl ?_
  refine op_nil (at_then ?_)
  refine W_seq ?_
  refine W_block ?_
  refine W_loop 1016 (α := Int) (fun p => [(3, .int .i64 p)]) (fun p w' => w0 = w' ∧ 1 ≤ p ∧ (p = 1 ∨ (p - 1) * 480 < n)) (fun p => (n - p).toNat) 1 rfl ?_ ?_ ?_
  · exact ⟨rfl, trivial⟩
  · exact ⟨rfl, by omega, .inl rfl⟩
  · rintro p j w ⟨rfl, hp, hq⟩
    refine W_seq ?_
    refine W_rseq ?_
    refine op_move rfl (.int _ _) rfl ?_
    refine op_mul_i64 rfl rfl rfl (by omega) (by omega) ?_
    refine op_move rfl (.int _ _) rfl ?_
    refine op_lss rfl rfl rfl ?_
    refine op_nil (at_then ?_)
    refine W_cond _ rfl ?_ ?_
    · intro h1
      replace h1 := dec_t h1
      refine W_skip (at_then ?_)
      refine W_block ?_
      refine W_region ?_
      refine op_move rfl (.int _ _) rfl ?_
      refine op_add_i64 rfl rfl rfl (by omega) (by omega) ?_
      refine op_assign rfl (.int _ _) rfl ?_
      refine op_nil (at_block (at_then ?_))
      exact ⟨p + 1, rfl, ⟨rfl, trivial⟩, ⟨rfl, by omega, .inr (by omega)⟩, by omega⟩
    · intro h1
      replace h1 := dec_f h1
      refine W_exit (exit_then (exit_then (exit_here (at_then ?_))))
      refine W_rseq ?_
      refine op_move rfl (.int _ _) rfl ?_
      refine op_add_i64 rfl rfl rfl (by omega) (by omega) ?_
      refine op_assign rfl (.int _ _) rfl ?_
      refine op_nil (at_then ?_)
      refine W_ret (leave1 (v := (.int _ _)) rfl rfl rfl ?_)
      refine ⟨congrArg (Value.int .i64) ?_, rfl⟩
      unfold blkI
      omega

def rightJ (m f z at' : Int) (seq : Nat) : Bool := decide (0 ≤ f) && (decide (2 ≤ z) && (decide (z ≤ m) && (decide (f ≤ m - z) && (decide (0 ≤ at') && (decide (at' < z) && (decide (1 ≤ seq) && decide (seq ≤ 4611686018427387904)))))))
set_option maxHeartbeats 1000000 in
theorem jright_ok (m f z at' : Int) (seq : Nat) (hm : 0 ≤ m ∧ m ≤ 4096) (hf : -9223372036854775808 ≤ f ∧ f ≤ 9223372036854775807) (hz : -9223372036854775808 ≤ z ∧ z ≤ 9223372036854775807) (w : World) :
    Ret Tryd.prog 30 #[.int .i64 m, .int .i64 f, .int .i64 z, .int .i64 at', .int .u64 (seq : Int)] w fun v w' => v = .bool (rightJ m f z at' seq) ∧ w = w' := by
  refine ret_of_W (fn := Tryd.f30) Tryd.func30 rfl [.int .i64 m, .int .i64 f, .int .i64 z, .int .i64 at', .int .u64 (seq : Int)] rfl (by kernel_rfl) ?_
  refine W_rseq ?_
  refine op_assign rfl (.bool _) rfl ?_
  refine op_nil (at_then ?_)
  refine W_rseq ?_
  refine op_move rfl (.int _ _) rfl ?_
  refine op_geq rfl rfl rfl ?_
  refine op_move rfl (.bool _) rfl ?_
  refine Wops_split 13 rfl ?_ ?_
  · intro h1
    replace h1 := dec_t h1
    refine op_move rfl (.int _ _) rfl ?_
    refine op_geq rfl rfl rfl ?_
    refine op_pick1 rfl rfl (.bool _) rfl ?_
    refine op_move rfl (.bool _) rfl ?_
    refine Wops_split 17 rfl ?_ ?_
    · intro h2
      replace h2 := dec_t h2
      refine op_move rfl (.int _ _) rfl ?_
      refine op_move rfl (.int _ _) rfl ?_
      refine op_leq rfl rfl rfl ?_
      refine op_pick1 rfl rfl (.bool _) rfl ?_
      refine op_move rfl (.bool _) rfl ?_
      refine Wops_split 22 rfl ?_ ?_
      · intro h3
        replace h3 := dec_t h3
        refine op_move rfl (.int _ _) rfl ?_
        refine op_move rfl (.int _ _) rfl ?_
        refine op_move rfl (.int _ _) rfl ?_
        refine op_sub_i64 rfl rfl rfl (by omega) (by omega) ?_
        refine op_leq rfl rfl rfl ?_
        refine op_pick1 rfl rfl (.bool _) rfl ?_
        refine op_move rfl (.bool _) rfl ?_
        refine Wops_split 29 rfl ?_ ?_
        · intro h4
          replace h4 := dec_t h4
          refine op_move rfl (.int _ _) rfl ?_
          refine op_geq rfl rfl rfl ?_
          refine op_pick1 rfl rfl (.bool _) rfl ?_
          refine op_move rfl (.bool _) rfl ?_
          refine Wops_split 33 rfl ?_ ?_
          · intro h5
            replace h5 := dec_t h5
            refine op_move rfl (.int _ _) rfl ?_
            refine op_move rfl (.int _ _) rfl ?_
            refine op_lss rfl rfl rfl ?_
            refine op_pick1 rfl rfl (.bool _) rfl ?_
            refine op_move rfl (.bool _) rfl ?_
            refine Wops_split 38 rfl ?_ ?_
            · intro h6
              replace h6 := dec_t h6
              refine op_move rfl (.int _ _) rfl ?_
              refine op_geq rfl rfl rfl ?_
              refine op_pick1 rfl rfl (.bool _) rfl ?_
              refine op_move rfl (.bool _) rfl ?_
              refine Wops_split 42 rfl ?_ ?_
              · intro h7
                replace h7 := dec_t h7
                refine op_move rfl (.int _ _) rfl ?_
                refine op_leq rfl rfl rfl ?_
                refine op_pick1 rfl rfl (.bool _) rfl ?_
                refine op_assign rfl (.bool _) rfl ?_
                refine op_nil (at_then ?_)
                refine W_ret (leave1 (v := (.bool _)) rfl rfl rfl ?_)
                refine ⟨congrArg Value.bool ?_, rfl⟩
                rw [Bool.eq_iff_iff]
                first | (simp only [rightJ, Bool.and_eq_true, decide_eq_true_eq]; omega) | (simp only [rightJ, Bool.and_eq_true, decide_eq_true_eq, Bool.false_eq_true, false_iff]; omega)
              · intro h8
                replace h8 := dec_f h8
                refine op_skip rfl ?_
                refine op_skip rfl ?_
                refine op_pick0 rfl rfl (.bool _) rfl ?_
                refine op_assign rfl (.bool _) rfl ?_
                refine op_nil (at_then ?_)
                refine W_ret (leave1 (v := (.bool _)) rfl rfl rfl ?_)
                refine ⟨congrArg Value.bool ?_, rfl⟩
                rw [Bool.eq_iff_iff]
                first | (simp only [rightJ, Bool.and_eq_true, decide_eq_true_eq]; omega) | (simp only [rightJ, Bool.and_eq_true, decide_eq_true_eq, Bool.false_eq_true, false_iff]; omega)
            · intro h9
              replace h9 := dec_f h9
              refine op_skip rfl ?_
              refine op_skip rfl ?_
              refine op_pick0 rfl rfl (.bool _) rfl ?_
              refine op_move rfl (.bool _) rfl ?_
              refine op_skip rfl ?_
              refine op_skip rfl ?_
              refine op_pick0 rfl rfl (.bool _) rfl ?_
              refine op_assign rfl (.bool _) rfl ?_
              refine op_nil (at_then ?_)
              refine W_ret (leave1 (v := (.bool _)) rfl rfl rfl ?_)
              refine ⟨congrArg Value.bool ?_, rfl⟩
              rw [Bool.eq_iff_iff]
              first | (simp only [rightJ, Bool.and_eq_true, decide_eq_true_eq]; omega) | (simp only [rightJ, Bool.and_eq_true, decide_eq_true_eq, Bool.false_eq_true, false_iff]; omega)
          · intro h10
            replace h10 := dec_f h10
            refine op_skip rfl ?_
            refine op_skip rfl ?_
            refine op_skip rfl ?_
            refine op_pick0 rfl rfl (.bool _) rfl ?_
            refine op_move rfl (.bool _) rfl ?_
            refine op_skip rfl ?_
            refine op_skip rfl ?_
            refine op_pick0 rfl rfl (.bool _) rfl ?_
            refine op_move rfl (.bool _) rfl ?_
            refine op_skip rfl ?_
            refine op_skip rfl ?_
            refine op_pick0 rfl rfl (.bool _) rfl ?_
            refine op_assign rfl (.bool _) rfl ?_
            refine op_nil (at_then ?_)
            refine W_ret (leave1 (v := (.bool _)) rfl rfl rfl ?_)
            refine ⟨congrArg Value.bool ?_, rfl⟩
            rw [Bool.eq_iff_iff]
            first | (simp only [rightJ, Bool.and_eq_true, decide_eq_true_eq]; omega) | (simp only [rightJ, Bool.and_eq_true, decide_eq_true_eq, Bool.false_eq_true, false_iff]; omega)
        · intro h11
          replace h11 := dec_f h11
          refine op_skip rfl ?_
          refine op_skip rfl ?_
          refine op_pick0 rfl rfl (.bool _) rfl ?_
          refine op_move rfl (.bool _) rfl ?_
          refine op_skip rfl ?_
          refine op_skip rfl ?_
          refine op_skip rfl ?_
          refine op_pick0 rfl rfl (.bool _) rfl ?_
          refine op_move rfl (.bool _) rfl ?_
          refine op_skip rfl ?_
          refine op_skip rfl ?_
          refine op_pick0 rfl rfl (.bool _) rfl ?_
          refine op_move rfl (.bool _) rfl ?_
          refine op_skip rfl ?_
          refine op_skip rfl ?_
          refine op_pick0 rfl rfl (.bool _) rfl ?_
          refine op_assign rfl (.bool _) rfl ?_
          refine op_nil (at_then ?_)
          refine W_ret (leave1 (v := (.bool _)) rfl rfl rfl ?_)
          refine ⟨congrArg Value.bool ?_, rfl⟩
          rw [Bool.eq_iff_iff]
          first | (simp only [rightJ, Bool.and_eq_true, decide_eq_true_eq]; omega) | (simp only [rightJ, Bool.and_eq_true, decide_eq_true_eq, Bool.false_eq_true, false_iff]; omega)
      · intro h12
        replace h12 := dec_f h12
        refine op_skip rfl ?_
        refine op_skip rfl ?_
        refine op_skip rfl ?_
        refine op_skip rfl ?_
        refine op_skip rfl ?_
        refine op_pick0 rfl rfl (.bool _) rfl ?_
        refine op_move rfl (.bool _) rfl ?_
        refine op_skip rfl ?_
        refine op_skip rfl ?_
        refine op_pick0 rfl rfl (.bool _) rfl ?_
        refine op_move rfl (.bool _) rfl ?_
        refine op_skip rfl ?_
        refine op_skip rfl ?_
        refine op_skip rfl ?_
        refine op_pick0 rfl rfl (.bool _) rfl ?_
        refine op_move rfl (.bool _) rfl ?_
        refine op_skip rfl ?_
        refine op_skip rfl ?_
        refine op_pick0 rfl rfl (.bool _) rfl ?_
        refine op_move rfl (.bool _) rfl ?_
        refine op_skip rfl ?_
        refine op_skip rfl ?_
        refine op_pick0 rfl rfl (.bool _) rfl ?_
        refine op_assign rfl (.bool _) rfl ?_
        refine op_nil (at_then ?_)
        refine W_ret (leave1 (v := (.bool _)) rfl rfl rfl ?_)
        refine ⟨congrArg Value.bool ?_, rfl⟩
        rw [Bool.eq_iff_iff]
        first | (simp only [rightJ, Bool.and_eq_true, decide_eq_true_eq]; omega) | (simp only [rightJ, Bool.and_eq_true, decide_eq_true_eq, Bool.false_eq_true, false_iff]; omega)
    · intro h13
      replace h13 := dec_f h13
      refine op_skip rfl ?_
      refine op_skip rfl ?_
      refine op_skip rfl ?_
      refine op_pick0 rfl rfl (.bool _) rfl ?_
      refine op_move rfl (.bool _) rfl ?_
      refine op_skip rfl ?_
      refine op_skip rfl ?_
      refine op_skip rfl ?_
      refine op_skip rfl ?_
      refine op_skip rfl ?_
      refine op_pick0 rfl rfl (.bool _) rfl ?_
      refine op_move rfl (.bool _) rfl ?_
      refine op_skip rfl ?_
      refine op_skip rfl ?_
      refine op_pick0 rfl rfl (.bool _) rfl ?_
      refine op_move rfl (.bool _) rfl ?_
      refine op_skip rfl ?_
      refine op_skip rfl ?_
      refine op_skip rfl ?_
      refine op_pick0 rfl rfl (.bool _) rfl ?_
      refine op_move rfl (.bool _) rfl ?_
      refine op_skip rfl ?_
      refine op_skip rfl ?_
      refine op_pick0 rfl rfl (.bool _) rfl ?_
      refine op_move rfl (.bool _) rfl ?_
      refine op_skip rfl ?_
      refine op_skip rfl ?_
      refine op_pick0 rfl rfl (.bool _) rfl ?_
      refine op_assign rfl (.bool _) rfl ?_
      refine op_nil (at_then ?_)
      refine W_ret (leave1 (v := (.bool _)) rfl rfl rfl ?_)
      refine ⟨congrArg Value.bool ?_, rfl⟩
      rw [Bool.eq_iff_iff]
      first | (simp only [rightJ, Bool.and_eq_true, decide_eq_true_eq]; omega) | (simp only [rightJ, Bool.and_eq_true, decide_eq_true_eq, Bool.false_eq_true, false_iff]; omega)
  · intro h14
    replace h14 := dec_f h14
    refine op_skip rfl ?_
    refine op_skip rfl ?_
    refine op_pick0 rfl rfl (.bool _) rfl ?_
    refine op_move rfl (.bool _) rfl ?_
    refine op_skip rfl ?_
    refine op_skip rfl ?_
    refine op_skip rfl ?_
    refine op_pick0 rfl rfl (.bool _) rfl ?_
    refine op_move rfl (.bool _) rfl ?_
    refine op_skip rfl ?_
    refine op_skip rfl ?_
    refine op_skip rfl ?_
    refine op_skip rfl ?_
    refine op_skip rfl ?_
    refine op_pick0 rfl rfl (.bool _) rfl ?_
    refine op_move rfl (.bool _) rfl ?_
    refine op_skip rfl ?_
    refine op_skip rfl ?_
    refine op_pick0 rfl rfl (.bool _) rfl ?_
    refine op_move rfl (.bool _) rfl ?_
    refine op_skip rfl ?_
    refine op_skip rfl ?_
    refine op_skip rfl ?_
    refine op_pick0 rfl rfl (.bool _) rfl ?_
    refine op_move rfl (.bool _) rfl ?_
    refine op_skip rfl ?_
    refine op_skip rfl ?_
    refine op_pick0 rfl rfl (.bool _) rfl ?_
    refine op_move rfl (.bool _) rfl ?_
    refine op_skip rfl ?_
    refine op_skip rfl ?_
    refine op_pick0 rfl rfl (.bool _) rfl ?_
    refine op_assign rfl (.bool _) rfl ?_
    refine op_nil (at_then ?_)
    refine W_ret (leave1 (v := (.bool _)) rfl rfl rfl ?_)
    refine ⟨congrArg Value.bool ?_, rfl⟩
    rw [Bool.eq_iff_iff]
    first | (simp only [rightJ, Bool.and_eq_true, decide_eq_true_eq]; omega) | (simp only [rightJ, Bool.and_eq_true, decide_eq_true_eq, Bool.false_eq_true, false_iff]; omega)

def textB (n : Nat) (c : UInt8) : Byt := (List.range n).map fun i => c + UInt8.ofNat (i % 7)
theorem textB_len (n : Nat) (c : UInt8) : (textB n c).length = n := by simp [textB]
theorem add8 (a b : UInt8) : Value.int .u8 (IntKind.u8.wrap ((a.toNat : Int) + (b.toNat : Int))) = bv (a + b) := by
  have ha := a.toNat_lt
  have hb := b.toNat_lt
  rw [bv, UInt8.toNat_add]
  congr 1
set_option maxHeartbeats 1000000 in
theorem text_ok (n : Nat) (hn : n ≤ 1000000000) (c : UInt8) (w : World) : Ret Tryd.prog 39 #[.int .i64 (n : Int), bv c] w fun v w' => Fresh w w' 5 1 v ((textB n c).map bv) := by
  obtain ⟨w0, rfl⟩ : ∃ w0, w0 = w := ⟨_, rfl⟩
  have H := Ctx.start w0 []
  have hc := c.toNat_lt
  refine ret_of_W (fn := Tryd.f39) Tryd.func39 rfl [.int .i64 (n : Int), bv c] rfl (by kernel_rfl) ?_
  refine W_rseq ?_
  refine op_assign rfl (.slice _ _ _) rfl ?_
  refine op_nil (at_then ?_)
  refine W_rseq ?_
  refine op_move rfl (.int _ _) rfl ?_
  refine op_max2 rfl rfl rfl ?_
  rw [show max (n : Int) 0 = (n : Int) by omega]
  refine op_make rfl el_23 sz_5 by_5 zc_5 rfl rfl (by omega) (by omega) (by omega) (by omega) H ?_
  rintro b9 w - H
  refine op_assign rfl (.slice _ _ _) rfl ?_
  refine op_nil (at_then ?_)
  refine W_seq ?_
  refine W_rseq ?_
  refine op_assign rfl (.int _ _) rfl ?_
  refine op_nil (at_then ?_)
  refine W_block ?_
  refine W_loop 16776256 (α := Nat) (fun i => [(6, .int .i64 i)]) (fun i w' => i ≤ n ∧ Ctx w0 [] w' [(b9, Bl 5 (((textB n c).take i).map bv ++ List.replicate (n - i) (.int .u8 0)))]) (fun i => n - i) 0 rfl ?_ ?_ ?_
  · exact ⟨rfl, trivial⟩
  · exact ⟨Nat.zero_le _, by simpa using H⟩
  · rintro i j w ⟨hi, H⟩
    refine W_seq ?_
    refine W_rseq ?_
    refine op_move rfl (.int _ _) rfl ?_
    refine op_move rfl (.slice _ _ _) rfl ?_
    refine op_len rfl el_23 rfl ?_
    refine op_lss rfl rfl rfl ?_
    refine op_nil (at_then ?_)
    refine W_cond _ rfl ?_ ?_
    · intro h1
      replace h1 := dec_t h1
      have hml := (UInt8.ofNat (i % 7)).toNat_lt
      have hli : (((textB n c).take i).map bv).length = i := by rw [List.length_map, List.length_take, textB_len]; omega
      refine W_skip (at_then ?_)
      refine W_seq ?_
      refine W_block ?_
      refine W_region ?_
      refine op_move rfl (.slice _ _ _) rfl ?_
      refine op_move rfl (.int _ _) rfl ?_
      refine op_move rfl (.int _ _) rfl ?_
      refine op_move rfl (.int _ _) rfl ?_
      refine op_rem rfl rfl rfl (by omega) (by omega) ?_
      rw [show ((i : Int) % 7) = ((i % 7 : Nat) : Int) by omega]
      refine op_conv_u8 rfl rfl un_3 un_5 (by omega) (by omega) ?_
      rw [show ((i % 7 : Nat) : Int) = (((UInt8.ofNat (i % 7)).toNat : Nat) : Int) by rw [UInt8.toNat_ofNat']; omega]
      refine op_addw rfl rfl rfl ?_
      rw [add8]
      refine op_indexAddr rfl el_23 sz_5 rfl rfl (by omega) (by omega) ?_
      refine op_stb (bv _) rfl sz_5 rfl rfl rfl H at0 (by rw [List.length_append, hli, List.length_replicate]; omega) ?_
      rintro w H
      refine op_nil (at_block (at_then ?_))
      refine W_region ?_
      refine op_move rfl (.int _ _) rfl ?_
      refine op_add_i64 rfl rfl rfl (by omega) (by omega) ?_
      refine op_assign rfl (.int _ _) rfl ?_
      refine op_nil (at_then ?_)
      refine ⟨i + 1, rfl, ⟨rfl, trivial⟩, ⟨by omega, ?_⟩, by omega⟩
      have hx : (textB n c)[i]? = some (c + UInt8.ofNat (i % 7)) := by simp [textB, show i < n by omega]
      have he : ((((textB n c).take i).map bv) ++ List.replicate (n - i) (Value.int .u8 0)).set (0 + (i : Int).toNat * 1) (bv (c + UInt8.ofNat (i % 7))) = (((textB n c).take (i + 1)).map bv) ++ List.replicate (n - (i + 1)) (.int .u8 0) := by
        rw [take_snoc hx, List.map_append, Nat.zero_add, Nat.mul_one, Int.toNat_natCast, show n - i = (n - (i + 1)) + 1 by omega, List.replicate_succ]
        have h9 := set_mid (((textB n c).take i).map bv) (List.replicate (n - (i + 1)) (Value.int .u8 0)) (Value.int .u8 0) (bv (c + UInt8.ofNat (i % 7)))
        rw [hli] at h9
        rw [h9]; simp
      rw [← he]
      exact H
    · intro h1
      replace h1 := dec_f h1
      have hin : i = n := by omega
      subst hin
      rw [List.take_of_length_le (by rw [textB_len]; exact Nat.le_refl _), Nat.sub_self, List.replicate_zero, List.append_nil] at H
      refine W_exit (exit_then (exit_then (exit_here (at_then ?_))))
      refine W_rseq ?_
      refine op_move rfl (.slice _ _ _) rfl ?_
      refine op_assign rfl (.slice _ _ _) rfl ?_
      refine op_nil (at_then ?_)
      refine W_ret (leave1 (v := (.slice _ _ _)) rfl rfl rfl ?_)
      exact Ctx.fresh_bl H (by rw [List.length_map, textB_len]; rfl)

end Go.Proofs.YtkmbcpgnafmnpaaDoor

/- A journal's blocks. -/
namespace Go.Proofs.YtkmbcpgnafmnpaaDoor
open Go.GV
theorem ca_15_JoB : callable Tryd.prog 15 = true := by kernel_rfl
theorem ca_35_JoB : callable Tryd.prog 35 = true := by kernel_rfl
theorem ca_47_JoB : callable Tryd.prog 47 = true := by kernel_rfl
theorem ca_81_JoB : callable Tryd.prog 81 = true := by kernel_rfl
theorem ca_84_JoB : callable Tryd.prog 84 = true := by kernel_rfl
theorem fo_108_0_JoB : fieldO Tryd.prog 108 0 = some 0 := by kernel_rfl
theorem fo_108_1_JoB : fieldO Tryd.prog 108 1 = some 1 := by kernel_rfl
theorem fo_108_2_JoB : fieldO Tryd.prog 108 2 = some 2 := by kernel_rfl
theorem fo_108_3_JoB : fieldO Tryd.prog 108 3 = some 3 := by kernel_rfl
theorem fo_108_4_JoB : fieldO Tryd.prog 108 4 = some 4 := by kernel_rfl
attribute [local irreducible] Wops W Wq Wt

structure Jr where
  frm : Nat
  size : Nat
  at' : Nat
  seq : Nat
  taken : Nat
  dead : Bool
def TJ : Nat := 108
def JB (bd : Nat) (J : Jr) : List Value := [ptr bd, .int .i64 (J.frm : Int), .int .i64 (J.size : Int), .int .i64 (J.at' : Int), .int .u64 (J.seq : Int), .int .i64 (J.taken : Int), .bool J.dead]
structure Jr.Ok (J : Jr) : Prop where
  s1 : 2 ≤ J.size
  s2 : J.frm + J.size ≤ 4096
  a : J.at' < J.size
  t : J.taken ≤ J.size
  q : J.seq ≤ 9000000000000000000
def Jr.place (J : Jr) (i : Nat) : Nat := J.frm + (J.at' + i) % J.size
theorem Jr.Ok.place {J : Jr} (h : J.Ok) (i : Nat) : J.place i < J.frm + J.size := by
  have := Nat.mod_lt (J.at' + i) (show 0 < J.size by have := h.s1; omega)
  unfold Jr.place; omega

theorem place_ok {w : World} {bj bd : Nat} {J : Jr} (h : w.heap[bj]? = some (Bl TJ (JB bd J))) (hJ : J.Ok) (i : Nat) (hi : i ≤ 1000000) :
    Ret Tryd.prog 81 #[ptr bj, .int .i64 (i : Int)] w fun v w' => v = .int .i64 (J.place i : Int) ∧ Ext [] w w' := by
  obtain ⟨w0, rfl⟩ : ∃ w0, w0 = w := ⟨_, rfl⟩
  have H := Ctx.start w0 []
  have h1 := hJ.s1; have h2 := hJ.s2; have h3 := hJ.a
  have hm := Nat.mod_lt (J.at' + i) (show 0 < J.size by omega)
  refine ret_of_W (fn := Tryd.f81) Tryd.func81 rfl [.pointer (some ⟨bj, 0, none⟩), .int .i64 (i : Int)] rfl (by kernel_rfl) ?_
  refine W_rseq ?_
  refine op_assign rfl (.int _ _) rfl ?_
  refine op_nil (at_then ?_)
  refine W_qseq (fun x => x = _) mixed (by kernel_rfl) rfl ?_
  refine q_move rfl (.pointer _) rfl ?_
  refine q_nilCheck rfl rfl ?_
  refine q_fieldAddr rfl fo_108_1_JoB rfl ?_
  first | refine q_ldb rfl ag_3 rfl (by rintro _ rfl; exact H.drew) (by first | exact at0 | exact at1 | exact at2 | exact at3 | exact at4 | exact at5 | exact at6 | exact at7 | exact at8 | exact at9) rfl ?_ | refine q_ld rfl ag_3 rfl (by rintro _ rfl; exact (Ctx.old0 H.drew (cell_bl h _))) ?_
  refine q_move rfl (.pointer _) rfl ?_
  refine q_nilCheck rfl rfl ?_
  refine q_fieldAddr rfl fo_108_3_JoB rfl ?_
  first | refine q_ldb rfl ag_3 rfl (by rintro _ rfl; exact H.drew) (by first | exact at0 | exact at1 | exact at2 | exact at3 | exact at4 | exact at5 | exact at6 | exact at7 | exact at8 | exact at9) rfl ?_ | refine q_ld rfl ag_3 rfl (by rintro _ rfl; exact (Ctx.old0 H.drew (cell_bl h _))) ?_
  refine q_move rfl (.int _ _) rfl ?_
  refine q_add_i64 rfl rfl rfl (by omega) (by omega) ?_
  refine q_move rfl (.pointer _) rfl ?_
  refine q_nilCheck rfl rfl ?_
  refine q_fieldAddr rfl fo_108_2_JoB rfl ?_
  first | refine q_ldb rfl ag_3 rfl (by rintro _ rfl; exact H.drew) (by first | exact at0 | exact at1 | exact at2 | exact at3 | exact at4 | exact at5 | exact at6 | exact at7 | exact at8 | exact at9) rfl ?_ | refine q_ld rfl ag_3 rfl (by rintro _ rfl; exact (Ctx.old0 H.drew (cell_bl h _))) ?_
  refine q_rem rfl rfl rfl (by omega) (by omega) ?_
  rw [show ((J.at' : Int) + (i : Int)) % (J.size : Int) = (((J.at' + i) % J.size : Nat) : Int) by rw [Int.natCast_emod, Int.natCast_add]]
  refine q_add_i64 rfl rfl rfl (by omega) (by omega) ?_
  refine q_assign rfl (.int _ _) rfl ?_
  refine q_nil ?_
  rintro _ rfl
  replace H := H.drew
  refine W_ret (leave1 (v := (.int _ _)) rfl rfl rfl ?_)
  exact ⟨congrArg (Value.int .i64) (by unfold Jr.place; omega), H.ext⟩

def pieceB (q i : Nat) (p : Byt) : Byt := (putN q 8 ++ putN i 4) ++ p
def endB (q : Nat) (s : Byt) : Byt := (putN q 8 ++ putN (blk s.length - 1) 4) ++ putN s.length 4
theorem pieceB_len (q i : Nat) (p : Byt) : (pieceB q i p).length = 12 + p.length := by simp [pieceB, putN_len]; omega
theorem endB_len (q : Nat) (s : Byt) : (endB q s).length = 16 := by simp [endB, putN_len]
theorem putB4 (l : Byt) (n : Nat) : putB l n 4 = l ++ putN n 4 := by rw [putB, show sizeB 4 = true by decide]; rfl
theorem putB8 (l : Byt) (n : Nat) : putB l n 8 = l ++ putN n 8 := by rw [putB, show sizeB 8 = true by decide]; rfl

set_option maxRecDepth 20000 in
set_option maxHeartbeats 1000000 in
theorem piece_ok {w : World} {bj bd : Nat} {J : Jr} (h : w.heap[bj]? = some (Bl TJ (JB bd J))) (hJ : J.Ok) (i : Nat) (hi : i ≤ 1000000) (a : Option Addr) (c n : Nat) (p : Byt) (R : Rd w a 1 B8 p) (hn : p.length = n) (hm : n ≤ 1000000) :
    Ret Tryd.prog 83 #[ptr bj, .int .i64 (i : Int), .slice a n c] w fun v w' => Fresh w w' 5 1 v ((pieceB J.seq i p).map bv) := by
  subst hn
  obtain ⟨w0, rfl⟩ : ∃ w0, w0 = w := ⟨_, rfl⟩
  have H := Ctx.start w0 []
  have hq := hJ.q
  refine ret_of_W (fn := Tryd.f83) Tryd.func83 rfl [.pointer (some ⟨bj, 0, none⟩), .int .i64 (i : Int), .slice a p.length c] rfl (by kernel_rfl) ?_
  refine W_rseq ?_
  refine op_assign rfl (.slice _ _ _) rfl ?_
  refine op_nil (at_then ?_)
  refine W_rseq ?_
  refine op_move rfl (.pointer _) rfl ?_
  refine op_nilCheck rfl rfl ?_
  refine op_fieldAddr rfl fo_108_4_JoB rfl ?_
  first | refine op_ldb rfl ag_22 rfl H (by first | exact at0 | exact at1 | exact at2 | exact at3 | exact at4 | exact at5 | exact at6 | exact at7 | exact at8 | exact at9) rfl ?_ | refine op_ld rfl ag_22 rfl (Ctx.old0 H (cell_bl h _)) ?_
  refine op_call rfl ca_48 (put_ok none 0 0 [] J.seq 8 w0 Rd.nil rfl (by decide) (by omega)) rfl ?_
  rintro v w F12
  rw [putB8, List.nil_append] at F12
  obtain ⟨a12, c12, rfl, R12, hc12⟩ := Fresh.rdB F12
  rw [putN_len]
  refine op_move rfl (.int _ _) rfl ?_
  refine op_conv_u64 rfl rfl un_3 un_22 (by omega) (by omega) ?_
  refine op_call rfl ca_48 (put_ok a12 c12 8 (putN J.seq 8) i 4 w R12 (putN_len _ _) (by decide) (by omega)) rfl ?_
  rintro v w F15
  rw [putB4] at F15
  replace F15 := Fresh.since F15 F12.ext
  obtain ⟨a15, n15, c15, full15, rfl, O15, hb15⟩ := F15.ex
  have hx15 := F15.ext
  obtain rfl : n15 = 12 := by have h9 := O15.llen; rw [List.length_map, List.length_append, putN_len, putN_len] at h9; omega
  replace H := (Ctx.start w0 []).callEnt hx15 hb15 ent_nd
  refine op_assign rfl (.slice _ _ _) rfl ?_
  refine op_nil (at_then ?_)
  refine W_rseq ?_
  refine op_move rfl (.slice _ _ _) rfl ?_
  refine op_move rfl (.slice _ _ _) rfl ?_
  refine op_append (L := []) rfl el_23 el_23 sz_5 by_5 zc_5 rfl (by decide) (p.map bv) rfl rfl H O15 (by simp) (bv_one p) (Rd.appB (R.ext0 H.ext)) (by omega) ?_
  rintro a18 c18 full18 w H O
  rw [← List.map_append] at O
  refine op_assign rfl (.slice _ _ _) rfl ?_
  refine op_nil (at_then ?_)
  refine W_ret (leave1 (v := (.slice _ _ _)) rfl rfl rfl ?_)
  exact Ctx.fresh (L := []) H O

set_option maxRecDepth 20000 in
set_option maxHeartbeats 1000000 in
theorem end_ok {w : World} {bj bd : Nat} {J : Jr} (h : w.heap[bj]? = some (Bl TJ (JB bd J))) (hJ : J.Ok) (a : Option Addr) (c n : Nat) (s : Byt) (hn : s.length = n) (hm : n ≤ 1000000000000) :
    Ret Tryd.prog 85 #[ptr bj, .slice a n c] w fun v w' => Fresh w w' 5 1 v ((endB J.seq s).map bv) := by
  subst hn
  obtain ⟨w0, rfl⟩ : ∃ w0, w0 = w := ⟨_, rfl⟩
  have H := Ctx.start w0 []
  have hq := hJ.q
  have hb2 := blk_two s.length
  have hb3 := blk_le s.length
  refine ret_of_W (fn := Tryd.f85) Tryd.func85 rfl [.pointer (some ⟨bj, 0, none⟩), .slice a s.length c] rfl (by kernel_rfl) ?_
  refine W_rseq ?_
  refine op_assign rfl (.slice _ _ _) rfl ?_
  refine op_nil (at_then ?_)
  refine W_rseq ?_
  refine op_move rfl (.pointer _) rfl ?_
  refine op_nilCheck rfl rfl ?_
  refine op_fieldAddr rfl fo_108_4_JoB rfl ?_
  first | refine op_ldb rfl ag_22 rfl H (by first | exact at0 | exact at1 | exact at2 | exact at3 | exact at4 | exact at5 | exact at6 | exact at7 | exact at8 | exact at9) rfl ?_ | refine op_ld rfl ag_22 rfl (Ctx.old0 H (cell_bl h _)) ?_
  refine op_call rfl ca_48 (put_ok none 0 0 [] J.seq 8 w0 Rd.nil rfl (by decide) (by omega)) rfl ?_
  rintro v w F10
  rw [putB8, List.nil_append] at F10
  obtain ⟨a10, c10, rfl, R10, hc10⟩ := Fresh.rdB F10
  rw [putN_len]
  refine op_move rfl (.slice _ _ _) rfl ?_
  refine op_len rfl el_23 rfl ?_
  refine op_call rfl ca_35_JoB (jblocks_ok (s.length : Int) (by omega) w) rfl ?_
  rintro v w ⟨rfl, rfl⟩
  rw [blkI_nat]
  refine op_sub_i64 rfl rfl rfl (by omega) (by omega) ?_
  rw [show ((blk s.length : Int) - 1) = ((blk s.length - 1 : Nat) : Int) by omega]
  refine op_conv_u64 rfl rfl un_3 un_22 (by omega) (by omega) ?_
  refine op_call rfl ca_48 (put_ok a10 c10 8 (putN J.seq 8) (blk s.length - 1) 4 _ R10 (putN_len _ _) (by decide) (by omega)) rfl ?_
  rintro v w F16
  rw [putB4] at F16
  replace F16 := Fresh.since F16 F10.ext
  obtain ⟨a16, c16, rfl, R16, hc16⟩ := Fresh.rdB F16
  rw [List.length_append, putN_len, putN_len]
  refine op_assign rfl (.slice _ _ _) rfl ?_
  refine op_nil (at_then ?_)
  refine W_rseq ?_
  refine op_move rfl (.slice _ _ _) rfl ?_
  refine op_move rfl (.slice _ _ _) rfl ?_
  refine op_len rfl el_23 rfl ?_
  refine op_conv_u64 rfl rfl un_3 un_22 (by omega) (by omega) ?_
  refine op_call rfl ca_48 (put_ok a16 c16 12 (putN J.seq 8 ++ putN (blk s.length - 1) 4) s.length 4 _ R16 (by rw [List.length_append, putN_len, putN_len]) (by decide) (by omega)) rfl ?_
  rintro v w F21
  rw [putB4] at F21
  obtain ⟨a21, n21, c21, full21, rfl, O21, hb21⟩ := F21.ex
  refine op_assign rfl (.slice _ _ _) rfl ?_
  refine op_nil (at_then ?_)
  refine W_ret (leave1 (v := (.slice _ _ _)) rfl rfl rfl ?_)
  exact Fresh.since F21 F16.ext

/-! ### Go's bytes -/
theorem equal_ok {w : World} (a b : Option Addr) (c d n m : Nat) (x y : Byt) (Rx : Rd w a 1 B8 x) (Ry : Rd w b 1 B8 y) (hn : x.length = n) (hm : y.length = m) :
    Ret Tryd.prog 84 #[.slice a n c, .slice b m d] w fun v w' => v = .bool (decide (x = y)) ∧ w = w' := by
  subst hn hm
  refine ret_of_W (fn := Tryd.f84) Tryd.func84 rfl [.slice a x.length c, .slice b y.length d] rfl (by kernel_rfl) ?_
  refine W_rseq ?_
  refine op_assign rfl (.bool _) rfl ?_
  refine op_nil (at_then ?_)
  refine W_rseq ?_
  refine op_move rfl (.slice _ _ _) rfl ?_
  refine op_back (l := x) rfl el_23 un_5 un_9 rfl Rx ?_
  refine op_move rfl (.slice _ _ _) rfl ?_
  refine op_back (l := y) rfl el_23 un_5 un_9 rfl Ry ?_
  refine op_streq (l := x) (m := y) rfl rfl rfl ?_
  refine op_assign rfl (.bool _) rfl ?_
  refine op_nil (at_then ?_)
  refine W_ret (leave1 (v := (.bool _)) rfl rfl rfl ?_)
  exact ⟨rfl, rfl⟩
def prefB (x y : Byt) : Bool := decide (y.length ≤ x.length) && decide (x.take y.length = y)
theorem prefix_ok {w : World} (a b : Option Addr) (c d n m : Nat) (x y : Byt) (Rx : Rd w a 1 B8 x) (Ry : Rd w b 1 B8 y) (hn : x.length = n) (hm : y.length = m) (hc : n ≤ c) :
    Ret Tryd.prog 82 #[.slice a n c, .slice b m d] w fun v w' => v = .bool (prefB x y) ∧ w = w' := by
  subst hn hm
  refine ret_of_W (fn := Tryd.f82) Tryd.func82 rfl [.slice a x.length c, .slice b y.length d] rfl (by kernel_rfl) ?_
  refine W_rseq ?_
  refine op_assign rfl (.bool _) rfl ?_
  refine op_nil (at_then ?_)
  refine W_rseq ?_
  refine op_move rfl (.slice _ _ _) rfl ?_
  refine op_len rfl el_23 rfl ?_
  refine op_move rfl (.slice _ _ _) rfl ?_
  refine op_len rfl el_23 rfl ?_
  refine op_geq rfl rfl rfl ?_
  refine op_move rfl (.bool _) rfl ?_
  refine Wops_split 10 rfl ?_ ?_
  · intro h1
    replace h1 := dec_t h1
    have hl : y.length ≤ x.length := by omega
    refine op_move rfl (.slice _ _ _) rfl ?_
    refine op_move rfl (.slice _ _ _) rfl ?_
    refine op_len rfl el_23 rfl ?_
    refine op_slice_hi rfl el_23 sz_5 rfl rfl (by omega) (by omega) ?_
    refine op_move rfl (.slice _ _ _) rfl ?_
    refine op_call rfl ca_84_JoB (equal_ok a b c d y.length y.length (x.take y.length) y (Rx.take _) Ry (by rw [List.length_take]; omega) rfl) rfl ?_
    rintro v w ⟨rfl, rfl⟩
    refine op_pick1 rfl rfl (.bool _) rfl ?_
    refine op_assign rfl (.bool _) rfl ?_
    refine op_nil (at_then ?_)
    refine W_ret (leave1 (v := (.bool _)) rfl rfl rfl ?_)
    exact ⟨by rw [prefB, decide_eq_true hl]; rfl, rfl⟩
  · intro h1
    replace h1 := dec_f h1
    refine op_skip rfl ?_
    refine op_skip rfl ?_
    refine op_skip rfl ?_
    refine op_skip rfl ?_
    refine op_skip rfl ?_
    refine op_skip rfl ?_
    refine op_pick0 rfl rfl (.bool _) rfl ?_
    refine op_assign rfl (.bool _) rfl ?_
    refine op_nil (at_then ?_)
    refine W_ret (leave1 (v := (.bool _)) rfl rfl rfl ?_)
    exact ⟨by rw [prefB, decide_eq_false (show ¬ y.length ≤ x.length by omega)]; rfl, rfl⟩

/-! ### A block is written -/
def putE (A : Dev) (J : Jr) (i : Nat) (k : UInt8) (b : Byt) : Int := writeE A (J.place i : Int) (sealB k b)
def putD (A : Dev) (J : Jr) (i : Nat) (k : UInt8) (b : Byt) : Dev := writeD A (J.place i : Int) (sealB k b)
set_option maxRecDepth 20000 in
set_option maxHeartbeats 1000000 in
theorem jput_ok {w : World} {bj bd : Nat} {J : Jr} {A : Dev} {F : Nat → Prop} (h : w.heap[bj]? = some (Bl TJ (JB bd J))) (hJ : J.Ok) (i : Nat) (hi : i ≤ 1000000) (k : UInt8) (hk : k.toNat ≠ 0) (a : Option Addr) (c n : Nat) (b : Byt) (R : Rd w a 1 B8 b) (hn : b.length = n) (hm : n ≤ 505) (hlt : ∀ x, F x → x < w.heap.size) (hFj : ¬ F bj) {mx : Nat} (hfew : Few A mx) (hmx : mx ≤ 1000000000000) (DA : DevAt w bd A F) :
    Ret Tryd.prog 87 #[ptr bj, .int .i64 (i : Int), bv k, .slice a n c] w fun v w' => v = .int .i64 (putE A J i k b) ∧ DevAt w' bd (putD A J i k b) (grow F w w') ∧ Turn F w w' := by
  subst hn
  obtain ⟨w0, rfl⟩ : ∃ w0, w0 = w := ⟨_, rfl⟩
  have hse : sealE k b = 0 := by
    rw [sealE, decide_eq_false hk, decide_eq_false (by omega)]; rfl
  have h5 : (sealB k b).length = 512 := seal_len hm
  refine ret_of_W (fn := Tryd.f87) Tryd.func87 rfl [.pointer (some ⟨bj, 0, none⟩), .int .i64 (i : Int), bv k, .slice a b.length c] rfl (by kernel_rfl) ?_
  refine W_rseq ?_
  refine op_assign rfl (.int _ _) rfl ?_
  refine op_nil (at_then ?_)
  refine W_rseq ?_
  refine op_move rfl (bv k) rfl ?_
  refine op_move rfl (.slice _ _ _) rfl ?_
  refine op_call rfl ca_47_JoB (seal_ok k a c _ _ _ R rfl (by omega)) rfl ?_
  rintro v w P14
  rw [SealPost, hse] at P14
  obtain ⟨s14, rfl, B14⟩ : ∃ s, v = .tuple #[s, .int .i64 0] ∧ Bytes _ w s (sealB k b) := (P14.elim (fun h => absurd rfl h.1) fun h => h.2)
  obtain ⟨a14, c14, rfl, R14, hc14, hn14⟩ := B14.ex
  have hx := B14.ext
  have DA1 := DA.keep0 hx
  rw [h5]
  have hj1 : w.heap[bj]? = some (Bl TJ (JB bd J)) := by rw [hx.block bj (heap_lt h) (by simp)]; exact h
  refine op_move rfl (.tuple _) rfl ?_
  refine op_extract rfl rfl rfl ?_
  refine op_extract rfl rfl rfl ?_
  refine op_assign rfl (.slice _ _ _) rfl ?_
  refine op_assign rfl (.int _ _) rfl ?_
  refine op_nil (at_then ?_)
  refine W_seq ?_
  refine W_rseq ?_
  refine op_move rfl (.int _ _) rfl ?_
  refine op_neq rfl rfl rfl ?_
  refine op_nil (at_then ?_)
  refine W_cond0 rfl ?_
  refine W_skip (at_then ?_)
  refine W_sseqz [([0, 1, 2, 3, 4, 5, 7], 6), ([], 8), ([], 9)] (fun z => z.heap[bj]? = some (Bl TJ (JB bd J))) [] mixed (by kernel_rfl) (hj1) ?_
  refine seg_cons rfl rfl ?_
  refine t_move rfl (.pointer _) rfl ?_
  refine t_nilCheck rfl rfl ?_
  refine t_fieldAddr rfl fo_108_0_JoB rfl ?_
  first | refine t_ldb rfl ag_27 rfl (fun _ _ => Ctx.start _ []) (by first | exact at0 | exact at1 | exact at2 | exact at3 | exact at4 | exact at5 | exact at6 | exact at7 | exact at8 | exact at9) rfl ?_ | refine t_ld rfl ag_27 rfl (fun _ hx => cell_bl hx (0 + 0)) ?_
  refine t_move rfl (.pointer _) rfl ?_
  refine t_move rfl (.int _ _) rfl ?_
  refine t_move rfl (.slice _ _ _) rfl ?_
  refine t_nil ?_
  skip
  refine op_call rfl ca_81_JoB (place_ok (show (World.drew w).heap[bj]? = _ from hj1) hJ i hi) rfl ?_
  rintro v w8 ⟨rfl, hx8⟩
  have DA2 := (DA1.keep0 (Ext.drew [] w)).keep0 hx8
  have R15 := (R14.ext0 (Ext.drew [] w)).ext0 hx8
  have hj8 : w8.heap[bj]? = some (Bl TJ (JB bd J)) := by rw [hx8.block bj (heap_lt hj1) (by simp)]; exact hj1
  refine op_nil (at_seg (hj8) ?_)
  refine seg_cons rfl rfl ?_
  refine t_nil ?_
  refine op_call rfl ca_15_JoB (dwrite_ok (J.place i : Int) a14 c14 512 (sealB k b) R15 h5 (by decide) (.inr fun h => by have := hlt _ h; omega) hfew hmx DA2) rfl ?_
  rintro v w9 ⟨rfl, DA3, hT⟩
  have hj9 : w9.heap[bj]? = some (Bl TJ (JB bd J)) := by obtain ⟨S, hS, hx9⟩ := hT; rw [hx9.block bj (heap_lt hj8) (fun h => hFj (hS _ h))]; exact hj8
  refine op_nil (at_seg (hj9) ?_)
  refine seg_cons rfl rfl ?_
  refine t_nil ?_
  refine op_assign rfl (.int _ _) rfl ?_
  refine op_nil (at_seg (hj9) ?_)
  refine seg_nil ?_
  refine W_ret (leave1 (v := (.int _ _)) rfl rfl rfl ?_)
  have hxx := (hx.trans (Ext.drew [] w)).trans hx8
  exact ⟨rfl, DA3.mono (grow_old hxx.size), Turn.trans (.of0 hxx) hT fun x h => .inl h⟩

end Go.Proofs.YtkmbcpgnafmnpaaDoor

/- The steps of the laws of roots; whether there is too much of them; a block of one's own. -/
namespace Go.Proofs.YtkmbcpgnafmnpaaDoor
open Go.GV
theorem ag_45_StH1 : aggB Tryd.prog 45 = some false := by kernel_rfl
theorem el_40_StH1 : elemT Tryd.prog 40 = some 47 := by kernel_rfl
theorem fo_47_2_StH1 : fieldO Tryd.prog 47 2 = some 2 := by kernel_rfl
theorem fo_47_6_StH1 : fieldO Tryd.prog 47 6 = some 6 := by kernel_rfl
theorem sz_47_StH1 : tsize Tryd.prog 47 = some 7 := by kernel_rfl
attribute [local irreducible] Wops W Wq Wt

structure Stp where
  op : Int
  gen : Nat
  ba : Option Addr
  bc : Nat
  b : Byt
  n : Int
  pos : Nat
  by' : UInt8
  pa : Option Addr
  pc : Nat
  picks : List Int
abbrev I64 : Int → List Value := fun x => [.int .i64 x]
def Stp.enc (x : Stp) : List Value := [.int .i64 x.op, .int .u64 (x.gen : Int), .slice x.ba x.b.length x.bc, .int .i64 x.n, .int .u16 (x.pos : Int), bv x.by', .slice x.pa x.picks.length x.pc]
structure Stp.Ok (w : World) (x : Stp) : Prop where
  rb : Rd w x.ba 1 B8 x.b
  rp : Rd w x.pa 1 I64 x.picks
  cb : x.b.length ≤ x.bc
  cp : x.picks.length ≤ x.pc
  mb : x.b.length ≤ 140737488351232
  mp : x.picks.length ≤ 140737488351232
  gen : x.gen < 18446744073709551616
  n1 : -9223372036854775808 ≤ x.n
  n2 : x.n ≤ 9223372036854775807
  pos : x.pos < 65536
  picks : ∀ i ∈ x.picks, -9223372036854775808 ≤ i ∧ i ≤ 9223372036854775807

def sumH (l : List Stp) : Nat := (l.map fun x => x.b.length + x.picks.length).sum
def heavyB (l : List Stp) : Bool := decide (40 < l.length) || decide (20000 < sumH (l.take 100))
theorem sumH_snoc (l : List Stp) (x : Stp) : sumH (l ++ [x]) = sumH l + (x.b.length + x.picks.length) := by simp [sumH]
theorem sumH_mem {l : List Stp} {x : Stp} (h : x ∈ l) : x.b.length + x.picks.length ≤ sumH l := by
  induction l with
  | nil => cases h
  | cons y l ih =>
    unfold sumH
    rw [List.map_cons, List.sum_cons]
    rcases List.mem_cons.1 h with rfl | h
    · omega
    · have := ih h; unfold sumH at this; omega
theorem sumH_le {l : List Stp} (h : ∀ x ∈ l, x.b.length + x.picks.length ≤ 281474976702464) : sumH l ≤ l.length * 281474976702464 := by
  induction l with
  | nil => exact Nat.zero_le _
  | cons y l ih =>
    have h1 := ih fun x hx => h x (List.mem_cons_of_mem _ hx)
    have h2 := h y (List.mem_cons_self ..)
    unfold sumH at h1 ⊢
    rw [List.map_cons, List.sum_cons, List.length_cons]
    omega
theorem not_heavy {l : List Stp} (h : heavyB l = false) : l.length ≤ 40 ∧ ∀ x ∈ l, x.b.length + x.picks.length ≤ 20000 := by
  unfold heavyB at h
  simp only [Bool.or_eq_false_iff, decide_eq_false_iff_not] at h
  have hl : l.length ≤ 40 := by omega
  refine ⟨hl, fun x hx => ?_⟩
  rw [List.take_of_length_le (by omega)] at h
  have := sumH_mem hx
  omega

set_option maxRecDepth 20000 in
theorem heavy_ok (a : Option Addr) (c : Nat) (l : List Stp) (w : World) (R : Rd w a 7 Stp.enc l) (hok : ∀ x ∈ l, x.Ok w) (hm : l.length ≤ 9223372036854775807) : Ret Tryd.prog 17 #[.slice a l.length c] w fun v w' => v = .bool (heavyB l) ∧ Ext [] w w' := by
  obtain ⟨w0, rfl⟩ : ∃ w0, w0 = w := ⟨_, rfl⟩
  have H := Ctx.start w0 []
  refine ret_of_W (fn := Tryd.f17) Tryd.func17 rfl [.slice a l.length c] rfl (by kernel_rfl) ?_
  refine W_rseq ?_
  refine op_assign rfl (.bool _) rfl ?_
  refine op_nil (at_then ?_)
  refine W_rseq ?_
  refine op_assign rfl (.int _ _) rfl ?_
  refine op_nil (at_then ?_)
  refine W_seq ?_
  refine W_rseq ?_
  refine op_assign rfl (.int _ _) rfl ?_
  refine op_nil (at_then ?_)
  refine W_block ?_
  refine W_loop 1073741816 (α := Nat) (fun i => [(4, .int .i64 i), (3, .int .i64 (sumH (l.take i) : Int))]) (fun i w' => i ≤ l.length ∧ i ≤ 100 ∧ Ctx w0 [] w' []) (fun i => 100 - i) 0 rfl ?_ ?_ ?_
  · exact ⟨rfl, rfl, trivial⟩
  · exact ⟨Nat.zero_le _, Nat.zero_le _, H⟩
  · rintro i j w ⟨hi, hi1, H⟩
    have hs : sumH (l.take i) ≤ i * 281474976702464 := by
      have h1 := sumH_le (l := l.take i) fun x hx => by have := hok x (List.mem_of_mem_take hx); have := this.mb; have := (hok x (List.mem_of_mem_take hx)).mp; omega
      rw [List.length_take, Nat.min_eq_left hi] at h1
      exact h1
    have hs2 : i * 281474976702464 ≤ 100 * 281474976702464 := Nat.mul_le_mul_right _ hi1
    refine W_seq ?_
    refine W_rseq (Wops_join (α := Unit) 8160 (fun _ => [(12, .bool (decide (i < l.length) && decide (i < 100)))]) (fun _ w' => Ctx w0 [] w' []) rfl ?_ ?_)
    · refine op_move rfl (.int _ _) rfl ?_
      refine op_move rfl (.slice _ _ _) rfl ?_
      refine op_len rfl el_40_StH1 rfl ?_
      refine op_lss rfl rfl rfl ?_
      refine op_move rfl (.bool _) rfl ?_
      refine Wops_split 9 rfl ?_ ?_
      · intro h1
        replace h1 := dec_t h1
        refine op_move rfl (.int _ _) rfl ?_
        refine op_lss rfl rfl rfl ?_
        refine op_pick1 rfl rfl (.bool _) rfl ?_
        refine op_nil ?_
        exact ⟨rfl, (), rfl, ⟨congrArg Value.bool (by rw [Bool.eq_iff_iff]; simp_all; try omega), trivial⟩, H⟩
      · intro h2
        replace h2 := dec_f h2
        refine op_skip rfl ?_
        refine op_skip rfl ?_
        refine op_pick0 rfl rfl (.bool _) rfl ?_
        refine op_nil ?_
        exact ⟨rfl, (), rfl, ⟨congrArg Value.bool (by rw [Bool.eq_iff_iff]; simp_all; try omega), trivial⟩, H⟩
    rintro - j12 w H
    refine W_cond _ rfl ?_ ?_
    · intro h1
      simp only [Bool.and_eq_true, decide_eq_true_eq] at h1
      obtain ⟨x, hx⟩ := get_some (l := l) (i := i) (by omega)
      have hox := hok x (List.mem_of_getElem? hx)
      have hmb := hox.mb
      have hmp := hox.mp
      refine W_skip (at_then ?_)
      refine W_seq ?_
      refine W_block ?_
      refine W_quiet (fun x => x = _) mixed (by kernel_rfl) rfl ?_
      refine q_move rfl (.int _ _) rfl ?_
      refine q_move rfl (.slice _ _ _) rfl ?_
      refine q_move rfl (.int _ _) rfl ?_
      first | refine q_indexRd R rfl el_40_StH1 sz_47_StH1 rfl rfl (by omega) (by omega) (by first | rfl | omega) ?_ | refine q_indexAddr rfl el_40_StH1 sz_47_StH1 rfl rfl (by omega) (by omega) ?_
      refine q_fieldAddr rfl fo_47_2_StH1 rfl ?_
      first | refine q_ldb rfl ag_23 rfl (by rintro _ rfl; exact H.drew) (by first | exact at0 | exact at1 | exact at2 | exact at3 | exact at4 | exact at5 | exact at6 | exact at7 | exact at8 | exact at9) rfl ?_ | refine q_ld rfl ag_23 rfl (by rintro _ rfl; exact ((R.ext0 H.drew.ext).fld hx rfl (j := 2) rfl)) ?_ | refine q_ld rfl ag_23 rfl (by rintro _ rfl; exact ((R.ext0 H.drew.ext).fld hx rfl (j := 6) rfl)) ?_
      refine q_len rfl el_23 rfl ?_
      refine q_add_i64 rfl rfl rfl (by omega) (by omega) ?_
      refine q_move rfl (.slice _ _ _) rfl ?_
      refine q_move rfl (.int _ _) rfl ?_
      first | refine q_indexRd R rfl el_40_StH1 sz_47_StH1 rfl rfl (by omega) (by omega) (by first | rfl | omega) ?_ | refine q_indexAddr rfl el_40_StH1 sz_47_StH1 rfl rfl (by omega) (by omega) ?_
      refine q_fieldAddr rfl fo_47_6_StH1 rfl ?_
      first | refine q_ldb rfl ag_45_StH1 rfl (by rintro _ rfl; exact H.drew) (by first | exact at0 | exact at1 | exact at2 | exact at3 | exact at4 | exact at5 | exact at6 | exact at7 | exact at8 | exact at9) rfl ?_ | refine q_ld rfl ag_45_StH1 rfl (by rintro _ rfl; exact ((R.ext0 H.drew.ext).fld hx rfl (j := 2) rfl)) ?_ | refine q_ld rfl ag_45_StH1 rfl (by rintro _ rfl; exact ((R.ext0 H.drew.ext).fld hx rfl (j := 6) rfl)) ?_
      refine q_len rfl el_45 rfl ?_
      refine q_add_i64 rfl rfl rfl (by omega) (by omega) ?_
      refine q_assign rfl (.int _ _) rfl ?_
      refine q_nil ?_
      rintro _ rfl
      replace H := H.drew
      refine at_block (at_then ?_)
      refine W_region ?_
      refine op_move rfl (.int _ _) rfl ?_
      refine op_add_i64 rfl rfl rfl (by omega) (by omega) ?_
      refine op_assign rfl (.int _ _) rfl ?_
      refine op_nil (at_then ?_)
      refine ⟨i + 1, rfl, ⟨rfl, ?_, trivial⟩, ⟨by omega, by omega, H⟩, by omega⟩
      rw [take_snoc hx, sumH_snoc]
      exact congrArg (Value.int .i64) (by omega)
    · intro h1
      simp only [Bool.and_eq_false_iff, decide_eq_false_iff_not] at h1
      have hd : decide (20000 < sumH (l.take i)) = decide (20000 < sumH (l.take 100)) ∨ 40 < l.length := by
        rcases h1 with h1 | h1
        · left; rw [List.take_of_length_le (l := l) (i := i) (by omega), List.take_of_length_le (l := l) (i := 100) (by omega)]
        · right; omega
      refine W_exit (exit_then (exit_then (exit_here (at_then ?_))))
      refine W_rseq ?_
      refine op_move rfl (.slice _ _ _) rfl ?_
      refine op_len rfl el_40_StH1 rfl ?_
      refine op_gtr rfl rfl rfl ?_
      refine op_move rfl (.bool _) rfl ?_
      refine Wops_split 33 rfl ?_ ?_
      · intro h2
        replace h2 := dec_t h2
        refine op_skip rfl ?_
        refine op_skip rfl ?_
        refine op_pick1 rfl rfl (.bool _) rfl ?_
        refine op_assign rfl (.bool _) rfl ?_
        refine op_nil (at_then ?_)
        refine W_ret (leave1 (v := (.bool _)) rfl rfl rfl ?_)
        exact ⟨by rw [heavyB, decide_eq_true (show 40 < l.length by omega)]; rfl, H.ext⟩
      · intro h2
        replace h2 := dec_f h2
        refine op_move rfl (.int _ _) rfl ?_
        refine op_gtr rfl rfl rfl ?_
        refine op_pick0 rfl rfl (.bool _) rfl ?_
        refine op_assign rfl (.bool _) rfl ?_
        refine op_nil (at_then ?_)
        refine W_ret (leave1 (v := (.bool _)) rfl rfl rfl ?_)
        rcases hd with hd | hd
        · refine ⟨?_, H.ext⟩
          rw [heavyB, decide_eq_false (show ¬ 40 < l.length by omega), ← hd, Bool.false_or]
          congr 1
          rw [Bool.eq_iff_iff]; simp only [decide_eq_true_eq]; omega
        · omega

end Go.Proofs.YtkmbcpgnafmnpaaDoor

/- The block of a step. -/
namespace Go.Proofs.YtkmbcpgnafmnpaaDoor
open Go.GV
theorem ag_24_StH2 : aggB Tryd.prog 24 = some false := by kernel_rfl
theorem fo_47_1_StH2 : fieldO Tryd.prog 47 1 = some 1 := by kernel_rfl
theorem fo_47_2_StH2 : fieldO Tryd.prog 47 2 = some 2 := by kernel_rfl
theorem fo_47_4_StH2 : fieldO Tryd.prog 47 4 = some 4 := by kernel_rfl
theorem fo_47_5_StH2 : fieldO Tryd.prog 47 5 = some 5 := by kernel_rfl
theorem un_24_StH2 : Tryd.prog.underlying 24 = some (.int .u16) := by kernel_rfl
attribute [local irreducible] Wops W Wq Wt

def rawBase (x : Stp) : Byt := if x.b.length ≤ 497 then rootB x.gen x.b else zeros
def rawB (x : Stp) : Byt := (rawBase x).modify (x.pos % 512) fun c => c ^^^ x.by'
theorem rawBase_len (x : Stp) : (rawBase x).length = 512 := by
  unfold rawBase
  split
  · exact seal_len (by rw [List.length_append, putN_len]; omega)
  · exact List.length_replicate
theorem rawB_len (x : Stp) : (rawB x).length = 512 := by rw [rawB, List.length_modify, rawBase_len]

theorem bv_xor (a b : UInt8) : Value.int .u8 ((a.toNat ^^^ b.toNat : Nat) : Int) = bv (a ^^^ b) := by
  rw [bv, UInt8.toNat_xor]

theorem seal_cases {w0 w w' : World} {L : List (Nat × Obj)} {v : Value} {k : UInt8} {l : Byt} (H : Ctx w0 [] w L)
    (P : (sealE k l ≠ 0 ∧ v = .tuple #[.slice none 0 0, .int .i64 (sealE k l)] ∧ Ext [] w w') ∨ (sealE k l = 0 ∧ ∃ s, v = .tuple #[s, .int .i64 0] ∧ Fresh w w' 5 1 s ((sealB k l).map bv))) :
    ∃ a n c full, v = .tuple #[.slice a n c, .int .i64 (sealE k l)] ∧ Ctx w0 [] w' (L ++ ent a 5 full) ∧ (sealE k l = 0 → OS a n c 1 full ((sealB k l).map bv)) := by
  rcases P with ⟨h, rfl, hx⟩ | ⟨h, s, rfl, F⟩
  · exact ⟨none, 0, 0, [], rfl, by simpa [ent] using H.call hx, fun h' => absurd h' h⟩
  · obtain ⟨a, n, c, full, rfl, O, hb⟩ := F.ex
    exact ⟨a, n, c, full, by rw [h], H.callEnt F.ext hb ent_nd, fun _ => O⟩

set_option maxRecDepth 20000 in
set_option maxHeartbeats 2000000 in
theorem raw_ok (x : Stp) (w : World) (hx : x.Ok w) (hb20 : x.b.length ≤ 20000) : Ret Tryd.prog 26 #[.agg x.enc.toArray] w fun v w' => Fresh w w' 5 1 v ((rawB x).map bv) := by
  obtain ⟨w0, rfl⟩ : ∃ w0, w0 = w := ⟨_, rfl⟩
  have H := Ctx.start w0 []
  have hmb := hx.mb
  have hpos := hx.pos
  have hlr : (putN x.gen 8 ++ x.b).length = 8 + x.b.length := by rw [List.length_append, putN_len]
  have hse : sealE 1 (putN x.gen 8 ++ x.b) = bif decide (x.b.length ≤ 497) then 0 else 6 := by
    rw [sealE, decide_eq_false (show ¬ (1 : UInt8).toNat = 0 by decide), cond_false, hlr]
    by_cases h : x.b.length ≤ 497
    · rw [decide_eq_true h, decide_eq_false (show ¬ 505 < 8 + x.b.length by omega)]; rfl
    · rw [decide_eq_false h, decide_eq_true (show 505 < 8 + x.b.length by omega)]; rfl
  refine ret_of_W (fn := Tryd.f26) Tryd.func26 rfl [.agg x.enc.toArray] rfl (by kernel_rfl) ?_
  refine W_rseq ?_
  refine op_box rfl x.enc (.agg _) rfl rfl H ?_
  rintro b1 w - H
  refine op_assign rfl (.slice _ _ _) rfl ?_
  refine op_nil (at_then ?_)
  refine W_rseq ?_
  refine op_fieldAddr rfl fo_47_1_StH2 rfl ?_
  refine op_ldb rfl ag_22 rfl H (by first | exact at0 | exact at1 | exact at2 | exact at3 | exact at4 | exact at5 | exact at6 | exact at7 | exact at8 | exact at9) rfl ?_
  refine op_fieldAddr rfl fo_47_2_StH2 rfl ?_
  refine op_ldb rfl ag_23 rfl H (by first | exact at0 | exact at1 | exact at2 | exact at3 | exact at4 | exact at5 | exact at6 | exact at7 | exact at8 | exact at9) rfl ?_
  have H10 := H
  refine op_call rfl ca_57 (root_ok x.gen x.ba x.bc x.b.length x.b _ (hx.rb.ext0 H.ext) rfl (by omega) hx.gen) rfl ?_
  rintro v w F10
  obtain ⟨a10, c10, rfl, R10, hc10⟩ := Fresh.rdB F10
  replace H := H.call F10.ext
  refine op_call rfl ca_56 (seal4_ok 1 a10 c10 _ _ _ R10 rfl (by rw [hlr]; omega)) rfl ?_
  rintro v w P11
  obtain ⟨a11, n11, c11, full11, rfl, H11, O11⟩ := seal_cases H P11
  rw [hse] at O11 ⊢
  refine op_move rfl (.tuple _) rfl ?_
  refine op_extract rfl rfl rfl ?_
  refine op_extract rfl rfl rfl ?_
  refine op_assign rfl (.slice _ _ _) rfl ?_
  refine op_assign rfl (.int _ _) rfl ?_
  refine op_nil (at_then ?_)
  refine W_seq ?_
  refine W_rseq ?_
  refine op_move rfl (.int _ _) rfl ?_
  refine op_neq rfl rfl rfl ?_
  refine op_nil (at_then ?_)
  refine W_joinK 65544 (α := Nat × Nat × List Value) (fun s => [(3, .slice (some ⟨s.1, 0, none⟩) 512 s.2.1)]) (fun s w' => Ctx w0 [] w' [(b1, Bl 47 x.enc), (s.1, Bl 5 s.2.2)] ∧ s.2.2.take 512 = (rawBase x).map bv ∧ s.2.2.length = s.2.1 ∧ 512 ≤ s.2.1) rfl ?_ ?_
  · skip
    refine W_cond _ rfl ?_ ?_
    · intro h1
      replace h1 := ndec_t h1
      have hgt : ¬ x.b.length ≤ 497 := fun h => by rw [decide_eq_true h] at h1; exact h1 rfl
      have H : Ctx w0 [] w [(b1, Bl 47 x.enc)] := Ctx.left H11
      refine W_region ?_
      refine op_make rfl el_23 sz_5 by_5 zc_5 rfl rfl (by omega) (by omega) (by omega) (by omega) H ?_
      rintro b16 w - H
      refine op_assign rfl (.slice _ _ _) rfl ?_
      refine op_nil (at_then ?_)
      refine ⟨(b16, 512, List.replicate 512 (.int .u8 0)), rfl, ⟨rfl, trivial⟩, H.perm (List.Perm.swap ..), ?_, by rw [List.length_replicate], Nat.le_refl _⟩
      rw [rawBase, if_neg hgt]; rfl
    · intro h1
      replace h1 := ndec_f h1
      have hle : x.b.length ≤ 497 := Classical.byContradiction fun h => by rw [decide_eq_false h] at h1; cases h1
      refine W_skip (at_then ?_)
      have O := O11 h1
      have h5 : (rootB x.gen x.b).length = 512 := seal_len (by rw [hlr]; omega)
      have hn5 : n11 = 512 := by have h9 := O.llen; rw [List.length_map] at h9; have h8 : (sealB 1 (putN x.gen 8 ++ x.b)).length = 512 := h5; omega
      subst hn5
      obtain ⟨b, hb⟩ := O.form (by decide)
      subst hb
      refine ⟨(b, c11, full11), rfl, ⟨rfl, trivial⟩, H11, ?_, by have h7 := O.len; rw [Nat.mul_one] at h7; exact h7, O.le⟩
      rw [rawBase, if_pos hle]
      exact O.pre
  · rintro ⟨b, c, full⟩ j w ⟨H, hfull, hlen, hc⟩
    dsimp only at H hfull hlen hc
    dsimp only
    have hb1 := H.get at0
    have hbb := H.get at1
    have ho := H.own _ (List.mem_cons_of_mem _ (List.mem_cons_self ..))
    have hne := H.ne at0 at1 (by decide)
    have hbl := rawBase_len x
    have hq : x.pos % 512 < 512 := Nat.mod_lt _ (by decide)
    obtain ⟨y, hy⟩ := get_some (l := rawBase x) (i := x.pos % 512) (by omega)
    have hfy : full[x.pos % 512]? = some (bv y) := by
      have h1 : (full.take 512)[x.pos % 512]? = some (bv y) := by rw [hfull, List.getElem?_map, hy]; rfl
      rwa [List.getElem?_take, if_pos hq] at h1
    have H0 := H
    have hyl := y.toNat_lt
    have hbyl := x.by'.toNat_lt
    have HT : ∀ z, Ext [] w z → Ctx w [] z [] := fun z hz => (Ctx.start w []).call hz
    refine W_sseqz [([0, 1, 2, 3, 4, 5, 6, 7, 8, 9, 10, 11, 12], 13)] (fun z => Ext [] w z) [13] mixed (by kernel_rfl) (Ext.drew _ w) ?_
    refine seg_cons rfl rfl ?_
    refine t_move rfl (.slice _ _ _) rfl ?_
    refine t_fieldAddr rfl fo_47_4_StH2 rfl ?_
    first | refine t_ldb rfl ag_24_StH2 rfl HT (by first | exact at0 | exact at1 | exact at2 | exact at3 | exact at4 | exact at5 | exact at6 | exact at7 | exact at8 | exact at9) rfl ?_ | refine t_ld rfl ag_24_StH2 rfl (fun _ hx => hx.cell (cell_bl hb1 (0 + 4)) (by simp)) ?_ | refine t_ld rfl ag_24_StH2 rfl (fun _ hx => hx.cell (cell_bl hb1 (0 + 5)) (by simp)) ?_ | refine t_ld rfl ag_24_StH2 rfl (fun _ hx => hx.cell ((cell_bl hbb (0 + (x.pos % 512) * 1)).trans (by rw [Nat.zero_add, Nat.mul_one]; exact hfy)) (by simp)) ?_
    refine t_conv_i64 rfl rfl un_24_StH2 un_3 (by omega) (by omega) ?_
    refine t_move rfl (.slice _ _ _) rfl ?_
    refine t_len rfl el_23 rfl ?_
    refine t_rem rfl rfl rfl (by omega) (by omega) ?_
    rw [show ((x.pos : Int) % ((512 : Nat) : Int)) = ((x.pos % 512 : Nat) : Int) by omega]
    refine t_indexAddr rfl el_23 sz_5 rfl rfl (by omega) (by omega) ?_
    first | refine t_ldb rfl ag_5 rfl HT (by first | exact at0 | exact at1 | exact at2 | exact at3 | exact at4 | exact at5 | exact at6 | exact at7 | exact at8 | exact at9) rfl ?_ | refine t_ld rfl ag_5 rfl (fun _ hx => hx.cell (cell_bl hb1 (0 + 4)) (by simp)) ?_ | refine t_ld rfl ag_5 rfl (fun _ hx => hx.cell (cell_bl hb1 (0 + 5)) (by simp)) ?_ | refine t_ld rfl ag_5 rfl (fun _ hx => hx.cell ((cell_bl hbb (0 + (x.pos % 512) * 1)).trans (by rw [Nat.zero_add, Nat.mul_one]; exact hfy)) (by simp)) ?_
    refine t_fieldAddr rfl fo_47_5_StH2 rfl ?_
    first | refine t_ldb rfl ag_5 rfl HT (by first | exact at0 | exact at1 | exact at2 | exact at3 | exact at4 | exact at5 | exact at6 | exact at7 | exact at8 | exact at9) rfl ?_ | refine t_ld rfl ag_5 rfl (fun _ hx => hx.cell (cell_bl hb1 (0 + 4)) (by simp)) ?_ | refine t_ld rfl ag_5 rfl (fun _ hx => hx.cell (cell_bl hb1 (0 + 5)) (by simp)) ?_ | refine t_ld rfl ag_5 rfl (fun _ hx => hx.cell ((cell_bl hbb (0 + (x.pos % 512) * 1)).trans (by rw [Nat.zero_add, Nat.mul_one]; exact hfy)) (by simp)) ?_
    refine t_xor_u8 (a := y.toNat) (b := x.by'.toNat) rfl rfl rfl (by omega) (by omega) ?_
    rw [bv_xor]
    refine t_indexAddr rfl el_23 sz_5 rfl rfl (by omega) (by omega) ?_
    refine t_nil ?_
    skip
    refine op_stb (bv _) rfl sz_5 rfl rfl rfl (Ctx.start1 (show (World.drew w).heap[b]? = _ from hbb)) at0 (by omega) ?_
    rintro wE HE
    refine op_nil (at_segz rfl ?_)
    refine seg_nil ?_
    refine W_rseq ?_
    refine op_move rfl (.slice _ _ _) rfl ?_
    refine op_assign rfl (.slice _ _ _) rfl ?_
    refine op_nil (at_then ?_)
    refine W_ret (leave1 (v := (.slice _ _ _)) rfl rfl rfl ?_)
    have hbn : w0.heap.size ≤ b := ho.elim (fun h => by cases h) id
    refine ⟨⟨some ⟨b, 0, none⟩, 512, c, full.set (0 + ((x.pos % 512 : Nat) : Int).toNat * 1) (bv (y ^^^ x.by')), rfl, ⟨(fun p hp => by cases hp; rfl), (fun h => by cases h), (by rw [List.length_set]; omega), hc, ?_⟩, fun z hz => by rw [List.mem_singleton.1 hz]; exact ⟨HE.get at0, hbn⟩⟩, H0.ext.then ((Ext.drew [b] w).trans HE.ext) fun z hz => .inr (by rw [List.mem_singleton.1 hz]; exact hbn)⟩
    rw [Nat.mul_one, Nat.zero_add, Nat.mul_one, List.take_set, hfull, set_map, rawB, modify_set hy, Int.toNat_natCast]

end Go.Proofs.YtkmbcpgnafmnpaaDoor

/- Two devices side by side: the program's and the document's. -/
namespace Go.Proofs.YtkmbcpgnafmnpaaDoor
open Go.GV
attribute [local irreducible] Wops W Wq Wt

structure Two (w0 w : World) (bd rd : Nat) (A B : Dev) (F G : Nat → Prop) : Prop where
  ext : Ext [] w0 w
  dev : DevAt w bd A F
  ref : RefAt w rd B G
  f : ∀ x, F x → w0.heap.size ≤ x ∧ x < w.heap.size
  g : ∀ x, G x → w0.heap.size ≤ x ∧ x < w.heap.size
  fg : ∀ x, F x → ¬ G x

/-- Blocks that are neither's stay so, and stay as they are. -/
structure Still (F G F' G' : Nat → Prop) (w w' : World) : Prop where
  blk : ∀ b, b < w.heap.size → ¬ F b → ¬ G b → w'.heap[b]? = w.heap[b]?
  fg : ∀ b, b < w.heap.size → ¬ F b → ¬ G b → ¬ F' b ∧ ¬ G' b
  size : w.heap.size ≤ w'.heap.size
def Free (w : World) (F G : Nat → Prop) (b : Nat) : Prop := b < w.heap.size ∧ ¬ F b ∧ ¬ G b
theorem Free.go {w w' : World} {F G F' G' : Nat → Prop} {b : Nat} (h : Free w F G b) (s : Still F G F' G' w w') : Free w' F' G' b :=
  ⟨Nat.lt_of_lt_of_le h.1 s.size, s.fg b h.1 h.2.1 h.2.2⟩
theorem Rd.same {w w' : World} {α : Type} {a : Option Addr} {s : Nat} {enc : α → List Value} {l : List α} (R : Rd w a s enc l) (h : w'.heap[(adr a).block]? = w.heap[(adr a).block]?) : Rd w' a s enc l :=
  ⟨R.some', fun i x hx j v hv hj => by
    have h1 := R.cell i x hx j v hv hj
    unfold World.cell? at h1 ⊢
    rw [h]; exact h1⟩
/-- What is read, and lies elsewhere. -/
def RdF {α : Type} (w : World) (F G : Nat → Prop) (a : Option Addr) (s : Nat) (enc : α → List Value) (l : List α) : Prop := Rd w a s enc l ∧ (l = [] ∨ Free w F G (adr a).block)
theorem RdF.go {α : Type} {w w' : World} {F G F' G' : Nat → Prop} {a : Option Addr} {s : Nat} {enc : α → List Value} {l : List α} (h : RdF w F G a s enc l) (t : Still F G F' G' w w') : RdF w' F' G' a s enc l := by
  obtain ⟨R, hn⟩ := h
  rcases hn with rfl | hn
  · exact ⟨Rd.nil, .inl rfl⟩
  · exact ⟨Rd.same R (t.blk _ hn.1 hn.2.1 hn.2.2), .inr (hn.go t)⟩
def BlF (w : World) (F G : Nat → Prop) (b : Nat) (o : Obj) : Prop := w.heap[b]? = some o ∧ Free w F G b
theorem BlF.go {w w' : World} {F G F' G' : Nat → Prop} {b : Nat} {o : Obj} (h : BlF w F G b o) (t : Still F G F' G' w w') : BlF w' F' G' b o :=
  ⟨by rw [t.blk _ h.2.1 h.2.2.1 h.2.2.2]; exact h.1, h.2.go t⟩
theorem Still.call {w w' : World} {F G : Nat → Prop} (hx : Ext [] w w') : Still F G F G w w' := ⟨fun b hb _ _ => hx.block b hb (by simp), fun _ _ h1 h2 => ⟨h1, h2⟩, hx.size⟩

theorem rd_lt {w : World} {α : Type} {a : Option Addr} {s : Nat} {enc : α → List Value} {l : List α} (R : Rd w a s enc l) (hs : 0 < s) (he : ∀ x ∈ l, (enc x).length = s) : l = [] ∨ (adr a).block < w.heap.size := by
  cases l with
  | nil => exact .inl rfl
  | cons x l =>
    obtain ⟨v, hv⟩ := get_some (l := enc x) (i := 0) (by have := he x (List.mem_cons_self ..); omega)
    have h9 := World.block_lt_of_cell? w ⟨(adr a).block, _, none⟩ (R.cell 0 x rfl 0 _ hv hs)
    exact .inr h9

section
variable {w0 w w' : World} {bd rd : Nat} {A B A' B' : Dev} {F G : Nat → Prop}

theorem Two.call (T : Two w0 w bd rd A B F G) (hx : Ext [] w w') : Two w0 w' bd rd A B F G :=
  ⟨T.ext.trans hx, T.dev.keep0 hx, T.ref.keep0 hx, fun x h => by have := T.f x h; have := hx.size; omega, fun x h => by have := T.g x h; have := hx.size; omega, T.fg⟩
theorem Two.devg (T : Two w0 w bd rd A B F G) (h : DevAt w' bd A' (grow F w w')) (t : Turn F w w') : Two w0 w' bd rd A' B (grow F w w') G ∧ Still F G (grow F w w') G w w' := by
  have h1 := t.size
  have h2 := T.ext.size
  have hx0 := t.new T.ext fun x h => (T.f x h).1
  obtain ⟨S, hS, hx⟩ := t
  have hgr : ∀ x, grow F w w' x → (w0.heap.size ≤ x ∧ x < w'.heap.size) := fun x hx => by
    rcases hx with hx | hx
    · have := T.f x hx; omega
    · omega
  refine ⟨⟨hx0, h, T.ref.keep hx fun x h => T.fg x (hS x h), hgr, fun x h => by have := T.g x h; omega, fun x hx hg => ?_⟩, ⟨fun b hb hF _ => hx.block b hb fun h => hF (hS b h), fun b hb hF hG => ⟨fun h => h.elim hF fun h => by omega, hG⟩, h1⟩⟩
  rcases hx with hx | hx
  · exact T.fg x hx hg
  · have := T.g x hg; omega
theorem Two.devs (T : Two w0 w bd rd A B F G) (h : DevAt w' bd A' F) (t : Turn F w w') : Two w0 w' bd rd A' B F G ∧ Still F G F G w w' := by
  have h1 := t.size
  have hx0 := t.new T.ext fun x h => (T.f x h).1
  obtain ⟨S, hS, hx⟩ := t
  exact ⟨⟨hx0, h, T.ref.keep hx fun x h => T.fg x (hS x h), fun x h => by have := T.f x h; omega, fun x h => by have := T.g x h; omega, T.fg⟩, ⟨fun b hb hF _ => hx.block b hb fun h => hF (hS b h), fun b _ hF hG => ⟨hF, hG⟩, h1⟩⟩
theorem Two.refg (T : Two w0 w bd rd A B F G) (h : RefAt w' rd B' (grow G w w')) (t : Turn G w w') : Two w0 w' bd rd A B' F (grow G w w') ∧ Still F G F (grow G w w') w w' := by
  have h1 := t.size
  have h2 := T.ext.size
  have hx0 := t.new T.ext fun x h => (T.g x h).1
  obtain ⟨S, hS, hx⟩ := t
  have hgr : ∀ x, grow G w w' x → (w0.heap.size ≤ x ∧ x < w'.heap.size) := fun x hx => by
    rcases hx with hx | hx
    · have := T.g x hx; omega
    · omega
  refine ⟨⟨hx0, T.dev.keep hx fun x h hF => T.fg x hF (hS x h), h, fun x h => by have := T.f x h; omega, hgr, fun x hF hg => ?_⟩, ⟨fun b hb _ hG => hx.block b hb fun h => hG (hS b h), fun b hb hF hG => ⟨hF, fun h => h.elim hG fun h => by omega⟩, h1⟩⟩
  rcases hg with hg | hg
  · exact T.fg x hF hg
  · have := T.f x hF; omega
theorem Two.refs (T : Two w0 w bd rd A B F G) (h : RefAt w' rd B' G) (t : Turn G w w') : Two w0 w' bd rd A B' F G ∧ Still F G F G w w' := by
  have h1 := t.size
  have hx0 := t.new T.ext fun x h => (T.g x h).1
  obtain ⟨S, hS, hx⟩ := t
  exact ⟨⟨hx0, T.dev.keep hx fun x h hF => T.fg x hF (hS x h), h, fun x h => by have := T.f x h; omega, fun x h => by have := T.g x h; omega, T.fg⟩, ⟨fun b hb _ hG => hx.block b hb fun h => hG (hS b h), fun b _ hF hG => ⟨hF, hG⟩, h1⟩⟩
/-- An argument lies elsewhere. -/
theorem Two.old {α : Type} {a : Option Addr} {s : Nat} {enc : α → List Value} {l : List α} (T : Two w0 w bd rd A B F G) (R : Rd w0 a s enc l) (hs : 0 < s) (he : ∀ x ∈ l, (enc x).length = s) : RdF w F G a s enc l :=
  ⟨R.ext0 T.ext, (rd_lt R hs he).imp id fun h => ⟨Nat.lt_of_lt_of_le h T.ext.size, fun h' => by have := T.f _ h'; omega, fun h' => by have := T.g _ h'; omega⟩⟩
/-- A block that is newer. -/
theorem Two.newer (T : Two w0 w bd rd A B F G) {b : Nat} (h1 : w.heap.size ≤ b) (h2 : b < w'.heap.size) : Free w' F G b :=
  ⟨h2, fun h => by have := T.f _ h; omega, fun h => by have := T.g _ h; omega⟩

/-! ### What is done to both -/
theorem two_save (T : Two w0 w bd rd A B F G) (gen : Nat) (hgen : gen < 18446744073709551616) (a : Option Addr) (c n : Nat) (body : Byt) (R : Rd w a 1 B8 body) (hn : body.length = n) (hm : n ≤ 140737488351231) {mx : Nat} (hfew : Few A mx) (hmx : mx < 1000000000000) :
    Ret Tryd.prog 13 #[ptr bd, .int .u64 (gen : Int), .slice a n c] w fun v w' => v = .int .i64 (saveE A gen body) ∧ ∃ F', Two w0 w' bd rd (saveD A gen body) B F' G ∧ Still F G F' G w w' :=
  (save_ok gen hgen a c n body R hn hm (fun x h => (T.f x h).2) hfew hmx T.dev).mono fun _ _ ⟨hv, hd, ht⟩ => ⟨hv, _, T.devg hd ht⟩
theorem two_rsave (T : Two w0 w bd rd A B F G) (gen : Nat) (hgen : gen < 18446744073709551616) (a : Option Addr) (c n : Nat) (body : Byt) (R : Rd w a 1 B8 body) (hn : body.length = n) (hm : n ≤ 140737488351231) {mx : Nat} (hfew : Few B mx) (hmx : mx < 1000000000000) :
    Ret Tryd.prog 19 #[ptr rd, .int .u64 (gen : Int), .slice a n c] w fun v w' => v = .int .i64 (saveE B gen body) ∧ ∃ G', Two w0 w' bd rd A (saveD B gen body) F G' ∧ Still F G F G' w w' :=
  (rsave_ok gen hgen a c n body R hn hm (fun x h => (T.g x h).2) hfew hmx T.ref).mono fun _ _ ⟨hv, hd, ht⟩ => ⟨hv, _, T.refg hd ht⟩
theorem two_write (T : Two w0 w bd rd A B F G) (k : Int) (a : Option Addr) (c n : Nat) (l : Byt) (R : RdF w F G a 1 B8 l) (hn : l.length = n) (hm : n ≤ 140737488351232) {mx : Nat} (hfew : Few A mx) (hmx : mx ≤ 1000000000000) :
    Ret Tryd.prog 15 #[ptr bd, .int .i64 k, .slice a n c] w fun v w' => v = .int .i64 (writeE A k l) ∧ ∃ F', Two w0 w' bd rd (writeD A k l) B F' G ∧ Still F G F' G w w' :=
  (dwrite_ok k a c n l R.1 hn hm (R.2.imp id fun h => h.2.1) hfew hmx T.dev).mono fun _ _ ⟨hv, hd, ht⟩ => ⟨hv, _, T.devg hd ht⟩
theorem two_rwrite (T : Two w0 w bd rd A B F G) (k : Int) (a : Option Addr) (c n : Nat) (l : Byt) (R : RdF w F G a 1 B8 l) (hn : l.length = n) {mx : Nat} (hfew : Few B mx) (hmx : mx ≤ 1000000000000) :
    Ret Tryd.prog 27 #[ptr rd, .int .i64 k, .slice a n c] w fun v w' => v = .int .i64 (writeE B k l) ∧ ∃ G', Two w0 w' bd rd A (writeD B k l) F G' ∧ Still F G F G' w w' :=
  (rwrite_ok k a c n l R.1 hn (R.2.imp id fun h => h.2.2) hfew hmx T.ref).mono fun _ _ ⟨hv, hd, ht⟩ => ⟨hv, _, T.refg hd ht⟩
theorem two_arm (T : Two w0 w bd rd A B F G) (n : Int) (hn : n ≤ 9223372036854775807) :
    Ret Tryd.prog 20 #[ptr bd, .int .i64 n] w fun v w' => v = .int .i64 (armE A) ∧ Two w0 w' bd rd (armD A n) B F G ∧ Still F G F G w w' :=
  (darm_ok n hn T.dev).mono fun _ _ ⟨hv, hd, ht⟩ => ⟨hv, T.devs hd ht⟩
theorem two_rarm (T : Two w0 w bd rd A B F G) (n : Int) (hn : n ≤ 9223372036854775807) :
    Ret Tryd.prog 21 #[ptr rd, .int .i64 n] w fun v w' => v = .int .i64 (armE B) ∧ Two w0 w' bd rd A (armD B n) F G ∧ Still F G F G w w' :=
  (rarm_ok n hn T.ref).mono fun _ _ ⟨hv, hd, ht⟩ => ⟨hv, T.refs hd ht⟩
theorem two_off (T : Two w0 w bd rd A B F G) :
    Ret Tryd.prog 22 #[ptr bd] w fun v w' => v = .int .i64 (armE A) ∧ Two w0 w' bd rd (offD A) B F G ∧ Still F G F G w w' :=
  (doff_ok T.dev).mono fun _ _ ⟨hv, hd, ht⟩ => ⟨hv, T.devs hd ht⟩
theorem two_roff (T : Two w0 w bd rd A B F G) :
    Ret Tryd.prog 23 #[ptr rd] w fun v w' => v = .int .i64 (armE B) ∧ Two w0 w' bd rd A (offD B) F G ∧ Still F G F G w w' :=
  (roff_ok T.ref).mono fun _ _ ⟨hv, hd, ht⟩ => ⟨hv, T.refs hd ht⟩
theorem two_on (T : Two w0 w bd rd A B F G) (a : Option Addr) (c n : Nat) (picks : List Int) (R : RdF w F G a 1 I64 picks) (hn : picks.length = n) (hm : n ≤ 9223372036854775000) (hc : n ≤ c) (hi64 : ∀ x ∈ picks, -9223372036854775808 ≤ x ∧ x ≤ 9223372036854775807) {mx : Nat} (hfew : Few A mx) (hmx : mx ≤ 1000000000000) :
    Ret Tryd.prog 24 #[ptr bd, .slice a n c] w fun v w' => v = .int .i64 (onE A) ∧ Two w0 w' bd rd (onD A picks) B F G ∧ Still F G F G w w' :=
  (donp_ok a c n picks R.1 hn hm hc (R.2.imp id fun h => h.2.1) hi64 hfew hmx T.dev).mono fun _ _ ⟨hv, hd, ht⟩ => ⟨hv, T.devs hd ht⟩
theorem two_comes (T : Two w0 w bd rd A B F G) (a : Option Addr) (c n : Nat) (picks : List Int) (R : RdF w F G a 1 I64 picks) (hn : picks.length = n) (hm : n ≤ 9223372036854775000) (hi64 : ∀ x ∈ picks, -9223372036854775808 ≤ x ∧ x ≤ 9223372036854775807) {mx : Nat} (hfew : Few B mx) (hmx : mx ≤ 1000000000000) :
    Ret Tryd.prog 25 #[ptr rd, .slice a n c] w fun v w' => v = .int .i64 (onE B) ∧ Two w0 w' bd rd A (onD B picks) F G ∧ Still F G F G w w' :=
  (rcomes_ok a c n picks R.1 hn hm (R.2.imp id fun h => h.2.2) hi64 hfew hmx T.ref).mono fun _ _ ⟨hv, hd, ht⟩ => ⟨hv, T.refs hd ht⟩
end

theorem Stp.one (x : Stp) : ∀ v ∈ x.enc, oneCell v = true := fun v hv => by
  simp only [Stp.enc, bv, List.mem_cons, List.not_mem_nil, or_false] at hv
  rcases hv with rfl | rfl | rfl | rfl | rfl | rfl | rfl <;> rfl
theorem Stp.Ok.ext {w w' : World} {x : Stp} (h : x.Ok w) (hx : Ext [] w w') : x.Ok w' := ⟨h.rb.ext0 hx, h.rp.ext0 hx, h.cb, h.cp, h.mb, h.mp, h.gen, h.n1, h.n2, h.pos, h.picks⟩

end Go.Proofs.YtkmbcpgnafmnpaaDoor

/- A string's pieces. -/
namespace Go.Proofs.YtkmbcpgnafmnpaaDoor
open Go.GV
theorem ca_35_JoC : callable Tryd.prog 35 = true := by kernel_rfl
attribute [local irreducible] Wops W Wq Wt

def chunkB (b : Byt) (i : Nat) : Byt := (b.drop (480 * i)).take 480
theorem chunkB_len (b : Byt) (i : Nat) : (chunkB b i).length = min 480 (b.length - 480 * i) := by rw [chunkB, List.length_take, List.length_drop]
/-- Bytes do not lie in a box. -/
theorem Rd.boxX {w w' : World} {a a2 : Option Addr} {l : Byt} {b t n c : Nat} (R : Rd w a 1 B8 l) (hb : w.heap[b]? = some (Bl t [.slice a2 n c])) (he : Ext [b] w w') : Rd w' a 1 B8 l := by
  cases l with
  | nil => exact Rd.nil
  | cons x l =>
    refine R.ext he fun h => ?_
    have h1 := R.cell 0 x rfl 0 (bv x) rfl (by decide)
    rw [List.mem_singleton.1 h, cell_bl hb] at h1
    have h2 := List.mem_of_getElem? h1
    simp [bv] at h2
theorem adr_cut (a : Option Addr) (c i s : Nat) : (adr (cutA a c i s)).block = (adr a).block := by
  unfold cutA; split
  · rfl
  · cases a with
    | none => rfl
    | some p =>
      obtain ⟨b, o, sp⟩ := p
      show (adr (some (Addr.add ⟨b, o, sp⟩ (i * s)))).block = b
      unfold Addr.add
      by_cases h : i * s = 0 <;> simp [h, adr]

set_option maxRecDepth 20000 in
set_option maxHeartbeats 2000000 in
theorem pieces1_ok {w : World} {l bx c : Nat} {a : Option Addr} {b : Byt} (hx : w.heap[bx]? = some (Bl 23 [.slice a b.length c])) (R : Rd w a 1 B8 b) (hc : b.length ≤ c) (hm : b.length ≤ 100000000) (J : Nat → World → Prop) (K : World → Prop)
    (hJ0 : J 0 w) (hst : ∀ i w' w'', J i w' → Ext [bx] w' w'' → J i w'')
    (hround : ∀ i ai ci w', i < blk b.length - 1 → J i w' → Rd w' ai 1 B8 (chunkB b i) → (adr ai).block = (adr a).block → (∃ a' n' c', w'.heap[bx]? = some (Bl 23 [.slice a' n' c'])) →
      Go.GV.YieldAt Tryd.prog l [.int .i64 (i : Int), .slice ai (chunkB b i).length ci] w' fun u w'' => w''.heap[bx]? = w'.heap[bx]? ∧ (b = [] ∨ w''.heap[(adr a).block]? = w'.heap[(adr a).block]?) ∧ ∃ t, u = .bool t ∧ (t = true → J (i + 1) w'') ∧ (t = false → K w'')) :
    Ret Tryd.prog 97 #[.func (.yield l) #[] #[], ptr bx] w fun _ w' => J (blk b.length - 1) w' ∨ K w' := by
  obtain ⟨w0, rfl⟩ : ∃ w0, w0 = w := ⟨_, rfl⟩
  have hb2 := blk_two b.length
  have hb3 := blk_le b.length
  refine ret_of_W (fn := Tryd.f97) Tryd.func97 rfl [.func (.yield l) #[] #[], .pointer (some ⟨bx, 0, none⟩)] rfl (by kernel_rfl) ?_
  refine W_rseq ?_
  first | refine op_ldb rfl ag_23 rfl H (by first | exact at0 | exact at1 | exact at2 | exact at3 | exact at4 | exact at5 | exact at6 | exact at7 | exact at8 | exact at9) rfl ?_ | refine op_ld rfl ag_23 rfl (cell_bl hx _) ?_
  refine op_len rfl el_23 rfl ?_
  refine op_call rfl ca_35_JoC (jblocks_ok (b.length : Int) (by omega) _) rfl ?_
  rintro v w ⟨rfl, rfl⟩
  rw [blkI_nat]
  refine op_sub_i64 rfl rfl rfl (by omega) (by omega) ?_
  refine op_move rfl (.int _ _) rfl ?_
  refine op_nil (at_then ?_)
  refine W_block ?_
  refine W_loop 67108376 (α := Nat × Option Addr × Nat) (fun s => [(9, .int .i64 s.1)]) (fun s w' => s.1 ≤ blk b.length - 1 ∧ J s.1 w' ∧ w'.heap[bx]? = some (Bl 23 [.slice s.2.1 (b.drop (480 * s.1)).length s.2.2]) ∧ Rd w' s.2.1 1 B8 (b.drop (480 * s.1)) ∧ (b.drop (480 * s.1)).length ≤ s.2.2 ∧ (adr s.2.1).block = (adr a).block) (fun s => blk b.length - 1 - s.1) (0, a, c) rfl ?_ ?_ ?_
  · exact ⟨rfl, trivial⟩
  · exact ⟨Nat.zero_le _, hJ0, hx, R, hc, rfl⟩
  · rintro ⟨i, ai, ci⟩ j w ⟨hi, hJ, hx, R, hc, ha⟩; dsimp only at hi hJ hx R hc ha; dsimp only
    refine W_rseq ?_
    refine op_lss rfl rfl rfl ?_
    refine op_nil (at_then ?_)
    refine W_seq ?_
    refine W_cond _ rfl ?_ ?_
    · intro h1
      replace h1 := dec_t h1
      have hcl := chunkB_len b i
      have hdl : (b.drop (480 * i)).length = b.length - 480 * i := List.length_drop
      refine W_skip (at_then ?_)
      refine W_seq ?_
      refine W_block ?_
      refine W_rseq ?_
      refine op_move rfl (.int _ _) rfl ?_
      refine op_assign rfl (.int _ _) rfl ?_
      refine op_nil (at_then ?_)
      refine W_rseq ?_
      first | refine op_ldb rfl ag_23 rfl H (by first | exact at0 | exact at1 | exact at2 | exact at3 | exact at4 | exact at5 | exact at6 | exact at7 | exact at8 | exact at9) rfl ?_ | refine op_ld rfl ag_23 rfl (cell_bl hx _) ?_
      refine op_len rfl el_23 rfl ?_
      refine op_min2 rfl rfl rfl ?_
      rw [show min (480 : Int) ((b.drop (480 * i)).length : Int) = ((chunkB b i).length : Int) by omega]
      refine op_assign rfl (.int _ _) rfl ?_
      refine op_nil (at_then ?_)
      refine W_seq ?_
      refine W_rseq ?_
      refine op_move rfl (.func _ _ _) rfl ?_
      refine op_move rfl (.int _ _) rfl ?_
      first | refine op_ldb rfl ag_23 rfl H (by first | exact at0 | exact at1 | exact at2 | exact at3 | exact at4 | exact at5 | exact at6 | exact at7 | exact at8 | exact at9) rfl ?_ | refine op_ld rfl ag_23 rfl (cell_bl hx _) ?_
      refine op_move rfl (.int _ _) rfl ?_
      refine op_slice_hi rfl el_23 sz_5 rfl rfl (by omega) (by omega) ?_
      refine op_yield rfl rfl (hround i ai ci w (by omega) hJ (R.take 480) ha ⟨_, _, _, hx⟩) rfl ?_
      rintro _ w5 ⟨hbx5, hba5, t, rfl, hT, hF⟩
      refine op_not rfl rfl ?_
      refine op_nil (at_then ?_)
      refine W_cond _ rfl ?_ ?_
      · intro h2
        replace h2 := nvar_t h2
        refine W_ret (ret_then (ret_block (ret_then (ret_then (ret_block (leave0 rfl rfl ?_))))))
        exact .inr (hF (by simpa using h2))
      · intro h2
        replace h2 := nvar_f h2
        have hx5 : w5.heap[bx]? = some (Bl 23 [.slice ai (b.drop (480 * i)).length ci]) := hbx5.trans hx
        have R5 : Rd w5 ai 1 B8 (b.drop (480 * i)) := by
          rcases hba5 with h0 | h0
          · rw [h0]; simp only [List.drop_nil]; exact Rd.nil
          · exact Rd.same R (by rw [ha]; exact h0)
        have H := Ctx.start1 hx5
        refine W_skip (at_then ?_)
        refine W_region ?_
        first | refine op_ldb rfl ag_23 rfl H (by first | exact at0 | exact at1 | exact at2 | exact at3 | exact at4 | exact at5 | exact at6 | exact at7 | exact at8 | exact at9) rfl ?_ | refine op_ld rfl ag_23 rfl (cell_bl hx5 _) ?_
        refine op_move rfl (.int _ _) rfl ?_
        refine op_slice_lo rfl el_23 sz_5 rfl rfl (by omega) (by omega) ?_
        refine op_stb (.slice _ _ _) rfl sz_23 rfl rfl rfl H (by first | exact at0 | exact at1 | exact at2 | exact at3 | exact at4 | exact at5 | exact at6 | exact at7 | exact at8 | exact at9) (by first | decide | (simp; done) | (simp; omega)) ?_
        rintro w H
        refine op_nil (at_block (at_then ?_))
        refine W_region ?_
        refine op_add_i64 rfl rfl rfl (by omega) (by omega) ?_
        refine op_move rfl (.int _ _) rfl ?_
        refine op_nil (at_then ?_)
        have hnl : (b.drop (480 * (i + 1))).length = b.length - 480 * (i + 1) := List.length_drop
        have Rc := R5.cut (chunkB b i).length ci hc
        have hde : (b.drop (480 * i)).drop (chunkB b i).length = b.drop (480 * (i + 1)) := by
          rw [List.drop_drop]
          by_cases h480 : 480 ≤ b.length - 480 * i
          · congr 1; omega
          · rw [List.drop_eq_nil_of_le (by omega), List.drop_eq_nil_of_le (by omega)]
        rw [hde] at Rc
        refine ⟨(i + 1, cutA ai ci (chunkB b i).length 1, ci - (chunkB b i).length), rfl, ⟨rfl, trivial⟩, ⟨by dsimp only; omega, hst _ _ _ (hT (by simpa using h2)) H.ext, ?_, Rd.boxX Rc hx5 H.ext, by dsimp only; omega, (adr_cut ..).trans ha⟩, by dsimp only; omega⟩
        dsimp only
        rw [H.get at0, show (b.drop (480 * (i + 1))).length = (b.drop (480 * i)).length - (chunkB b i).length by omega]
        rfl
    · intro h1
      replace h1 := dec_f h1
      have hib : i = blk b.length - 1 := by omega
      subst hib
      refine W_exit (exit_then (exit_then (exit_here (leave0n rfl rfl ?_))))
      exact .inl hJ

theorem pieces_ok (a : Option Addr) (n c : Nat) (w : World) : Ret Tryd.prog 86 #[.slice a n c] w fun v w' => ∃ bx, v = .func (.func 97) #[] #[ptr bx] ∧ w'.heap[bx]? = some (Bl 23 [.slice a n c]) ∧ w.heap.size ≤ bx ∧ Ext [] w w' := by
  obtain ⟨w0, rfl⟩ : ∃ w0, w0 = w := ⟨_, rfl⟩
  have H := Ctx.start w0 []
  refine ret_of_W (fn := Tryd.f86) Tryd.func86 rfl [.slice a n c] rfl (by kernel_rfl) ?_
  refine W_rseq ?_
  refine op_box rfl _ (.slice _ _ _) rfl rfl H ?_
  rintro b1 w - H
  refine op_assign rfl .nilFunc rfl ?_
  refine op_nil (at_then ?_)
  refine W_rseq ?_
  refine op_makeFuncL rfl [.pointer _] rfl ?_
  refine op_assign rfl (.func _ _ _) rfl ?_
  refine op_nil (at_then ?_)
  refine W_ret (leave1 (v := (.func _ _ _)) rfl rfl rfl ?_)
  exact ⟨b1, rfl, H.get at0, (H.own _ (List.mem_cons_self ..)).elim (fun h => by cases h) id, H.ext⟩

end Go.Proofs.YtkmbcpgnafmnpaaDoor

/- A journal writes a string. -/
namespace Go.Proofs.YtkmbcpgnafmnpaaDoor
open Go.GV
theorem ag_28_JoD : aggB Tryd.prog 28 = some false := by kernel_rfl
theorem ag_57_JoD : aggB Tryd.prog 57 = some false := by kernel_rfl
theorem ca_35_JoD : callable Tryd.prog 35 = true := by kernel_rfl
theorem ca_49_JoD : callable Tryd.prog 49 = true := by kernel_rfl
theorem ca_83_JoD : callable Tryd.prog 83 = true := by kernel_rfl
theorem ca_85_JoD : callable Tryd.prog 85 = true := by kernel_rfl
theorem ca_86_JoD : callable Tryd.prog 86 = true := by kernel_rfl
theorem ca_87_JoD : callable Tryd.prog 87 = true := by kernel_rfl
theorem ca_97_JoD : callable Tryd.prog 97 = true := by kernel_rfl
theorem fo_108_0_JoD : fieldO Tryd.prog 108 0 = some 0 := by kernel_rfl
theorem sz_28_JoD : tsize Tryd.prog 28 = some 1 := by kernel_rfl
theorem zc_28_JoD : zcells Tryd.prog 28 = some ([.int .i64 0]) := by kernel_rfl
attribute [local irreducible] Wops W Wq Wt

/-- A result in a cell, behind marks. -/
theorem leaveM1c {P : Program} {e : Env} {w : World} {fn : Func} {R : Value → World → Prop} {a : Tmp} {t : TypeId} {p : Addr} (hr : fn.results = #[.cell a t]) (ha : e.g a = .pointer (some p)) (h : Marks e.ds w fun w' => ∃ v, (loadVar t p).run P w' = .ok v w' ∧ R v w') : QretM P fn R .ret e w :=
  Marks.mono (fun w ⟨v, hv, h⟩ tmps ht => by
    have h1 := (ht a).trans ha
    rw [Array.getD_eq_getD_getElem?] at h1
    exact ⟨v, by simp [results, hr, h1, asAddr, hv], h⟩) h

/-- The first pieces of a string are written: the first error, and the device. -/
def wrP (A : Dev) (J : Jr) (b : Byt) : Nat → Int × Dev
  | 0 => (0, A)
  | i + 1 => if (wrP A J b i).1 = 0 then (putE (wrP A J b i).2 J i 1 (pieceB J.seq i (chunkB b i)), putD (wrP A J b i).2 J i 1 (pieceB J.seq i (chunkB b i))) else wrP A J b i
theorem wrP_stop {A : Dev} {J : Jr} {b : Byt} {i : Nat} (h : (wrP A J b i).1 ≠ 0) : ∀ n, i ≤ n → wrP A J b n = wrP A J b i
  | 0, hn => by rw [show i = 0 by omega]
  | n + 1, hn => by
    by_cases hi : i = n + 1
    · rw [hi]
    · have ih := wrP_stop h n (by omega)
      have h9 : wrP A J b (n + 1) = if (wrP A J b n).1 = 0 then (putE (wrP A J b n).2 J n 1 (pieceB J.seq n (chunkB b n)), putD (wrP A J b n).2 J n 1 (pieceB J.seq n (chunkB b n))) else wrP A J b n := rfl
      rw [h9, if_neg (by rw [ih]; exact h), ih]
theorem wrP_few {A : Dev} {J : Jr} {b : Byt} {m : Nat} (h : Few A m) : ∀ i, Few (wrP A J b i).2 (m + i)
  | 0 => h
  | i + 1 => by
    unfold wrP
    split
    · exact write_few (wrP_few h i) _ _
    · exact (wrP_few h i).mono (by omega)
/-- A string is written. -/
def writeJ (A : Dev) (J : Jr) (b : Byt) : Int × Dev :=
  if (wrP A J b (blk b.length - 1)).1 = 0 then
    (if flushE (wrP A J b (blk b.length - 1)).2 = 0 then
      (if putE (flushD (wrP A J b (blk b.length - 1)).2) J (blk b.length - 1) 2 (endB J.seq b) = 0 then
        (flushE (putD (flushD (wrP A J b (blk b.length - 1)).2) J (blk b.length - 1) 2 (endB J.seq b)), flushD (putD (flushD (wrP A J b (blk b.length - 1)).2) J (blk b.length - 1) 2 (endB J.seq b)))
      else (putE (flushD (wrP A J b (blk b.length - 1)).2) J (blk b.length - 1) 2 (endB J.seq b), putD (flushD (wrP A J b (blk b.length - 1)).2) J (blk b.length - 1) 2 (endB J.seq b)))
    else (flushE (wrP A J b (blk b.length - 1)).2, flushD (wrP A J b (blk b.length - 1)).2))
  else wrP A J b (blk b.length - 1)

/-- A device that grew since, and what lies beside it. -/
structure Dv (w0 w : World) (bd : Nat) (A : Dev) (F F' : Nat → Prop) (L : List (Nat × Obj)) : Prop where
  dev : DevAt w bd A F'
  turn : Turn F w0 w
  own : ∀ x, F' x → F x ∨ (w0.heap.size ≤ x ∧ x < w.heap.size)
  lt : ∀ x, F' x → x < w.heap.size
  blk : ∀ x ∈ L, w.heap[x.1]? = some x.2
  off : ∀ x ∈ L, ¬ F' x.1
theorem Dv.step {w0 w w' : World} {bd : Nat} {A A' : Dev} {F F' : Nat → Prop} {L : List (Nat × Obj)} (D : Dv w0 w bd A F F' L) (h : DevAt w' bd A' (grow F' w w')) (t : Turn F' w w') : Dv w0 w' bd A' F (grow F' w w') L := by
  have h1 := t.size
  have h0 := D.turn.size
  have ht : Turn F w0 w' := D.turn.trans t fun x h => (D.own x h).elim .inl fun h => .inr h.1
  obtain ⟨S, hS, hx⟩ := t
  refine ⟨h, ht, fun x hx => ?_, fun x hx => ?_, fun x hx' => ?_, fun x hx' hg => ?_⟩
  · rcases hx with hx | hx
    · rcases D.own x hx with h | h
      · exact .inl h
      · exact .inr ⟨h.1, by omega⟩
    · exact .inr ⟨by omega, hx.2⟩
  · rcases hx with hx | hx
    · have := D.lt x hx; omega
    · exact hx.2
  · rw [hx.block x.1 (heap_lt (D.blk x hx')) fun h => D.off x hx' (hS _ h)]; exact D.blk x hx'
  · rcases hg with hg | hg
    · exact D.off x hx' hg
    · have := heap_lt (D.blk x hx'); omega
theorem Dv.same {w0 w w' : World} {bd : Nat} {A A' : Dev} {F F' : Nat → Prop} {L : List (Nat × Obj)} (D : Dv w0 w bd A F F' L) (h : DevAt w' bd A' F') (t : Turn F' w w') : Dv w0 w' bd A' F F' L := by
  have h1 := t.size
  have ht : Turn F w0 w' := D.turn.trans t fun x h => (D.own x h).elim .inl fun h => .inr h.1
  obtain ⟨S, hS, hx⟩ := t
  exact ⟨h, ht, fun x hx => (D.own x hx).elim .inl fun h => .inr ⟨h.1, by omega⟩, fun x hx => by have := D.lt x hx; omega, fun x hx' => by
    rw [hx.block x.1 (heap_lt (D.blk x hx')) fun h => D.off x hx' (hS _ h)]; exact D.blk x hx', D.off⟩
theorem Dv.call {w0 w w' : World} {bd : Nat} {A : Dev} {F F' : Nat → Prop} {L : List (Nat × Obj)} (D : Dv w0 w bd A F F' L) (hx : Ext [] w w') : Dv w0 w' bd A F F' L := D.same (D.dev.keep0 hx) (.of0 hx)
/-- Something else that is new is turned. -/
theorem Dv.other {w0 w w' : World} {bd : Nat} {A : Dev} {F F' : Nat → Prop} {L L' : List (Nat × Obj)} (D : Dv w0 w bd A F F' L) {b : Nat} (hx : Ext [b] w w') (hb : w0.heap.size ≤ b) (hn : ¬ F' b) (hL : ∀ x ∈ L', w'.heap[x.1]? = some x.2 ∧ ¬ F' x.1) : Dv w0 w' bd A F F' L' := by
  have h1 := hx.size
  refine ⟨D.dev.keep hx fun x h => by rw [List.mem_singleton.1 h]; exact hn, D.turn.trans (.of hx (S := [b]) (F := fun x => x = b) fun x h => List.mem_singleton.1 h) fun x h => .inr (by rw [h]; exact hb), fun x hx => (D.own x hx).elim .inl fun h => .inr ⟨h.1, by omega⟩, fun x hx => by have := D.lt x hx; omega, fun x h => (hL x h).1, fun x h => (hL x h).2⟩
theorem Dv.sub {w0 w : World} {bd : Nat} {A : Dev} {F F' : Nat → Prop} {L L' : List (Nat × Obj)} (D : Dv w0 w bd A F F' L) (h : ∀ x ∈ L', x ∈ L) : Dv w0 w bd A F F' L' := ⟨D.dev, D.turn, D.own, D.lt, fun x hx => D.blk x (h x hx), fun x hx => D.off x (h x hx)⟩

theorem jumped_ret {Q : Exit → Env → World → Prop} {e : Env} {w : World} {j : Option Code} (hj : j = some .ret) (h : Q .ret e w) : jumped Q e w j := by subst hj; exact h
/-- How a write is left. -/
theorem jwrite_end {w0 w : World} {bd bj b4 Db : Nat} {A : Dev} {F F' : Nat → Prop} {L : List (Nat × Obj)} {e : Int} {oj : Obj} {d : Deferred} (D : Dv w0 w bd A F F' ((b4, Bl 28 [.int .i64 e]) :: L)) (hd : d.target = .collected Db) (hDm : (Db, .deferred (some [])) ∈ L) (hDb : w0.heap.size ≤ Db) (hjm : (bj, oj) ∈ L) (hjD : bj ≠ Db) (h4D : b4 ≠ Db) :
    Marks [d] w fun w' => ∃ v, (loadVar 28 ⟨b4, 0, none⟩).run Tryd.prog w' = .ok v w' ∧ (v = .int .i64 e ∧ ∃ F', Dv w0 w' bd A F F' [(bj, oj)]) := by
  refine ⟨Db, hd, D.blk _ (List.mem_cons_of_mem _ hDm), ?_⟩
  have hx := Ext.setB w Db (.deferred none)
  have h4 : (w.putObj Db (.deferred none)).heap[b4]? = some (Bl 28 [.int .i64 e]) := by
    rw [hx.block b4 (heap_lt (D.blk _ (List.mem_cons_self ..))) (by simpa using h4D)]; exact D.blk _ (List.mem_cons_self ..)
  refine ⟨_, run_load1 ag_28_JoD (cell_bl h4 0), rfl, F', D.other hx hDb (D.off _ (List.mem_cons_of_mem _ hDm)) fun x hx' => ?_⟩
  rw [List.mem_singleton.1 hx']
  exact ⟨by rw [hx.block bj (heap_lt (D.blk _ (List.mem_cons_of_mem _ hjm))) (by simpa using hjD)]; exact D.blk _ (List.mem_cons_of_mem _ hjm), D.off _ (List.mem_cons_of_mem _ hjm)⟩

set_option maxRecDepth 20000 in
set_option maxHeartbeats 4000000 in
theorem jwrite_ok {w : World} {bj bd : Nat} {J : Jr} {A : Dev} {F : Nat → Prop} (h : w.heap[bj]? = some (Bl TJ (JB bd J))) (hJ : J.Ok) (a : Option Addr) (c n : Nat) (b : Byt) (R : Rd w a 1 B8 b) (hn : b.length = n) (hm : n ≤ 900000) (hc : n ≤ c) (hlt : ∀ x, F x → x < w.heap.size) (hFj : ¬ F bj) (hFa : b = [] ∨ ¬ F (adr a).block) {mx : Nat} (hfew : Few A mx) (hmx : mx ≤ 1000000000) (DA : DevAt w bd A F) :
    Ret Tryd.prog 67 #[ptr bj, .slice a n c] w fun v w' => v = .int .i64 (writeJ A J b).1 ∧ ∃ F', Dv w w' bd (writeJ A J b).2 F F' [(bj, Bl TJ (JB bd J))] := by
  subst hn
  obtain ⟨w0, rfl⟩ : ∃ w0, w0 = w := ⟨_, rfl⟩
  have H := Ctx.start w0 []
  have hjl := heap_lt h
  have hbl := Rd.lt8 R
  have hb2 := blk_two b.length
  have hb3 := blk_le b.length
  refine ret_of_WM (fn := Tryd.f67) Tryd.func67 rfl [.pointer (some ⟨bj, 0, none⟩), .slice a b.length c] rfl (by kernel_rfl) ?_
  refine W_rseq ?_
  refine op_box rfl _ (.pointer _) rfl rfl H ?_
  rintro b2 w - H
  refine op_alloc rfl zc_28_JoD H ?_
  rintro b4 w - H
  refine op_nil (at_then ?_)
  refine W_seq ?_
  refine W_rseq ?_
  refine op_move rfl (.slice _ _ _) rfl ?_
  refine op_call rfl ca_86_JoD (pieces_ok a b.length c _) rfl ?_
  rintro v w ⟨bx, rfl, hbx, hbxn, hx11⟩
  refine op_nil (at_then ?_)
  refine W_block ?_
  have ho2 : w0.heap.size ≤ b2 := (H.own _ (List.mem_cons_of_mem _ (List.mem_cons_self ..))).elim (fun h => by cases h) id
  have ho4 : w0.heap.size ≤ b4 := (H.own _ (List.mem_cons_self ..)).elim (fun h => by cases h) id
  have hl2 := H.lt at1
  have hl4 := H.lt at0
  have hb24 := H.ne at0 at1 (by decide)
  replace H := H.call hx11
  have hbxL := heap_lt hbx
  refine W_rangeFunc rfl ca_97_JoD ?_
  intro fn tmps hts htm Db l w2 hDb hl hx2 hD hrec
  obtain ⟨lo, hlo, hrec'⟩ : ∃ lo, lo = _ ∧ w2.heap[l]? = some (.loop lo) := ⟨_, rfl, hrec⟩
  have H2 := H.call hx2
  have hbx2 : w2.heap[bx]? = some (Bl 23 [.slice a b.length c]) := by rw [hx2.block bx hbxL (by simp)]; exact hbx
  have hx02 : Ext [] w0 w2 := H2.ext
  have hnew : ∀ x, w0.heap.size ≤ x → ¬ F x := fun x hx hF => by have := hlt x hF; omega
  have hj2 : w2.heap[bj]? = some (Bl TJ (JB bd J)) := by rw [hx02.block bj hjl (by simp)]; exact h
  obtain ⟨L, hL⟩ : ∃ L : List (Nat × Obj), L = [(bj, Bl TJ (JB bd J)), (b2, Bl 57 [ptr bj]), (Db, .deferred (some []))] := ⟨_, rfl⟩
  have D2 : Dv w0 w2 bd A F F ((l, .loop lo) :: (b4, Bl 28 [.int .i64 0]) :: L) := by
    refine ⟨DA.keep0 hx02, .of0 hx02, fun x h => .inl h, fun x hx => by have := hlt x hx; have := hx02.size; omega, fun x hx => ?_, fun x hx => ?_⟩
    · rw [hL] at hx
      simp only [List.mem_cons, List.not_mem_nil, or_false] at hx
      rcases hx with rfl | rfl | rfl | rfl | rfl
      · exact hrec'
      · exact H2.get at0
      · exact hj2
      · exact H2.get at1
      · exact hD
    · rw [hL] at hx
      simp only [List.mem_cons, List.not_mem_nil, or_false] at hx
      have h1 := hx11.size; have h2 := H.ext.size
      rcases hx with rfl | rfl | rfl | rfl | rfl
      · exact hnew _ (by dsimp only; omega)
      · exact hnew _ ho4
      · exact hFj
      · exact hnew _ ho2
      · exact hnew _ (by dsimp only; omega)
  have hsz11 := hx11.size
  have hszH := H.ext.size
  have hneX : ∀ (o1 o2 : Obj), ∀ x ∈ (l, o1) :: (b4, o2) :: L, x.1 ≠ bx := by
    intro o1 o2 x hx
    rw [hL] at hx
    simp only [List.mem_cons, List.not_mem_nil, or_false] at hx
    rcases hx with rfl | rfl | rfl | rfl | rfl <;> (dsimp only; omega)
  refine Ret.mono (pieces1_ok (l := l) hbx2 (R.ext0 hx02) hc (by omega)
    (fun i w' => (wrP A J b i).1 = 0 ∧ ∃ F', Dv w0 w' bd (wrP A J b i).2 F F' ((l, .loop lo) :: (b4, Bl 28 [.int .i64 0]) :: L) ∧ ¬ F' bx ∧ bx < w'.heap.size)
    (fun w' => (wrP A J b (blk b.length - 1)).1 ≠ 0 ∧ ∃ F', Dv w0 w' bd (wrP A J b (blk b.length - 1)).2 F F' ((l, .loop { lo with state := .done, pending := some .ret }) :: (b4, Bl 28 [.int .i64 (wrP A J b (blk b.length - 1)).1]) :: L)) ?_ ?_ ?_) ?_
  · exact ⟨rfl, F, D2, hnew _ (by have h1 := hx11.size; have h2 := H.ext.size; omega), heap_lt hbx2⟩
  · rintro i w' w'' ⟨he, F', D, hnb, hlb⟩ hx
    refine ⟨he, F', D.other hx (by omega) hnb fun x hx' => ⟨?_, D.off x hx'⟩, hnb, by have := hx.size; omega⟩
    rw [hx.block x.1 (heap_lt (D.blk x hx')) (by simpa using hneX _ _ x hx')]; exact D.blk x hx'
  · rintro i ai ci w' hi ⟨he, F', D, hnb, hlb⟩ Rc hai ⟨a9, n9, c9, hbx9⟩
    have hcl := chunkB_len b i
    have hw0' := D.turn.size
    obtain ⟨Lb, hLb, hLa⟩ : ∃ Lb : List (Nat × Obj), (∀ x ∈ Lb, w'.heap[x.1]? = some x.2 ∧ ¬ F' x.1 ∧ x.1 < w0.heap.size) ∧ (b = [] ∨ ∃ o, ((adr a).block, o) ∈ Lb) := by
      rcases hbl with h0 | h0
      · exact ⟨[], by simp, .inl h0⟩
      · by_cases hbe : b = []
        · exact ⟨[], by simp, .inl hbe⟩
        · obtain ⟨o, ho⟩ : ∃ o, w'.heap[(adr a).block]? = some o := ⟨_, Array.getElem?_eq_getElem (by omega)⟩
          refine ⟨[((adr a).block, o)], fun x hx => ?_, .inr ⟨o, List.mem_cons_self ..⟩⟩
          rw [List.mem_singleton.1 hx]
          exact ⟨ho, fun hF => (D.own _ hF).elim (hFa.resolve_left hbe) fun h => by omega, h0⟩
    have hneL : ∀ (o2 : Obj), ∀ x ∈ (b4, o2) :: (bx, Bl 23 [.slice a9 n9 c9]) :: (Lb ++ L), x.1 ≠ l := by
      intro o2 x hx
      rw [hL] at hx
      simp only [List.mem_cons, List.mem_append, List.not_mem_nil, or_false] at hx
      rcases hx with rfl | rfl | hx | rfl | rfl | rfl
      · dsimp only; omega
      · dsimp only; omega
      · have := (hLb x hx).2.2; omega
      · dsimp only; omega
      · dsimp only; omega
      · dsimp only; omega
    have hneL4 : ∀ (o1 : Obj), ∀ x ∈ (l, o1) :: (bx, Bl 23 [.slice a9 n9 c9]) :: (Lb ++ L), x.1 ≠ b4 := by
      intro o2 x hx
      rw [hL] at hx
      simp only [List.mem_cons, List.mem_append, List.not_mem_nil, or_false] at hx
      rcases hx with rfl | rfl | hx | rfl | rfl | rfl
      · dsimp only; omega
      · dsimp only; omega
      · have := (hLb x hx).2.2; omega
      · dsimp only; omega
      · dsimp only; omega
      · dsimp only; omega
    have DL : Dv w0 w' bd (wrP A J b i).2 F F' ((l, .loop lo) :: (b4, Bl 28 [.int .i64 0]) :: (bx, Bl 23 [.slice a9 n9 c9]) :: (Lb ++ L)) := by
      refine ⟨D.dev, D.turn, D.own, D.lt, fun x hx => ?_, fun x hx => ?_⟩
      · simp only [List.mem_cons, List.mem_append] at hx
        rcases hx with rfl | rfl | rfl | hx | hx
        · exact D.blk _ (List.mem_cons_self ..)
        · exact D.blk _ (List.mem_cons_of_mem _ (List.mem_cons_self ..))
        · exact hbx9
        · exact (hLb x hx).1
        · exact D.blk _ (List.mem_cons_of_mem _ (List.mem_cons_of_mem _ hx))
      · simp only [List.mem_cons, List.mem_append] at hx
        rcases hx with rfl | rfl | rfl | hx | hx
        · exact D.off _ (List.mem_cons_self ..)
        · exact D.off _ (List.mem_cons_of_mem _ (List.mem_cons_self ..))
        · exact hnb
        · exact (hLb x hx).2.1
        · exact D.off _ (List.mem_cons_of_mem _ (List.mem_cons_of_mem _ hx))
    have hout : ∀ (o1 o2 : Obj) {wz : World} {Az : Dev} {Fz : Nat → Prop}, Dv w0 wz bd Az F Fz ((l, o1) :: (b4, o2) :: (bx, Bl 23 [.slice a9 n9 c9]) :: (Lb ++ L)) → wz.heap[bx]? = w'.heap[bx]? ∧ (b = [] ∨ wz.heap[(adr a).block]? = w'.heap[(adr a).block]?) ∧ Dv w0 wz bd Az F Fz ((l, o1) :: (b4, o2) :: L) ∧ ¬ Fz bx ∧ bx < wz.heap.size := by
      intro o1 o2 wz Az Fz Dz
      have hm : (bx, Bl 23 [.slice a9 n9 c9]) ∈ (l, o1) :: (b4, o2) :: (bx, Bl 23 [.slice a9 n9 c9]) :: (Lb ++ L) := by simp
      refine ⟨(Dz.blk _ hm).trans hbx9.symm, ?_, Dz.sub ?_, Dz.off _ hm, heap_lt (Dz.blk _ hm)⟩
      · rcases hLa with h0 | ⟨o, ho⟩
        · exact .inl h0
        right
        rw [(hLb _ ho).1]
        exact Dz.blk ((adr a).block, o) (List.mem_cons_of_mem _ (List.mem_cons_of_mem _ (List.mem_cons_of_mem _ (List.mem_append_left _ ho))))
      · intro x hx
        simp only [List.mem_cons, List.mem_append] at hx ⊢
        rcases hx with h | h | h
        · exact .inl h
        · exact .inr (.inl h)
        · exact .inr (.inr (.inr (.inr h)))
    have hlo1 : lo.state = .ready := by rw [hlo]
    have hlo3 : lo.pending = none := by rw [hlo]
    have hll : ¬ F' l := D.off _ (List.mem_cons_self ..)
    have hl0 : w0.heap.size ≤ l := by omega
    have hDL : ∀ x ∈ (b4, Bl 28 [.int .i64 0]) :: (bx, Bl 23 [.slice a9 n9 c9]) :: (Lb ++ L), w'.heap[x.1]? = some x.2 ∧ ¬ F' x.1 := fun x hx => ⟨DL.blk x (List.mem_cons_of_mem _ hx), DL.off x (List.mem_cons_of_mem _ hx)⟩
    subst hlo
    refine yield_of (DL.blk _ (List.mem_cons_self ..)) rfl (round_of_W _ (sim_two hts htm (by decide) (by decide)) (by kernel_rfl) ?_)
    refine W_rseq ?_
    refine op_assign rfl (.int _ _) rfl ?_
    refine op_nil (at_then ?_)
    refine W_region ?_
    refine op_assign rfl (.slice _ _ _) rfl ?_
    refine op_nil ?_
    refine begin_of (DL.blk _ (List.mem_cons_self ..)) rfl ?_
    intro wR lo2 hxR hlR hlo2
    have D1 : Dv w0 wR bd (wrP A J b i).2 F F' ((l, .loop lo2) :: (b4, Bl 28 [.int .i64 0]) :: (bx, Bl 23 [.slice a9 n9 c9]) :: (Lb ++ L)) := DL.other hxR hl0 hll fun x hx => by
      rcases List.mem_cons.1 hx with rfl | hx
      · exact ⟨hlR, hll⟩
      · exact ⟨by rw [hxR.block x.1 (heap_lt (hDL x hx).1) (by simpa using hneL _ x hx)]; exact (hDL x hx).1, (hDL x hx).2⟩
    have RR : Rd wR ai 1 B8 (chunkB b i) := by
      rcases hbl with h0 | h0
      · rw [chunkB, h0]; simp only [List.drop_nil, List.take_nil]; exact Rd.nil
      · exact Rc.ext hxR (by rw [hai]; simp; omega)
    have hmj : ∀ (o1 o2 : Obj), (bj, Bl TJ (JB bd J)) ∈ (l, o1) :: (b4, o2) :: (bx, Bl 23 [.slice a9 n9 c9]) :: (Lb ++ L) := fun o1 o2 => by simp [hL]
    have hm2 : ∀ (o1 o2 : Obj), (b2, Bl 57 [ptr bj]) ∈ (l, o1) :: (b4, o2) :: (bx, Bl 23 [.slice a9 n9 c9]) :: (Lb ++ L) := fun o1 o2 => by simp [hL]
    have hm4 : ∀ (o1 o2 : Obj), (b4, o2) ∈ (l, o1) :: (b4, o2) :: (bx, Bl 23 [.slice a9 n9 c9]) :: (Lb ++ L) := fun o1 o2 => by simp
    have hjR := D1.blk _ (hmj _ _)
    have hnx : wrP A J b (i + 1) = (putE (wrP A J b i).2 J i 1 (pieceB J.seq i (chunkB b i)), putD (wrP A J b i).2 J i 1 (pieceB J.seq i (chunkB b i))) := by
      have h9 : wrP A J b (i + 1) = if (wrP A J b i).1 = 0 then (putE (wrP A J b i).2 J i 1 (pieceB J.seq i (chunkB b i)), putD (wrP A J b i).2 J i 1 (pieceB J.seq i (chunkB b i))) else wrP A J b i := rfl
      rw [h9, if_pos he]
    refine W_block ?_
    refine W_sseqz [([0, 1, 2, 3, 4], 5), ([], 6), ([], 7)] (fun z => z.heap[b2]? = some (Bl 57 [ptr bj])) [] mixed (by kernel_rfl) (D1.blk _ (hm2 _ _)) ?_
    refine seg_cons rfl rfl ?_
    first | refine t_ldb rfl ag_57_JoD rfl (fun _ _ => Ctx.start _ []) (by first | exact at0 | exact at1 | exact at2 | exact at3 | exact at4 | exact at5 | exact at6 | exact at7 | exact at8 | exact at9) rfl ?_ | refine t_ld rfl ag_57_JoD rfl (fun _ hx => cell_bl hx 0) ?_
    refine t_move rfl (.int _ _) rfl ?_
    first | refine t_ldb rfl ag_57_JoD rfl (fun _ _ => Ctx.start _ []) (by first | exact at0 | exact at1 | exact at2 | exact at3 | exact at4 | exact at5 | exact at6 | exact at7 | exact at8 | exact at9) rfl ?_ | refine t_ld rfl ag_57_JoD rfl (fun _ hx => cell_bl hx 0) ?_
    refine t_move rfl (.int _ _) rfl ?_
    refine t_move rfl (.slice _ _ _) rfl ?_
    refine t_nil ?_
    skip
    refine op_call rfl ca_83_JoD (piece_ok (show (World.drew wR).heap[bj]? = _ from hjR) hJ i (by omega) ai ci _ (chunkB b i) (RR.ext0 (Ext.drew [] wR)) rfl (by omega)) rfl ?_
    rintro v w5 F19
    obtain ⟨a19, c19, rfl, R19, hc19⟩ := Fresh.rdB F19
    have D5 := (D1.call (Ext.drew [] wR)).call F19.ext
    refine op_nil (at_seg (D5.blk _ (hm2 _ _)) ?_)
    refine seg_cons rfl rfl ?_
    refine t_nil ?_
    refine op_call rfl ca_87_JoD (jput_ok (D5.blk _ (hmj _ _)) hJ i (by omega) 1 (by decide) a19 c19 _ (pieceB J.seq i (chunkB b i)) R19 rfl (by rw [pieceB_len]; omega) D5.lt (D5.off _ (hmj _ _)) (wrP_few hfew i) (by omega) D5.dev) rfl ?_
    rintro v w6 ⟨rfl, DA6, hT6⟩
    have D6 := D5.step DA6 hT6
    refine op_nil (at_seg (D6.blk _ (hm2 _ _)) ?_)
    refine seg_cons rfl rfl ?_
    refine t_nil ?_
    refine op_assign rfl (.int _ _) rfl ?_
    refine op_nil (at_seg (D6.blk _ (hm2 _ _)) ?_)
    refine seg_nil ?_
    refine W_rseq ?_
    refine op_move rfl (.int _ _) rfl ?_
    refine op_neq rfl rfl rfl ?_
    refine op_nil (at_then ?_)
    refine W_cond _ rfl ?_ ?_
    · intro g
      replace g := ndec_t g
      replace H := Ctx.start1 (D6.blk _ (hm4 _ _))
      refine W_rseq ?_
      refine op_move rfl (.int _ _) rfl ?_
      refine op_stb (.int _ _) rfl sz_28_JoD rfl rfl rfl H (by first | exact at0 | exact at1 | exact at2 | exact at3 | exact at4 | exact at5 | exact at6 | exact at7 | exact at8 | exact at9) (by first | decide | (simp; done) | (simp; omega)) ?_
      rintro w H
      refine op_nil (at_then ?_)
      refine W_ret (ret_block ?_)
      have hx8 := H.ext
      have h4o := D6.off _ (hm4 _ _)
      have D8 : Dv w0 w bd (putD (wrP A J b i).2 J i 1 (pieceB J.seq i (chunkB b i))) F _ ((l, .loop lo2) :: (b4, Bl 28 [.int .i64 (putE (wrP A J b i).2 J i 1 (pieceB J.seq i (chunkB b i)))]) :: (bx, Bl 23 [.slice a9 n9 c9]) :: (Lb ++ L)) := D6.other hx8 ho4 h4o fun x hx => by
        have hx0 : x = (b4, Bl 28 [.int .i64 (putE (wrP A J b i).2 J i 1 (pieceB J.seq i (chunkB b i)))]) ∨ x ∈ (l, Obj.loop lo2) :: (bx, Bl 23 [.slice a9 n9 c9]) :: (Lb ++ L) := by
          simp only [List.mem_cons] at hx ⊢
          rcases hx with h | h | h
          · exact .inr (.inl h)
          · exact .inl h
          · exact .inr (.inr h)
        rcases hx0 with rfl | hx0
        · exact ⟨H.get at0, h4o⟩
        · have hx1 : x ∈ (l, Obj.loop lo2) :: (b4, Bl 28 [.int .i64 0]) :: (bx, Bl 23 [.slice a9 n9 c9]) :: (Lb ++ L) := by
            simp only [List.mem_cons] at hx0 ⊢
            rcases hx0 with h | h
            · exact .inl h
            · exact .inr (.inr h)
          exact ⟨by rw [hx8.block x.1 (heap_lt (D6.blk x hx1)) (by simpa using hneL4 _ x hx0)]; exact D6.blk x hx1, D6.off x hx1⟩
      refine ⟨lo2, D8.blk _ (List.mem_cons_self ..), ?_⟩
      have hx9 := Ext.setB w l (.loop { lo2 with state := .done, pending := some .ret })
      have D9 : Dv w0 (w.putObj l (.loop { lo2 with state := .done, pending := some .ret })) bd (putD (wrP A J b i).2 J i 1 (pieceB J.seq i (chunkB b i))) F _ ((l, .loop { lo2 with state := .done, pending := some .ret }) :: (b4, Bl 28 [.int .i64 (putE (wrP A J b i).2 J i 1 (pieceB J.seq i (chunkB b i)))]) :: (bx, Bl 23 [.slice a9 n9 c9]) :: (Lb ++ L)) := D8.other hx9 hl0 (D8.off _ (List.mem_cons_self ..)) fun x hx => by
        rcases List.mem_cons.1 hx with rfl | hx
        · exact ⟨setB_same (D8.blk _ (List.mem_cons_self ..)), D8.off (l, .loop lo2) (List.mem_cons_self ..)⟩
        · have hx1 := List.mem_cons_of_mem (l, Obj.loop lo2) hx
          exact ⟨by rw [hx9.block x.1 (heap_lt (D8.blk x hx1)) (by simpa using hneL _ x hx)]; exact D8.blk x hx1, D8.off x hx1⟩
      obtain ⟨g1, g2, g3, _, _⟩ := hout _ _ D9
      have hst : wrP A J b (blk b.length - 1) = wrP A J b (i + 1) := wrP_stop (by rw [hnx]; exact g) _ (by omega)
      rw [hst, hnx]
      subst hlo2
      exact ⟨g1, g2, false, rfl, (fun h => by cases h), fun _ => ⟨g, _, g3⟩⟩
    · intro g
      replace g := ndec_f g
      refine W_skip (at_block ?_)
      refine round_end (D6.blk _ (List.mem_cons_self ..)) hlo2 rfl rfl ?_
      intro wF hxF hlF
      have D9 := D6.other (L' := (l, _) :: (b4, Bl 28 [.int .i64 0]) :: (bx, Bl 23 [.slice a9 n9 c9]) :: (Lb ++ L)) hxF hl0 (D6.off _ (List.mem_cons_self ..)) fun x hx => by
        rcases List.mem_cons.1 hx with rfl | hx
        · exact ⟨hlF, D6.off (l, .loop lo2) (List.mem_cons_self ..)⟩
        · have hx1 := List.mem_cons_of_mem (l, Obj.loop lo2) hx
          exact ⟨by rw [hxF.block x.1 (heap_lt (D6.blk x hx1)) (by simpa using hneL _ x hx)]; exact D6.blk x hx1, D6.off x hx1⟩
      obtain ⟨g1, g2, g3, g4, g5⟩ := hout _ _ D9
      refine ⟨g1, g2, true, rfl, fun _ => ⟨by rw [hnx]; exact g, _, by rw [hnx]; exact g3, g4, g5⟩, fun h => by cases h⟩
  · have hmD : (Db, Obj.deferred (some [])) ∈ L := by simp [hL]
    have hmJ : (bj, Bl TJ (JB bd J)) ∈ L := by simp [hL]
    have hm2 : (b2, Bl 57 [ptr bj]) ∈ L := by simp [hL]
    have hneL : ∀ (o2 : Obj), ∀ x ∈ (b4, o2) :: L, x.1 ≠ l := by
      intro o2 x hx
      rw [hL] at hx
      simp only [List.mem_cons, List.not_mem_nil, or_false] at hx
      rcases hx with rfl | rfl | rfl | rfl <;> (dsimp only; omega)
    have hneL4 : ∀ x ∈ L, x.1 ≠ b4 := by
      intro x hx
      rw [hL] at hx
      simp only [List.mem_cons, List.not_mem_nil, or_false] at hx
      rcases hx with rfl | rfl | rfl <;> (dsimp only; omega)
    have hl0 : w0.heap.size ≤ l := by omega
    have hD0 : w0.heap.size ≤ Db := by omega
    have hjD : bj ≠ Db := by omega
    have h4D : b4 ≠ Db := by omega
    have hswap : ∀ {w3 w4 : World} {A' : Dev} {F' : Nat → Prop} {o1 o2 : Obj}, Dv w0 w3 bd A' F F' ((l, o1) :: (b4, o2) :: L) → Ext [l] w3 w4 → Dv w0 w4 bd A' F F' ((b4, o2) :: L) := fun {w3 w4 A' F' o1 o2} D hx =>
      D.other hx hl0 (D.off (l, o1) (List.mem_cons_self ..)) fun x hx' => ⟨by rw [hx.block x.1 (heap_lt (D.blk x (List.mem_cons_of_mem _ hx'))) (by simpa using hneL _ x hx')]; exact D.blk x (List.mem_cons_of_mem _ hx'), D.off x (List.mem_cons_of_mem _ hx')⟩
    rintro v w3 (⟨he, F', D, hnb, hlb⟩ | ⟨he, F', D⟩)
    · refine ⟨_, D.blk _ (List.mem_cons_self ..), by rw [hlo]; exact (fun h => by cases h), jumped_none (by rw [hlo]) ?_⟩
      have hx4 := Ext.setB w3 l (.loop { lo with state := .exhausted })
      generalize w3.putObj l (.loop { lo with state := .exhausted }) = w4 at hx4 ⊢
      replace D := hswap D hx4
      refine at_block (at_then ?_)
      have hfP := wrP_few (J := J) (b := b) hfew (blk b.length - 1)
      have hmc : ∀ {x : Nat × Obj} {o2 : Obj}, x ∈ L → x ∈ (b4, o2) :: L := fun h => List.mem_cons_of_mem _ h
      have hset : ∀ {w5 w6 : World} {A' : Dev} {F' : Nat → Prop} {o1 o2 : Obj}, Dv w0 w5 bd A' F F' ((b4, o1) :: L) → Ext [b4] w5 w6 → w6.heap[b4]? = some o2 → Dv w0 w6 bd A' F F' ((b4, o2) :: L) := fun {w5 w6 A' F' o1 o2} D hx h4 =>
        D.other hx ho4 (D.off (b4, o1) (List.mem_cons_self ..)) fun x hx' => by
          rcases List.mem_cons.1 hx' with rfl | hx'
          · exact ⟨h4, D.off (b4, o1) (List.mem_cons_self ..)⟩
          · exact ⟨by rw [hx.block x.1 (heap_lt (D.blk x (hmc hx'))) (by simpa using hneL4 x hx')]; exact D.blk x (hmc hx'), D.off x (hmc hx')⟩
      refine W_seq ?_
      refine W_rseq ?_
      first | refine op_ldb rfl ag_57_JoD rfl H (by first | exact at0 | exact at1 | exact at2 | exact at3 | exact at4 | exact at5 | exact at6 | exact at7 | exact at8 | exact at9) rfl ?_ | refine op_ld rfl ag_57_JoD rfl (cell_bl (D.blk _ (hmc hm2)) 0) ?_ | refine op_ld rfl ag_57_JoD rfl (cell_bl (D.blk _ (hmc hmJ)) (0 + 0)) ?_
      refine op_nilCheck rfl rfl ?_
      refine op_fieldAddr rfl fo_108_0_JoD rfl ?_
      first | refine op_ldb rfl ag_27 rfl H (by first | exact at0 | exact at1 | exact at2 | exact at3 | exact at4 | exact at5 | exact at6 | exact at7 | exact at8 | exact at9) rfl ?_ | refine op_ld rfl ag_27 rfl (cell_bl (D.blk _ (hmc hm2)) 0) ?_ | refine op_ld rfl ag_27 rfl (cell_bl (D.blk _ (hmc hmJ)) (0 + 0)) ?_
      refine op_call rfl ca_49_JoD (dflush_ok hfP (by omega) D.dev) rfl ?_
      rintro v w5 ⟨rfl, DA5, hT5⟩
      have D5 := D.same DA5 hT5
      refine op_assign rfl (.int _ _) rfl ?_
      refine op_nil (at_then ?_)
      refine W_rseq ?_
      refine op_move rfl (.int _ _) rfl ?_
      refine op_neq rfl rfl rfl ?_
      refine op_nil (at_then ?_)
      refine W_cond _ rfl ?_ ?_
      · intro g2
        replace g2 := ndec_t g2
        replace H := Ctx.start1 (D5.blk _ (List.mem_cons_self ..))
        refine W_rseq ?_
        refine op_move rfl (.int _ _) rfl ?_
        refine op_stb (.int _ _) rfl sz_28_JoD rfl rfl rfl H (by first | exact at0 | exact at1 | exact at2 | exact at3 | exact at4 | exact at5 | exact at6 | exact at7 | exact at8 | exact at9) (by first | decide | (simp; done) | (simp; omega)) ?_
        rintro w H
        refine op_nil (at_then ?_)
        refine W_ret (ret_then (leaveM1c rfl rfl ?_))
        refine Marks.mono ?_ (jwrite_end (hset D5 H.ext (H.get at0)) rfl hmD hD0 hmJ hjD h4D)
        rintro w6 ⟨v, hv, rfl, hF⟩
        refine ⟨_, hv, ?_, ?_⟩
        · rw [writeJ, if_pos he, if_neg g2]
        · rw [writeJ, if_pos he, if_neg g2]; exact hF
      · intro g2
        replace g2 := ndec_f g2
        refine W_skip (at_then ?_)
        refine W_seq ?_
        refine W_sseqz [([0, 1, 2, 5, 6], 3), ([4], 7), ([], 8), ([], 9)] (fun z => z.heap[b2]? = some (Bl 57 [ptr bj])) [] mixed (by kernel_rfl) (D5.blk _ (hmc hm2)) ?_
        refine seg_cons rfl rfl ?_
        first | refine t_ldb rfl ag_57_JoD rfl (fun _ _ => Ctx.start _ []) (by first | exact at0 | exact at1 | exact at2 | exact at3 | exact at4 | exact at5 | exact at6 | exact at7 | exact at8 | exact at9) rfl ?_ | refine t_ld rfl ag_57_JoD rfl (fun _ hx => cell_bl hx 0) ?_
        refine t_move rfl (.slice _ _ _) rfl ?_
        refine t_len rfl el_23 rfl ?_
        first | refine t_ldb rfl ag_57_JoD rfl (fun _ _ => Ctx.start _ []) (by first | exact at0 | exact at1 | exact at2 | exact at3 | exact at4 | exact at5 | exact at6 | exact at7 | exact at8 | exact at9) rfl ?_ | refine t_ld rfl ag_57_JoD rfl (fun _ hx => cell_bl hx 0) ?_
        refine t_move rfl (.slice _ _ _) rfl ?_
        refine t_nil ?_
        skip
        refine op_call rfl ca_35_JoD (jblocks_ok (b.length : Int) (by omega) _) rfl ?_
        rintro v wB ⟨rfl, rfl⟩
        rw [blkI_nat]
        refine op_nil (at_seg (D5.blk _ (hmc hm2)) ?_)
        refine seg_cons rfl rfl ?_
        refine t_sub_i64 rfl rfl rfl (by omega) (by omega) ?_
        rw [show ((blk b.length : Int) - 1) = ((blk b.length - 1 : Nat) : Int) by omega]
        refine t_nil ?_
        refine op_call rfl ca_85_JoD (end_ok (show (World.drew w5).heap[bj]? = _ from D5.blk _ (hmc hmJ)) hJ a c _ b rfl (by omega)) rfl ?_
        rintro v w6 F39
        obtain ⟨a39, c39, rfl, R39, hc39⟩ := Fresh.rdB F39
        have D6 := (D5.call (Ext.drew [] w5)).call F39.ext
        refine op_nil (at_seg (D6.blk _ (hmc hm2)) ?_)
        refine seg_cons rfl rfl ?_
        refine t_nil ?_
        refine op_call rfl ca_87_JoD (jput_ok (D6.blk _ (hmc hmJ)) hJ (blk b.length - 1) (by omega) 2 (by decide) a39 c39 _ (endB J.seq b) R39 rfl (by rw [endB_len]; decide) D6.lt (D6.off _ (hmc hmJ)) (flush_few hfP) (by omega) D6.dev) rfl ?_
        rintro v w7 ⟨rfl, DA7, hT7⟩
        have D7 := D6.step DA7 hT7
        refine op_nil (at_seg (D7.blk _ (hmc hm2)) ?_)
        refine seg_cons rfl rfl ?_
        refine t_nil ?_
        refine op_assign rfl (.int _ _) rfl ?_
        refine op_nil (at_seg (D7.blk _ (hmc hm2)) ?_)
        refine seg_nil ?_
        refine W_rseq ?_
        refine op_move rfl (.int _ _) rfl ?_
        refine op_neq rfl rfl rfl ?_
        refine op_nil (at_then ?_)
        refine W_cond _ rfl ?_ ?_
        · intro g3
          replace g3 := ndec_t g3
          replace H := Ctx.start1 (D7.blk _ (List.mem_cons_self ..))
          refine W_rseq ?_
          refine op_move rfl (.int _ _) rfl ?_
          refine op_stb (.int _ _) rfl sz_28_JoD rfl rfl rfl H (by first | exact at0 | exact at1 | exact at2 | exact at3 | exact at4 | exact at5 | exact at6 | exact at7 | exact at8 | exact at9) (by first | decide | (simp; done) | (simp; omega)) ?_
          rintro w H
          refine op_nil (at_then ?_)
          refine W_ret (ret_then (leaveM1c rfl rfl ?_))
          refine Marks.mono ?_ (jwrite_end (hset D7 H.ext (H.get at0)) rfl hmD hD0 hmJ hjD h4D)
          rintro w8 ⟨v, hv, rfl, hF⟩
          refine ⟨_, hv, ?_, ?_⟩
          · rw [writeJ, if_pos he, if_pos g2, if_neg g3]
          · rw [writeJ, if_pos he, if_pos g2, if_neg g3]; exact hF
        · intro g3
          replace g3 := ndec_f g3
          refine W_skip (at_then ?_)
          refine W_rseq ?_
          first | refine op_ldb rfl ag_57_JoD rfl H (by first | exact at0 | exact at1 | exact at2 | exact at3 | exact at4 | exact at5 | exact at6 | exact at7 | exact at8 | exact at9) rfl ?_ | refine op_ld rfl ag_57_JoD rfl (cell_bl (D7.blk _ (hmc hm2)) 0) ?_ | refine op_ld rfl ag_57_JoD rfl (cell_bl (D7.blk _ (hmc hmJ)) (0 + 0)) ?_
          refine op_nilCheck rfl rfl ?_
          refine op_fieldAddr rfl fo_108_0_JoD rfl ?_
          first | refine op_ldb rfl ag_27 rfl H (by first | exact at0 | exact at1 | exact at2 | exact at3 | exact at4 | exact at5 | exact at6 | exact at7 | exact at8 | exact at9) rfl ?_ | refine op_ld rfl ag_27 rfl (cell_bl (D7.blk _ (hmc hm2)) 0) ?_ | refine op_ld rfl ag_27 rfl (cell_bl (D7.blk _ (hmc hmJ)) (0 + 0)) ?_
          refine op_call rfl ca_49_JoD (dflush_ok (write_few (flush_few hfP) _ _) (by omega) D7.dev) rfl ?_
          rintro v w8 ⟨rfl, DA8, hT8⟩
          have D8 := D7.same DA8 hT8
          replace H := Ctx.start1 (D8.blk _ (List.mem_cons_self ..))
          refine op_stb (.int _ _) rfl sz_28_JoD rfl rfl rfl H (by first | exact at0 | exact at1 | exact at2 | exact at3 | exact at4 | exact at5 | exact at6 | exact at7 | exact at8 | exact at9) (by first | decide | (simp; done) | (simp; omega)) ?_
          rintro w H
          refine op_nil (at_then ?_)
          refine W_ret (leaveM1c rfl rfl ?_)
          refine Marks.mono ?_ (jwrite_end (hset D8 H.ext (H.get at0)) rfl hmD hD0 hmJ hjD h4D)
          rintro w9 ⟨v, hv, rfl, hF⟩
          refine ⟨_, hv, ?_, ?_⟩
          · rw [writeJ, if_pos he, if_pos g2, if_pos g3]; rfl
          · rw [writeJ, if_pos he, if_pos g2, if_pos g3]; exact hF
    · refine ⟨_, D.blk _ (List.mem_cons_self ..), (fun h => by cases h), jumped_ret rfl ?_⟩
      have hx4 := Ext.setB w3 l (.loop { lo with state := .exhausted, pending := some .ret })
      generalize w3.putObj l (.loop { lo with state := .exhausted, pending := some .ret }) = w4 at hx4 ⊢
      replace D := hswap D hx4
      refine ret_block (ret_then (leaveM1c rfl rfl ?_))
      refine Marks.mono ?_ (jwrite_end D rfl hmD hD0 hmJ hjD h4D)
      rintro w6 ⟨v, hv, rfl, hF⟩
      refine ⟨_, hv, ?_, ?_⟩
      · rw [writeJ, if_neg he]
      · rw [writeJ, if_neg he]; exact hF

end Go.Proofs.YtkmbcpgnafmnpaaDoor

/- What is done to a journal. -/
namespace Go.Proofs.YtkmbcpgnafmnpaaDoor
open Go.GV
theorem ca_34_JoE : callable Tryd.prog 34 = true := by kernel_rfl
theorem ca_35_JoE : callable Tryd.prog 35 = true := by kernel_rfl
theorem ca_65_JoE : callable Tryd.prog 65 = true := by kernel_rfl
theorem ca_66_JoE : callable Tryd.prog 66 = true := by kernel_rfl
theorem ca_67_JoE : callable Tryd.prog 67 = true := by kernel_rfl
theorem fo_108_2_JoE : fieldO Tryd.prog 108 2 = some 2 := by kernel_rfl
theorem fo_108_3_JoE : fieldO Tryd.prog 108 3 = some 3 := by kernel_rfl
theorem fo_108_4_JoE : fieldO Tryd.prog 108 4 = some 4 := by kernel_rfl
theorem fo_108_5_JoE : fieldO Tryd.prog 108 5 = some 5 := by kernel_rfl
theorem fo_108_6_JoE : fieldO Tryd.prog 108 6 = some 6 := by kernel_rfl
theorem sz_22_JoE : tsize Tryd.prog 22 = some 1 := by kernel_rfl
theorem un_57_JoE : Tryd.prog.underlying 57 = some (.pointer 108) := by kernel_rfl
attribute [local irreducible] Wops W Wq Wt

theorem may_ok {w : World} {bj bd : Nat} {J : Jr} (h : w.heap[bj]? = some (Bl TJ (JB bd J))) :
    Ret Tryd.prog 66 #[ptr bj] w fun v w' => v = .int .i64 (bif J.dead then 3 else 0) ∧ w = w' := by
  obtain ⟨w0, rfl⟩ : ∃ w0, w0 = w := ⟨_, rfl⟩
  unfold JB at h
  have H := Ctx.start1 h
  refine ret_of_W (fn := Tryd.f66) Tryd.func66 rfl [.pointer (some ⟨bj, 0, none⟩)] rfl (by kernel_rfl) ?_
  refine W_rseq ?_
  refine op_assign rfl (.int _ _) rfl ?_
  refine op_nil (at_then ?_)
  refine W_seq ?_
  refine W_block ?_
  refine W_rseq ?_
  refine op_move rfl (.pointer _) rfl ?_
  refine op_eqlptr rfl un_57_JoE rfl ?_
  refine op_assign rfl (.bool _) rfl ?_
  refine op_nil (at_then ?_)
  refine W_cond0 rfl ?_
  refine W_rseq ?_
  refine op_move rfl (.pointer _) rfl ?_
  refine op_nilCheck rfl rfl ?_
  refine op_fieldAddr rfl fo_108_6_JoE rfl ?_
  refine op_ldb rfl ag_4 rfl H (by first | exact at0 | exact at1 | exact at2 | exact at3 | exact at4 | exact at5 | exact at6 | exact at7 | exact at8 | exact at9) rfl ?_
  refine op_assign rfl (.bool _) rfl ?_
  refine op_nil (at_then ?_)
  refine W_cond _ rfl ?_ ?_
  · intro h1
    refine W_rseq ?_
    refine op_assign rfl (.int _ _) rfl ?_
    refine op_nil (at_then ?_)
    refine W_ret (ret_block (ret_then (leave1 (v := (.int _ _)) rfl rfl rfl ?_)))
    exact ⟨by simp [h1], rfl⟩
  · intro h1
    refine W_skip (at_block (at_then ?_))
    refine W_rseq ?_
    refine op_assign rfl (.int _ _) rfl ?_
    refine op_nil (at_then ?_)
    refine W_ret (leave1 (v := (.int _ _)) rfl rfl rfl ?_)
    exact ⟨by simp [h1], rfl⟩
theorem may_nil (w : World) : Ret Tryd.prog 66 #[.pointer none] w fun v w' => v = .int .i64 2 ∧ w = w' := by
  refine ret_of_W (fn := Tryd.f66) Tryd.func66 rfl [.pointer none] rfl (by kernel_rfl) ?_
  refine W_rseq ?_
  refine op_assign rfl (.int _ _) rfl ?_
  refine op_nil (at_then ?_)
  refine W_seq ?_
  refine W_block ?_
  refine W_rseq ?_
  refine op_move rfl (.pointer _) rfl ?_
  refine op_eqlptr rfl un_57_JoE rfl ?_
  refine op_assign rfl (.bool _) rfl ?_
  refine op_nil (at_then ?_)
  refine W_cond1 rfl ?_
  refine W_rseq ?_
  refine op_assign rfl (.int _ _) rfl ?_
  refine op_nil (at_then ?_)
  refine W_ret (ret_block (ret_then (leave1 (v := (.int _ _)) rfl rfl rfl ?_)))
  exact ⟨rfl, rfl⟩

theorem free_ok {w : World} {bj bd : Nat} {J : Jr} (h : w.heap[bj]? = some (Bl TJ (JB bd J))) (hJ : J.Ok) :
    Ret Tryd.prog 34 #[ptr bj] w fun v w' => v = .int .i64 ((J.size - J.taken : Nat) : Int) ∧ Ext [] w w' := by
  obtain ⟨w0, rfl⟩ : ∃ w0, w0 = w := ⟨_, rfl⟩
  have H := Ctx.start w0 []
  have h1 := hJ.s2; have h2 := hJ.t
  refine ret_of_W (fn := Tryd.f34) Tryd.func34 rfl [.pointer (some ⟨bj, 0, none⟩)] rfl (by kernel_rfl) ?_
  refine W_rseq ?_
  refine op_assign rfl (.int _ _) rfl ?_
  refine op_nil (at_then ?_)
  refine W_seq ?_
  refine W_rseq ?_
  refine op_move rfl (.pointer _) rfl ?_
  refine op_eqlptr rfl un_57_JoE rfl ?_
  refine op_nil (at_then ?_)
  refine W_cond0 rfl ?_
  refine W_skip (at_then ?_)
  refine W_qseq (fun x => x = _) mixed (by kernel_rfl) rfl ?_
  refine q_move rfl (.pointer _) rfl ?_
  refine q_nilCheck rfl rfl ?_
  refine q_fieldAddr rfl fo_108_2_JoE rfl ?_
  first | refine q_ldb rfl ag_3 rfl (by rintro _ rfl; exact H.drew) (by first | exact at0 | exact at1 | exact at2 | exact at3 | exact at4 | exact at5 | exact at6 | exact at7 | exact at8 | exact at9) rfl ?_ | refine q_ld rfl ag_3 rfl (by rintro _ rfl; exact (Ctx.old0 H.drew (cell_bl h _))) ?_
  refine q_move rfl (.pointer _) rfl ?_
  refine q_nilCheck rfl rfl ?_
  refine q_fieldAddr rfl fo_108_5_JoE rfl ?_
  first | refine q_ldb rfl ag_3 rfl (by rintro _ rfl; exact H.drew) (by first | exact at0 | exact at1 | exact at2 | exact at3 | exact at4 | exact at5 | exact at6 | exact at7 | exact at8 | exact at9) rfl ?_ | refine q_ld rfl ag_3 rfl (by rintro _ rfl; exact (Ctx.old0 H.drew (cell_bl h _))) ?_
  refine q_sub_i64 rfl rfl rfl (by omega) (by omega) ?_
  refine q_assign rfl (.int _ _) rfl ?_
  refine q_nil ?_
  rintro _ rfl
  replace H := H.drew
  refine W_ret (leave1 (v := (.int _ _)) rfl rfl rfl ?_)
  exact ⟨congrArg (Value.int .i64) (by omega), H.ext⟩
theorem free_nil (w : World) : Ret Tryd.prog 34 #[.pointer none] w fun v w' => v = .int .i64 0 ∧ w = w' := by
  refine ret_of_W (fn := Tryd.f34) Tryd.func34 rfl [.pointer none] rfl (by kernel_rfl) ?_
  refine W_rseq ?_
  refine op_assign rfl (.int _ _) rfl ?_
  refine op_nil (at_then ?_)
  refine W_seq ?_
  refine W_rseq ?_
  refine op_move rfl (.pointer _) rfl ?_
  refine op_eqlptr rfl un_57_JoE rfl ?_
  refine op_nil (at_then ?_)
  refine W_cond1 rfl ?_
  refine W_rseq ?_
  refine op_assign rfl (.int _ _) rfl ?_
  refine op_nil (at_then ?_)
  refine W_ret (ret_then (leave1 (v := (.int _ _)) rfl rfl rfl ?_))
  exact ⟨rfl, rfl⟩
theorem mark_ok {w : World} {bj bd : Nat} {J : Jr} (h : w.heap[bj]? = some (Bl TJ (JB bd J))) :
    Ret Tryd.prog 31 #[ptr bj] w fun v w' => v = .tuple #[.int .i64 (J.at' : Int), .int .u64 (J.seq : Int)] ∧ Ext [] w w' := by
  obtain ⟨w0, rfl⟩ : ∃ w0, w0 = w := ⟨_, rfl⟩
  have H := Ctx.start w0 []
  refine ret_of_W (fn := Tryd.f31) Tryd.func31 rfl [.pointer (some ⟨bj, 0, none⟩)] rfl (by kernel_rfl) ?_
  refine W_rseq ?_
  refine op_assign rfl (.int _ _) rfl ?_
  refine op_assign rfl (.int _ _) rfl ?_
  refine op_nil (at_then ?_)
  refine W_seq ?_
  refine W_rseq ?_
  refine op_move rfl (.pointer _) rfl ?_
  refine op_eqlptr rfl un_57_JoE rfl ?_
  refine op_nil (at_then ?_)
  refine W_cond0 rfl ?_
  refine W_skip (at_then ?_)
  refine W_qseq (fun x => x = _) mixed (by kernel_rfl) rfl ?_
  refine q_move rfl (.pointer _) rfl ?_
  refine q_nilCheck rfl rfl ?_
  refine q_fieldAddr rfl fo_108_3_JoE rfl ?_
  first | refine q_ldb rfl ag_3 rfl (by rintro _ rfl; exact H.drew) (by first | exact at0 | exact at1 | exact at2 | exact at3 | exact at4 | exact at5 | exact at6 | exact at7 | exact at8 | exact at9) rfl ?_ | refine q_ld rfl ag_3 rfl (by rintro _ rfl; exact (Ctx.old0 H.drew (cell_bl h _))) ?_
  refine q_move rfl (.pointer _) rfl ?_
  refine q_nilCheck rfl rfl ?_
  refine q_fieldAddr rfl fo_108_4_JoE rfl ?_
  first | refine q_ldb rfl ag_22 rfl (by rintro _ rfl; exact H.drew) (by first | exact at0 | exact at1 | exact at2 | exact at3 | exact at4 | exact at5 | exact at6 | exact at7 | exact at8 | exact at9) rfl ?_ | refine q_ld rfl ag_22 rfl (by rintro _ rfl; exact (Ctx.old0 H.drew (cell_bl h _))) ?_
  refine q_assign rfl (.int _ _) rfl ?_
  refine q_assign rfl (.int _ _) rfl ?_
  refine q_nil ?_
  rintro _ rfl
  replace H := H.drew
  refine W_ret (leave2 (v1 := (.int _ _)) (v2 := (.int _ _)) rfl rfl rfl rfl ?_)
  exact ⟨rfl, H.ext⟩
theorem mark_nil (w : World) : Ret Tryd.prog 31 #[.pointer none] w fun v w' => v = .tuple #[.int .i64 0, .int .u64 0] ∧ w = w' := by
  refine ret_of_W (fn := Tryd.f31) Tryd.func31 rfl [.pointer none] rfl (by kernel_rfl) ?_
  refine W_rseq ?_
  refine op_assign rfl (.int _ _) rfl ?_
  refine op_assign rfl (.int _ _) rfl ?_
  refine op_nil (at_then ?_)
  refine W_seq ?_
  refine W_rseq ?_
  refine op_move rfl (.pointer _) rfl ?_
  refine op_eqlptr rfl un_57_JoE rfl ?_
  refine op_nil (at_then ?_)
  refine W_cond1 rfl ?_
  refine W_rseq ?_
  refine op_assign rfl (.int _ _) rfl ?_
  refine op_assign rfl (.int _ _) rfl ?_
  refine op_nil (at_then ?_)
  refine W_ret (ret_then (leave2 (v1 := (.int _ _)) (v2 := (.int _ _)) rfl rfl rfl rfl ?_))
  exact ⟨rfl, rfl⟩

def Jr.passes (J : Jr) (n : Nat) : Jr := { J with at' := (J.at' + blk n) % J.size, seq := J.seq + 1, taken := J.taken + blk n }
theorem passes_ok {w : World} {bj bd : Nat} {J : Jr} (h : w.heap[bj]? = some (Bl TJ (JB bd J))) (hJ : J.Ok) (n : Nat) (hn : n ≤ 100000000) (ht : J.taken + blk n ≤ J.size) :
    Ret Tryd.prog 65 #[ptr bj, .int .i64 (n : Int)] w fun v w' => v = .tuple #[] ∧ w'.heap[bj]? = some (Bl TJ (JB bd (J.passes n))) ∧ Ext [bj] w w' := by
  obtain ⟨w0, rfl⟩ : ∃ w0, w0 = w := ⟨_, rfl⟩
  unfold JB at h
  have H := Ctx.start1 h
  have h1 := hJ.s1; have h2 := hJ.s2; have h3 := hJ.a; have h4 := hJ.q
  have hm := Nat.mod_lt (J.at' + blk n) (show 0 < J.size by omega)
  refine ret_of_W (fn := Tryd.f65) Tryd.func65 rfl [.pointer (some ⟨bj, 0, none⟩), .int .i64 (n : Int)] rfl (by kernel_rfl) ?_
  refine W_rseq ?_
  refine op_move rfl (.int _ _) rfl ?_
  refine op_call rfl ca_35_JoE (jblocks_ok (n : Int) (by omega) _) rfl ?_
  rintro v w ⟨rfl, rfl⟩
  rw [blkI_nat]
  refine op_assign rfl (.int _ _) rfl ?_
  refine op_nil (at_then ?_)
  refine W_segz [([0, 1, 2, 3, 4, 5, 6, 7, 8, 9, 10, 11, 12, 13, 14, 15, 16, 17, 18, 19, 20, 21, 22, 23, 24, 25, 26], 27), ([28, 29], 30), ([31, 32], 33)] (fun x => x = World.drew w0) [27, 30, 33] mixed (by kernel_rfl) (rfl) ?_
  refine seg_cons rfl rfl ?_
  refine t_move rfl (.pointer _) rfl ?_
  refine t_move rfl (.pointer _) rfl ?_
  refine t_move rfl (.pointer _) rfl ?_
  refine t_move rfl (.pointer _) rfl ?_
  refine t_nilCheck rfl rfl ?_
  refine t_fieldAddr rfl fo_108_3_JoE rfl ?_
  refine t_ldb rfl ag_3 rfl (by rintro _ rfl; exact H.drew) (by first | exact at0 | exact at1 | exact at2 | exact at3 | exact at4 | exact at5 | exact at6 | exact at7 | exact at8 | exact at9) rfl ?_
  refine t_move rfl (.int _ _) rfl ?_
  refine t_add_i64 rfl rfl rfl (by omega) (by omega) ?_
  refine t_move rfl (.pointer _) rfl ?_
  refine t_nilCheck rfl rfl ?_
  refine t_fieldAddr rfl fo_108_2_JoE rfl ?_
  refine t_ldb rfl ag_3 rfl (by rintro _ rfl; exact H.drew) (by first | exact at0 | exact at1 | exact at2 | exact at3 | exact at4 | exact at5 | exact at6 | exact at7 | exact at8 | exact at9) rfl ?_
  refine t_rem rfl rfl rfl (by omega) (by omega) ?_
  rw [show ((J.at' : Int) + (blk n : Int)) % (J.size : Int) = (((J.at' + blk n) % J.size : Nat) : Int) by rw [Int.natCast_emod, Int.natCast_add]]
  refine t_move rfl (.pointer _) rfl ?_
  refine t_nilCheck rfl rfl ?_
  refine t_fieldAddr rfl fo_108_4_JoE rfl ?_
  refine t_ldb rfl ag_22 rfl (by rintro _ rfl; exact H.drew) (by first | exact at0 | exact at1 | exact at2 | exact at3 | exact at4 | exact at5 | exact at6 | exact at7 | exact at8 | exact at9) rfl ?_
  refine t_add_u64 rfl rfl rfl (by omega) (by omega) ?_
  refine t_move rfl (.pointer _) rfl ?_
  refine t_nilCheck rfl rfl ?_
  refine t_fieldAddr rfl fo_108_5_JoE rfl ?_
  refine t_ldb rfl ag_3 rfl (by rintro _ rfl; exact H.drew) (by first | exact at0 | exact at1 | exact at2 | exact at3 | exact at4 | exact at5 | exact at6 | exact at7 | exact at8 | exact at9) rfl ?_
  refine t_move rfl (.int _ _) rfl ?_
  refine t_add_i64 rfl rfl rfl (by omega) (by omega) ?_
  refine t_nilCheck rfl rfl ?_
  refine t_fieldAddr rfl fo_108_3_JoE rfl ?_
  refine t_nil ?_
  replace H := H.drew
  refine op_stb (.int _ _) rfl sz_3 rfl rfl rfl H (by first | exact at0 | exact at1 | exact at2 | exact at3 | exact at4 | exact at5 | exact at6 | exact at7 | exact at8 | exact at9) (by first | decide | (simp; done) | (simp; omega)) ?_
  rintro w H
  refine op_nil (at_segz rfl ?_)
  refine seg_cons rfl rfl ?_
  refine t_nilCheck rfl rfl ?_
  refine t_fieldAddr rfl fo_108_4_JoE rfl ?_
  refine t_nil ?_
  refine op_stb (.int _ _) rfl sz_22_JoE rfl rfl rfl H (by first | exact at0 | exact at1 | exact at2 | exact at3 | exact at4 | exact at5 | exact at6 | exact at7 | exact at8 | exact at9) (by first | decide | (simp; done) | (simp; omega)) ?_
  rintro w H
  refine op_nil (at_segz rfl ?_)
  refine seg_cons rfl rfl ?_
  refine t_nilCheck rfl rfl ?_
  refine t_fieldAddr rfl fo_108_5_JoE rfl ?_
  refine t_nil ?_
  refine op_stb (.int _ _) rfl sz_3 rfl rfl rfl H (by first | exact at0 | exact at1 | exact at2 | exact at3 | exact at4 | exact at5 | exact at6 | exact at7 | exact at8 | exact at9) (by first | decide | (simp; done) | (simp; omega)) ?_
  rintro w H
  refine op_nil (at_segz rfl ?_)
  refine seg_nil ?_
  refine leave0n rfl rfl ?_
  exact ⟨rfl, H.get at0, H.ext⟩

theorem jforget_ok {w : World} {bj bd : Nat} {J : Jr} (h : w.heap[bj]? = some (Bl TJ (JB bd J))) :
    Ret Tryd.prog 33 #[ptr bj] w fun v w' => v = .int .i64 (bif J.dead then 3 else 0) ∧ w'.heap[bj]? = some (Bl TJ (JB bd (if J.dead then J else { J with taken := 0 }))) ∧ Ext [bj] w w' := by
  obtain ⟨w0, rfl⟩ : ∃ w0, w0 = w := ⟨_, rfl⟩
  unfold JB at h
  have H := Ctx.start1 h
  refine ret_of_W (fn := Tryd.f33) Tryd.func33 rfl [.pointer (some ⟨bj, 0, none⟩)] rfl (by kernel_rfl) ?_
  refine W_rseq ?_
  refine op_assign rfl (.int _ _) rfl ?_
  refine op_nil (at_then ?_)
  refine W_rseq ?_
  refine op_move rfl (.pointer _) rfl ?_
  refine op_call rfl ca_66_JoE (may_ok h) rfl ?_
  rintro v w ⟨rfl, rfl⟩
  refine op_assign rfl (.int _ _) rfl ?_
  refine op_nil (at_then ?_)
  refine W_seq ?_
  refine W_rseq ?_
  refine op_move rfl (.int _ _) rfl ?_
  refine op_eql rfl rfl rfl ?_
  refine op_nil (at_then ?_)
  refine W_cond _ rfl ?_ ?_
  · intro h1
    replace h1 := dec_t h1
    have hd : J.dead = false := by cases hd : J.dead <;> simp_all
    refine W_region ?_
    refine op_move rfl (.pointer _) rfl ?_
    refine op_nilCheck rfl rfl ?_
    refine op_fieldAddr rfl fo_108_5_JoE rfl ?_
    refine op_stb (.int _ _) rfl sz_3 rfl rfl rfl H (by first | exact at0 | exact at1 | exact at2 | exact at3 | exact at4 | exact at5 | exact at6 | exact at7 | exact at8 | exact at9) (by first | decide | (simp; done) | (simp; omega)) ?_
    rintro w H
    refine op_nil (at_then ?_)
    refine W_rseq ?_
    refine op_move rfl (.int _ _) rfl ?_
    refine op_assign rfl (.int _ _) rfl ?_
    refine op_nil (at_then ?_)
    refine W_ret (leave1 (v := (.int _ _)) rfl rfl rfl ?_)
    exact ⟨rfl, by rw [if_neg (by simp [hd])]; exact H.get at0, H.ext⟩
  · intro h1
    replace h1 := dec_f h1
    have hd : J.dead = true := by cases hd : J.dead <;> simp_all
    refine W_skip (at_then ?_)
    refine W_rseq ?_
    refine op_move rfl (.int _ _) rfl ?_
    refine op_assign rfl (.int _ _) rfl ?_
    refine op_nil (at_then ?_)
    refine W_ret (leave1 (v := (.int _ _)) rfl rfl rfl ?_)
    exact ⟨rfl, by rw [if_pos hd]; exact H.get at0, H.ext⟩
theorem jforget_nil (w : World) : Ret Tryd.prog 33 #[.pointer none] w fun v w' => v = .int .i64 2 ∧ w = w' := by
  refine ret_of_W (fn := Tryd.f33) Tryd.func33 rfl [.pointer none] rfl (by kernel_rfl) ?_
  refine W_rseq ?_
  refine op_assign rfl (.int _ _) rfl ?_
  refine op_nil (at_then ?_)
  refine W_rseq ?_
  refine op_move rfl (.pointer _) rfl ?_
  refine op_call rfl ca_66_JoE (may_nil w) rfl ?_
  rintro v w ⟨rfl, rfl⟩
  refine op_assign rfl (.int _ _) rfl ?_
  refine op_nil (at_then ?_)
  refine W_seq ?_
  refine W_rseq ?_
  refine op_move rfl (.int _ _) rfl ?_
  refine op_eql rfl rfl rfl ?_
  refine op_nil (at_then ?_)
  refine W_cond0 rfl ?_
  refine W_skip (at_then ?_)
  refine W_rseq ?_
  refine op_move rfl (.int _ _) rfl ?_
  refine op_assign rfl (.int _ _) rfl ?_
  refine op_nil (at_then ?_)
  refine W_ret (leave1 (v := (.int _ _)) rfl rfl rfl ?_)
  exact ⟨rfl, rfl⟩

def appE (A : Dev) (J : Jr) (b : Byt) : Int := if J.dead then 3 else if J.size - J.taken < blk b.length then 7 else (writeJ A J b).1
def appD (A : Dev) (J : Jr) (b : Byt) : Dev := if J.dead then A else if J.size - J.taken < blk b.length then A else (writeJ A J b).2
def appJ (A : Dev) (J : Jr) (b : Byt) : Jr := if J.dead then J else if J.size - J.taken < blk b.length then J else if (writeJ A J b).1 = 0 then J.passes b.length else { J with dead := true }
theorem Dv.base {w0 w : World} {bd : Nat} {A : Dev} {F F0 F' : Nat → Prop} {L : List (Nat × Obj)} (D : Dv w0 w bd A F F' L) (h : ∀ x, F x → F0 x) : Dv w0 w bd A F0 F' L :=
  ⟨D.dev, let ⟨S, hS, hx⟩ := D.turn; ⟨S, fun x hx => h x (hS x hx), hx⟩, fun x hx => (D.own x hx).imp (h x) id, D.lt, D.blk, D.off⟩
theorem Dv.mine {w0 w w' : World} {bd : Nat} {A : Dev} {F F' : Nat → Prop} {b : Nat} {o o' : Obj} (D : Dv w0 w bd A F F' [(b, o)]) (hb : F b) (hx : Ext [b] w w') (h : w'.heap[b]? = some o') : Dv w0 w' bd A F F' [(b, o')] := by
  have h1 := hx.size
  have hn : ¬ F' b := D.off (b, o) (List.mem_cons_self ..)
  exact ⟨D.dev.keep hx fun x h => by rw [List.mem_singleton.1 h]; exact hn, D.turn.trans (.of hx (S := [b]) (F := fun x => x = b) fun x h => List.mem_singleton.1 h) fun x h => .inl (by rw [h]; exact hb), fun x hx => (D.own x hx).imp id fun h => ⟨h.1, by omega⟩, fun x hx => by have := D.lt x hx; omega, fun x hx => by rw [List.mem_singleton.1 hx]; exact h, fun x hx => by rw [List.mem_singleton.1 hx]; exact hn⟩
theorem Dv.from {w0 w1 w : World} {bd : Nat} {A : Dev} {F F0 F' : Nat → Prop} {L : List (Nat × Obj)} (D : Dv w1 w bd A F F' L) (hx : Ext [] w0 w1) (h : ∀ x, F x → F0 x) : Dv w0 w bd A F0 F' L := by
  have D' := D.base h
  have h1 := hx.size
  exact ⟨D'.dev, Turn.trans (.of0 hx) D'.turn fun x h => .inl h, fun x hx => (D'.own x hx).imp id fun h => ⟨by omega, h.2⟩, D'.lt, D'.blk, D'.off⟩
theorem Dv.start {w : World} {bd : Nat} {A : Dev} {F F0 : Nat → Prop} {L : List (Nat × Obj)} (D : DevAt w bd A F) (hlt : ∀ x, F x → x < w.heap.size) (h : ∀ x, F x → F0 x) (hL : ∀ x ∈ L, w.heap[x.1]? = some x.2 ∧ ¬ F x.1) : Dv w w bd A F0 F L :=
  ⟨D, .of0 (.refl _ _), fun x hx => .inl (h x hx), hlt, fun x hx => (hL x hx).1, fun x hx => (hL x hx).2⟩

set_option maxRecDepth 20000 in
set_option maxHeartbeats 1000000 in
theorem append_ok {w : World} {bj bd : Nat} {J : Jr} {A : Dev} {F : Nat → Prop} (h : w.heap[bj]? = some (Bl TJ (JB bd J))) (hJ : J.Ok) (a : Option Addr) (c n : Nat) (b : Byt) (R : Rd w a 1 B8 b) (hn : b.length = n) (hm : n ≤ 900000) (hc : n ≤ c) (hlt : ∀ x, F x → x < w.heap.size) (hFj : ¬ F bj) (hFa : b = [] ∨ ¬ F (adr a).block) {mx : Nat} (hfew : Few A mx) (hmx : mx ≤ 1000000000) (DA : DevAt w bd A F) :
    Ret Tryd.prog 32 #[ptr bj, .slice a n c] w fun v w' => v = .int .i64 (appE A J b) ∧ ∃ F', Dv w w' bd (appD A J b) (fun x => F x ∨ x = bj) F' [(bj, Bl TJ (JB bd (appJ A J b)))] := by
  subst hn
  obtain ⟨w0, rfl⟩ : ∃ w0, w0 = w := ⟨_, rfl⟩
  have D0 : Dv w0 w0 bd A (fun x => F x ∨ x = bj) F [(bj, Bl TJ (JB bd J))] := Dv.start DA hlt (fun x h => .inl h) fun x hx => by rw [List.mem_singleton.1 hx]; exact ⟨h, hFj⟩
  have hbl := blk_le b.length
  refine ret_of_W (fn := Tryd.f32) Tryd.func32 rfl [.pointer (some ⟨bj, 0, none⟩), .slice a b.length c] rfl (by kernel_rfl) ?_
  refine W_rseq ?_
  refine op_assign rfl (.int _ _) rfl ?_
  refine op_nil (at_then ?_)
  refine W_seq ?_
  refine W_rseq ?_
  refine op_move rfl (.pointer _) rfl ?_
  refine op_call rfl ca_66_JoE (may_ok h) rfl ?_
  rintro v w ⟨rfl, rfl⟩
  refine op_assign rfl (.int _ _) rfl ?_
  refine op_nil (at_then ?_)
  refine W_rseq ?_
  refine op_move rfl (.int _ _) rfl ?_
  refine op_neq rfl rfl rfl ?_
  refine op_nil (at_then ?_)
  refine W_cond _ rfl ?_ ?_
  · intro h1
    replace h1 := ndec_t h1
    have hd : J.dead = true := by cases hd : J.dead <;> simp_all
    refine W_rseq ?_
    refine op_move rfl (.int _ _) rfl ?_
    refine op_assign rfl (.int _ _) rfl ?_
    refine op_nil (at_then ?_)
    refine W_ret (ret_then (leave1 (v := (.int _ _)) rfl rfl rfl ?_))
    exact ⟨by rw [appE, hd]; rfl, F, by rw [appD, appJ, hd]; exact D0⟩
  · intro h1
    replace h1 := ndec_f h1
    have hd : J.dead = false := by cases hd : J.dead <;> simp_all
    refine W_skip (at_then ?_)
    refine W_seq ?_
    refine W_rseq ?_
    refine op_move rfl (.slice _ _ _) rfl ?_
    refine op_len rfl el_23 rfl ?_
    refine op_call rfl ca_35_JoE (jblocks_ok (b.length : Int) (by omega) _) rfl ?_
    rintro v w ⟨rfl, rfl⟩
    rw [blkI_nat]
    refine op_move rfl (.pointer _) rfl ?_
    refine op_call rfl ca_34_JoE (free_ok h hJ) rfl ?_
    rintro v w ⟨rfl, hx⟩
    have D1 := D0.call hx
    refine op_gtr rfl rfl rfl ?_
    refine op_nil (at_then ?_)
    refine W_cond _ rfl ?_ ?_
    · intro h2
      replace h2 := dec_t h2
      have hf : J.size - J.taken < blk b.length := by omega
      refine W_rseq ?_
      refine op_assign rfl (.int _ _) rfl ?_
      refine op_nil (at_then ?_)
      refine W_ret (ret_then (leave1 (v := (.int _ _)) rfl rfl rfl ?_))
      exact ⟨by rw [appE, hd, if_pos hf]; rfl, F, by rw [appD, appJ, hd, if_pos hf, if_pos hf]; exact D1⟩
    · intro h2
      replace h2 := dec_f h2
      have hf : ¬ J.size - J.taken < blk b.length := by omega
      refine W_skip (at_then ?_)
      refine W_seq ?_
      refine W_rseq ?_
      refine op_move rfl (.pointer _) rfl ?_
      refine op_move rfl (.slice _ _ _) rfl ?_
      refine op_call rfl ca_67_JoE (jwrite_ok (D1.blk _ (List.mem_cons_self ..)) hJ a c _ b (R.ext0 hx) rfl hm hc D1.lt hFj hFa hfew hmx D1.dev) rfl ?_
      rintro v w2 ⟨rfl, F2, D2⟩
      have D2' : Dv w0 w2 bd (writeJ A J b).2 (fun x => F x ∨ x = bj) F2 [(bj, Bl TJ (JB bd J))] := Dv.from D2 hx fun x h => .inl h
      refine op_assign rfl (.int _ _) rfl ?_
      refine op_nil (at_then ?_)
      refine W_rseq ?_
      refine op_move rfl (.int _ _) rfl ?_
      refine op_neq rfl rfl rfl ?_
      refine op_nil (at_then ?_)
      refine W_cond _ rfl ?_ ?_
      · intro h3
        replace h3 := ndec_t h3
        have hJ2 := D2'.blk _ (List.mem_cons_self ..)
        unfold JB at hJ2
        have H := Ctx.start1 hJ2
        refine W_rseq ?_
        refine op_move rfl (.pointer _) rfl ?_
        refine op_nilCheck rfl rfl ?_
        refine op_fieldAddr rfl fo_108_6_JoE rfl ?_
        refine op_stb (.bool _) rfl sz_4 rfl rfl rfl H (by first | exact at0 | exact at1 | exact at2 | exact at3 | exact at4 | exact at5 | exact at6 | exact at7 | exact at8 | exact at9) (by first | decide | (simp; done) | (simp; omega)) ?_
        rintro w H
        refine op_nil (at_then ?_)
        refine W_rseq ?_
        refine op_move rfl (.int _ _) rfl ?_
        refine op_assign rfl (.int _ _) rfl ?_
        refine op_nil (at_then ?_)
        refine W_ret (ret_then (leave1 (v := (.int _ _)) rfl rfl rfl ?_))
        have hd' : (false = true) = False := by simp
        refine ⟨by rw [appE, hd, if_neg hf]; rfl, F2, ?_⟩
        rw [appD, appJ, hd, if_neg hf, if_neg hf, if_neg h3]
        exact D2'.mine (.inr rfl) H.ext (H.get at0)
      · intro h3
        replace h3 := ndec_f h3
        have hbt := blk_two b.length
        refine W_skip (at_then ?_)
        refine W_rseq ?_
        refine op_move rfl (.pointer _) rfl ?_
        refine op_move rfl (.slice _ _ _) rfl ?_
        refine op_len rfl el_23 rfl ?_
        refine op_call rfl ca_65_JoE (passes_ok (D2'.blk _ (List.mem_cons_self ..)) hJ b.length (by omega) (by have := hJ.t; omega)) rfl ?_
        rintro v w3 ⟨rfl, hj3, hx3⟩
        refine op_nil (at_then ?_)
        refine W_rseq ?_
        refine op_assign rfl (.int _ _) rfl ?_
        refine op_nil (at_then ?_)
        refine W_ret (leave1 (v := (.int _ _)) rfl rfl rfl ?_)
        refine ⟨by rw [appE, hd, if_neg hf, h3]; rfl, F2, ?_⟩
        rw [appD, appJ, hd, if_neg hf, if_neg hf, if_pos h3]
        exact D2'.mine (.inr rfl) hx3 hj3
theorem append_nil (w : World) (v : Value) : Ret Tryd.prog 32 #[.pointer none, v] w fun v w' => v = .int .i64 2 ∧ w = w' := by
  refine ret_of_W (fn := Tryd.f32) Tryd.func32 rfl [.pointer none, v] rfl (by kernel_rfl) ?_
  refine W_rseq ?_
  refine op_assign rfl (.int _ _) rfl ?_
  refine op_nil (at_then ?_)
  refine W_seq ?_
  refine W_rseq ?_
  refine op_move rfl (.pointer _) rfl ?_
  refine op_call rfl ca_66_JoE (may_nil w) rfl ?_
  rintro v w ⟨rfl, rfl⟩
  refine op_assign rfl (.int _ _) rfl ?_
  refine op_nil (at_then ?_)
  refine W_rseq ?_
  refine op_move rfl (.int _ _) rfl ?_
  refine op_neq rfl rfl rfl ?_
  refine op_nil (at_then ?_)
  refine W_cond1 rfl ?_
  refine W_rseq ?_
  refine op_move rfl (.int _ _) rfl ?_
  refine op_assign rfl (.int _ _) rfl ?_
  refine op_nil (at_then ?_)
  refine W_ret (ret_then (leave1 (v := (.int _ _)) rfl rfl rfl ?_))
  exact ⟨rfl, rfl⟩

end Go.Proofs.YtkmbcpgnafmnpaaDoor

/- A journal reads the string that comes. -/
namespace Go.Proofs.YtkmbcpgnafmnpaaDoor
open Go.GV
theorem ca_14_JoN : callable Tryd.prog 14 = true := by kernel_rfl
theorem ca_35_JoN : callable Tryd.prog 35 = true := by kernel_rfl
theorem ca_81_JoN : callable Tryd.prog 81 = true := by kernel_rfl
theorem ca_82_JoN : callable Tryd.prog 82 = true := by kernel_rfl
theorem ca_83_JoN : callable Tryd.prog 83 = true := by kernel_rfl
theorem ca_84_JoN : callable Tryd.prog 84 = true := by kernel_rfl
theorem ca_85_JoN : callable Tryd.prog 85 = true := by kernel_rfl
theorem fo_108_0_JoN : fieldO Tryd.prog 108 0 = some 0 := by kernel_rfl
theorem fo_108_2_JoN : fieldO Tryd.prog 108 2 = some 2 := by kernel_rfl
theorem fo_108_5_JoN : fieldO Tryd.prog 108 5 = some 5 := by kernel_rfl
attribute [local irreducible] Wops W Wq Wt

def kindOf (b : Byt) : UInt8 := bif decide (openE b = 0) then kindB b else 0
def bodyOf (b : Byt) : Byt := bif decide (openE b = 0) then bodyB b else []
theorem open_kb {b : Byt} {w w' : World} {v : Value} (h : OpenPost b w v w') : ∃ a c, v = .tuple #[bv (kindOf b), .slice a (bodyOf b).length c, .int .i64 (openE b)] ∧ Ext [] w w' ∧ Rd w' a 1 B8 (bodyOf b) ∧ (bodyOf b).length ≤ c := by
  rcases h with ⟨h, rfl, hx⟩ | ⟨h, s, rfl, F⟩
  · exact ⟨none, 0, by rw [kindOf, bodyOf, decide_eq_false h]; rfl, hx, by rw [bodyOf, decide_eq_false h]; exact Rd.nil, by rw [bodyOf, decide_eq_false h]; exact Nat.le_refl _⟩
  · obtain ⟨a, c, rfl, R, hc⟩ := Fresh.rdB F
    exact ⟨a, c, by rw [kindOf, bodyOf, h]; rfl, F.ext, by rw [bodyOf, h]; exact R, by rw [bodyOf, h]; exact hc⟩
theorem bodyOf_le (b : Byt) : (bodyOf b).length ≤ 505 := by
  unfold bodyOf
  cases decide (openE b = 0)
  · exact Nat.zero_le _
  · show (bodyB b).length ≤ 505
    unfold bodyB restB
    rw [List.length_take, List.length_take]; omega

def pieceOk (J : Jr) (i : Nat) (b : Byt) : Bool := decide ((kindOf b).toNat = 1) && prefB (bodyOf b) (pieceB J.seq i [])
def endOk (J : Jr) (i : Nat) (s b : Byt) : Bool := decide ((kindOf b).toNat = 2) && (decide (0 < i) && (decide (i = blk s.length - 1) && decide (bodyOf b = endB J.seq s)))
def nextR (A : Dev) (J : Jr) : Nat → Nat → Byt → Option Byt
  | 0, _, _ => none
  | n + 1, i, s => if pieceOk J i (at' A (J.place i)) then nextR A J n (i + 1) (s ++ (bodyOf (at' A (J.place i))).drop 12) else if endOk J i s (at' A (J.place i)) then some s else none
def nextS (A : Dev) (J : Jr) : Option Byt := nextR A J (J.size - J.taken) 0 []
def nextV (s : Option Byt) (v : Value) (w w' : World) : Prop :=
  match s with
  | some s => ∃ a c, v = .tuple #[.slice a s.length c, .bool true, .int .i64 0] ∧ Rd w' a 1 B8 s ∧ s.length ≤ c ∧ (s = [] ∨ w.heap.size ≤ (adr a).block) ∧ s.length ≤ 3000000
  | none => v = .tuple #[.slice none 0 0, .bool false, .int .i64 0]

set_option maxRecDepth 20000 in
set_option maxHeartbeats 4000000 in
theorem next_ok {w : World} {bj bd : Nat} {J : Jr} {A : Dev} {F : Nat → Prop} (h : w.heap[bj]? = some (Bl TJ (JB bd J))) (hJ : J.Ok) (ho : A.on = true) (hl : J.frm + J.size ≤ A.B.length) {mx : Nat} (hfew : Few A mx) (hmx : mx ≤ 1000000000) (DA : DevAt w bd A F) :
    Ret Tryd.prog 64 #[ptr bj] w fun v w' => nextV (nextS A J) v w w' ∧ Ext [] w w' := by
  obtain ⟨w0, rfl⟩ : ∃ w0, w0 = w := ⟨_, rfl⟩
  have H := Ctx.start w0 []
  have hs2 := hJ.s2; have ht := hJ.t
  refine ret_of_W (fn := Tryd.f64) Tryd.func64 rfl [.pointer (some ⟨bj, 0, none⟩)] rfl (by kernel_rfl) ?_
  refine W_rseq ?_
  refine op_assign rfl (.slice _ _ _) rfl ?_
  refine op_assign rfl (.bool _) rfl ?_
  refine op_assign rfl (.int _ _) rfl ?_
  refine op_nil (at_then ?_)
  refine W_seq ?_
  refine W_qseq (fun x => x = _) mixed (by kernel_rfl) rfl ?_
  refine q_move rfl (.pointer _) rfl ?_
  refine q_nilCheck rfl rfl ?_
  refine q_fieldAddr rfl fo_108_2_JoN rfl ?_
  first | refine q_ldb rfl ag_3 rfl (by rintro _ rfl; exact H.drew) (by first | exact at0 | exact at1 | exact at2 | exact at3 | exact at4 | exact at5 | exact at6 | exact at7 | exact at8 | exact at9) rfl ?_ | refine q_ld rfl ag_3 rfl (by rintro _ rfl; exact (Ctx.old0 H.drew (cell_bl h _))) ?_
  refine q_move rfl (.pointer _) rfl ?_
  refine q_nilCheck rfl rfl ?_
  refine q_fieldAddr rfl fo_108_5_JoN rfl ?_
  first | refine q_ldb rfl ag_3 rfl (by rintro _ rfl; exact H.drew) (by first | exact at0 | exact at1 | exact at2 | exact at3 | exact at4 | exact at5 | exact at6 | exact at7 | exact at8 | exact at9) rfl ?_ | refine q_ld rfl ag_3 rfl (by rintro _ rfl; exact (Ctx.old0 H.drew (cell_bl h _))) ?_
  refine q_sub_i64 rfl rfl rfl (by omega) (by omega) ?_
  refine q_move rfl (.int _ _) rfl ?_
  refine q_nil ?_
  rintro _ rfl
  replace H := H.drew
  refine W_block ?_
  refine W_loop 38685626227668133589551100 (α := Nat × Byt × Option Addr × Nat × List Value) (fun s => [(20, .int .i64 s.1), (2, .slice s.2.2.1 s.2.1.length s.2.2.2.1)]) (fun s w' => s.1 ≤ J.size - J.taken ∧ s.2.1.length ≤ 505 * s.1 ∧ Ctx w0 [] w' (ent s.2.2.1 5 s.2.2.2.2) ∧ OS s.2.2.1 s.2.1.length s.2.2.2.1 1 s.2.2.2.2 (s.2.1.map bv) ∧ nextR A J (J.size - J.taken - s.1) s.1 s.2.1 = nextS A J) (fun s => J.size - J.taken - s.1) (0, [], none, 0, []) rfl ?_ ?_ ?_
  · exact ⟨rfl, rfl, trivial⟩
  · exact ⟨Nat.zero_le _, Nat.zero_le _, H, OS.nil, rfl⟩
  · rintro ⟨i, s, a, c, full⟩ j w ⟨hi, hsl, H, O, hN⟩; dsimp only at hi hsl H O hN; dsimp only
    refine W_rseq ?_
    refine op_lss rfl rfl rfl ?_
    refine op_nil (at_then ?_)
    refine W_seq ?_
    refine W_cond _ rfl ?_ ?_
    · intro h1
      replace h1 := dec_t h1
      obtain ⟨n, hn⟩ : ∃ n, J.size - J.taken - i = n + 1 := ⟨J.size - J.taken - i - 1, by omega⟩
      have hpl := hJ.place i
      have hrE : readE A (J.place i : Int) = 0 := by
        unfold readE Dev.has
        rw [ho, decide_eq_true (show (0 : Int) ≤ J.place i by omega), decide_eq_true (show (J.place i : Int) < A.B.length by omega)]; rfl
      have hrB : readB A (J.place i : Int) = at' A (J.place i) := by
        unfold readB at'
        rw [hrE]; rfl
      have hrl : (at' A (J.place i)).length = 512 := stands_len DA.wf (getD_mem (by omega))
      obtain ⟨raw, hraw⟩ : ∃ raw, raw = at' A (J.place i) := ⟨_, rfl⟩
      rw [← hraw] at hrB hrl
      have hNx : nextS A J = if pieceOk J i raw then nextR A J n (i + 1) (s ++ (bodyOf raw).drop 12) else if endOk J i s raw then some s else none := by
        rw [← hN, hn, hraw]; rfl
      have hjw : w.heap[bj]? = some (Bl TJ (JB bd J)) := by rw [H.ext.block bj (heap_lt h) (by simp)]; exact h
      refine W_skip (at_then ?_)
      refine W_seq ?_
      refine W_block ?_
      refine W_rseq ?_
      refine op_move rfl (.int _ _) rfl ?_
      refine op_assign rfl (.int _ _) rfl ?_
      refine op_nil (at_then ?_)
      refine W_sseqz [([0, 1, 2, 3, 4, 5], 6), ([], 7), ([8, 9, 10, 11], 12)] (fun z => z.heap[bj]? = some (Bl TJ (JB bd J))) [] mixed (by kernel_rfl) (hjw) ?_
      refine seg_cons rfl rfl ?_
      refine t_move rfl (.pointer _) rfl ?_
      refine t_nilCheck rfl rfl ?_
      refine t_fieldAddr rfl fo_108_0_JoN rfl ?_
      first | refine t_ldb rfl ag_27 rfl (fun _ _ => Ctx.start _ []) (by first | exact at0 | exact at1 | exact at2 | exact at3 | exact at4 | exact at5 | exact at6 | exact at7 | exact at8 | exact at9) rfl ?_ | refine t_ld rfl ag_27 rfl (fun _ hx => cell_bl hx (0 + 0)) ?_
      refine t_move rfl (.pointer _) rfl ?_
      refine t_move rfl (.int _ _) rfl ?_
      refine t_nil ?_
      skip
      refine op_call rfl ca_81_JoN (place_ok (show (World.drew w).heap[bj]? = _ from hjw) hJ i (by omega)) rfl ?_
      rintro v w3 ⟨rfl, hx3⟩
      replace H := H.drew.call hx3
      have hj3 : w3.heap[bj]? = some (Bl TJ (JB bd J)) := by rw [hx3.block bj (heap_lt hjw) (by simp)]; exact hjw
      refine op_nil (at_seg (hj3) ?_)
      refine seg_cons rfl rfl ?_
      refine t_nil ?_
      refine op_call rfl ca_14_JoN (dread_ok (J.place i : Int) hfew (by omega) (DA.keep0 H.ext)) rfl ?_
      rintro v w4 ⟨s31, rfl, F31⟩
      rw [hrB] at F31
      rw [hrE]
      obtain ⟨a31, c31, rfl, R31, hc31⟩ := Fresh.rdB F31
      replace H := H.call F31.ext
      have hj4 : w4.heap[bj]? = some (Bl TJ (JB bd J)) := by rw [F31.ext.block bj (heap_lt hj3) (by simp)]; exact hj3
      refine op_nil (at_seg (hj4) ?_)
      refine seg_cons rfl rfl ?_
      refine t_move rfl (.tuple _) rfl ?_
      refine t_extract rfl rfl rfl ?_
      refine t_extract rfl rfl rfl ?_
      refine t_assign rfl (.slice _ _ _) rfl ?_
      refine t_nil ?_
      refine op_assign rfl (.int _ _) rfl ?_
      refine op_nil (at_seg (hj4) ?_)
      refine seg_nil ?_
      refine W_seq ?_
      refine W_rseq ?_
      refine op_move rfl (.int _ _) rfl ?_
      refine op_neq rfl rfl rfl ?_
      refine op_nil (at_then ?_)
      refine W_cond0 rfl ?_
      refine W_skip (at_then ?_)
      refine W_rseq ?_
      refine op_move rfl (.slice _ _ _) rfl ?_
      refine op_call rfl ca_72 (open_ok a31 c31 _ raw _ R31 rfl (by omega) hc31) rfl ?_
      rintro v w5 P39
      obtain ⟨a39, c39, rfl, hx39, R39, hc39⟩ := open_kb P39
      replace H := H.call hx39
      have hj5 : w5.heap[bj]? = some (Bl TJ (JB bd J)) := by rw [hx39.block bj (heap_lt hj4) (by simp)]; exact hj4
      refine op_move rfl (.tuple _) rfl ?_
      refine op_extract rfl rfl rfl ?_
      refine op_extract rfl rfl rfl ?_
      refine op_extract rfl rfl rfl ?_
      refine op_assign rfl (.int _ _) rfl ?_
      refine op_assign rfl (.slice _ _ _) rfl ?_
      refine op_assign rfl (.int _ _) rfl ?_
      refine op_nil (at_then ?_)
      refine W_block ?_
      have hxj : Ext [] w5 w5 := .refl _ _
      have hbo := bodyOf_le raw
      have hb2 := blk_two s.length
      have hb3 := blk_le s.length
      have hp12 : (pieceB J.seq i []).length = 12 := by rw [pieceB_len]; rfl
      refine W_rseq (Wops_join (α := Unit) 8998403161718784 (fun _ => [(43, .bool (pieceOk J i raw))]) (fun _ w' => Ctx w0 [] w' (ent a 5 full) ∧ Ext [] w5 w') rfl ?_ ?_)
      · refine op_move rfl (.int _ _) rfl ?_
        refine op_eql rfl rfl rfl ?_
        refine op_move rfl (.bool _) rfl ?_
        refine Wops_split 46 rfl ?_ ?_
        · intro h1
          replace h1 := dec_t h1
          refine op_move rfl (.slice _ _ _) rfl ?_
          refine op_move rfl (.pointer _) rfl ?_
          refine op_move rfl (.int _ _) rfl ?_
          refine op_call rfl ca_83_JoN (piece_ok hj5 hJ i (by omega) none 0 0 [] Rd.nil rfl (by decide)) rfl ?_
          rintro v w6 F50
          obtain ⟨a50, c50, rfl, R50, hc50⟩ := Fresh.rdB F50
          replace H := H.call F50.ext
          replace hxj := F50.ext
          refine op_call rfl ca_82_JoN (prefix_ok a39 a50 c39 c50 _ _ (bodyOf raw) (pieceB J.seq i []) (R39.ext0 F50.ext) R50 rfl rfl hc39) rfl ?_
          rintro v w7 ⟨rfl, rfl⟩
          refine op_pick1 rfl rfl (.bool _) rfl ?_
          refine op_assign rfl (.bool _) rfl ?_
          refine op_nil ?_
          exact ⟨rfl, (), rfl, ⟨congrArg Value.bool (by rw [Bool.eq_iff_iff]; simp_all [pieceOk]; try first | omega | (intros; omega)), trivial⟩, ⟨H, hxj⟩⟩
        · intro h2
          replace h2 := dec_f h2
          refine op_skip rfl ?_
          refine op_skip rfl ?_
          refine op_skip rfl ?_
          refine op_skip rfl ?_
          refine op_skip rfl ?_
          refine op_pick0 rfl rfl (.bool _) rfl ?_
          refine op_assign rfl (.bool _) rfl ?_
          refine op_nil ?_
          exact ⟨rfl, (), rfl, ⟨congrArg Value.bool (by rw [Bool.eq_iff_iff]; simp_all [pieceOk]; try first | omega | (intros; omega)), trivial⟩, ⟨H, hxj⟩⟩
      rintro - j43 w ⟨H, hx9⟩
      have hj6 : w.heap[bj]? = some (Bl TJ (JB bd J)) := by rw [hx9.block bj (heap_lt hj5) (by simp)]; exact hj5
      have R9 := R39.ext0 hx9
      refine W_cond _ rfl ?_ ?_
      · intro h2
        have hpl12 : 12 ≤ (bodyOf raw).length := by
          have h3 := h2
          simp only [pieceOk, prefB, Bool.and_eq_true, decide_eq_true_eq] at h3
          omega
        have hl60 : (s ++ (bodyOf raw).drop 12).length = s.length + ((bodyOf raw).length - ((12 : Nat) : Int).toNat) := by rw [List.length_append, List.length_drop]; rfl
        refine W_region ?_
        refine op_move rfl (.slice _ _ _) rfl ?_
        refine op_move rfl (.slice _ _ _) rfl ?_
        refine op_move rfl (.pointer _) rfl ?_
        refine op_move rfl (.int _ _) rfl ?_
        refine op_call rfl ca_83_JoN (piece_ok hj6 hJ i (by omega) none 0 0 [] Rd.nil rfl (by decide)) rfl ?_
        rintro v w7 F57
        obtain ⟨a57, c57, rfl, R57, hc57⟩ := Fresh.rdB F57
        replace H := H.call F57.ext
        rw [hp12]
        refine op_len rfl el_23 rfl ?_
        refine op_slice_lo rfl el_23 sz_5 rfl rfl (by omega) (by omega) ?_
        refine op_append (L := []) rfl el_23 el_23 sz_5 by_5 zc_5 rfl (by decide) (((bodyOf raw).drop 12).map bv) rfl rfl H O (by simp) (bv_one _) (Rd.appB ((R9.cut 12 c39 hc39).ext0 F57.ext)) (by omega) ?_
        rintro a60 c60 full60 w8 H O
        rw [← List.map_append, ← hl60] at O
        rw [← hl60]
        refine op_assign rfl (.slice _ _ _) rfl ?_
        refine op_nil (at_block (at_block (at_then ?_)))
        refine W_region ?_
        refine op_add_i64 rfl rfl rfl (by omega) (by omega) ?_
        refine op_move rfl (.int _ _) rfl ?_
        refine op_nil (at_then ?_)
        refine ⟨(i + 1, s ++ (bodyOf raw).drop 12, a60, c60, full60), rfl, ⟨rfl, rfl, trivial⟩, ⟨by dsimp only; omega, by dsimp only; omega, H, O, ?_⟩, by dsimp only; omega⟩
        dsimp only
        rw [hNx, if_pos h2, show J.size - J.taken - (i + 1) = n by omega]
      · intro h2
        have hxk : Ext [] w w := .refl _ _
        refine W_rseq (Wops_join (α := Unit) 9671404251074024183955456 (fun _ => [(61, .bool (endOk J i s raw))]) (fun _ w' => Ctx w0 [] w' (ent a 5 full)) rfl ?_ ?_)
        · refine op_move rfl (.int _ _) rfl ?_
          refine op_eql rfl rfl rfl ?_
          refine op_move rfl (.bool _) rfl ?_
          refine Wops_split 64 rfl ?_ ?_
          · intro h3
            replace h3 := dec_t h3
            refine op_move rfl (.int _ _) rfl ?_
            refine op_gtr rfl rfl rfl ?_
            refine op_pick1 rfl rfl (.bool _) rfl ?_
            refine op_move rfl (.bool _) rfl ?_
            refine Wops_split 68 rfl ?_ ?_
            · intro h4
              replace h4 := dec_t h4
              refine op_move rfl (.int _ _) rfl ?_
              refine op_move rfl (.slice _ _ _) rfl ?_
              refine op_len rfl el_23 rfl ?_
              refine op_call rfl ca_35_JoN (jblocks_ok (s.length : Int) (by omega) _) rfl ?_
              rintro v w7 ⟨rfl, rfl⟩
              rw [blkI_nat]
              refine op_sub_i64 rfl rfl rfl (by omega) (by omega) ?_
              refine op_eql rfl rfl rfl ?_
              refine op_pick1 rfl rfl (.bool _) rfl ?_
              refine op_move rfl (.bool _) rfl ?_
              refine Wops_split 76 rfl ?_ ?_
              · intro h5
                replace h5 := dec_t h5
                refine op_move rfl (.slice _ _ _) rfl ?_
                refine op_move rfl (.pointer _) rfl ?_
                refine op_move rfl (.slice _ _ _) rfl ?_
                refine op_call rfl ca_85_JoN (end_ok hj6 hJ a c _ s rfl (by omega)) rfl ?_
                rintro v w8 F80
                obtain ⟨a80, c80, rfl, R80, hc80⟩ := Fresh.rdB F80
                replace H := H.call F80.ext
                refine op_call rfl ca_84_JoN (equal_ok a39 a80 c39 c80 _ _ (bodyOf raw) (endB J.seq s) (R9.ext0 F80.ext) R80 rfl rfl) rfl ?_
                rintro v w9 ⟨rfl, rfl⟩
                refine op_pick1 rfl rfl (.bool _) rfl ?_
                refine op_assign rfl (.bool _) rfl ?_
                refine op_nil ?_
                exact ⟨rfl, (), rfl, ⟨congrArg Value.bool (by rw [Bool.eq_iff_iff]; simp_all [endOk]; try first | omega | exact ⟨fun hh => ⟨by omega, by omega, by omega, hh⟩, fun hh => hh.2.2.2⟩), trivial⟩, H⟩
              · intro h6
                replace h6 := dec_f h6
                refine op_skip rfl ?_
                refine op_skip rfl ?_
                refine op_skip rfl ?_
                refine op_skip rfl ?_
                refine op_skip rfl ?_
                refine op_pick0 rfl rfl (.bool _) rfl ?_
                refine op_assign rfl (.bool _) rfl ?_
                refine op_nil ?_
                exact ⟨rfl, (), rfl, ⟨congrArg Value.bool (by rw [Bool.eq_iff_iff]; simp_all [endOk]; try first | omega | exact ⟨fun hh => ⟨by omega, by omega, by omega, hh⟩, fun hh => hh.2.2.2⟩), trivial⟩, H⟩
            · intro h7
              replace h7 := dec_f h7
              refine op_skip rfl ?_
              refine op_skip rfl ?_
              refine op_skip rfl ?_
              refine op_skip rfl ?_
              refine op_skip rfl ?_
              refine op_skip rfl ?_
              refine op_pick0 rfl rfl (.bool _) rfl ?_
              refine op_move rfl (.bool _) rfl ?_
              refine op_skip rfl ?_
              refine op_skip rfl ?_
              refine op_skip rfl ?_
              refine op_skip rfl ?_
              refine op_skip rfl ?_
              refine op_pick0 rfl rfl (.bool _) rfl ?_
              refine op_assign rfl (.bool _) rfl ?_
              refine op_nil ?_
              exact ⟨rfl, (), rfl, ⟨congrArg Value.bool (by rw [Bool.eq_iff_iff]; simp_all [endOk]; try first | omega | exact ⟨fun hh => ⟨by omega, by omega, by omega, hh⟩, fun hh => hh.2.2.2⟩), trivial⟩, H⟩
          · intro h8
            replace h8 := dec_f h8
            refine op_skip rfl ?_
            refine op_skip rfl ?_
            refine op_pick0 rfl rfl (.bool _) rfl ?_
            refine op_move rfl (.bool _) rfl ?_
            refine op_skip rfl ?_
            refine op_skip rfl ?_
            refine op_skip rfl ?_
            refine op_skip rfl ?_
            refine op_skip rfl ?_
            refine op_skip rfl ?_
            refine op_pick0 rfl rfl (.bool _) rfl ?_
            refine op_move rfl (.bool _) rfl ?_
            refine op_skip rfl ?_
            refine op_skip rfl ?_
            refine op_skip rfl ?_
            refine op_skip rfl ?_
            refine op_skip rfl ?_
            refine op_pick0 rfl rfl (.bool _) rfl ?_
            refine op_assign rfl (.bool _) rfl ?_
            refine op_nil ?_
            exact ⟨rfl, (), rfl, ⟨congrArg Value.bool (by rw [Bool.eq_iff_iff]; simp_all [endOk]; try first | omega | exact ⟨fun hh => ⟨by omega, by omega, by omega, hh⟩, fun hh => hh.2.2.2⟩), trivial⟩, H⟩
        rintro - j61 w H
        refine W_cond _ rfl ?_ ?_
        · intro h3
          obtain ⟨a', c', he, R', hc', hb'⟩ := Fresh.newB (Ctx.fresh (L := []) H O)
          injection he with e1 _ e2
          subst e1 e2
          refine W_rseq ?_
          refine op_move rfl (.slice _ _ _) rfl ?_
          refine op_assign rfl (.slice _ _ _) rfl ?_
          refine op_assign rfl (.bool _) rfl ?_
          refine op_assign rfl (.int _ _) rfl ?_
          refine op_nil (at_then ?_)
          refine W_ret (ret_block (ret_block (ret_then (ret_then (ret_block (ret_then (leave3 (v1 := (.slice _ _ _)) (v2 := (.bool _)) (v3 := (.int _ _)) rfl rfl rfl rfl rfl ?_)))))))
          exact ⟨by rw [hNx, if_neg (by rw [h2]; simp), if_pos h3]; exact ⟨a, c, rfl, R', hc', hb', by omega⟩, H.ext⟩
        · intro h3
          refine W_rseq ?_
          refine op_assign rfl (.slice _ _ _) rfl ?_
          refine op_assign rfl (.bool _) rfl ?_
          refine op_assign rfl (.int _ _) rfl ?_
          refine op_nil (at_then ?_)
          refine W_ret (ret_block (ret_block (ret_then (ret_then (ret_block (ret_then (leave3 (v1 := (.slice _ _ _)) (v2 := (.bool _)) (v3 := (.int _ _)) rfl rfl rfl rfl rfl ?_)))))))
          exact ⟨by rw [hNx, if_neg (by rw [h2]; simp), if_neg (by rw [h3]; simp)]; exact rfl, H.ext⟩
    · intro h1
      replace h1 := dec_f h1
      have hi2 : J.size - J.taken - i = 0 := by omega
      rw [hi2] at hN
      refine W_exit (exit_then (exit_then (exit_here (at_then ?_))))
      refine W_rseq ?_
      refine op_assign rfl (.slice _ _ _) rfl ?_
      refine op_assign rfl (.bool _) rfl ?_
      refine op_assign rfl (.int _ _) rfl ?_
      refine op_nil (at_then ?_)
      refine W_ret (leave3 (v1 := (.slice _ _ _)) (v2 := (.bool _)) (v3 := (.int _ _)) rfl rfl rfl rfl rfl ?_)
      exact ⟨by rw [← hN]; exact rfl, H.ext⟩

end Go.Proofs.YtkmbcpgnafmnpaaDoor

/- A journal is opened. -/
namespace Go.Proofs.YtkmbcpgnafmnpaaDoor
open Go.GV
theorem ca_46_JoO : callable Tryd.prog 46 = true := by kernel_rfl
theorem ca_64_JoO : callable Tryd.prog 64 = true := by kernel_rfl
theorem ca_65_JoO : callable Tryd.prog 65 = true := by kernel_rfl
theorem pl_108_JoO : placesB Tryd.prog 108 = some [(0, 1), (1, 1), (2, 1), (3, 1), (4, 1), (5, 1), (6, 1)] := by kernel_rfl
theorem zc_108_JoO : zcells Tryd.prog 108 = some ([.pointer none, .int .i64 0, .int .i64 0, .int .i64 0, .int .u64 0, .int .i64 0, .bool false]) := by kernel_rfl
attribute [local irreducible] Wops W Wq Wt

theorem nextR_fit {A : Dev} {J : Jr} {s : Byt} : ∀ (n i : Nat) (s0 : Byt), nextR A J n i s0 = some s → ∃ j, i ≤ j ∧ j < i + n ∧ j = blk s.length - 1 ∧ endOk J j s (at' A (J.place j)) = true
  | 0, _, _, h => by cases h
  | n + 1, i, s0, h => by
    unfold nextR at h
    split at h
    · obtain ⟨j, h1, h2, h3⟩ := nextR_fit n _ _ h
      exact ⟨j, by omega, by omega, h3⟩
    · split at h
      · rename_i h2
        cases h
        refine ⟨i, Nat.le_refl _, by omega, ?_, h2⟩
        simp only [endOk, Bool.and_eq_true, decide_eq_true_eq] at h2
        exact h2.2.2.1
      · cases h
theorem nextS_fit {A : Dev} {J : Jr} {s : Byt} (h : nextS A J = some s) : J.taken + blk s.length ≤ J.size := by
  obtain ⟨j, h1, h2, h3, -⟩ := nextR_fit _ _ _ h
  have := blk_two s.length
  omega
theorem Jr.Ok.passes {J : Jr} (h : J.Ok) (hq : J.seq ≤ 4611686018427387904 + J.taken) {n : Nat} (hf : J.taken + blk n ≤ J.size) : (J.passes n).Ok ∧ (J.passes n).seq ≤ 4611686018427387904 + (J.passes n).taken := by
  have h1 := h.s1; have h2 := h.s2; have h3 := blk_two n
  have hm := Nat.mod_lt (J.at' + blk n) (show 0 < J.size by omega)
  refine ⟨⟨h.s1, h.s2, hm, hf, ?_⟩, ?_⟩
  · show J.seq + 1 ≤ _; omega
  · show J.seq + 1 ≤ _ + (J.taken + blk n); omega

def openF (A : Dev) : Nat → Jr → List Byt × Jr
  | 0, J => ([], J)
  | n + 1, J => match nextS A J with
    | none => ([], J)
    | some s => (s :: (openF A n (J.passes s.length)).1, (openF A n (J.passes s.length)).2)
def openJ (A : Dev) (J : Jr) : List Byt × Jr := openF A (J.size + 1) J
theorem openF_none {A : Dev} {J : Jr} (n : Nat) (h : nextS A J = none) : openF A (n + 1) J = ([], J) := by unfold openF; rw [h]
theorem openF_some {A : Dev} {J : Jr} (n : Nat) {s : Byt} (h : nextS A J = some s) : openF A (n + 1) J = (s :: (openF A n (J.passes s.length)).1, (openF A n (J.passes s.length)).2) := by
  show (match nextS A J with | none => _ | some s => _) = _
  rw [h]
theorem openF_ok {A : Dev} : ∀ (n : Nat) (J : Jr), J.Ok → J.seq ≤ 4611686018427387904 + J.taken → (openF A n J).2.Ok ∧ (openF A n J).2.seq ≤ 4611686018427387904 + (openF A n J).2.taken
  | 0, J, h, hq => ⟨h, hq⟩
  | n + 1, J, h, hq => by
    cases hs : nextS A J with
    | none => rw [openF_none n hs]; exact ⟨h, hq⟩
    | some s =>
      rw [openF_some n hs]
      have h1 := h.passes hq (nextS_fit hs)
      exact openF_ok n _ h1.1 h1.2

/-- A slice of byte strings. -/
abbrev SB := Option Addr × Byt × Nat
def encS (x : SB) : List Value := [.slice x.1 x.2.1.length x.2.2]
def RdS (w : World) (x : SB) : Prop := Rd w x.1 1 B8 x.2.1 ∧ x.2.1.length ≤ x.2.2
structure Strs (w : World) (a : Option Addr) (n c : Nat) (L : List Byt) : Prop where
  ex : ∃ xs : List SB, Rd w a 1 encS xs ∧ xs.map (fun x => x.2.1) = L ∧ ∀ x ∈ xs, RdS w x
  num : n = L.length
  le : n ≤ c
theorem RdS.ext0 {w w' : World} {x : SB} (h : RdS w x) (hx : Ext [] w w') : RdS w' x := ⟨h.1.ext0 hx, h.2⟩
theorem Strs.ext0 {w w' : World} {a : Option Addr} {n c : Nat} {L : List Byt} (h : Strs w a n c L) (hx : Ext [] w w') : Strs w' a n c L :=
  let ⟨xs, R, hl, hr⟩ := h.ex; ⟨⟨xs, R.ext0 hx, hl, fun x hm => (hr x hm).ext0 hx⟩, h.num, h.le⟩
/-- .. whose strings lie in blocks from N on. -/
structure StrsF (N : Nat) (w : World) (a : Option Addr) (n c : Nat) (L : List Byt) : Prop where
  ex : ∃ xs : List SB, Rd w a 1 encS xs ∧ xs.map (fun x => x.2.1) = L ∧ (∀ x ∈ xs, RdS w x) ∧ (xs = [] ∨ N ≤ (adr a).block) ∧ ∀ x ∈ xs, x.2.1 = [] ∨ N ≤ (adr x.1).block
  num : n = L.length
  le : n ≤ c
theorem StrsF.strs {N : Nat} {w : World} {a : Option Addr} {n c : Nat} {L : List Byt} (h : StrsF N w a n c L) : Strs w a n c L :=
  let ⟨xs, R, hl, hr, _⟩ := h.ex; ⟨⟨xs, R, hl, hr⟩, h.num, h.le⟩
theorem StrsF.side {N : Nat} {w w' : World} {a : Option Addr} {n c : Nat} {L : List Byt} {S : List Nat} (h : StrsF N w a n c L) (hx : Ext S w w') (hS : ∀ x ∈ S, x < N) : StrsF N w' a n c L := by
  obtain ⟨xs, R, hl, hr, ha, hb⟩ := h.ex
  refine ⟨⟨xs, ?_, hl, fun x hm => ⟨?_, (hr x hm).2⟩, ha, hb⟩, h.num, h.le⟩
  · rcases ha with rfl | ha
    · exact Rd.nil
    · exact R.ext hx fun hm => by have := hS _ hm; omega
  · rcases hb x hm with h0 | h0
    · rw [h0]; exact Rd.nil
    · exact (hr x hm).1.ext hx fun hm => by have := hS _ hm; omega
theorem StrsF.ext0 {N : Nat} {w w' : World} {a : Option Addr} {n c : Nat} {L : List Byt} (h : StrsF N w a n c L) (hx : Ext [] w w') : StrsF N w' a n c L := h.side hx fun x h => by cases h
theorem StrsF.less {N M : Nat} {w : World} {a : Option Addr} {n c : Nat} {L : List Byt} (h : StrsF N w a n c L) (hN : M ≤ N) : StrsF M w a n c L :=
  let ⟨xs, R, hl, hr, ha, hb⟩ := h.ex; ⟨⟨xs, R, hl, hr, ha.imp id (Nat.le_trans hN), fun x hm => (hb x hm).imp id (Nat.le_trans hN)⟩, h.num, h.le⟩
theorem nextV_uni {s : Option Byt} {v : Value} {w w' : World} (h : nextV s v w w') : ∃ a n c, v = .tuple #[.slice a n c, .bool s.isSome, .int .i64 0] ∧ ∀ x, s = some x → n = x.length ∧ RdS w' (a, x, c) ∧ x.length ≤ 3000000 ∧ (x = [] ∨ w.heap.size ≤ (adr a).block) := by
  cases s with
  | none => exact ⟨none, 0, 0, h, fun x hx => by cases hx⟩
  | some x =>
    obtain ⟨a, c, rfl, R, hc, hb, hm⟩ := h
    exact ⟨a, x.length, c, rfl, fun y hy => by cases hy; exact ⟨rfl, ⟨R, hc⟩, hm, hb⟩⟩

def jr0 (f z p : Int) (q : Nat) : Jr := ⟨f.toNat, z.toNat, p.toNat, q, 0, false⟩
theorem rightJ_ok {m : Nat} {f z p : Int} {q : Nat} (h : rightJ m f z p q = true) (hm : m ≤ 4096) : (jr0 f z p q).Ok ∧ (jr0 f z p q).seq ≤ 4611686018427387904 + (jr0 f z p q).taken ∧ (jr0 f z p q).frm + (jr0 f z p q).size ≤ m := by
  simp only [rightJ, Bool.and_eq_true, decide_eq_true_eq] at h
  refine ⟨⟨?_, ?_, ?_, ?_, ?_⟩, ?_, ?_⟩ <;> simp only [jr0] <;> omega

theorem jopen_nil (w : World) (f z p q : Value) : Ret Tryd.prog 29 #[.pointer none, f, z, p, q] w fun v w' => v = .tuple #[.pointer none, .slice none 0 0, .int .i64 2] ∧ w = w' := by
  refine ret_of_W (fn := Tryd.f29) Tryd.func29 rfl [.pointer none, f, z, p, q] rfl (by kernel_rfl) ?_
  refine W_rseq ?_
  refine op_assign rfl (.pointer _) rfl ?_
  refine op_assign rfl (.slice _ _ _) rfl ?_
  refine op_assign rfl (.int _ _) rfl ?_
  refine op_nil (at_then ?_)
  refine W_seq ?_
  refine W_block ?_
  refine W_rseq ?_
  refine op_move rfl (.pointer _) rfl ?_
  refine op_eqlptr rfl un_27 rfl ?_
  refine op_assign rfl (.bool _) rfl ?_
  refine op_nil (at_then ?_)
  refine W_cond1 rfl ?_
  refine W_rseq ?_
  refine op_assign rfl (.pointer _) rfl ?_
  refine op_assign rfl (.slice _ _ _) rfl ?_
  refine op_assign rfl (.int _ _) rfl ?_
  refine op_nil (at_then ?_)
  refine W_ret (ret_block (ret_then (leave3 (v1 := (.pointer _)) (v2 := (.slice _ _ _)) (v3 := (.int _ _)) rfl rfl rfl rfl rfl ?_)))
  exact ⟨rfl, rfl⟩

set_option maxRecDepth 20000 in
set_option maxHeartbeats 4000000 in
theorem jopen2_ok {w : World} {bd : Nat} {A : Dev} {F : Nat → Prop} (f z p : Int) (q : Nat) (hf : -9223372036854775808 ≤ f ∧ f ≤ 9223372036854775807) (hz : -9223372036854775808 ≤ z ∧ z ≤ 9223372036854775807) (hm : A.B.length ≤ 4096) (ho : A.on = true) {mx : Nat} (hfew : Few A mx) (hmx : mx ≤ 1000000000) (DA : DevAt w bd A F) :
    Ret Tryd.prog 29 #[ptr bd, .int .i64 f, .int .i64 z, .int .i64 p, .int .u64 (q : Int)] w fun v w' => Ext [] w w' ∧ ((rightJ A.B.length f z p q = false ∧ v = .tuple #[.pointer none, .slice none 0 0, .int .i64 1]) ∨
      (rightJ A.B.length f z p q = true ∧ ∃ bj a n c, v = .tuple #[ptr bj, .slice a n c, .int .i64 0] ∧ w.heap.size ≤ bj ∧ w'.heap[bj]? = some (Bl TJ (JB bd (openJ A (jr0 f z p q)).2)) ∧ StrsF w.heap.size w' a n c (openJ A (jr0 f z p q)).1)) := by
  obtain ⟨w0, rfl⟩ : ∃ w0, w0 = w := ⟨_, rfl⟩
  have H := Ctx.start w0 []
  obtain ⟨bs, bm, hhd⟩ := DA.hd
  refine ret_of_W (fn := Tryd.f29) Tryd.func29 rfl [.pointer (some ⟨bd, 0, none⟩), .int .i64 f, .int .i64 z, .int .i64 p, .int .u64 (q : Int)] rfl (by kernel_rfl) ?_
  refine W_rseq ?_
  refine op_assign rfl (.pointer _) rfl ?_
  refine op_assign rfl (.slice _ _ _) rfl ?_
  refine op_assign rfl (.int _ _) rfl ?_
  refine op_nil (at_then ?_)
  refine W_seq ?_
  refine W_block ?_
  refine W_rseq ?_
  refine op_move rfl (.pointer _) rfl ?_
  refine op_eqlptr rfl un_27 rfl ?_
  refine op_assign rfl (.bool _) rfl ?_
  refine op_nil (at_then ?_)
  refine W_cond0 rfl ?_
  refine W_seq ?_
  refine W_rseq ?_
  refine op_move rfl (.int _ _) rfl ?_
  refine op_lss rfl rfl rfl ?_
  refine op_assign rfl (.bool _) rfl ?_
  refine op_nil (at_then ?_)
  refine W_joinK 8796089352192 (α := Unit) (fun _ => [(19, .bool (!rightJ A.B.length f z p q))]) (fun _ w' => w0 = w') rfl ?_ ?_
  · skip
    refine W_csplit 19 rfl ?_ ?_
    · intro h1
      replace h1 := dec_t h1
      refine W_skip (at_then ?_)
      exact ⟨(), rfl, ⟨congrArg Value.bool (by rw [Bool.eq_iff_iff]; simp_all [rightJ]; try omega), trivial⟩, rfl⟩
    · intro h2
      replace h2 := dec_f h2
      refine W_rseq ?_
      refine op_move rfl (.int _ _) rfl ?_
      refine op_lss rfl rfl rfl ?_
      refine op_assign rfl (.bool _) rfl ?_
      refine op_nil (at_then ?_)
      refine W_csplit 19 rfl ?_ ?_
      · intro h3
        replace h3 := dec_t h3
        refine W_skip (at_then ?_)
        exact ⟨(), rfl, ⟨congrArg Value.bool (by rw [Bool.eq_iff_iff]; simp_all [rightJ]; try omega), trivial⟩, rfl⟩
      · intro h4
        replace h4 := dec_f h4
        refine W_rseq ?_
        refine op_move rfl (.int _ _) rfl ?_
        refine op_move rfl (.pointer _) rfl ?_
        refine op_call rfl ca_46_JoO (dsize_ok hhd) rfl ?_
        rintro v w ⟨rfl, rfl⟩
        refine op_gtr rfl rfl rfl ?_
        refine op_assign rfl (.bool _) rfl ?_
        refine op_nil (at_then ?_)
        refine W_csplit 19 rfl ?_ ?_
        · intro h5
          replace h5 := dec_t h5
          refine W_skip (at_then ?_)
          exact ⟨(), rfl, ⟨congrArg Value.bool (by rw [Bool.eq_iff_iff]; simp_all [rightJ]; try omega), trivial⟩, rfl⟩
        · intro h6
          replace h6 := dec_f h6
          refine W_rseq ?_
          refine op_move rfl (.int _ _) rfl ?_
          refine op_move rfl (.pointer _) rfl ?_
          refine op_call rfl ca_46_JoO (dsize_ok hhd) rfl ?_
          rintro v w ⟨rfl, rfl⟩
          refine op_move rfl (.int _ _) rfl ?_
          refine op_sub_i64 rfl rfl rfl (by omega) (by omega) ?_
          refine op_gtr rfl rfl rfl ?_
          refine op_assign rfl (.bool _) rfl ?_
          refine op_nil (at_then ?_)
          refine W_csplit 19 rfl ?_ ?_
          · intro h7
            replace h7 := dec_t h7
            refine W_skip (at_then ?_)
            exact ⟨(), rfl, ⟨congrArg Value.bool (by rw [Bool.eq_iff_iff]; simp_all [rightJ]; try omega), trivial⟩, rfl⟩
          · intro h8
            replace h8 := dec_f h8
            refine W_rseq ?_
            refine op_move rfl (.int _ _) rfl ?_
            refine op_lss rfl rfl rfl ?_
            refine op_assign rfl (.bool _) rfl ?_
            refine op_nil (at_then ?_)
            refine W_csplit 19 rfl ?_ ?_
            · intro h9
              replace h9 := dec_t h9
              refine W_skip (at_then ?_)
              exact ⟨(), rfl, ⟨congrArg Value.bool (by rw [Bool.eq_iff_iff]; simp_all [rightJ]; try omega), trivial⟩, rfl⟩
            · intro h10
              replace h10 := dec_f h10
              refine W_rseq ?_
              refine op_move rfl (.int _ _) rfl ?_
              refine op_move rfl (.int _ _) rfl ?_
              refine op_geq rfl rfl rfl ?_
              refine op_assign rfl (.bool _) rfl ?_
              refine op_nil (at_then ?_)
              refine W_csplit 19 rfl ?_ ?_
              · intro h11
                replace h11 := dec_t h11
                refine W_skip (at_then ?_)
                exact ⟨(), rfl, ⟨congrArg Value.bool (by rw [Bool.eq_iff_iff]; simp_all [rightJ]; try omega), trivial⟩, rfl⟩
              · intro h12
                replace h12 := dec_f h12
                refine W_rseq ?_
                refine op_move rfl (.int _ _) rfl ?_
                refine op_lss rfl rfl rfl ?_
                refine op_assign rfl (.bool _) rfl ?_
                refine op_nil (at_then ?_)
                refine W_csplit 19 rfl ?_ ?_
                · intro h13
                  replace h13 := dec_t h13
                  refine W_skip (at_then ?_)
                  exact ⟨(), rfl, ⟨congrArg Value.bool (by rw [Bool.eq_iff_iff]; simp_all [rightJ]; try omega), trivial⟩, rfl⟩
                · intro h14
                  replace h14 := dec_f h14
                  refine W_region ?_
                  refine op_move rfl (.int _ _) rfl ?_
                  refine op_gtr rfl rfl rfl ?_
                  refine op_assign rfl (.bool _) rfl ?_
                  refine op_nil (at_then ?_)
                  exact ⟨(), rfl, ⟨congrArg Value.bool (by rw [Bool.eq_iff_iff]; simp_all [rightJ]; try omega), trivial⟩, rfl⟩
  · rintro - j19 w rfl
    refine W_csplit 19 rfl ?_ ?_
    · intro h1
      refine W_rseq ?_
      refine op_assign rfl (.pointer _) rfl ?_
      refine op_assign rfl (.slice _ _ _) rfl ?_
      refine op_assign rfl (.int _ _) rfl ?_
      refine op_nil (at_then ?_)
      refine W_ret (ret_block (ret_then (leave3 (v1 := (.pointer _)) (v2 := (.slice _ _ _)) (v3 := (.int _ _)) rfl rfl rfl rfl rfl ?_)))
      exact ⟨H.ext, .inl ⟨by simpa using h1, rfl⟩⟩
    · intro h1
      have hr : rightJ A.B.length f z p q = true := by simpa using h1
      obtain ⟨hJ0, hq0, hl0⟩ := rightJ_ok hr hm
      have hr2 := hr
      simp only [rightJ, Bool.and_eq_true, decide_eq_true_eq] at hr2
      obtain ⟨J0, hJ0e⟩ : ∃ J0, J0 = jr0 f z p q := ⟨_, rfl⟩
      rw [← hJ0e] at hJ0 hq0 hl0
      have hb0 : [ptr bd, Value.int .i64 f, .int .i64 z, .int .i64 p, .int .u64 (q : Int), .int .i64 0, .bool false] = JB bd J0 := by
        rw [hJ0e]
        simp only [JB, jr0, List.cons.injEq, Value.int.injEq, true_and, and_true]
        omega
      refine W_skip (at_block (at_then ?_))
      refine W_rseq ?_
      refine op_move rfl (.pointer _) rfl ?_
      refine op_move rfl (.int _ _) rfl ?_
      refine op_move rfl (.int _ _) rfl ?_
      refine op_move rfl (.int _ _) rfl ?_
      refine op_move rfl (.int _ _) rfl ?_
      refine op_buildS [ptr bd, .int .i64 f, .int .i64 z, .int .i64 p, .int .u64 (q : Int), .int .i64 0, .bool false] rfl pl_108_JoO zc_108_JoO (by kernel_rfl) ?_
      rw [hb0]
      refine op_box rfl _ (.agg _) rfl rfl H ?_
      rintro b49 w - H
      refine op_assign rfl (.pointer _) rfl ?_
      refine op_nil (at_then ?_)
      refine W_block ?_
      refine W_loop 9444731839839383649280 (α := List SB × Jr × Option Addr × Nat × List Value) (fun s => [(10, ptr b49), (11, .slice s.2.2.1 s.1.length s.2.2.2.1)]) (fun s w' => s.2.1.Ok ∧ s.2.1.seq ≤ 4611686018427387904 + s.2.1.taken ∧ s.2.1.frm = J0.frm ∧ s.2.1.size = J0.size ∧ s.1.length ≤ s.2.1.taken ∧ openJ A J0 = (s.1.map (fun x => x.2.1) ++ (openF A (J0.size + 1 - s.1.length) s.2.1).1, (openF A (J0.size + 1 - s.1.length) s.2.1).2) ∧ Ctx w0 [] w' ([(b49, Bl TJ (JB bd s.2.1))] ++ ent s.2.2.1 23 s.2.2.2.2) ∧ OS s.2.2.1 s.1.length s.2.2.2.1 1 s.2.2.2.2 (s.1.map fun x => .slice x.1 x.2.1.length x.2.2) ∧ ∀ x ∈ s.1, RdS w' x ∧ (x.2.1 = [] ∨ ∀ y ∈ [(b49, Bl TJ (JB bd s.2.1))] ++ ent s.2.2.1 23 s.2.2.2.2, y.1 ≠ (adr x.1).block) ∧ (x.2.1 = [] ∨ w0.heap.size ≤ (adr x.1).block)) (fun s => J0.size - s.2.1.taken) ([], J0, none, 0, []) rfl ?_ ?_ ?_
      · exact ⟨rfl, rfl, trivial⟩
      · exact ⟨hJ0, hq0, rfl, rfl, Nat.zero_le _, rfl, H, OS.nil, fun x hx => by cases hx⟩
      · rintro ⟨xs, J, a, c, full⟩ j w ⟨hJ, hq, hfr, hsz, hk, hop, H, O, hxs⟩; dsimp only at hJ hq hfr hsz hk hop H O hxs; dsimp only
        have hs1 := hJ.s1; have hs2 := hJ.s2; have hst := hJ.t
        refine W_block ?_
        refine W_rseq ?_
        refine op_move rfl (.pointer _) rfl ?_
        refine op_call rfl ca_64_JoO (next_ok (H.get at0) hJ ho (by omega) hfew hmx (DA.keep0 H.ext)) rfl ?_
        rintro v w2 ⟨hnv, hx2⟩
        have hszw := H.ext.size
        have hlt1 : ∀ y ∈ [(b49, Bl TJ (JB bd J))] ++ ent a 23 full, y.1 < w.heap.size := (fun y hy => heap_lt (H.blk y hy))
        replace H := H.call hx2
        obtain ⟨a13, n13, c13, rfl, h13⟩ := nextV_uni hnv
        replace hxs : ∀ x ∈ xs, RdS w2 x ∧ (x.2.1 = [] ∨ ∀ y ∈ [(b49, Bl TJ (JB bd J))] ++ ent a 23 full, y.1 ≠ (adr x.1).block) ∧ (x.2.1 = [] ∨ w0.heap.size ≤ (adr x.1).block) := (fun x hm => ⟨(hxs x hm).1.ext0 hx2, (hxs x hm).2⟩)
        refine op_move rfl (.tuple _) rfl ?_
        refine op_extract rfl rfl rfl ?_
        refine op_extract rfl rfl rfl ?_
        refine op_extract rfl rfl rfl ?_
        refine op_assign rfl (.slice _ _ _) rfl ?_
        refine op_assign rfl (.bool _) rfl ?_
        refine op_assign rfl (.int _ _) rfl ?_
        refine op_nil (at_then ?_)
        refine W_seq ?_
        refine W_block ?_
        refine W_rseq ?_
        refine op_move rfl (.int _ _) rfl ?_
        refine op_neq rfl rfl rfl ?_
        refine op_assign rfl (.bool _) rfl ?_
        refine op_nil (at_then ?_)
        refine W_cond0 rfl ?_
        refine W_rseq ?_
        refine op_move rfl (.bool _) rfl ?_
        refine op_not rfl rfl ?_
        refine op_assign rfl (.bool _) rfl ?_
        refine op_nil (at_then ?_)
        refine W_cond _ rfl ?_ ?_
        · intro h2
          replace h2 := nvar_t h2
          have hn : nextS A J = none := by cases hn : nextS A J <;> simp_all
          have ho2 : openJ A J0 = (xs.map (fun x => x.2.1), J) := by
            rw [hop, show J0.size + 1 - xs.length = (J0.size - xs.length) + 1 by omega, openF_none _ hn, List.append_nil]
          refine W_rseq ?_
          refine op_move rfl (.pointer _) rfl ?_
          refine op_move rfl (.slice _ _ _) rfl ?_
          refine op_assign rfl (.pointer _) rfl ?_
          refine op_assign rfl (.slice _ _ _) rfl ?_
          refine op_assign rfl (.int _ _) rfl ?_
          refine op_nil (at_then ?_)
          refine W_ret (ret_block (ret_then (ret_block (ret_then (ret_block (leave3 (v1 := (.pointer _)) (v2 := (.slice _ _ _)) (v3 := (.int _ _)) rfl rfl rfl rfl rfl ?_))))))
          refine ⟨H.ext, .inr ⟨hr, b49, a, xs.length, c, rfl, ?_, ?_, ?_⟩⟩
          · exact (H.own _ (List.mem_cons_self ..)).elim (fun h => by cases h) id
          · rw [← hJ0e, ho2]; exact H.get at0
          · rw [← hJ0e, ho2]
            refine ⟨⟨xs, OS.rd1 (f := fun x : SB => .slice x.1 x.2.1.length x.2.2) O (fun x hx => H.blk x (List.mem_append_right _ hx)), rfl, fun x hm => (hxs x hm).1, ?_, fun x hm => (hxs x hm).2.2⟩, (List.length_map _).symm, O.le⟩
            cases a with
            | none => exact .inl (List.eq_nil_of_length_eq_zero (by have h8 := O.le; have h9 := O.none' rfl; omega))
            | some q => exact .inr ((H.own (q.block, _) (List.mem_append_right _ (List.mem_singleton.2 rfl))).elim (fun h => by cases h) id)
        · intro h2
          replace h2 := nvar_f h2
          obtain ⟨s, hn⟩ : ∃ s, nextS A J = some s := by cases hn : nextS A J <;> simp_all
          obtain ⟨rfl, hR, hsm, hsb⟩ := h13 s hn
          have Hold := H
          replace H := Ctx.startL (fun x hx => Hold.blk x hx) Hold.nd
          have hfit := nextS_fit hn
          have hbt := blk_two s.length
          refine W_skip (at_block (at_then ?_))
          refine W_rseq ?_
          refine op_move rfl (.slice _ _ _) rfl ?_
          refine op_move rfl (.slice _ _ _) rfl ?_
          refine op_build1 [.slice a13 s.length c13] (.slice a13 s.length c13) rfl el_58 sz_23 zc_23 rfl (by decide) (by decide) rfl rfl rfl H ?_
          rintro b67 w3 - H
          refine op_appendb (L := [(b49, Bl TJ (JB bd J))]) rfl el_58 el_58 sz_23 by_23 zc_23 rfl (by decide) rfl rfl H O rfl (by simp [oneCell]) (by omega) ?_
          rintro a68 c68 full68 w4 H O
          refine op_assign rfl (.slice _ _ _) rfl ?_
          refine op_nil (at_then ?_)
          refine W_region ?_
          refine op_move rfl (.pointer _) rfl ?_
          refine op_move rfl (.slice _ _ _) rfl ?_
          refine op_len rfl el_23 rfl ?_
          refine op_call rfl ca_65_JoO (passes_ok (H.get at0) hJ s.length (by omega) hfit) rfl ?_
          rintro v w5 ⟨rfl, hj5, hx5⟩
          replace H := H.turn at0 _ hx5 hj5
          refine op_nil (at_block (at_then ?_))
          have hgood := hJ.passes hq hfit
          have hlx : (xs ++ [((a13, s, c13) : SB)]).length = xs.length + 1 := by simp
          have hsz2 := hx2.size
          have hids : ∀ (x : SB), RdS w2 x → (x.2.1 = [] ∨ ∀ y ∈ [(b49, Bl TJ (JB bd J))] ++ ent a 23 full, y.1 ≠ (adr x.1).block) →
              RdS w5 x ∧ (x.2.1 = [] ∨ ∀ y ∈ [(b49, Bl TJ (JB bd (J.passes s.length)))] ++ ent a68 23 full68, y.1 ≠ (adr x.1).block) := fun x hx hn => by
            rcases hn with hn | hn
            · exact ⟨⟨by rw [hn]; exact Rd.nil, hx.2⟩, .inl hn⟩
            · refine ⟨⟨hx.1.ext H.ext fun hm => ?_, hx.2⟩, ?_⟩
              · obtain ⟨y, hy, he⟩ := List.mem_map.1 hm
                exact hn y hy he
              · rcases Go.Proofs.YtkmbcpgnafmnpaaDoor.Rd.lt8 hx.1 with h0 | hlt
                · exact .inl h0
                · refine .inr fun y hy he => ?_
                  rcases H.own y hy with hm | hm
                  · obtain ⟨y', hy', he'⟩ := List.mem_map.1 hm
                    exact hn y' hy' (he'.trans he)
                  · omega
          refine ⟨(xs ++ [(a13, s, c13)], J.passes s.length, a68, c68, full68), rfl, ⟨rfl, congrArg (fun m => Value.slice a68 m c68) hlx.symm, trivial⟩, ⟨hgood.1, hgood.2, hfr, hsz, ?_, ?_, Ctx.nil_app (Ctx.back (L2 := []) (Ctx.app_nil Hold) H), ?_, fun x hm => ?_⟩, ?_⟩
          · show (xs ++ [((a13, s, c13) : SB)]).length ≤ J.taken + blk s.length; omega
          · dsimp only
            rw [hop, hlx, show J0.size + 1 - xs.length = (J0.size + 1 - (xs.length + 1)) + 1 by omega, openF_some _ hn, List.map_append, List.append_assoc]; rfl
          · dsimp only
            rw [hlx, List.map_append]; exact O
          · dsimp only at hm ⊢
            rcases List.mem_append.1 hm with hm | hm
            · exact ⟨(hids x (hxs x hm).1 (hxs x hm).2.1).1, (hids x (hxs x hm).1 (hxs x hm).2.1).2, (hxs x hm).2.2⟩
            · rw [List.mem_singleton.1 hm]
              have h8 := hids _ hR (hsb.imp id fun h y hy he => by have := hlt1 y hy; dsimp only at he; omega)
              exact ⟨h8.1, h8.2, hsb.imp id fun h => by dsimp only; omega⟩
          · show J0.size - (J.taken + blk s.length) < J0.size - J.taken; omega
theorem jopen_ok {w : World} {bd : Nat} {A : Dev} {F : Nat → Prop} (f z p : Int) (q : Nat) (hf : -9223372036854775808 ≤ f ∧ f ≤ 9223372036854775807) (hz : -9223372036854775808 ≤ z ∧ z ≤ 9223372036854775807) (hm : A.B.length ≤ 4096) (ho : A.on = true) {mx : Nat} (hfew : Few A mx) (hmx : mx ≤ 1000000000) (DA : DevAt w bd A F) :
    Ret Tryd.prog 29 #[ptr bd, .int .i64 f, .int .i64 z, .int .i64 p, .int .u64 (q : Int)] w fun v w' => Ext [] w w' ∧ ((rightJ A.B.length f z p q = false ∧ v = .tuple #[.pointer none, .slice none 0 0, .int .i64 1]) ∨
      (rightJ A.B.length f z p q = true ∧ ∃ bj a n c, v = .tuple #[ptr bj, .slice a n c, .int .i64 0] ∧ w.heap.size ≤ bj ∧ w'.heap[bj]? = some (Bl TJ (JB bd (openJ A (jr0 f z p q)).2)) ∧ Strs w' a n c (openJ A (jr0 f z p q)).1)) :=
  (jopen2_ok f z p q hf hz hm ho hfew hmx DA).mono fun _ _ ⟨hx, h⟩ => ⟨hx, h.imp id fun ⟨h1, bj, a, n, c, hv, hb, hj, hs⟩ => ⟨h1, bj, a, n, c, hv, hb, hj, hs.strs⟩⟩
end Go.Proofs.YtkmbcpgnafmnpaaDoor

/- The document's journal. -/
namespace Go.Proofs.YtkmbcpgnafmnpaaDoor
open Go.GV
theorem ca_36_JoR : callable Tryd.prog 36 = true := by kernel_rfl
theorem ca_68_JoR : callable Tryd.prog 68 = true := by kernel_rfl
theorem fo_81_0_JoR : fieldO Tryd.prog 81 0 = some 0 := by kernel_rfl
theorem fo_81_1_JoR : fieldO Tryd.prog 81 1 = some 1 := by kernel_rfl
theorem fo_81_2_JoR : fieldO Tryd.prog 81 2 = some 2 := by kernel_rfl
theorem fo_81_3_JoR : fieldO Tryd.prog 81 3 = some 3 := by kernel_rfl
attribute [local irreducible] Wops W Wq Wt

structure Rj where
  L : List Byt
  size : Nat
  first : Nat
  seq : Nat
def T5 : Nat := 81
def RjB (a : Option Addr) (n c : Nat) (R : Rj) : List Value := [.slice a n c, .int .i64 (R.size : Int), .int .i64 (R.first : Int), .int .u64 (R.seq : Int)]
def takenL (L : List Byt) : Nat := (L.map fun s => blk s.length).sum
theorem takenL_snoc (L : List Byt) (s : Byt) : takenL (L ++ [s]) = takenL L + blk s.length := by simp [takenL]
theorem takenL_two (L : List Byt) : 2 * L.length ≤ takenL L := by
  induction L with
  | nil => simp [takenL]
  | cons s L ih =>
    have := blk_two s.length
    have h : takenL (s :: L) = blk s.length + takenL L := by simp [takenL]
    rw [h, List.length_cons]; omega
theorem takenL_mem {L : List Byt} {s : Byt} (h : s ∈ L) : blk s.length ≤ takenL L := by
  induction L with
  | nil => cases h
  | cons x L ih =>
    have h' : takenL (x :: L) = blk x.length + takenL L := by simp [takenL]
    rcases List.mem_cons.1 h with rfl | h
    · omega
    · have := ih h; omega
theorem takenL_app (A B : List Byt) : takenL (A ++ B) = takenL A + takenL B := by simp [takenL]
theorem takenL_take (L : List Byt) (i : Nat) : takenL (L.take i) ≤ takenL L := by
  have h := takenL_app (L.take i) (L.drop i)
  rw [List.take_append_drop] at h
  omega
theorem blk_len (n : Nat) : n ≤ 480 * blk n := by unfold blk; omega
structure Rj.Ok (R : Rj) : Prop where
  s1 : 2 ≤ R.size
  s2 : R.size ≤ 4096
  a : R.first < R.size
  q : R.seq ≤ 8000000000000000000
  t : takenL R.L ≤ R.size

def valS (x : SB) : Value := .slice x.1 x.2.1.length x.2.2
structure RjR (w : World) (br : Nat) (R : Rj) (a : Option Addr) (c : Nat) (full : List Value) (xs : List SB) : Prop where
  hd : w.heap[br]? = some (Bl T5 (RjB a R.L.length c R))
  os : OS a xs.length c 1 full (xs.map valS)
  blk : ∀ y ∈ ent a 23 full, w.heap[y.1]? = some y.2
  eq : xs.map (fun x => x.2.1) = R.L
  str : ∀ x ∈ xs, RdS w x
  nd : ∀ y ∈ ent a 23 full, br ≠ y.1
  sep : ∀ x ∈ xs, x.2.1 = [] ∨ ((adr x.1).block ≠ br ∧ ∀ y ∈ ent a 23 full, y.1 ≠ (adr x.1).block)
theorem RjR.num {w : World} {br : Nat} {R : Rj} {a : Option Addr} {c : Nat} {full : List Value} {xs : List SB} (h : RjR w br R a c full xs) : xs.length = R.L.length := by rw [← h.eq, List.length_map]
def RjAt (w : World) (br : Nat) (R : Rj) (G : Nat → Prop) : Prop :=
  ∃ a c full xs, RjR w br R a c full xs ∧ G br ∧ (∀ y ∈ ent a 23 full, G y.1) ∧ ∀ x ∈ xs, x.2.1 = [] ∨ G (adr x.1).block
theorem RjAt.keep {w w' : World} {br : Nat} {R : Rj} {G : Nat → Prop} {S : List Nat} (h : RjAt w br R G) (hx : Ext S w w') (hn : ∀ x ∈ S, ¬ G x) : RjAt w' br R G := by
  obtain ⟨a, c, full, xs, h, h1, h2, h3⟩ := h
  have hb : ∀ b o, G b → w.heap[b]? = some o → w'.heap[b]? = some o := fun b o hg hb => by rw [hx.block b (heap_lt hb) fun hm => hn b hm hg]; exact hb
  refine ⟨a, c, full, xs, ⟨hb _ _ h1 h.hd, h.os, fun y hy => hb _ _ (h2 y hy) (h.blk y hy), h.eq, fun x hm => ?_, h.nd, h.sep⟩, h1, h2, h3⟩
  refine ⟨?_, (h.str x hm).2⟩
  rcases h3 x hm with h0 | h0
  · rw [h0]; exact Rd.nil
  · exact (h.str x hm).1.ext hx fun hm' => hn _ hm' h0
theorem RjAt.hd {w : World} {br : Nat} {R : Rj} {G : Nat → Prop} (h : RjAt w br R G) : ∃ a c xs, w.heap[br]? = some (Bl T5 (RjB a R.L.length c R)) ∧ Rd w a 1 encS xs ∧ xs.map (fun x => x.2.1) = R.L ∧ (∀ x ∈ xs, RdS w x) ∧ R.L.length ≤ c :=
  let ⟨a, c, _, xs, h, _⟩ := h; ⟨a, c, xs, h.hd, OS.rd1 (f := valS) h.os h.blk, h.eq, h.str, by have := h.os.le; rw [h.num] at this; exact this⟩

set_option maxRecDepth 20000 in
set_option maxHeartbeats 1000000 in
theorem rfree_ok {w : World} {br : Nat} {R : Rj} {G : Nat → Prop} (h : RjAt w br R G) (hR : R.Ok) :
    Ret Tryd.prog 68 #[ptr br] w fun v w' => v = .int .i64 ((R.size - takenL R.L : Nat) : Int) ∧ Ext [] w w' := by
  obtain ⟨a, c, xs, hb, Rx, he, hs, hc⟩ := h.hd
  obtain ⟨w0, rfl⟩ : ∃ w0, w0 = w := ⟨_, rfl⟩
  have h1 := hR.s1; have h2 := hR.s2; have h3 := hR.t; have h4 := takenL_two R.L
  have hln : xs.length = R.L.length := by rw [← he, List.length_map]
  refine ret_of_W (fn := Tryd.f68) Tryd.func68 rfl [.pointer (some ⟨br, 0, none⟩)] rfl (by kernel_rfl) ?_
  refine W_rseq ?_
  refine op_assign rfl (.int _ _) rfl ?_
  refine op_nil (at_then ?_)
  refine W_rseq ?_
  refine op_move rfl (.pointer _) rfl ?_
  refine op_nilCheck rfl rfl ?_
  refine op_fieldAddr rfl fo_81_1_JoR rfl ?_
  first | refine op_ldb rfl ag_3 rfl H (by first | exact at0 | exact at1 | exact at2 | exact at3 | exact at4 | exact at5 | exact at6 | exact at7 | exact at8 | exact at9) rfl ?_ | refine op_ld rfl ag_3 rfl (cell_bl hb _) ?_
  refine op_assign rfl (.int _ _) rfl ?_
  refine op_nil (at_then ?_)
  refine W_seq ?_
  refine W_rseq ?_
  refine op_assign rfl (.int _ _) rfl ?_
  refine op_nil (at_then ?_)
  refine W_block ?_
  refine W_loop 536870424 (α := Nat) (fun i => [(3, .int .i64 ((R.size : Int) - (takenL (R.L.take i) : Int))), (4, .int .i64 (i : Int))]) (fun i w' => i ≤ R.L.length ∧ w0 = w') (fun i => R.L.length - i) 0 rfl ?_ ?_ ?_
  · exact ⟨congrArg (Value.int .i64) (by simp [takenL]), rfl, trivial⟩
  · exact ⟨Nat.zero_le _, rfl⟩
  · rintro i j w ⟨hi, rfl⟩
    refine W_seq ?_
    refine W_rseq ?_
    refine op_move rfl (.int _ _) rfl ?_
    refine op_move rfl (.pointer _) rfl ?_
    refine op_nilCheck rfl rfl ?_
    refine op_fieldAddr rfl fo_81_0_JoR rfl ?_
    first | refine op_ldb rfl ag_58 rfl H (by first | exact at0 | exact at1 | exact at2 | exact at3 | exact at4 | exact at5 | exact at6 | exact at7 | exact at8 | exact at9) rfl ?_ | refine op_ld rfl ag_58 rfl (cell_bl hb _) ?_ | refine op_ld rfl ag_58 rfl (cell_bl hb _) ?_
    refine op_len rfl el_58 rfl ?_
    refine op_lss rfl rfl rfl ?_
    refine op_nil (at_then ?_)
    refine W_cond _ rfl ?_ ?_
    · intro h5
      replace h5 := dec_t h5
      obtain ⟨x, hx⟩ := get_some (l := xs) (i := i) (by omega)
      have hxl : R.L[i]? = some x.2.1 := by rw [← he, List.getElem?_map, hx]; rfl
      have hbl := takenL_mem (List.mem_of_getElem? hxl)
      have htk := takenL_take R.L i
      have hxn := blk_len x.2.1.length
      have hts : takenL (R.L.take (i + 1)) = takenL (R.L.take i) + blk x.2.1.length := by rw [take_snoc hxl, takenL_snoc]
      have hts2 := takenL_take R.L (i + 1)
      refine W_skip (at_then ?_)
      refine W_seq ?_
      refine W_block ?_
      refine W_region ?_
      refine op_move rfl (.int _ _) rfl ?_
      refine op_move rfl (.pointer _) rfl ?_
      refine op_nilCheck rfl rfl ?_
      refine op_fieldAddr rfl fo_81_0_JoR rfl ?_
      first | refine op_ldb rfl ag_58 rfl H (by first | exact at0 | exact at1 | exact at2 | exact at3 | exact at4 | exact at5 | exact at6 | exact at7 | exact at8 | exact at9) rfl ?_ | refine op_ld rfl ag_58 rfl (cell_bl hb _) ?_ | refine op_ld rfl ag_58 rfl (cell_bl hb _) ?_ | refine op_ld rfl ag_58 rfl (cell_bl hb _) ?_ | refine op_ld rfl ag_58 rfl (Rd.one (f := valS) Rx hx) ?_
      refine op_move rfl (.int _ _) rfl ?_
      first | refine op_indexRd Rx rfl el_58 sz_23 rfl rfl (by omega) (by omega) (by first | rfl | omega) ?_ | refine op_indexAddr rfl el_58 sz_23 rfl rfl (by omega) (by omega) ?_
      first | refine op_ldb rfl ag_23 rfl H (by first | exact at0 | exact at1 | exact at2 | exact at3 | exact at4 | exact at5 | exact at6 | exact at7 | exact at8 | exact at9) rfl ?_ | refine op_ld rfl ag_23 rfl (cell_bl hb _) ?_ | refine op_ld rfl ag_23 rfl (cell_bl hb _) ?_ | refine op_ld rfl ag_23 rfl (cell_bl hb _) ?_ | refine op_ld rfl ag_23 rfl (Rd.one (f := valS) Rx hx) ?_
      refine op_len rfl el_23 rfl ?_
      refine op_call rfl ca_36_JoR (rblocks_ok (x.2.1.length : Int) (by omega) _) rfl ?_
      rintro v w ⟨rfl, rfl⟩
      rw [blkI_nat]
      refine op_sub_i64 rfl rfl rfl (by omega) (by omega) ?_
      refine op_assign rfl (.int _ _) rfl ?_
      refine op_nil (at_block (at_then ?_))
      refine W_region ?_
      refine op_move rfl (.int _ _) rfl ?_
      refine op_add_i64 rfl rfl rfl (by omega) (by omega) ?_
      refine op_assign rfl (.int _ _) rfl ?_
      refine op_nil (at_then ?_)
      exact ⟨i + 1, rfl, ⟨congrArg (Value.int .i64) (by omega), rfl, trivial⟩, ⟨by omega, rfl⟩, by omega⟩
    · intro h5
      replace h5 := dec_f h5
      have hii : i = R.L.length := by omega
      subst hii
      refine W_exit (exit_then (exit_then (exit_here (at_then ?_))))
      refine W_rseq ?_
      refine op_move rfl (.int _ _) rfl ?_
      refine op_assign rfl (.int _ _) rfl ?_
      refine op_nil (at_then ?_)
      refine W_ret (leave1 (v := (.int _ _)) rfl rfl rfl ?_)
      rw [List.take_length]
      exact ⟨congrArg (Value.int .i64) (by omega), .refl _ _⟩

def Rj.at' (R : Rj) : Nat := (R.first + takenL R.L) % R.size
set_option maxRecDepth 20000 in
set_option maxHeartbeats 1000000 in
theorem rmark_ok {w : World} {br : Nat} {R : Rj} {G : Nat → Prop} (h : RjAt w br R G) (hR : R.Ok) :
    Ret Tryd.prog 69 #[ptr br] w fun v w' => v = .tuple #[.int .i64 (R.at' : Int), .int .u64 ((R.seq + R.L.length : Nat) : Int)] ∧ Ext [] w w' := by
  obtain ⟨a, c, xs, hb, Rx, he, hs, hc⟩ := h.hd
  obtain ⟨w0, rfl⟩ : ∃ w0, w0 = w := ⟨_, rfl⟩
  have h1 := hR.s1; have h2 := hR.s2; have h3 := hR.t; have h4 := takenL_two R.L; have h5 := hR.q; have h6 := hR.a
  have hmo : (((R.first : Int) + (R.size : Int)) - ((R.size - takenL R.L : Nat) : Int)) % (R.size : Int) = (R.at' : Int) := by
    rw [show ((R.first : Int) + (R.size : Int)) - ((R.size - takenL R.L : Nat) : Int) = ((R.first + takenL R.L : Nat) : Int) by omega, ← Int.natCast_emod]; rfl
  refine ret_of_W (fn := Tryd.f69) Tryd.func69 rfl [.pointer (some ⟨br, 0, none⟩)] rfl (by kernel_rfl) ?_
  refine W_rseq ?_
  refine op_assign rfl (.int _ _) rfl ?_
  refine op_assign rfl (.int _ _) rfl ?_
  refine op_nil (at_then ?_)
  refine W_sseqz [([0, 1, 2, 3, 4, 5, 6, 7, 8, 9, 12, 13, 14, 15, 17, 18, 19, 20, 21, 22, 23, 24, 25, 26, 27], 10), ([11, 16, 28], 29)] (fun z => z.heap[br]? = some (Bl T5 (RjB a R.L.length c R))) [] mixed (by kernel_rfl) (hb) ?_
  refine seg_cons rfl rfl ?_
  refine t_move rfl (.pointer _) rfl ?_
  refine t_nilCheck rfl rfl ?_
  refine t_fieldAddr rfl fo_81_2_JoR rfl ?_
  first | refine t_ldb rfl ag_3 rfl (fun _ _ => Ctx.start _ []) (by first | exact at0 | exact at1 | exact at2 | exact at3 | exact at4 | exact at5 | exact at6 | exact at7 | exact at8 | exact at9) rfl ?_ | refine t_ld rfl ag_3 rfl (fun _ hx => (cell_bl (show _ = some (Bl T5 (RjB a R.L.length c R)) by assumption) _)) ?_
  refine t_move rfl (.pointer _) rfl ?_
  refine t_nilCheck rfl rfl ?_
  refine t_fieldAddr rfl fo_81_1_JoR rfl ?_
  first | refine t_ldb rfl ag_3 rfl (fun _ _ => Ctx.start _ []) (by first | exact at0 | exact at1 | exact at2 | exact at3 | exact at4 | exact at5 | exact at6 | exact at7 | exact at8 | exact at9) rfl ?_ | refine t_ld rfl ag_3 rfl (fun _ hx => (cell_bl (show _ = some (Bl T5 (RjB a R.L.length c R)) by assumption) _)) ?_
  refine t_add_i64 rfl rfl rfl (by omega) (by omega) ?_
  refine t_move rfl (.pointer _) rfl ?_
  refine t_move rfl (.pointer _) rfl ?_
  refine t_nilCheck rfl rfl ?_
  refine t_fieldAddr rfl fo_81_1_JoR rfl ?_
  first | refine t_ldb rfl ag_3 rfl (fun _ _ => Ctx.start _ []) (by first | exact at0 | exact at1 | exact at2 | exact at3 | exact at4 | exact at5 | exact at6 | exact at7 | exact at8 | exact at9) rfl ?_ | refine t_ld rfl ag_3 rfl (fun _ hx => (cell_bl (show _ = some (Bl T5 (RjB a R.L.length c R)) by assumption) _)) ?_
  refine t_move rfl (.pointer _) rfl ?_
  refine t_nilCheck rfl rfl ?_
  refine t_fieldAddr rfl fo_81_3_JoR rfl ?_
  first | refine t_ldb rfl ag_22 rfl (fun _ _ => Ctx.start _ []) (by first | exact at0 | exact at1 | exact at2 | exact at3 | exact at4 | exact at5 | exact at6 | exact at7 | exact at8 | exact at9) rfl ?_ | refine t_ld rfl ag_22 rfl (fun _ hx => (cell_bl (show _ = some (Bl T5 (RjB a R.L.length c R)) by assumption) _)) ?_
  refine t_move rfl (.pointer _) rfl ?_
  refine t_nilCheck rfl rfl ?_
  refine t_fieldAddr rfl fo_81_0_JoR rfl ?_
  first | refine t_ldb rfl ag_58 rfl (fun _ _ => Ctx.start _ []) (by first | exact at0 | exact at1 | exact at2 | exact at3 | exact at4 | exact at5 | exact at6 | exact at7 | exact at8 | exact at9) rfl ?_ | refine t_ld rfl ag_58 rfl (fun _ hx => (cell_bl (show _ = some (Bl T5 (RjB a R.L.length c R)) by assumption) _)) ?_
  refine t_len rfl el_58 rfl ?_
  refine t_conv_u64 rfl rfl un_3 un_22 (by omega) (by omega) ?_
  refine t_add_u64 rfl rfl rfl (by omega) (by omega) ?_
  refine t_nil ?_
  skip
  refine op_call rfl ca_68_JoR (rfree_ok (h.keep (S := []) (Ext.drew _ _) (fun _ hx => by cases hx)) hR) rfl ?_
  rintro v w ⟨rfl, hx⟩
  have hb1 := (show w.heap[br]? = some (Bl T5 (RjB a R.L.length c R)) by rw [hx.block br (heap_lt hb) (by simp)]; exact hb)
  refine op_nil (at_seg (hb1) ?_)
  refine seg_cons rfl rfl ?_
  refine t_sub_i64 rfl rfl rfl (by omega) (by omega) ?_
  refine t_rem rfl rfl rfl (by omega) (by omega) ?_
  rw [hmo]
  refine t_assign rfl (.int _ _) rfl ?_
  refine t_nil ?_
  refine op_assign rfl (.int _ _) rfl ?_
  refine op_nil (at_seg (hb1) ?_)
  refine seg_nil ?_
  refine W_ret (leave2 (v1 := (.int _ _)) (v2 := (.int _ _)) rfl rfl rfl rfl ?_)
  exact ⟨by rw [Int.natCast_add], (Ext.drew _ _).trans hx⟩

end Go.Proofs.YtkmbcpgnafmnpaaDoor
