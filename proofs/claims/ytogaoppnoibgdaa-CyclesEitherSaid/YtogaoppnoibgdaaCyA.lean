/- What the functions of package cycles do: whether dues may be. -/
import Derived.Test.YtogaoppnoibgdaaGVLib
import Derived.Test.YtogaoppnoibgdaaGVFacts
namespace Go.Proofs.Ytogaoppnoibgdaa
open Go.GV
attribute [local irreducible] Wops W Wq

structure Due where
  id : Int
  fr : Int
  to : Int
  am : Int
  wt : Int
  un : Int
  held : Bool

def Due.enc (d : Due) : List Value := [.int .u64 d.id, .int .i64 d.fr, .int .i64 d.to, .int .i64 d.am, .int .i64 d.wt, .int .i64 d.un, .bool d.held]

def bankB (k : Int) : Bool := decide (0 ≤ k) && decide (k < 16)
def Due.fine (d : Due) : Bool :=
  !decide (d.fr = d.to) && (bankB d.fr && (bankB d.to && (decide (1 ≤ d.am) && (decide (d.am ≤ 4503599627370496) && (decide (1 ≤ d.wt) && (decide (d.wt ≤ 1000) && decide (0 ≤ d.un)))))))

theorem bank_ok (k : Int) (w : World) : Ret Try.prog 32 #[.int .i64 k] w fun v w' => v = .bool (bankB k) ∧ w = w' := by
  refine ret_of_W (fn := Try.f32) Try.func32 rfl [.int .i64 k] rfl (by kernel_rfl) ?_
  refine W_rseq ?_
  refine op_assign rfl (.bool _) rfl ?_
  refine op_nil (at_then ?_)
  refine W_rseq ?_
  refine op_move rfl (.int _ _) rfl ?_
  refine op_geq rfl rfl rfl ?_
  refine op_move rfl (.bool _) rfl ?_
  refine Wops_split 5 rfl ?_ ?_
  · intro h1
    replace h1 := dec_t h1
    refine op_move rfl (.int _ _) rfl ?_
    refine op_lss rfl rfl rfl ?_
    refine op_pick1 rfl rfl (.bool _) rfl ?_
    refine op_assign rfl (.bool _) rfl ?_
    refine op_nil (at_then ?_)
    refine W_ret (leave1 (v := (.bool _)) rfl rfl rfl ?_)
    exact ⟨congrArg Value.bool (by rw [Bool.eq_iff_iff]; simp [bankB]; try omega), rfl⟩
  · intro h2
    replace h2 := dec_f h2
    refine op_skip rfl ?_
    refine op_skip rfl ?_
    refine op_pick0 rfl rfl (.bool _) rfl ?_
    refine op_assign rfl (.bool _) rfl ?_
    refine op_nil (at_then ?_)
    refine W_ret (leave1 (v := (.bool _)) rfl rfl rfl ?_)
    exact ⟨congrArg Value.bool (by rw [Bool.eq_iff_iff]; simp [bankB]; try omega), rfl⟩

set_option maxHeartbeats 4000000 in
theorem fine_ok (d : Due) (w : World) : Ret Try.prog 28 #[.agg d.enc.toArray] w fun v w' => v = .bool d.fine ∧ Ext [] w w' := by
  have H := Ctx.start w []
  refine ret_of_W (fn := Try.f28) Try.func28 rfl [.agg d.enc.toArray] rfl (by kernel_rfl) ?_
  refine W_rseq ?_
  refine op_box rfl _ (.agg _) rfl rfl H ?_
  rintro b1 w - H
  refine op_assign rfl (.bool _) rfl ?_
  refine op_nil (at_then ?_)
  refine W_rseq ?_
  refine op_assign rfl (.func _ _ _) rfl ?_
  refine op_nil (at_then ?_)
  refine W_rseq ?_
  refine op_fieldAddr rfl fo_41_1 rfl ?_
  refine op_ldb rfl ag_3 rfl H (by first | exact at0 | exact at1 | exact at2 | exact at3 | exact at4 | exact at5 | exact at6 | exact at7 | exact at8 | exact at9) rfl ?_
  refine op_fieldAddr rfl fo_41_2 rfl ?_
  refine op_ldb rfl ag_3 rfl H (by first | exact at0 | exact at1 | exact at2 | exact at3 | exact at4 | exact at5 | exact at6 | exact at7 | exact at8 | exact at9) rfl ?_
  refine op_neq rfl rfl rfl ?_
  refine op_move rfl (.bool _) rfl ?_
  refine Wops_split 9 rfl ?_ ?_
  · intro h1
    replace h1 := ndec_t h1
    refine op_move rfl (.func _ _ _) rfl ?_
    refine op_fieldAddr rfl fo_41_1 rfl ?_
    refine op_ldb rfl ag_3 rfl H (by first | exact at0 | exact at1 | exact at2 | exact at3 | exact at4 | exact at5 | exact at6 | exact at7 | exact at8 | exact at9) rfl ?_
    refine op_calld rfl rfl ca_32 (bank_ok _ w) rfl ?_
    rintro v w ⟨rfl, rfl⟩
    refine op_pick1 rfl rfl (.bool _) rfl ?_
    refine op_move rfl (.bool _) rfl ?_
    refine Wops_split 15 rfl ?_ ?_
    · intro h2
      refine op_move rfl (.func _ _ _) rfl ?_
      refine op_fieldAddr rfl fo_41_2 rfl ?_
      refine op_ldb rfl ag_3 rfl H (by first | exact at0 | exact at1 | exact at2 | exact at3 | exact at4 | exact at5 | exact at6 | exact at7 | exact at8 | exact at9) rfl ?_
      refine op_calld rfl rfl ca_32 (bank_ok _ w) rfl ?_
      rintro v w ⟨rfl, rfl⟩
      refine op_pick1 rfl rfl (.bool _) rfl ?_
      refine op_move rfl (.bool _) rfl ?_
      refine Wops_split 21 rfl ?_ ?_
      · intro h3
        refine op_fieldAddr rfl fo_41_3 rfl ?_
        refine op_ldb rfl ag_2 rfl H (by first | exact at0 | exact at1 | exact at2 | exact at3 | exact at4 | exact at5 | exact at6 | exact at7 | exact at8 | exact at9) rfl ?_
        refine op_geq rfl rfl rfl ?_
        refine op_pick1 rfl rfl (.bool _) rfl ?_
        refine op_move rfl (.bool _) rfl ?_
        refine Wops_split 26 rfl ?_ ?_
        · intro h4
          replace h4 := dec_t h4
          refine op_fieldAddr rfl fo_41_3 rfl ?_
          refine op_ldb rfl ag_2 rfl H (by first | exact at0 | exact at1 | exact at2 | exact at3 | exact at4 | exact at5 | exact at6 | exact at7 | exact at8 | exact at9) rfl ?_
          refine op_leq rfl rfl rfl ?_
          refine op_pick1 rfl rfl (.bool _) rfl ?_
          refine op_move rfl (.bool _) rfl ?_
          refine Wops_split 31 rfl ?_ ?_
          · intro h5
            replace h5 := dec_t h5
            refine op_fieldAddr rfl fo_41_4 rfl ?_
            refine op_ldb rfl ag_2 rfl H (by first | exact at0 | exact at1 | exact at2 | exact at3 | exact at4 | exact at5 | exact at6 | exact at7 | exact at8 | exact at9) rfl ?_
            refine op_geq rfl rfl rfl ?_
            refine op_pick1 rfl rfl (.bool _) rfl ?_
            refine op_move rfl (.bool _) rfl ?_
            refine Wops_split 36 rfl ?_ ?_
            · intro h6
              replace h6 := dec_t h6
              refine op_fieldAddr rfl fo_41_4 rfl ?_
              refine op_ldb rfl ag_2 rfl H (by first | exact at0 | exact at1 | exact at2 | exact at3 | exact at4 | exact at5 | exact at6 | exact at7 | exact at8 | exact at9) rfl ?_
              refine op_leq rfl rfl rfl ?_
              refine op_pick1 rfl rfl (.bool _) rfl ?_
              refine op_move rfl (.bool _) rfl ?_
              refine Wops_split 41 rfl ?_ ?_
              · intro h7
                replace h7 := dec_t h7
                refine op_fieldAddr rfl fo_41_5 rfl ?_
                refine op_ldb rfl ag_2 rfl H (by first | exact at0 | exact at1 | exact at2 | exact at3 | exact at4 | exact at5 | exact at6 | exact at7 | exact at8 | exact at9) rfl ?_
                refine op_geq rfl rfl rfl ?_
                refine op_pick1 rfl rfl (.bool _) rfl ?_
                refine op_assign rfl (.bool _) rfl ?_
                refine op_nil (at_then ?_)
                refine W_ret (leave1 (v := (.bool _)) rfl rfl rfl ?_)
                exact ⟨congrArg Value.bool (by simp_all [Due.fine]; try omega), H.ext⟩
              · intro h8
                replace h8 := dec_f h8
                refine op_skip rfl ?_
                refine op_skip rfl ?_
                refine op_skip rfl ?_
                refine op_pick0 rfl rfl (.bool _) rfl ?_
                refine op_assign rfl (.bool _) rfl ?_
                refine op_nil (at_then ?_)
                refine W_ret (leave1 (v := (.bool _)) rfl rfl rfl ?_)
                exact ⟨congrArg Value.bool (by simp_all [Due.fine]; try omega), H.ext⟩
            · intro h9
              replace h9 := dec_f h9
              refine op_skip rfl ?_
              refine op_skip rfl ?_
              refine op_skip rfl ?_
              refine op_pick0 rfl rfl (.bool _) rfl ?_
              refine op_move rfl (.bool _) rfl ?_
              refine op_skip rfl ?_
              refine op_skip rfl ?_
              refine op_skip rfl ?_
              refine op_pick0 rfl rfl (.bool _) rfl ?_
              refine op_assign rfl (.bool _) rfl ?_
              refine op_nil (at_then ?_)
              refine W_ret (leave1 (v := (.bool _)) rfl rfl rfl ?_)
              exact ⟨congrArg Value.bool (by simp_all [Due.fine]; try omega), H.ext⟩
          · intro h10
            replace h10 := dec_f h10
            refine op_skip rfl ?_
            refine op_skip rfl ?_
            refine op_skip rfl ?_
            refine op_pick0 rfl rfl (.bool _) rfl ?_
            refine op_move rfl (.bool _) rfl ?_
            refine op_skip rfl ?_
            refine op_skip rfl ?_
            refine op_skip rfl ?_
            refine op_pick0 rfl rfl (.bool _) rfl ?_
            refine op_move rfl (.bool _) rfl ?_
            refine op_skip rfl ?_
            refine op_skip rfl ?_
            refine op_skip rfl ?_
            refine op_pick0 rfl rfl (.bool _) rfl ?_
            refine op_assign rfl (.bool _) rfl ?_
            refine op_nil (at_then ?_)
            refine W_ret (leave1 (v := (.bool _)) rfl rfl rfl ?_)
            exact ⟨congrArg Value.bool (by simp_all [Due.fine]; try omega), H.ext⟩
        · intro h11
          replace h11 := dec_f h11
          refine op_skip rfl ?_
          refine op_skip rfl ?_
          refine op_skip rfl ?_
          refine op_pick0 rfl rfl (.bool _) rfl ?_
          refine op_move rfl (.bool _) rfl ?_
          refine op_skip rfl ?_
          refine op_skip rfl ?_
          refine op_skip rfl ?_
          refine op_pick0 rfl rfl (.bool _) rfl ?_
          refine op_move rfl (.bool _) rfl ?_
          refine op_skip rfl ?_
          refine op_skip rfl ?_
          refine op_skip rfl ?_
          refine op_pick0 rfl rfl (.bool _) rfl ?_
          refine op_move rfl (.bool _) rfl ?_
          refine op_skip rfl ?_
          refine op_skip rfl ?_
          refine op_skip rfl ?_
          refine op_pick0 rfl rfl (.bool _) rfl ?_
          refine op_assign rfl (.bool _) rfl ?_
          refine op_nil (at_then ?_)
          refine W_ret (leave1 (v := (.bool _)) rfl rfl rfl ?_)
          exact ⟨congrArg Value.bool (by simp_all [Due.fine]; try omega), H.ext⟩
      · intro h12
        refine op_skip rfl ?_
        refine op_skip rfl ?_
        refine op_skip rfl ?_
        refine op_pick0 rfl rfl (.bool _) rfl ?_
        refine op_move rfl (.bool _) rfl ?_
        refine op_skip rfl ?_
        refine op_skip rfl ?_
        refine op_skip rfl ?_
        refine op_pick0 rfl rfl (.bool _) rfl ?_
        refine op_move rfl (.bool _) rfl ?_
        refine op_skip rfl ?_
        refine op_skip rfl ?_
        refine op_skip rfl ?_
        refine op_pick0 rfl rfl (.bool _) rfl ?_
        refine op_move rfl (.bool _) rfl ?_
        refine op_skip rfl ?_
        refine op_skip rfl ?_
        refine op_skip rfl ?_
        refine op_pick0 rfl rfl (.bool _) rfl ?_
        refine op_move rfl (.bool _) rfl ?_
        refine op_skip rfl ?_
        refine op_skip rfl ?_
        refine op_skip rfl ?_
        refine op_pick0 rfl rfl (.bool _) rfl ?_
        refine op_assign rfl (.bool _) rfl ?_
        refine op_nil (at_then ?_)
        refine W_ret (leave1 (v := (.bool _)) rfl rfl rfl ?_)
        exact ⟨congrArg Value.bool (by simp_all [Due.fine]; try omega), H.ext⟩
    · intro h13
      refine op_skip rfl ?_
      refine op_skip rfl ?_
      refine op_skip rfl ?_
      refine op_skip rfl ?_
      refine op_pick0 rfl rfl (.bool _) rfl ?_
      refine op_move rfl (.bool _) rfl ?_
      refine op_skip rfl ?_
      refine op_skip rfl ?_
      refine op_skip rfl ?_
      refine op_pick0 rfl rfl (.bool _) rfl ?_
      refine op_move rfl (.bool _) rfl ?_
      refine op_skip rfl ?_
      refine op_skip rfl ?_
      refine op_skip rfl ?_
      refine op_pick0 rfl rfl (.bool _) rfl ?_
      refine op_move rfl (.bool _) rfl ?_
      refine op_skip rfl ?_
      refine op_skip rfl ?_
      refine op_skip rfl ?_
      refine op_pick0 rfl rfl (.bool _) rfl ?_
      refine op_move rfl (.bool _) rfl ?_
      refine op_skip rfl ?_
      refine op_skip rfl ?_
      refine op_skip rfl ?_
      refine op_pick0 rfl rfl (.bool _) rfl ?_
      refine op_move rfl (.bool _) rfl ?_
      refine op_skip rfl ?_
      refine op_skip rfl ?_
      refine op_skip rfl ?_
      refine op_pick0 rfl rfl (.bool _) rfl ?_
      refine op_assign rfl (.bool _) rfl ?_
      refine op_nil (at_then ?_)
      refine W_ret (leave1 (v := (.bool _)) rfl rfl rfl ?_)
      exact ⟨congrArg Value.bool (by simp_all [Due.fine]; try omega), H.ext⟩
  · intro h14
    replace h14 := ndec_f h14
    refine op_skip rfl ?_
    refine op_skip rfl ?_
    refine op_skip rfl ?_
    refine op_skip rfl ?_
    refine op_pick0 rfl rfl (.bool _) rfl ?_
    refine op_move rfl (.bool _) rfl ?_
    refine op_skip rfl ?_
    refine op_skip rfl ?_
    refine op_skip rfl ?_
    refine op_skip rfl ?_
    refine op_pick0 rfl rfl (.bool _) rfl ?_
    refine op_move rfl (.bool _) rfl ?_
    refine op_skip rfl ?_
    refine op_skip rfl ?_
    refine op_skip rfl ?_
    refine op_pick0 rfl rfl (.bool _) rfl ?_
    refine op_move rfl (.bool _) rfl ?_
    refine op_skip rfl ?_
    refine op_skip rfl ?_
    refine op_skip rfl ?_
    refine op_pick0 rfl rfl (.bool _) rfl ?_
    refine op_move rfl (.bool _) rfl ?_
    refine op_skip rfl ?_
    refine op_skip rfl ?_
    refine op_skip rfl ?_
    refine op_pick0 rfl rfl (.bool _) rfl ?_
    refine op_move rfl (.bool _) rfl ?_
    refine op_skip rfl ?_
    refine op_skip rfl ?_
    refine op_skip rfl ?_
    refine op_pick0 rfl rfl (.bool _) rfl ?_
    refine op_move rfl (.bool _) rfl ?_
    refine op_skip rfl ?_
    refine op_skip rfl ?_
    refine op_skip rfl ?_
    refine op_pick0 rfl rfl (.bool _) rfl ?_
    refine op_assign rfl (.bool _) rfl ?_
    refine op_nil (at_then ?_)
    refine W_ret (leave1 (v := (.bool _)) rfl rfl rfl ?_)
    exact ⟨congrArg Value.bool (by simp_all [Due.fine]; try omega), H.ext⟩

theorem all1_ok (d : Due) (w : World) : Ret Try.prog 27 #[.agg d.enc.toArray] w fun v w' => v = .bool (!d.fine) ∧ Ext [] w w' := by
  have H := Ctx.start w []
  refine ret_of_W (fn := Try.f27) Try.func27 rfl [.agg d.enc.toArray] rfl (by kernel_rfl) ?_
  refine W_rseq ?_
  refine op_box rfl _ (.agg _) rfl rfl H ?_
  rintro b1 w - H
  refine op_assign rfl (.bool _) rfl ?_
  refine op_nil (at_then ?_)
  refine W_rseq ?_
  refine op_ldbN rfl ag_41 sz_41 rfl H (by first | exact at0 | exact at1 | exact at2 | exact at3 | exact at4 | exact at5 | exact at6 | exact at7 | exact at8 | exact at9) rfl ?_
  refine op_call rfl ca_28 (fine_ok d w) rfl ?_
  rintro v w ⟨rfl, hx⟩
  refine op_not rfl rfl ?_
  refine op_assign rfl (.bool _) rfl ?_
  refine op_nil (at_then ?_)
  refine W_ret (leave1 (v := (.bool _)) rfl rfl rfl ?_)
  exact ⟨rfl, H.ext.trans hx⟩

/-- A function value answers p of each due. -/
def Asks (w : World) (f : Nat) (ca : List Value) (p : Due → Bool) : Prop := ∀ d w', Ext [] w w' → Ret Try.prog f (.agg d.enc.toArray :: ca).toArray w' fun v w'' => v = .bool (p d) ∧ Ext [] w' w''

theorem index_ok (a : Option Addr) (c : Nat) (xs : List Due) (f : Nat) (ca : List Value) (p : Due → Bool) (w : World) (R : Rd w a 7 Due.enc xs) (hm : xs.length ≤ 9223372036854775807) (hf : callable Try.prog f = true) (hp : Asks w f ca p) :
    Ret Try.prog 31 #[.slice a xs.length c, .func (.func f) #[] ca.toArray] w fun v w' => (∃ n : Int, v = .int .i64 n ∧ decide (0 ≤ n) = xs.any p) ∧ Ext [] w w' := by
  have H := Ctx.start w []
  refine ret_of_W (fn := Try.f31) Try.func31 rfl [.slice a xs.length c, .func (.func f) #[] ca.toArray] rfl (by kernel_rfl) ?_
  refine W_rseq ?_
  refine op_assign rfl (.int _ _) rfl ?_
  refine op_nil (at_then ?_)
  refine W_seq ?_
  refine W_rseq ?_
  refine op_move rfl (.slice _ _ _) rfl ?_
  refine op_len rfl el_22 rfl ?_
  refine op_move rfl (.int _ _) rfl ?_
  refine op_nil (at_then ?_)
  refine W_block ?_
  refine W_loop 524080 (α := Nat) (fun k => [(8, .int .i64 k)]) (fun k w' => k ≤ xs.length ∧ Ctx w [] w' [] ∧ (xs.take k).any p = false) (fun k => xs.length - k) 0 rfl ?_ ?_ ?_
  · exact ⟨rfl, trivial⟩
  · exact ⟨Nat.zero_le _, H, rfl⟩
  · rintro k j w1 ⟨hk, H, hn⟩
    refine W_rseq ?_
    refine op_lss rfl rfl rfl ?_
    refine op_nil (at_then ?_)
    refine W_seq ?_
    refine W_cond _ rfl ?_ ?_
    · intro h1
      replace h1 := dec_t h1
      obtain ⟨d, hd⟩ := get_some (l := xs) (i := k) (by omega)
      refine W_skip (at_then ?_)
      refine W_seq ?_
      refine W_block ?_
      refine W_rseq ?_
      refine op_move rfl (.int _ _) rfl ?_
      refine op_assign rfl (.int _ _) rfl ?_
      refine op_nil (at_then ?_)
      refine W_rseq ?_
      refine op_move rfl (.func _ _ _) rfl ?_
      refine op_move rfl (.slice _ _ _) rfl ?_
      refine op_move rfl (.int _ _) rfl ?_
      first | refine op_indexRd R rfl el_22 sz_41 rfl rfl (by omega) (by omega) (by first | rfl | omega) ?_ | refine op_indexAddr rfl el_22 sz_41 rfl rfl (by omega) (by omega) ?_
      refine op_ldN d.enc rfl ag_41 sz_41 rfl rfl ((R.ext0 H.ext).row hd rfl) ?_
      refine op_calld rfl rfl hf (hp d _ H.ext) rfl ?_
      rintro v w1 ⟨rfl, hx⟩
      refine op_nil (at_then ?_)
      refine W_cond _ rfl ?_ ?_
      · intro h2
        refine W_rseq ?_
        refine op_move rfl (.int _ _) rfl ?_
        refine op_assign rfl (.int _ _) rfl ?_
        refine op_nil (at_then ?_)
        refine W_ret (ret_block (ret_then (ret_then (ret_block (ret_then (leave1 (v := (.int _ _)) rfl rfl rfl ?_))))))
        refine ⟨⟨k, rfl, ?_⟩, H.ext.trans hx⟩
        rw [decide_eq_true (by omega)]
        exact (List.any_eq_true.2 ⟨d, List.mem_of_getElem? hd, h2⟩).symm
      · intro h2
        refine W_skip (at_block (at_then ?_))
        refine W_region ?_
        refine op_add_i64 rfl rfl rfl (by omega) (by omega) ?_
        refine op_move rfl (.int _ _) rfl ?_
        refine op_nil (at_then ?_)
        refine ⟨k + 1, rfl, ⟨by simp [put], trivial⟩, ⟨by omega, H.call hx, ?_⟩, by omega⟩
        rw [take_snoc hd, List.any_append, hn]
        simp [h2]
    · intro h1
      replace h1 := dec_f h1
      refine W_exit (exit_then (exit_then (exit_here (at_then ?_))))
      refine W_rseq ?_
      refine op_assign rfl (.int _ _) rfl ?_
      refine op_nil (at_then ?_)
      refine W_ret (leave1 (v := (.int _ _)) rfl rfl rfl ?_)
      refine ⟨⟨-1, rfl, ?_⟩, H.ext⟩
      rw [List.take_of_length_le (by omega)] at hn
      rw [hn]; rfl

theorem contains_ok (a : Option Addr) (c : Nat) (xs : List Due) (f : Nat) (ca : List Value) (p : Due → Bool) (w : World) (R : Rd w a 7 Due.enc xs) (hm : xs.length ≤ 9223372036854775807) (hf : callable Try.prog f = true) (hp : Asks w f ca p) :
    Ret Try.prog 26 #[.slice a xs.length c, .func (.func f) #[] ca.toArray] w fun v w' => v = .bool (xs.any p) ∧ Ext [] w w' := by
  refine ret_of_W (fn := Try.f26) Try.func26 rfl [.slice a xs.length c, .func (.func f) #[] ca.toArray] rfl (by kernel_rfl) ?_
  refine W_rseq ?_
  refine op_assign rfl (.bool _) rfl ?_
  refine op_nil (at_then ?_)
  refine W_rseq ?_
  refine op_move rfl (.slice _ _ _) rfl ?_
  refine op_move rfl (.func _ _ _) rfl ?_
  refine op_call rfl ca_31 (index_ok a c xs f ca p w R hm hf hp) rfl ?_
  rintro v w1 ⟨⟨n, rfl, hn⟩, hx⟩
  refine op_geq rfl rfl rfl ?_
  refine op_assign rfl (.bool _) rfl ?_
  refine op_nil (at_then ?_)
  refine W_ret (leave1 (v := (.bool _)) rfl rfl rfl ?_)
  exact ⟨congrArg Value.bool hn, hx⟩

def allD (xs : List Due) : Bool := decide (xs.length ≤ 64) && xs.all Due.fine
def belowD (banks : Int) (xs : List Due) : Bool := xs.all fun d => decide (d.fr < banks) && decide (d.to < banks)

theorem all_ok (a : Option Addr) (c : Nat) (xs : List Due) (w : World) (R : Rd w a 7 Due.enc xs) (hm : xs.length ≤ 9223372036854775807) :
    Ret Try.prog 20 #[.slice a xs.length c] w fun v w' => v = .bool (allD xs) ∧ Ext [] w w' := by
  refine ret_of_W (fn := Try.f20) Try.func20 rfl [.slice a xs.length c] rfl (by kernel_rfl) ?_
  refine W_rseq ?_
  refine op_assign rfl (.bool _) rfl ?_
  refine op_nil (at_then ?_)
  refine W_rseq ?_
  refine op_move rfl (.slice _ _ _) rfl ?_
  refine op_len rfl el_22 rfl ?_
  refine op_leq rfl rfl rfl ?_
  refine op_move rfl (.bool _) rfl ?_
  refine Wops_split 6 rfl ?_ ?_
  · intro h1
    replace h1 := dec_t h1
    refine op_move rfl (.slice _ _ _) rfl ?_
    refine op_call rfl ca_26 (contains_ok a c xs 27 [] (fun d => !d.fine) w R hm ca_27 (fun d w' _ => all1_ok d w')) rfl ?_
    rintro v w1 ⟨rfl, hx⟩
    refine op_not rfl rfl ?_
    refine op_pick1 rfl rfl (.bool _) rfl ?_
    refine op_assign rfl (.bool _) rfl ?_
    refine op_nil (at_then ?_)
    refine W_ret (leave1 (v := (.bool _)) rfl rfl rfl ?_)
    refine ⟨congrArg Value.bool ?_, hx⟩
    have h2 : xs.length ≤ 64 := by omega
    rw [any_not, Bool.not_not]
    simp [allD, h2]
  · intro h1
    replace h1 := dec_f h1
    refine op_skip rfl ?_
    refine op_skip rfl ?_
    refine op_skip rfl ?_
    refine op_pick0 rfl rfl (.bool _) rfl ?_
    refine op_assign rfl (.bool _) rfl ?_
    refine op_nil (at_then ?_)
    refine W_ret (leave1 (v := (.bool _)) rfl rfl rfl ?_)
    refine ⟨congrArg Value.bool ?_, Ext.refl _ _⟩
    have h2 : ¬ xs.length ≤ 64 := by omega
    simp [allD, h2]

theorem below1_ok (d : Due) (b : Nat) (banks : Int) (w : World) (hb : w.heap[b]? = some (Bl 3 [.int .i64 banks])) :
    Ret Try.prog 29 #[.agg d.enc.toArray, .pointer (some ⟨b, 0, none⟩)] w fun v w' => v = .bool (!(decide (d.fr < banks) && decide (d.to < banks))) ∧ Ext [] w w' := by
  have H := Ctx.start w []
  refine ret_of_W (fn := Try.f29) Try.func29 rfl [.agg d.enc.toArray, .pointer (some ⟨b, 0, none⟩)] rfl (by kernel_rfl) ?_
  refine W_rseq ?_
  refine op_box rfl _ (.agg _) rfl rfl H ?_
  rintro b2 w - H
  refine op_assign rfl (.bool _) rfl ?_
  refine op_nil (at_then ?_)
  refine W_rseq ?_
  refine op_fieldAddr rfl fo_41_1 rfl ?_
  refine op_ldb rfl ag_3 rfl H (by first | exact at0 | exact at1 | exact at2 | exact at3 | exact at4 | exact at5 | exact at6 | exact at7 | exact at8 | exact at9) rfl ?_
  refine op_ld rfl ag_3 rfl (H.old0 (p := ⟨b, 0, none⟩) (cell_bl hb 0)) ?_
  refine op_geq rfl rfl rfl ?_
  refine op_move rfl (.bool _) rfl ?_
  refine Wops_split 8 rfl ?_ ?_
  · intro h1
    replace h1 := dec_t h1
    refine op_skip rfl ?_
    refine op_skip rfl ?_
    refine op_skip rfl ?_
    refine op_skip rfl ?_
    refine op_pick1 rfl rfl (.bool _) rfl ?_
    refine op_assign rfl (.bool _) rfl ?_
    refine op_nil (at_then ?_)
    refine W_ret (leave1 (v := (.bool _)) rfl rfl rfl ?_)
    exact ⟨congrArg Value.bool (by rw [Bool.eq_iff_iff]; simp; try omega), H.ext⟩
  · intro h2
    replace h2 := dec_f h2
    refine op_fieldAddr rfl fo_41_2 rfl ?_
    refine op_ldb rfl ag_3 rfl H (by first | exact at0 | exact at1 | exact at2 | exact at3 | exact at4 | exact at5 | exact at6 | exact at7 | exact at8 | exact at9) rfl ?_
    refine op_ld rfl ag_3 rfl (H.old0 (p := ⟨b, 0, none⟩) (cell_bl hb 0)) ?_
    refine op_geq rfl rfl rfl ?_
    refine op_pick0 rfl rfl (.bool _) rfl ?_
    refine op_assign rfl (.bool _) rfl ?_
    refine op_nil (at_then ?_)
    refine W_ret (leave1 (v := (.bool _)) rfl rfl rfl ?_)
    exact ⟨congrArg Value.bool (by rw [Bool.eq_iff_iff]; simp; try omega), H.ext⟩

theorem below_ok (banks : Int) (a : Option Addr) (c : Nat) (xs : List Due) (w : World) (R : Rd w a 7 Due.enc xs) (hm : xs.length ≤ 9223372036854775807) :
    Ret Try.prog 21 #[.int .i64 banks, .slice a xs.length c] w fun v w' => v = .bool (belowD banks xs) ∧ Ext [] w w' := by
  have H := Ctx.start w []
  refine ret_of_W (fn := Try.f21) Try.func21 rfl [.int .i64 banks, .slice a xs.length c] rfl (by kernel_rfl) ?_
  refine W_rseq ?_
  refine op_box rfl _ (.int _ _) rfl rfl H ?_
  rintro b2 w - H
  refine op_assign rfl (.bool _) rfl ?_
  refine op_nil (at_then ?_)
  refine W_rseq ?_
  refine op_move rfl (.slice _ _ _) rfl ?_
  refine op_makeFuncL rfl [.pointer _] rfl ?_
  refine op_call rfl ca_26 (contains_ok a c xs 29 [.pointer (some ⟨b2, 0, none⟩)] (fun d => !(decide (d.fr < banks) && decide (d.to < banks))) w (R.ext0 H.ext) hm ca_29 (fun d w' hx => below1_ok d b2 banks w' ((H.call hx).get at0))) rfl ?_
  rintro v w1 ⟨rfl, hx⟩
  refine op_not rfl rfl ?_
  refine op_assign rfl (.bool _) rfl ?_
  refine op_nil (at_then ?_)
  refine W_ret (leave1 (v := (.bool _)) rfl rfl rfl ?_)
  refine ⟨congrArg Value.bool ?_, H.ext.trans hx⟩
  rw [any_not (fun d : Due => decide (d.fr < banks) && decide (d.to < banks)), Bool.not_not]
  rfl

theorem may16_ok (x : Int) (w : World) : Ret Try.prog 30 #[.int .i64 x] w fun v w' => v = .bool (decide (0 ≤ x) && decide (x ≤ 4503599627370496)) ∧ w = w' := by
  refine ret_of_W (fn := Try.f30) Try.func30 rfl [.int .i64 x] rfl (by kernel_rfl) ?_
  refine W_rseq ?_
  refine op_assign rfl (.bool _) rfl ?_
  refine op_nil (at_then ?_)
  refine W_rseq ?_
  refine op_move rfl (.int _ _) rfl ?_
  refine op_geq rfl rfl rfl ?_
  refine op_move rfl (.bool _) rfl ?_
  refine Wops_split 5 rfl ?_ ?_
  · intro h1
    replace h1 := dec_t h1
    refine op_move rfl (.int _ _) rfl ?_
    refine op_leq rfl rfl rfl ?_
    refine op_pick1 rfl rfl (.bool _) rfl ?_
    refine op_assign rfl (.bool _) rfl ?_
    refine op_nil (at_then ?_)
    refine W_ret (leave1 (v := (.bool _)) rfl rfl rfl ?_)
    exact ⟨congrArg Value.bool (by rw [Bool.eq_iff_iff]; simp; try omega), rfl⟩
  · intro h2
    replace h2 := dec_f h2
    refine op_skip rfl ?_
    refine op_skip rfl ?_
    refine op_pick0 rfl rfl (.bool _) rfl ?_
    refine op_assign rfl (.bool _) rfl ?_
    refine op_nil (at_then ?_)
    refine W_ret (leave1 (v := (.bool _)) rfl rfl rfl ?_)
    exact ⟨congrArg Value.bool (by rw [Bool.eq_iff_iff]; simp; try omega), rfl⟩

set_option maxHeartbeats 1000000 in
theorem may18_ok (d : Due) (w : World) : Ret Try.prog 23 #[.agg d.enc.toArray] w fun v w' => v = .bool d.fine ∧ Ext [] w w' := by
  have H := Ctx.start w []
  refine ret_of_W (fn := Try.f23) Try.func23 rfl [.agg d.enc.toArray] rfl (by kernel_rfl) ?_
  refine W_rseq ?_
  refine op_box rfl _ (.agg _) rfl rfl H ?_
  rintro b1 w - H
  refine op_assign rfl (.bool _) rfl ?_
  refine op_nil (at_then ?_)
  refine W_rseq ?_
  refine op_fieldAddr rfl fo_41_1 rfl ?_
  refine op_ldb rfl ag_3 rfl H (by first | exact at0 | exact at1 | exact at2 | exact at3 | exact at4 | exact at5 | exact at6 | exact at7 | exact at8 | exact at9) rfl ?_
  refine op_geq rfl rfl rfl ?_
  refine op_move rfl (.bool _) rfl ?_
  refine Wops_split 7 rfl ?_ ?_
  · intro h1
    replace h1 := dec_t h1
    refine op_fieldAddr rfl fo_41_1 rfl ?_
    refine op_ldb rfl ag_3 rfl H (by first | exact at0 | exact at1 | exact at2 | exact at3 | exact at4 | exact at5 | exact at6 | exact at7 | exact at8 | exact at9) rfl ?_
    refine op_lss rfl rfl rfl ?_
    refine op_pick1 rfl rfl (.bool _) rfl ?_
    refine op_move rfl (.bool _) rfl ?_
    refine Wops_split 12 rfl ?_ ?_
    · intro h2
      replace h2 := dec_t h2
      refine op_fieldAddr rfl fo_41_2 rfl ?_
      refine op_ldb rfl ag_3 rfl H (by first | exact at0 | exact at1 | exact at2 | exact at3 | exact at4 | exact at5 | exact at6 | exact at7 | exact at8 | exact at9) rfl ?_
      refine op_geq rfl rfl rfl ?_
      refine op_pick1 rfl rfl (.bool _) rfl ?_
      refine op_move rfl (.bool _) rfl ?_
      refine Wops_split 17 rfl ?_ ?_
      · intro h3
        replace h3 := dec_t h3
        refine op_fieldAddr rfl fo_41_2 rfl ?_
        refine op_ldb rfl ag_3 rfl H (by first | exact at0 | exact at1 | exact at2 | exact at3 | exact at4 | exact at5 | exact at6 | exact at7 | exact at8 | exact at9) rfl ?_
        refine op_lss rfl rfl rfl ?_
        refine op_pick1 rfl rfl (.bool _) rfl ?_
        refine op_move rfl (.bool _) rfl ?_
        refine Wops_split 22 rfl ?_ ?_
        · intro h4
          replace h4 := dec_t h4
          refine op_fieldAddr rfl fo_41_1 rfl ?_
          refine op_ldb rfl ag_3 rfl H (by first | exact at0 | exact at1 | exact at2 | exact at3 | exact at4 | exact at5 | exact at6 | exact at7 | exact at8 | exact at9) rfl ?_
          refine op_fieldAddr rfl fo_41_2 rfl ?_
          refine op_ldb rfl ag_3 rfl H (by first | exact at0 | exact at1 | exact at2 | exact at3 | exact at4 | exact at5 | exact at6 | exact at7 | exact at8 | exact at9) rfl ?_
          refine op_neq rfl rfl rfl ?_
          refine op_pick1 rfl rfl (.bool _) rfl ?_
          refine op_assign rfl (.bool _) rfl ?_
          refine op_nil (at_then ?_)
          refine W_rseq ?_
          refine op_move rfl (.bool _) rfl ?_
          refine op_move rfl (.bool _) rfl ?_
          refine Wops_split 30 rfl ?_ ?_
          · intro h5
            replace h5 := ndec_t h5
            refine op_fieldAddr rfl fo_41_3 rfl ?_
            refine op_ldb rfl ag_2 rfl H (by first | exact at0 | exact at1 | exact at2 | exact at3 | exact at4 | exact at5 | exact at6 | exact at7 | exact at8 | exact at9) rfl ?_
            refine op_geq rfl rfl rfl ?_
            refine op_pick1 rfl rfl (.bool _) rfl ?_
            refine op_move rfl (.bool _) rfl ?_
            refine Wops_split 35 rfl ?_ ?_
            · intro h6
              replace h6 := dec_t h6
              refine op_fieldAddr rfl fo_41_3 rfl ?_
              refine op_ldb rfl ag_2 rfl H (by first | exact at0 | exact at1 | exact at2 | exact at3 | exact at4 | exact at5 | exact at6 | exact at7 | exact at8 | exact at9) rfl ?_
              refine op_call rfl ca_30 (may16_ok d.am w) rfl ?_
              rintro v w ⟨rfl, rfl⟩
              refine op_pick1 rfl rfl (.bool _) rfl ?_
              refine op_move rfl (.bool _) rfl ?_
              refine Wops_split 40 rfl ?_ ?_
              · intro h7
                refine op_fieldAddr rfl fo_41_4 rfl ?_
                refine op_ldb rfl ag_2 rfl H (by first | exact at0 | exact at1 | exact at2 | exact at3 | exact at4 | exact at5 | exact at6 | exact at7 | exact at8 | exact at9) rfl ?_
                refine op_geq rfl rfl rfl ?_
                refine op_pick1 rfl rfl (.bool _) rfl ?_
                refine op_move rfl (.bool _) rfl ?_
                refine Wops_split 45 rfl ?_ ?_
                · intro h8
                  replace h8 := dec_t h8
                  refine op_fieldAddr rfl fo_41_4 rfl ?_
                  refine op_ldb rfl ag_2 rfl H (by first | exact at0 | exact at1 | exact at2 | exact at3 | exact at4 | exact at5 | exact at6 | exact at7 | exact at8 | exact at9) rfl ?_
                  refine op_leq rfl rfl rfl ?_
                  refine op_pick1 rfl rfl (.bool _) rfl ?_
                  refine op_move rfl (.bool _) rfl ?_
                  refine Wops_split 50 rfl ?_ ?_
                  · intro h9
                    replace h9 := dec_t h9
                    refine op_fieldAddr rfl fo_41_5 rfl ?_
                    refine op_ldb rfl ag_2 rfl H (by first | exact at0 | exact at1 | exact at2 | exact at3 | exact at4 | exact at5 | exact at6 | exact at7 | exact at8 | exact at9) rfl ?_
                    refine op_geq rfl rfl rfl ?_
                    refine op_pick1 rfl rfl (.bool _) rfl ?_
                    refine op_assign rfl (.bool _) rfl ?_
                    refine op_nil (at_then ?_)
                    refine W_ret (leave1 (v := (.bool _)) rfl rfl rfl ?_)
                    exact ⟨congrArg Value.bool (by rw [Bool.eq_iff_iff]; simp_all [Due.fine, bankB]; try omega), H.ext⟩
                  · intro h10
                    replace h10 := dec_f h10
                    refine op_skip rfl ?_
                    refine op_skip rfl ?_
                    refine op_skip rfl ?_
                    refine op_pick0 rfl rfl (.bool _) rfl ?_
                    refine op_assign rfl (.bool _) rfl ?_
                    refine op_nil (at_then ?_)
                    refine W_ret (leave1 (v := (.bool _)) rfl rfl rfl ?_)
                    exact ⟨congrArg Value.bool (by rw [Bool.eq_iff_iff]; simp_all [Due.fine, bankB]; try omega), H.ext⟩
                · intro h11
                  replace h11 := dec_f h11
                  refine op_skip rfl ?_
                  refine op_skip rfl ?_
                  refine op_skip rfl ?_
                  refine op_pick0 rfl rfl (.bool _) rfl ?_
                  refine op_move rfl (.bool _) rfl ?_
                  refine op_skip rfl ?_
                  refine op_skip rfl ?_
                  refine op_skip rfl ?_
                  refine op_pick0 rfl rfl (.bool _) rfl ?_
                  refine op_assign rfl (.bool _) rfl ?_
                  refine op_nil (at_then ?_)
                  refine W_ret (leave1 (v := (.bool _)) rfl rfl rfl ?_)
                  exact ⟨congrArg Value.bool (by rw [Bool.eq_iff_iff]; simp_all [Due.fine, bankB]; try omega), H.ext⟩
              · intro h12
                refine op_skip rfl ?_
                refine op_skip rfl ?_
                refine op_skip rfl ?_
                refine op_pick0 rfl rfl (.bool _) rfl ?_
                refine op_move rfl (.bool _) rfl ?_
                refine op_skip rfl ?_
                refine op_skip rfl ?_
                refine op_skip rfl ?_
                refine op_pick0 rfl rfl (.bool _) rfl ?_
                refine op_move rfl (.bool _) rfl ?_
                refine op_skip rfl ?_
                refine op_skip rfl ?_
                refine op_skip rfl ?_
                refine op_pick0 rfl rfl (.bool _) rfl ?_
                refine op_assign rfl (.bool _) rfl ?_
                refine op_nil (at_then ?_)
                refine W_ret (leave1 (v := (.bool _)) rfl rfl rfl ?_)
                exact ⟨congrArg Value.bool (by rw [Bool.eq_iff_iff]; simp_all [Due.fine, bankB]; try omega), H.ext⟩
            · intro h13
              replace h13 := dec_f h13
              refine op_skip rfl ?_
              refine op_skip rfl ?_
              refine op_skip rfl ?_
              refine op_pick0 rfl rfl (.bool _) rfl ?_
              refine op_move rfl (.bool _) rfl ?_
              refine op_skip rfl ?_
              refine op_skip rfl ?_
              refine op_skip rfl ?_
              refine op_pick0 rfl rfl (.bool _) rfl ?_
              refine op_move rfl (.bool _) rfl ?_
              refine op_skip rfl ?_
              refine op_skip rfl ?_
              refine op_skip rfl ?_
              refine op_pick0 rfl rfl (.bool _) rfl ?_
              refine op_move rfl (.bool _) rfl ?_
              refine op_skip rfl ?_
              refine op_skip rfl ?_
              refine op_skip rfl ?_
              refine op_pick0 rfl rfl (.bool _) rfl ?_
              refine op_assign rfl (.bool _) rfl ?_
              refine op_nil (at_then ?_)
              refine W_ret (leave1 (v := (.bool _)) rfl rfl rfl ?_)
              exact ⟨congrArg Value.bool (by rw [Bool.eq_iff_iff]; simp_all [Due.fine, bankB]; try omega), H.ext⟩
          · intro h14
            replace h14 := ndec_f h14
            refine op_skip rfl ?_
            refine op_skip rfl ?_
            refine op_skip rfl ?_
            refine op_pick0 rfl rfl (.bool _) rfl ?_
            refine op_move rfl (.bool _) rfl ?_
            refine op_skip rfl ?_
            refine op_skip rfl ?_
            refine op_skip rfl ?_
            refine op_pick0 rfl rfl (.bool _) rfl ?_
            refine op_move rfl (.bool _) rfl ?_
            refine op_skip rfl ?_
            refine op_skip rfl ?_
            refine op_skip rfl ?_
            refine op_pick0 rfl rfl (.bool _) rfl ?_
            refine op_move rfl (.bool _) rfl ?_
            refine op_skip rfl ?_
            refine op_skip rfl ?_
            refine op_skip rfl ?_
            refine op_pick0 rfl rfl (.bool _) rfl ?_
            refine op_move rfl (.bool _) rfl ?_
            refine op_skip rfl ?_
            refine op_skip rfl ?_
            refine op_skip rfl ?_
            refine op_pick0 rfl rfl (.bool _) rfl ?_
            refine op_assign rfl (.bool _) rfl ?_
            refine op_nil (at_then ?_)
            refine W_ret (leave1 (v := (.bool _)) rfl rfl rfl ?_)
            exact ⟨congrArg Value.bool (by rw [Bool.eq_iff_iff]; simp_all [Due.fine, bankB]; try omega), H.ext⟩
        · intro h15
          replace h15 := dec_f h15
          refine op_skip rfl ?_
          refine op_skip rfl ?_
          refine op_skip rfl ?_
          refine op_skip rfl ?_
          refine op_skip rfl ?_
          refine op_pick0 rfl rfl (.bool _) rfl ?_
          refine op_assign rfl (.bool _) rfl ?_
          refine op_nil (at_then ?_)
          refine W_rseq ?_
          refine op_move rfl (.bool _) rfl ?_
          refine op_move rfl (.bool _) rfl ?_
          refine op_skip rfl ?_
          refine op_skip rfl ?_
          refine op_skip rfl ?_
          refine op_pick0 rfl rfl (.bool _) rfl ?_
          refine op_move rfl (.bool _) rfl ?_
          refine op_skip rfl ?_
          refine op_skip rfl ?_
          refine op_skip rfl ?_
          refine op_pick0 rfl rfl (.bool _) rfl ?_
          refine op_move rfl (.bool _) rfl ?_
          refine op_skip rfl ?_
          refine op_skip rfl ?_
          refine op_skip rfl ?_
          refine op_pick0 rfl rfl (.bool _) rfl ?_
          refine op_move rfl (.bool _) rfl ?_
          refine op_skip rfl ?_
          refine op_skip rfl ?_
          refine op_skip rfl ?_
          refine op_pick0 rfl rfl (.bool _) rfl ?_
          refine op_move rfl (.bool _) rfl ?_
          refine op_skip rfl ?_
          refine op_skip rfl ?_
          refine op_skip rfl ?_
          refine op_pick0 rfl rfl (.bool _) rfl ?_
          refine op_assign rfl (.bool _) rfl ?_
          refine op_nil (at_then ?_)
          refine W_ret (leave1 (v := (.bool _)) rfl rfl rfl ?_)
          exact ⟨congrArg Value.bool (by rw [Bool.eq_iff_iff]; simp_all [Due.fine, bankB]; try omega), H.ext⟩
      · intro h16
        replace h16 := dec_f h16
        refine op_skip rfl ?_
        refine op_skip rfl ?_
        refine op_skip rfl ?_
        refine op_pick0 rfl rfl (.bool _) rfl ?_
        refine op_move rfl (.bool _) rfl ?_
        refine op_skip rfl ?_
        refine op_skip rfl ?_
        refine op_skip rfl ?_
        refine op_skip rfl ?_
        refine op_skip rfl ?_
        refine op_pick0 rfl rfl (.bool _) rfl ?_
        refine op_assign rfl (.bool _) rfl ?_
        refine op_nil (at_then ?_)
        refine W_rseq ?_
        refine op_move rfl (.bool _) rfl ?_
        refine op_move rfl (.bool _) rfl ?_
        refine op_skip rfl ?_
        refine op_skip rfl ?_
        refine op_skip rfl ?_
        refine op_pick0 rfl rfl (.bool _) rfl ?_
        refine op_move rfl (.bool _) rfl ?_
        refine op_skip rfl ?_
        refine op_skip rfl ?_
        refine op_skip rfl ?_
        refine op_pick0 rfl rfl (.bool _) rfl ?_
        refine op_move rfl (.bool _) rfl ?_
        refine op_skip rfl ?_
        refine op_skip rfl ?_
        refine op_skip rfl ?_
        refine op_pick0 rfl rfl (.bool _) rfl ?_
        refine op_move rfl (.bool _) rfl ?_
        refine op_skip rfl ?_
        refine op_skip rfl ?_
        refine op_skip rfl ?_
        refine op_pick0 rfl rfl (.bool _) rfl ?_
        refine op_move rfl (.bool _) rfl ?_
        refine op_skip rfl ?_
        refine op_skip rfl ?_
        refine op_skip rfl ?_
        refine op_pick0 rfl rfl (.bool _) rfl ?_
        refine op_assign rfl (.bool _) rfl ?_
        refine op_nil (at_then ?_)
        refine W_ret (leave1 (v := (.bool _)) rfl rfl rfl ?_)
        exact ⟨congrArg Value.bool (by rw [Bool.eq_iff_iff]; simp_all [Due.fine, bankB]; try omega), H.ext⟩
    · intro h17
      replace h17 := dec_f h17
      refine op_skip rfl ?_
      refine op_skip rfl ?_
      refine op_skip rfl ?_
      refine op_pick0 rfl rfl (.bool _) rfl ?_
      refine op_move rfl (.bool _) rfl ?_
      refine op_skip rfl ?_
      refine op_skip rfl ?_
      refine op_skip rfl ?_
      refine op_pick0 rfl rfl (.bool _) rfl ?_
      refine op_move rfl (.bool _) rfl ?_
      refine op_skip rfl ?_
      refine op_skip rfl ?_
      refine op_skip rfl ?_
      refine op_skip rfl ?_
      refine op_skip rfl ?_
      refine op_pick0 rfl rfl (.bool _) rfl ?_
      refine op_assign rfl (.bool _) rfl ?_
      refine op_nil (at_then ?_)
      refine W_rseq ?_
      refine op_move rfl (.bool _) rfl ?_
      refine op_move rfl (.bool _) rfl ?_
      refine op_skip rfl ?_
      refine op_skip rfl ?_
      refine op_skip rfl ?_
      refine op_pick0 rfl rfl (.bool _) rfl ?_
      refine op_move rfl (.bool _) rfl ?_
      refine op_skip rfl ?_
      refine op_skip rfl ?_
      refine op_skip rfl ?_
      refine op_pick0 rfl rfl (.bool _) rfl ?_
      refine op_move rfl (.bool _) rfl ?_
      refine op_skip rfl ?_
      refine op_skip rfl ?_
      refine op_skip rfl ?_
      refine op_pick0 rfl rfl (.bool _) rfl ?_
      refine op_move rfl (.bool _) rfl ?_
      refine op_skip rfl ?_
      refine op_skip rfl ?_
      refine op_skip rfl ?_
      refine op_pick0 rfl rfl (.bool _) rfl ?_
      refine op_move rfl (.bool _) rfl ?_
      refine op_skip rfl ?_
      refine op_skip rfl ?_
      refine op_skip rfl ?_
      refine op_pick0 rfl rfl (.bool _) rfl ?_
      refine op_assign rfl (.bool _) rfl ?_
      refine op_nil (at_then ?_)
      refine W_ret (leave1 (v := (.bool _)) rfl rfl rfl ?_)
      exact ⟨congrArg Value.bool (by rw [Bool.eq_iff_iff]; simp_all [Due.fine, bankB]; try omega), H.ext⟩
  · intro h18
    replace h18 := dec_f h18
    refine op_skip rfl ?_
    refine op_skip rfl ?_
    refine op_skip rfl ?_
    refine op_pick0 rfl rfl (.bool _) rfl ?_
    refine op_move rfl (.bool _) rfl ?_
    refine op_skip rfl ?_
    refine op_skip rfl ?_
    refine op_skip rfl ?_
    refine op_pick0 rfl rfl (.bool _) rfl ?_
    refine op_move rfl (.bool _) rfl ?_
    refine op_skip rfl ?_
    refine op_skip rfl ?_
    refine op_skip rfl ?_
    refine op_pick0 rfl rfl (.bool _) rfl ?_
    refine op_move rfl (.bool _) rfl ?_
    refine op_skip rfl ?_
    refine op_skip rfl ?_
    refine op_skip rfl ?_
    refine op_skip rfl ?_
    refine op_skip rfl ?_
    refine op_pick0 rfl rfl (.bool _) rfl ?_
    refine op_assign rfl (.bool _) rfl ?_
    refine op_nil (at_then ?_)
    refine W_rseq ?_
    refine op_move rfl (.bool _) rfl ?_
    refine op_move rfl (.bool _) rfl ?_
    refine op_skip rfl ?_
    refine op_skip rfl ?_
    refine op_skip rfl ?_
    refine op_pick0 rfl rfl (.bool _) rfl ?_
    refine op_move rfl (.bool _) rfl ?_
    refine op_skip rfl ?_
    refine op_skip rfl ?_
    refine op_skip rfl ?_
    refine op_pick0 rfl rfl (.bool _) rfl ?_
    refine op_move rfl (.bool _) rfl ?_
    refine op_skip rfl ?_
    refine op_skip rfl ?_
    refine op_skip rfl ?_
    refine op_pick0 rfl rfl (.bool _) rfl ?_
    refine op_move rfl (.bool _) rfl ?_
    refine op_skip rfl ?_
    refine op_skip rfl ?_
    refine op_skip rfl ?_
    refine op_pick0 rfl rfl (.bool _) rfl ?_
    refine op_move rfl (.bool _) rfl ?_
    refine op_skip rfl ?_
    refine op_skip rfl ?_
    refine op_skip rfl ?_
    refine op_pick0 rfl rfl (.bool _) rfl ?_
    refine op_assign rfl (.bool _) rfl ?_
    refine op_nil (at_then ?_)
    refine W_ret (leave1 (v := (.bool _)) rfl rfl rfl ?_)
    exact ⟨congrArg Value.bool (by rw [Bool.eq_iff_iff]; simp_all [Due.fine, bankB]; try omega), H.ext⟩

def mayD (banks : Int) (xs : List Due) : Bool := decide (0 ≤ banks) && (decide (banks ≤ 16) && (decide (xs.length ≤ 64) && xs.all fun d => d.fine && (decide (d.fr < banks) && decide (d.to < banks))))

set_option maxHeartbeats 1000000 in
theorem may29_ok (banks : Int) (a : Option Addr) (c : Nat) (xs : List Due) (w : World) (R : Rd w a 7 Due.enc xs) (hm : xs.length ≤ 9223372036854775807) :
    Ret Try.prog 16 #[.int .i64 banks, .slice a xs.length c] w fun v w' => v = .bool (mayD banks xs) ∧ Ext [] w w' := by
  obtain ⟨w0, rfl⟩ : ∃ w0, w0 = w := ⟨_, rfl⟩
  have H := Ctx.start w0 []
  refine ret_of_W (fn := Try.f16) Try.func16 rfl [.int .i64 banks, .slice a xs.length c] rfl (by kernel_rfl) ?_
  refine W_rseq ?_
  refine op_assign rfl (.bool _) rfl ?_
  refine op_nil (at_then ?_)
  refine W_seq ?_
  refine W_rseq (Wops_join (α := Unit) 131008 (fun _ => [(16, .bool (!(decide (0 ≤ banks) && (decide (banks ≤ 16) && decide (xs.length ≤ 64)))))]) (fun _ w' => Ctx w0 [] w' []) rfl ?_ ?_)
  · refine op_move rfl (.int _ _) rfl ?_
    refine op_lss rfl rfl rfl ?_
    refine op_move rfl (.bool _) rfl ?_
    refine Wops_split 8 rfl ?_ ?_
    · intro h1
      replace h1 := dec_t h1
      refine op_skip rfl ?_
      refine op_skip rfl ?_
      refine op_pick1 rfl rfl (.bool _) rfl ?_
      refine op_move rfl (.bool _) rfl ?_
      refine op_skip rfl ?_
      refine op_skip rfl ?_
      refine op_skip rfl ?_
      refine op_pick1 rfl rfl (.bool _) rfl ?_
      refine op_nil ?_
      exact ⟨rfl, (), rfl, ⟨congrArg Value.bool (by rw [Bool.eq_iff_iff]; simp; try omega), trivial⟩, H⟩
    · intro h2
      replace h2 := dec_f h2
      refine op_move rfl (.int _ _) rfl ?_
      refine op_gtr rfl rfl rfl ?_
      refine op_pick0 rfl rfl (.bool _) rfl ?_
      refine op_move rfl (.bool _) rfl ?_
      refine Wops_split 12 rfl ?_ ?_
      · intro h3
        replace h3 := dec_t h3
        refine op_skip rfl ?_
        refine op_skip rfl ?_
        refine op_skip rfl ?_
        refine op_pick1 rfl rfl (.bool _) rfl ?_
        refine op_nil ?_
        exact ⟨rfl, (), rfl, ⟨congrArg Value.bool (by rw [Bool.eq_iff_iff]; simp; try omega), trivial⟩, H⟩
      · intro h4
        replace h4 := dec_f h4
        refine op_move rfl (.slice _ _ _) rfl ?_
        refine op_len rfl el_22 rfl ?_
        refine op_gtr rfl rfl rfl ?_
        refine op_pick0 rfl rfl (.bool _) rfl ?_
        refine op_nil ?_
        exact ⟨rfl, (), rfl, ⟨congrArg Value.bool (by rw [Bool.eq_iff_iff]; simp; try omega), trivial⟩, H⟩
  rintro - j16 w H
  refine W_cond _ rfl ?_ ?_
  · intro h1
    replace h1 := nvar_t h1
    refine W_rseq ?_
    refine op_assign rfl (.bool _) rfl ?_
    refine op_nil (at_then ?_)
    refine W_ret (ret_then (leave1 (v := (.bool _)) rfl rfl rfl ?_))
    refine ⟨congrArg Value.bool ?_, H.ext⟩
    simp only [Bool.and_eq_false_iff, decide_eq_false_iff_not] at h1
    rw [Bool.eq_iff_iff]
    simp [mayD]
    intros; omega
  · intro h1
    replace h1 := nvar_f h1
    simp only [Bool.and_eq_true, decide_eq_true_eq] at h1
    refine W_skip (at_then ?_)
    refine W_seq ?_
    refine W_rseq ?_
    refine op_assign rfl (.int _ _) rfl ?_
    refine op_nil (at_then ?_)
    refine W_block ?_
    refine W_loop 140737488224304 (α := Nat) (fun k => [(5, .int .i64 k)]) (fun k w' => k ≤ xs.length ∧ Ctx w0 [] w' [] ∧ ((xs.take k).all fun d => d.fine && (decide (d.fr < banks) && decide (d.to < banks))) = true) (fun k => xs.length - k) 0 rfl ?_ ?_ ?_
    · exact ⟨rfl, trivial⟩
    · exact ⟨Nat.zero_le _, H, rfl⟩
    · rintro k j w ⟨hk, H, hn⟩
      refine W_seq ?_
      refine W_rseq ?_
      refine op_move rfl (.int _ _) rfl ?_
      refine op_move rfl (.slice _ _ _) rfl ?_
      refine op_len rfl el_22 rfl ?_
      refine op_lss rfl rfl rfl ?_
      refine op_nil (at_then ?_)
      refine W_cond _ rfl ?_ ?_
      · intro h2
        replace h2 := dec_t h2
        obtain ⟨d, hd⟩ := get_some (l := xs) (i := k) (by omega)
        refine W_skip (at_then ?_)
        refine W_seq ?_
        refine W_block ?_
        refine W_rseq (Wops_join (α := Unit) 140737479966720 (fun _ => [(46, .bool (!(d.fine && (decide (d.fr < banks) && decide (d.to < banks)))))]) (fun _ w' => Ctx w0 [] w' []) rfl ?_ ?_)
        · refine op_move rfl (.slice _ _ _) rfl ?_
          refine op_move rfl (.int _ _) rfl ?_
          first | refine op_indexRd R rfl el_22 sz_41 rfl rfl (by omega) (by omega) (by first | rfl | omega) ?_ | refine op_indexAddr rfl el_22 sz_41 rfl rfl (by omega) (by omega) ?_
          refine op_ldN d.enc rfl ag_41 sz_41 rfl rfl ((R.ext0 H.ext).row hd rfl) ?_
          refine op_call rfl ca_23 (may18_ok d _) rfl ?_
          rintro v w ⟨rfl, hx⟩
          replace H := H.call hx
          refine op_not rfl rfl ?_
          refine op_move rfl (.bool _) rfl ?_
          refine Wops_split 29 rfl ?_ ?_
          · intro h5
            replace h5 := nvar_t h5
            refine op_skip rfl ?_
            refine op_skip rfl ?_
            refine op_skip rfl ?_
            refine op_skip rfl ?_
            refine op_skip rfl ?_
            refine op_skip rfl ?_
            refine op_skip rfl ?_
            refine op_pick1 rfl rfl (.bool _) rfl ?_
            refine op_move rfl (.bool _) rfl ?_
            refine op_skip rfl ?_
            refine op_skip rfl ?_
            refine op_skip rfl ?_
            refine op_skip rfl ?_
            refine op_skip rfl ?_
            refine op_skip rfl ?_
            refine op_skip rfl ?_
            refine op_pick1 rfl rfl (.bool _) rfl ?_
            refine op_nil ?_
            exact ⟨rfl, (), rfl, ⟨congrArg Value.bool (by rw [Bool.eq_iff_iff]; simp_all; try omega), trivial⟩, H⟩
          · intro h6
            replace h6 := nvar_f h6
            refine op_move rfl (.slice _ _ _) rfl ?_
            refine op_move rfl (.int _ _) rfl ?_
            first | refine op_indexRd R rfl el_22 sz_41 rfl rfl (by omega) (by omega) (by first | rfl | omega) ?_ | refine op_indexAddr rfl el_22 sz_41 rfl rfl (by omega) (by omega) ?_
            refine op_fieldAddr rfl fo_41_1 rfl ?_
            refine op_ld rfl ag_3 rfl ((R.ext0 H.ext).fld hd rfl (j := 1) rfl) ?_
            refine op_move rfl (.int _ _) rfl ?_
            refine op_geq rfl rfl rfl ?_
            refine op_pick0 rfl rfl (.bool _) rfl ?_
            refine op_move rfl (.bool _) rfl ?_
            refine Wops_split 38 rfl ?_ ?_
            · intro h7
              replace h7 := dec_t h7
              refine op_skip rfl ?_
              refine op_skip rfl ?_
              refine op_skip rfl ?_
              refine op_skip rfl ?_
              refine op_skip rfl ?_
              refine op_skip rfl ?_
              refine op_skip rfl ?_
              refine op_pick1 rfl rfl (.bool _) rfl ?_
              refine op_nil ?_
              exact ⟨rfl, (), rfl, ⟨congrArg Value.bool (by rw [Bool.eq_iff_iff]; simp_all; try omega), trivial⟩, H⟩
            · intro h8
              replace h8 := dec_f h8
              refine op_move rfl (.slice _ _ _) rfl ?_
              refine op_move rfl (.int _ _) rfl ?_
              first | refine op_indexRd R rfl el_22 sz_41 rfl rfl (by omega) (by omega) (by first | rfl | omega) ?_ | refine op_indexAddr rfl el_22 sz_41 rfl rfl (by omega) (by omega) ?_
              refine op_fieldAddr rfl fo_41_2 rfl ?_
              refine op_ld rfl ag_3 rfl ((R.ext0 H.ext).fld hd rfl (j := 2) rfl) ?_
              refine op_move rfl (.int _ _) rfl ?_
              refine op_geq rfl rfl rfl ?_
              refine op_pick0 rfl rfl (.bool _) rfl ?_
              refine op_nil ?_
              exact ⟨rfl, (), rfl, ⟨congrArg Value.bool (by rw [Bool.eq_iff_iff]; simp_all; try omega), trivial⟩, H⟩
        rintro - j46 w H
        refine W_cond _ rfl ?_ ?_
        · intro h3
          replace h3 := nvar_t h3
          refine W_rseq ?_
          refine op_assign rfl (.bool _) rfl ?_
          refine op_nil (at_then ?_)
          refine W_ret (ret_block (ret_then (ret_then (ret_block (ret_then (leave1 (v := (.bool _)) rfl rfl rfl ?_))))))
          refine ⟨congrArg Value.bool ?_, H.ext⟩
          symm
          rw [Bool.eq_false_iff]
          simp only [mayD, ne_eq, Bool.and_eq_true, List.all_eq_true, not_and]
          intro _ _ _ h
          have := h d (List.mem_of_getElem? hd)
          simp_all
        · intro h3
          replace h3 := nvar_f h3
          refine W_skip (at_block (at_then ?_))
          refine W_region ?_
          refine op_move rfl (.int _ _) rfl ?_
          refine op_add_i64 rfl rfl rfl (by omega) (by omega) ?_
          refine op_assign rfl (.int _ _) rfl ?_
          refine op_nil (at_then ?_)
          refine ⟨k + 1, rfl, ⟨by simp [put], trivial⟩, ⟨by omega, H, ?_⟩, by omega⟩
          rw [take_snoc hd, List.all_append, hn]
          simp only [List.all_cons, List.all_nil, Bool.and_true, Bool.true_and]
          exact h3
      · intro h2
        replace h2 := dec_f h2
        refine W_exit (exit_then (exit_then (exit_here (at_then ?_))))
        refine W_rseq ?_
        refine op_assign rfl (.bool _) rfl ?_
        refine op_nil (at_then ?_)
        refine W_ret (leave1 (v := (.bool _)) rfl rfl rfl ?_)
        rw [List.take_of_length_le (by omega)] at hn
        refine ⟨congrArg Value.bool ?_, H.ext⟩
        rw [mayD, hn]
        simp [h1]

end Go.Proofs.Ytogaoppnoibgdaa
