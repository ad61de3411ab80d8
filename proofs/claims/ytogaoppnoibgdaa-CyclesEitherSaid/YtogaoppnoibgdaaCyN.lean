/- The law CyclesPlays: what it does. -/
import Derived.Test.YtogaoppnoibgdaaCyM
namespace Go.Proofs.Ytogaoppnoibgdaa
open Go.GV
attribute [local irreducible] Wops W Wq

theorem enc_len (l : List Due) : (l.flatMap Due.enc).length = l.length * 7 := by
  induction l with
  | nil => rfl
  | cons d l ih => simp only [List.flatMap_cons, List.length_append, ih, List.length_cons]; simp [Due.enc]; omega
theorem enc_one {l : List Due} : ∀ v ∈ l.flatMap Due.enc, oneCell v = true := fun v hv => by
  obtain ⟨d, _, hd⟩ := List.mem_flatMap.1 hv
  simp only [Due.enc, List.mem_cons, List.not_mem_nil, or_false] at hd
  rcases hd with h | h | h | h | h | h | h <;> subst h <;> rfl

theorem ordX_len (banks : Int) (l : List Due) : (ordX banks l).length ≤ 9223372036854775807 := by
  unfold ordX
  cases ho : orderD banks l with
  | none => simp
  | some out =>
    unfold orderD at ho
    cases hm : mayD banks l with
    | false => rw [hm] at ho; cases ho
    | true =>
      rw [hm] at ho
      obtain ⟨nb, rfl, F⟩ := may_facts hm
      have h1 := (go_some nb [] out ho).1
      have h2 := F.n16
      simp only [List.length_map, List.length_nil] at h1 ⊢
      omega
theorem netX_len (banks : Int) (l : List Due) : (netX banks l).length ≤ 9223372036854775807 := by
  unfold netX
  cases h : decide (netsE banks l = 0) with
  | false => simp
  | true =>
    rw [decide_eq_true_eq, netsE] at h
    have : banks ≤ 16 := by
      refine Classical.byContradiction fun hc => ?_
      rw [decide_eq_false hc, Bool.false_and, Bool.and_false] at h
      cases h
    simp only [cond_true, List.length_map, List.length_range]
    omega

set_option maxHeartbeats 4000000 in
theorem plays_ok (a b : Option Addr) (c c' : Nat) (l : List Due) (banks : Int) (way : List Int) (w : World) (R : Rd w a 7 Due.enc l) (R' : Rd w b 1 I64 way) (hm : l.length ≤ 9223372036854775807) (hm' : way.length ≤ 9223372036854775807) :
    Ret Try.prog 3 #[.slice a l.length c, .int .i64 banks, .slice b way.length c'] w fun v w' => v = .bool true ∧ Ext [] w w' := by
  obtain ⟨w0, rfl⟩ : ∃ w0, w0 = w := ⟨_, rfl⟩
  have H := Ctx.start w0 []
  refine ret_of_W (fn := Try.f3) Try.func3 rfl [.slice a l.length c, .int .i64 banks, .slice b way.length c'] rfl (by kernel_rfl) ?_
  refine W_rseq ?_
  refine op_assign rfl (.bool _) rfl ?_
  refine op_nil (at_then ?_)
  refine W_seq ?_
  refine W_rseq (Wops_join (α := Unit) 4278190080 (fun _ => [(31, .bool (!(decide (l.length ≤ 80) && decide (way.length ≤ 20))))]) (fun _ w' => Ctx w0 [] w' []) rfl ?_ ?_)
  · refine op_move rfl (.slice _ _ _) rfl ?_
    refine op_len rfl el_22 rfl ?_
    refine op_gtr rfl rfl rfl ?_
    refine op_move rfl (.bool _) rfl ?_
    refine Wops_split 27 rfl ?_ ?_
    · intro h1
      replace h1 := dec_t h1
      refine op_skip rfl ?_
      refine op_skip rfl ?_
      refine op_skip rfl ?_
      refine op_pick1 rfl rfl (.bool _) rfl ?_
      refine op_nil ?_
      exact ⟨rfl, (), rfl, ⟨congrArg Value.bool (by rw [Bool.eq_iff_iff]; simp; try omega), trivial⟩, H⟩
    · intro h2
      replace h2 := dec_f h2
      refine op_move rfl (.slice _ _ _) rfl ?_
      refine op_len rfl el_23 rfl ?_
      refine op_gtr rfl rfl rfl ?_
      refine op_pick0 rfl rfl (.bool _) rfl ?_
      refine op_nil ?_
      exact ⟨rfl, (), rfl, ⟨congrArg Value.bool (by rw [Bool.eq_iff_iff]; simp; try omega), trivial⟩, H⟩
  rintro - j31 w H
  refine W_cond _ rfl ?_ ?_
  · intro h1
    replace h1 := nvar_t h1
    refine W_rseq ?_
    refine op_call rfl ca_6 (works_ok _) rfl ?_
    rintro v w ⟨rfl, hx⟩
    refine op_assign rfl (.bool _) rfl ?_
    refine op_nil (at_then ?_)
    refine W_ret (ret_then (leave1 (v := (.bool _)) rfl rfl rfl ?_))
    exact ⟨rfl, H.ext.trans hx⟩
  · intro h1
    replace h1 := nvar_f h1
    simp only [Bool.and_eq_true, decide_eq_true_eq] at h1
    refine W_skip (at_then ?_)
    refine W_rseq ?_
    refine op_build0 rfl el_22 sz_41 H ?_
    rintro b33 w H O
    refine op_move rfl (.slice _ _ _) rfl ?_
    refine op_append rfl el_22 el_22 sz_41 by_41 zc_41 rfl (by decide) (l.flatMap Due.enc) rfl rfl H O (enc_len l) enc_one ((R.ext0 H.ext).app (fun x _ => rfl) (by decide)) (by omega) ?_
    rintro a7 c7 full7 w H O
    refine op_assign rfl (.slice _ _ _) rfl ?_
    refine op_nil (at_then ?_)
    refine W_rseq ?_
    refine op_move rfl (.int _ _) rfl ?_
    refine op_move rfl (.slice _ _ _) rfl ?_
    have R7 : Rd w a7 7 Due.enc l := OS.rd (by simpa using O) (fun x hx => H.blk x (by simpa using hx)) (fun x _ => rfl) (by decide)
    have hx0 := H.ext
    replace R := R.ext0 hx0
    replace R' := R'.ext0 hx0
    clear H O
    rw [Nat.zero_add]
    refine op_call rfl ca_7 (order_ok banks a7 c7 l _ R7 hm) rfl ?_
    rintro v w P
    obtain ⟨a8, c8, rfl, hx, R8⟩ := order_uni P
    replace hx0 := hx0.trans hx
    replace R := R.ext0 hx
    replace R' := R'.ext0 hx
    replace R7 := R7.ext0 hx
    refine op_move rfl (.tuple _) rfl ?_
    refine op_extract rfl rfl rfl ?_
    refine op_extract rfl rfl rfl ?_
    refine op_assign rfl (.slice _ _ _) rfl ?_
    refine op_assign rfl (.bool _) rfl ?_
    refine op_nil (at_then ?_)
    refine W_rseq ?_
    refine op_move rfl (.int _ _) rfl ?_
    refine op_move rfl (.slice _ _ _) rfl ?_
    refine op_call rfl ca_8 (order29_ok banks a c l _ R hm) rfl ?_
    rintro v w P
    obtain ⟨a10, c10, rfl, hx, R10⟩ := order_uni P
    replace hx0 := hx0.trans hx
    replace R := R.ext0 hx
    replace R' := R'.ext0 hx
    replace R7 := R7.ext0 hx
    replace R8 := R8.ext0 hx
    refine op_move rfl (.tuple _) rfl ?_
    refine op_extract rfl rfl rfl ?_
    refine op_extract rfl rfl rfl ?_
    refine op_assign rfl (.slice _ _ _) rfl ?_
    refine op_assign rfl (.bool _) rfl ?_
    refine op_nil (at_then ?_)
    refine W_rseq ?_
    refine op_move rfl (.slice _ _ _) rfl ?_
    refine op_move rfl (.slice _ _ _) rfl ?_
    refine op_call rfl ca_9 (least_ok a7 b c7 c' l way _ R7 R' hm') rfl ?_
    rintro v w ⟨rfl, hx⟩
    replace hx0 := hx0.trans hx
    replace R := R.ext0 hx
    replace R' := R'.ext0 hx
    replace R7 := R7.ext0 hx
    replace R8 := R8.ext0 hx
    replace R10 := R10.ext0 hx
    obtain ⟨x12, b13, hlv⟩ : ∃ x b, leastV l way = .tuple #[.int .i64 x, .bool b] := by (unfold leastV; cases ringB l way <;> exact ⟨_, _, rfl⟩)
    rw [hlv]
    refine op_move rfl (.tuple _) rfl ?_
    refine op_extract rfl rfl rfl ?_
    refine op_extract rfl rfl rfl ?_
    refine op_assign rfl (.int _ _) rfl ?_
    refine op_assign rfl (.bool _) rfl ?_
    refine op_nil (at_then ?_)
    refine W_rseq ?_
    refine op_move rfl (.slice _ _ _) rfl ?_
    refine op_move rfl (.slice _ _ _) rfl ?_
    refine op_call rfl ca_10 (least29_ok a b c c' l way _ R R' hm hm') rfl ?_
    rintro v w ⟨rfl, hx⟩
    replace hx0 := hx0.trans hx
    replace R := R.ext0 hx
    replace R7 := R7.ext0 hx
    replace R8 := R8.ext0 hx
    replace R10 := R10.ext0 hx
    rw [hlv]
    refine op_move rfl (.tuple _) rfl ?_
    refine op_extract rfl rfl rfl ?_
    refine op_extract rfl rfl rfl ?_
    refine op_assign rfl (.int _ _) rfl ?_
    refine op_assign rfl (.bool _) rfl ?_
    refine op_nil (at_then ?_)
    refine W_rseq ?_
    refine op_move rfl (.int _ _) rfl ?_
    refine op_move rfl (.slice _ _ _) rfl ?_
    refine op_call rfl ca_11 (nets_ok banks a7 c7 l _ R7 hm) rfl ?_
    rintro v w P
    obtain ⟨a16, c16, rfl, hx, R16⟩ := nets_uni P
    replace hx0 := hx0.trans hx
    replace R := R.ext0 hx
    replace R7 := R7.ext0 hx
    replace R8 := R8.ext0 hx
    replace R10 := R10.ext0 hx
    refine op_move rfl (.tuple _) rfl ?_
    refine op_extract rfl rfl rfl ?_
    refine op_extract rfl rfl rfl ?_
    refine op_assign rfl (.slice _ _ _) rfl ?_
    refine op_assign rfl (.int _ _) rfl ?_
    refine op_nil (at_then ?_)
    refine W_rseq ?_
    refine op_move rfl (.int _ _) rfl ?_
    refine op_move rfl (.slice _ _ _) rfl ?_
    refine op_call rfl ca_12 (nets29_ok banks a c l _ R hm) rfl ?_
    rintro v w P
    obtain ⟨a18, c18, rfl, hx, R18⟩ := nets_uni P
    replace hx0 := hx0.trans hx
    replace R := R.ext0 hx
    replace R7 := R7.ext0 hx
    replace R8 := R8.ext0 hx
    replace R10 := R10.ext0 hx
    replace R16 := R16.ext0 hx
    refine op_move rfl (.tuple _) rfl ?_
    refine op_extract rfl rfl rfl ?_
    refine op_extract rfl rfl rfl ?_
    refine op_assign rfl (.slice _ _ _) rfl ?_
    refine op_assign rfl (.int _ _) rfl ?_
    refine op_nil (at_then ?_)
    refine W_seq ?_
    refine W_rseq ?_
    refine op_move rfl (.bool _) rfl ?_
    refine op_move rfl (.bool _) rfl ?_
    refine op_neqb un_4 rfl rfl rfl ?_
    rw [beq_self_eq_true, Bool.not_true]
    refine op_move rfl (.bool _) rfl ?_
    refine op_move rfl (.slice _ _ _) rfl ?_
    refine op_move rfl (.slice _ _ _) rfl ?_
    refine op_call rfl ca_13 (same_ok a8 a10 c8 c10 (ordX banks l) (ordX banks l) _ R8 R10 (ordX_len banks l)) rfl ?_
    rintro v w ⟨rfl, hx⟩
    rw [decide_eq_true rfl]
    replace hx0 := hx0.trans hx
    replace R := R.ext0 hx
    replace R7 := R7.ext0 hx
    replace R16 := R16.ext0 hx
    replace R18 := R18.ext0 hx
    refine op_not rfl rfl ?_
    refine op_pick0 rfl rfl (.bool _) rfl ?_
    refine op_move rfl (.bool _) rfl ?_
    refine op_move rfl (.int _ _) rfl ?_
    refine op_move rfl (.int _ _) rfl ?_
    refine op_neq rfl rfl rfl ?_
    rw [decide_eq_true rfl, Bool.not_true]
    refine op_pick0 rfl rfl (.bool _) rfl ?_
    refine op_move rfl (.bool _) rfl ?_
    refine op_move rfl (.bool _) rfl ?_
    refine op_move rfl (.bool _) rfl ?_
    refine op_neqb un_4 rfl rfl rfl ?_
    rw [beq_self_eq_true, Bool.not_true]
    refine op_pick0 rfl rfl (.bool _) rfl ?_
    refine op_move rfl (.bool _) rfl ?_
    refine op_move rfl (.int _ _) rfl ?_
    refine op_move rfl (.int _ _) rfl ?_
    refine op_neq rfl rfl rfl ?_
    rw [decide_eq_true rfl, Bool.not_true]
    refine op_pick0 rfl rfl (.bool _) rfl ?_
    refine op_move rfl (.bool _) rfl ?_
    refine op_move rfl (.slice _ _ _) rfl ?_
    refine op_move rfl (.slice _ _ _) rfl ?_
    refine op_call rfl ca_14 (amounts_ok a16 a18 c16 c18 (netX banks l) (netX banks l) _ R16 R18 (netX_len banks l)) rfl ?_
    rintro v w ⟨rfl, hx⟩
    rw [decide_eq_true rfl]
    replace hx0 := hx0.trans hx
    replace R := R.ext0 hx
    replace R7 := R7.ext0 hx
    refine op_not rfl rfl ?_
    refine op_pick0 rfl rfl (.bool _) rfl ?_
    refine op_nil (at_then ?_)
    refine W_cond0 rfl ?_
    refine W_skip (at_then ?_)
    refine W_rseq ?_
    refine op_move rfl (.slice _ _ _) rfl ?_
    refine op_call rfl ca_15 (find_ok a7 c7 l _ R7 hm) rfl ?_
    rintro v w P
    obtain ⟨a20, c20, r, bf, rfl, hx, R20, hF⟩ := find_uni P
    replace hx0 := hx0.trans hx
    replace R := R.ext0 hx
    refine op_move rfl (.tuple _) rfl ?_
    refine op_extract rfl rfl rfl ?_
    refine op_extract rfl rfl rfl ?_
    refine op_assign rfl (.slice _ _ _) rfl ?_
    refine op_assign rfl (.bool _) rfl ?_
    refine op_nil (at_then ?_)
    refine W_rseq ?_
    refine op_move rfl (.slice _ _ _) rfl ?_
    refine op_call rfl ca_8 (order29_ok 16 a c l _ R hm) rfl ?_
    rintro v w P
    obtain ⟨a22, c22, rfl, hx, R22⟩ := order_uni P
    replace hx0 := hx0.trans hx
    replace R := R.ext0 hx
    replace R20 := R20.ext0 hx
    refine op_move rfl (.tuple _) rfl ?_
    refine op_extract rfl rfl rfl ?_
    refine op_extract rfl rfl rfl ?_
    refine op_assign rfl (.slice _ _ _) rfl ?_
    refine op_assign rfl (.bool _) rfl ?_
    refine op_nil (at_then ?_)
    refine W_seq ?_
    refine W_rseq ?_
    refine op_move rfl (.slice _ _ _) rfl ?_
    refine op_call rfl ca_16 (may29_ok 16 a c l _ R hm) rfl ?_
    rintro v w ⟨rfl, hx⟩
    rw [may_all]
    replace hx0 := hx0.trans hx
    replace R := R.ext0 hx
    replace R20 := R20.ext0 hx
    refine op_not rfl rfl ?_
    refine op_nil (at_then ?_)
    refine W_cond _ rfl ?_ ?_
    · intro h2
      replace h2 := nvar_t h2
      obtain ⟨rfl, rfl⟩ : bf = false ∧ r = [] := by
        cases hb : bf with
        | true => have := (hF.yes hb).1; rw [h2] at this; cases this
        | false => exact ⟨rfl, (hF.no hb).1⟩
      refine W_rseq ?_
      refine op_move rfl (.bool _) rfl ?_
      refine op_not rfl rfl ?_
      refine op_move rfl (.bool _) rfl ?_
      refine op_move rfl (.slice _ _ _) rfl ?_
      refine op_len rfl el_23 rfl ?_
      refine op_eql rfl rfl rfl ?_
      refine op_pick1 rfl rfl (.bool _) rfl ?_
      refine op_move rfl (.bool _) rfl ?_
      refine op_call rfl ca_6 (works_ok _) rfl ?_
      rintro v w ⟨rfl, hx⟩
      refine op_pick1 rfl rfl (.bool _) rfl ?_
      refine op_assign rfl (.bool _) rfl ?_
      refine op_nil (at_then ?_)
      refine W_ret (ret_then (leave1 (v := (.bool _)) rfl rfl rfl ?_))
      exact ⟨rfl, hx0.trans hx⟩
    · intro h2
      replace h2 := nvar_f h2
      have hbo : (orderD 16 l).isSome = !bf := by rw [found_order h2 hF, Bool.not_not]
      have hbr : bf = decide ((0 : Int) < (r.length : Int)) := by
        cases hb : bf with
        | true => have := (ring_parts (hF.yes hb).2).2.2; rw [decide_eq_true (by omega)]
        | false => rw [(hF.no hb).1]; rfl
      rw [hbo]
      refine W_skip (at_then ?_)
      refine W_rseq ?_
      refine op_move rfl (.bool _) rfl ?_
      refine op_move rfl (.bool _) rfl ?_
      refine op_neqb un_4 rfl rfl rfl ?_
      rw [show (!(bf == !bf)) = true from by cases bf <;> rfl]
      refine op_move rfl (.bool _) rfl ?_
      refine op_move rfl (.bool _) rfl ?_
      refine op_move rfl (.slice _ _ _) rfl ?_
      refine op_len rfl el_23 rfl ?_
      refine op_gtr rfl rfl rfl ?_
      refine op_eqlb un_4 rfl rfl rfl ?_
      rw [← hbr, beq_self_eq_true]
      refine op_pick1 rfl rfl (.bool _) rfl ?_
      refine op_move rfl (.bool _) rfl ?_
      refine op_move rfl (.bool _) rfl ?_
      refine op_not rfl rfl ?_
      refine op_move rfl (.bool _) rfl ?_
      refine Wops_split 138 rfl ?_ ?_
      · intro h3
        replace h3 := nvar_t h3
        refine op_skip rfl ?_
        refine op_skip rfl ?_
        refine op_skip rfl ?_
        refine op_pick1 rfl rfl (.bool _) rfl ?_
        refine op_pick1 rfl rfl (.bool _) rfl ?_
        refine op_move rfl (.bool _) rfl ?_
        refine op_call rfl ca_6 (works_ok _) rfl ?_
        rintro v w ⟨rfl, hx⟩
        refine op_pick1 rfl rfl (.bool _) rfl ?_
        refine op_assign rfl (.bool _) rfl ?_
        refine op_nil (at_then ?_)
        refine W_ret (leave1 (v := (.bool _)) rfl rfl rfl ?_)
        exact ⟨rfl, hx0.trans hx⟩
      · intro h3
        replace h3 := nvar_f h3
        refine op_move rfl (.slice _ _ _) rfl ?_
        refine op_move rfl (.slice _ _ _) rfl ?_
        refine op_call rfl ca_17 (ring29_ok a a20 c c20 l r _ R R20 hm (by have := ring_short (hF.yes h3).2; omega)) rfl ?_
        rintro v w ⟨rfl, hx⟩
        rw [(hF.yes h3).2]
        replace hx0 := hx0.trans hx
        refine op_pick0 rfl rfl (.bool _) rfl ?_
        refine op_pick1 rfl rfl (.bool _) rfl ?_
        refine op_move rfl (.bool _) rfl ?_
        refine op_call rfl ca_6 (works_ok _) rfl ?_
        rintro v w ⟨rfl, hx⟩
        refine op_pick1 rfl rfl (.bool _) rfl ?_
        refine op_assign rfl (.bool _) rfl ?_
        refine op_nil (at_then ?_)
        refine W_ret (leave1 (v := (.bool _)) rfl rfl rfl ?_)
        exact ⟨rfl, hx0.trans hx⟩

end Go.Proofs.Ytogaoppnoibgdaa
