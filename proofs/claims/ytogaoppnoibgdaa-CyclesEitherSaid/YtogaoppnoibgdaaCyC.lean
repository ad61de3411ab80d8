/- What cycles.ring, cycles.Least and the reference's Least do. -/
import Derived.Test.YtogaoppnoibgdaaCyB
namespace Go.Proofs.Ytogaoppnoibgdaa
open Go.GV
attribute [local irreducible] Wops W Wq

/-- The map holds 1 at the banks that the first k places of the way owe from. -/
def Seen (l : List Due) (way : List Int) (k : Nat) (m : List (Int × Value)) : Prop :=
  ∀ f, ∃ c : Int, (mget m f).getD (.int .i64 0) = .int .i64 c ∧ (0 < c ↔ ∃ q, q < k ∧ (dq l way q).fr = f)

theorem Seen.step {l : List Due} {way : List Int} {k : Nat} {m : List (Int × Value)} (h : Seen l way k m) : Seen l way (k + 1) (mset m (dq l way k).fr (.int .i64 1)) := by
  intro f
  rw [mget_mset]
  by_cases hf : f = (dq l way k).fr
  · rw [if_pos hf]
    exact ⟨1, rfl, fun _ => ⟨k, by omega, hf.symm⟩, fun _ => by omega⟩
  · rw [if_neg hf]
    obtain ⟨c, h1, h2⟩ := h f
    refine ⟨c, h1, h2.trans ⟨fun ⟨q, hq, he⟩ => ⟨q, by omega, he⟩, fun ⟨q, hq, he⟩ => ?_⟩⟩
    rcases Nat.lt_or_ge q k with hlt | hge
    · exact ⟨q, hlt, he⟩
    · have : q = k := by omega
      subst this
      exact absurd he.symm hf

theorem ring1_seen {l : List Due} {way : List Int} {k : Nat} (ho : okI l way k = true) : ring1 l way k = true ↔ ¬ ∃ q, q < k ∧ (dq l way q).fr = (dq l way k).fr := by
  rw [ring1, ho]
  simp only [Bool.true_and, List.all_eq_true, List.mem_range, Bool.not_eq_true', decide_eq_false_iff_not, not_exists, not_and]

theorem seen_leaf {l : List Due} {way : List Int} {k : Nat} {c1 : Int} (ho : okI l way k = true) (hc : 0 < c1 ↔ ∃ q, q < k ∧ (dq l way q).fr = (dq l way k).fr) : decide (0 < c1) = !ring1 l way k := by
  have hr := ring1_seen ho
  rw [← hc] at hr
  cases hb : ring1 l way k with
  | true => rw [decide_eq_false (hr.1 hb)]; rfl
  | false =>
    rw [hb] at hr
    have : 0 < c1 := by
      rcases Int.lt_or_le 0 c1 with h | h
      · exact h
      · exact absurd (hr.2 (by omega)) (by simp)
    rw [decide_eq_true this]; rfl

set_option maxHeartbeats 1000000 in
theorem ring_ok (a b : Option Addr) (c c' : Nat) (l : List Due) (way : List Int) (w : World) (R : Rd w a 7 Due.enc l) (R' : Rd w b 1 I64 way) (hm' : way.length ≤ 9223372036854775807) :
    Ret Try.prog 22 #[.slice a l.length c, .slice b way.length c'] w fun v w' => v = .bool (ringB l way) ∧ Ext [] w w' := by
  obtain ⟨w0, rfl⟩ : ∃ w0, w0 = w := ⟨_, rfl⟩
  have H := Ctx.start w0 []
  refine ret_of_W (fn := Try.f22) Try.func22 rfl [.slice a l.length c, .slice b way.length c'] rfl (by kernel_rfl) ?_
  refine W_rseq ?_
  refine op_assign rfl (.bool _) rfl ?_
  refine op_nil (at_then ?_)
  refine W_rseq ?_
  refine op_makeMap .i64 rfl H ?_
  rintro b8 o8 w hM H
  refine op_assign rfl (.map _) rfl ?_
  refine op_nil (at_then ?_)
  refine W_seq ?_
  refine W_rseq ?_
  refine op_move rfl (.slice _ _ _) rfl ?_
  refine op_len rfl el_23 rfl ?_
  refine op_move rfl (.int _ _) rfl ?_
  refine op_nil (at_then ?_)
  refine W_block ?_
  refine W_loop 147573952589676411088 (α := Nat) (fun k => [(11, .int .i64 k)]) (fun k w' => k ≤ way.length ∧ (List.range k).all (ring1 l way) = true ∧ (List.range (k - 1)).all (ring2 l way) = true ∧ ∃ m o, MapO .i64 m o ∧ Ctx w0 [] w' [(b8, o)] ∧ Seen l way k m) (fun k => way.length - k) 0 rfl ?_ ?_ ?_
  · exact ⟨rfl, trivial⟩
  · exact ⟨Nat.zero_le _, rfl, rfl, _, _, hM, H, fun f => ⟨0, rfl, fun h => by omega, fun ⟨q, hq, _⟩ => by omega⟩⟩
  · rintro k j w ⟨hk, hn, hn2, m, o, hM, H, hs⟩
    refine W_rseq ?_
    refine op_lss rfl rfl rfl ?_
    refine op_nil (at_then ?_)
    refine W_seq ?_
    refine W_cond _ rfl ?_ ?_
    · intro h1
      replace h1 := dec_t h1
      have hkl : k < way.length := by omega
      obtain ⟨x, hx⟩ := get_some hkl
      refine W_skip (at_then ?_)
      refine W_seq ?_
      refine W_block ?_
      refine W_rseq ?_
      refine op_move rfl (.int _ _) rfl ?_
      refine op_indexRd R' rfl el_23 sz_3 rfl rfl (by omega) (by omega) rfl ?_
      first | refine op_ldb rfl ag_3 rfl H (by first | exact at0 | exact at1 | exact at2 | exact at3 | exact at4 | exact at5 | exact at6 | exact at7 | exact at8 | exact at9) rfl ?_ | refine op_ld rfl ag_3 rfl ((R'.ext0 H.ext).one (f := fun x => .int .i64 x) hx) ?_
      refine op_assign rfl (.int _ _) rfl ?_
      refine op_assign rfl (.int _ _) rfl ?_
      refine op_nil (at_then ?_)
      refine W_seq ?_
      refine W_rseq (Wops_join (α := Unit) 2199023190016 (fun _ => [(40, .bool (!ring1 l way k))]) (fun _ w' => Ctx w0 [] w' [(b8, o)]) rfl ?_ ?_)
      · refine op_move rfl (.int _ _) rfl ?_
        refine op_lss rfl rfl rfl ?_
        refine op_move rfl (.bool _) rfl ?_
        refine Wops_split 18 rfl ?_ ?_
        · intro h1
          replace h1 := dec_t h1
          refine op_skip rfl ?_
          refine op_skip rfl ?_
          refine op_skip rfl ?_
          refine op_skip rfl ?_
          refine op_pick1 rfl rfl (.bool _) rfl ?_
          refine op_move rfl (.bool _) rfl ?_
          refine op_skip rfl ?_
          refine op_skip rfl ?_
          refine op_skip rfl ?_
          refine op_skip rfl ?_
          refine op_skip rfl ?_
          refine op_pick1 rfl rfl (.bool _) rfl ?_
          refine op_move rfl (.bool _) rfl ?_
          refine op_skip rfl ?_
          refine op_skip rfl ?_
          refine op_skip rfl ?_
          refine op_skip rfl ?_
          refine op_skip rfl ?_
          refine op_skip rfl ?_
          refine op_skip rfl ?_
          refine op_skip rfl ?_
          refine op_pick1 rfl rfl (.bool _) rfl ?_
          refine op_nil ?_
          exact ⟨rfl, (), rfl, ⟨congrArg Value.bool (by first | exact seen_leaf ho hc2 | (rw [ring1, okI, hx]; simp_all; try omega)), trivial⟩, H⟩
        · intro h2
          replace h2 := dec_f h2
          refine op_move rfl (.int _ _) rfl ?_
          refine op_move rfl (.slice _ _ _) rfl ?_
          refine op_len rfl el_22 rfl ?_
          refine op_geq rfl rfl rfl ?_
          refine op_pick0 rfl rfl (.bool _) rfl ?_
          refine op_move rfl (.bool _) rfl ?_
          refine Wops_split 24 rfl ?_ ?_
          · intro h3
            replace h3 := dec_t h3
            refine op_skip rfl ?_
            refine op_skip rfl ?_
            refine op_skip rfl ?_
            refine op_skip rfl ?_
            refine op_skip rfl ?_
            refine op_pick1 rfl rfl (.bool _) rfl ?_
            refine op_move rfl (.bool _) rfl ?_
            refine op_skip rfl ?_
            refine op_skip rfl ?_
            refine op_skip rfl ?_
            refine op_skip rfl ?_
            refine op_skip rfl ?_
            refine op_skip rfl ?_
            refine op_skip rfl ?_
            refine op_skip rfl ?_
            refine op_pick1 rfl rfl (.bool _) rfl ?_
            refine op_nil ?_
            exact ⟨rfl, (), rfl, ⟨congrArg Value.bool (by first | exact seen_leaf ho hc2 | (rw [ring1, okI, hx]; simp_all; try omega)), trivial⟩, H⟩
          · intro h4
            replace h4 := dec_f h4
            refine op_move rfl (.slice _ _ _) rfl ?_
            refine op_move rfl (.int _ _) rfl ?_
            refine op_indexRd R rfl el_22 sz_41 rfl rfl (by omega) (by omega) rfl ?_
            obtain ⟨d, hd⟩ := get_some (l := l) (i := x.toNat) (by omega)
            have hq : dq l way k = d := by unfold dq; rw [hx, Option.getD_some, hd]; rfl
            refine op_fieldAddr rfl fo_41_6 rfl ?_
            refine op_ld rfl ag_4 rfl ((R.ext0 H.ext).fld hd rfl (j := 6) rfl) ?_
            refine op_pick0 rfl rfl (.bool _) rfl ?_
            refine op_move rfl (.bool _) rfl ?_
            refine Wops_split 31 rfl ?_ ?_
            · intro h5
              refine op_skip rfl ?_
              refine op_skip rfl ?_
              refine op_skip rfl ?_
              refine op_skip rfl ?_
              refine op_skip rfl ?_
              refine op_skip rfl ?_
              refine op_skip rfl ?_
              refine op_skip rfl ?_
              refine op_pick1 rfl rfl (.bool _) rfl ?_
              refine op_nil ?_
              exact ⟨rfl, (), rfl, ⟨congrArg Value.bool (by first | exact seen_leaf ho hc2 | (rw [ring1, okI, hx]; simp_all; try omega)), trivial⟩, H⟩
            · intro h6
              refine op_move rfl (.map _) rfl ?_
              refine op_move rfl (.slice _ _ _) rfl ?_
              refine op_move rfl (.int _ _) rfl ?_
              refine op_indexRd R rfl el_22 sz_41 rfl rfl (by omega) (by omega) rfl ?_
              refine op_fieldAddr rfl fo_41_1 rfl ?_
              refine op_ld rfl ag_3 rfl ((R.ext0 H.ext).fld hd rfl (j := 1) rfl) ?_
              refine op_lookup rfl mt_51 un_3 zv_3 rfl rfl H at0 hM ?_
              obtain ⟨c1, hc1, hc2⟩ := hs d.fr
              rw [hc1]
              rw [← hq] at hc2
              have ho : okI l way k = true := by unfold okI; rw [hx, hq]; simp_all
              refine op_gtr rfl rfl rfl ?_
              refine op_pick0 rfl rfl (.bool _) rfl ?_
              refine op_nil ?_
              exact ⟨rfl, (), rfl, ⟨congrArg Value.bool (by first | exact seen_leaf ho hc2 | (rw [ring1, okI, hx]; simp_all; try omega)), trivial⟩, H⟩
      rintro - j40 w H
      refine W_cond _ rfl ?_ ?_
      · intro h2
        replace h2 := nvar_t h2
        refine W_rseq ?_
        refine op_assign rfl (.bool _) rfl ?_
        refine op_nil (at_then ?_)
        refine W_ret (ret_then (ret_block (ret_then (ret_then (ret_block (ret_then (leave1 (v := (.bool _)) rfl rfl rfl ?_)))))))
        refine ⟨congrArg Value.bool ?_, H.ext⟩
        rw [ringB, all_not hkl h2]
        rfl
      · intro h2
        replace h2 := nvar_f h2
        have ho : okI l way k = true := by rw [ring1, Bool.and_eq_true] at h2; exact h2.1
        obtain ⟨x', d, hx', hx0, hx1, hd, hq, hh⟩ := okI_get hkl ho
        rw [hx] at hx'
        injection hx' with hx'
        subst hx'
        obtain ⟨xp, dp, hp⟩ : ∃ (xp : Int) (dp : Due), 0 < k → way[k - 1]? = some xp ∧ 0 ≤ xp ∧ xp < l.length ∧ l[xp.toNat]? = some dp ∧ dq l way (k - 1) = dp := by
          by_cases h0 : 0 < k
          · have hr := all_at hn (i := k - 1) (by omega)
            rw [ring1, Bool.and_eq_true] at hr
            obtain ⟨xp, dp, e1, e2, e3, e4, e5, _⟩ := okI_get (by omega) hr.1
            exact ⟨xp, dp, fun _ => ⟨e1, e2, e3, e4, e5⟩⟩
          · exact ⟨0, d, fun h => absurd h h0⟩
        have hs' := hs.step
        rw [hq] at hs'
        refine W_skip (at_then ?_)
        refine W_rseq ?_
        refine op_move rfl (.map _) rfl ?_
        refine op_move rfl (.slice _ _ _) rfl ?_
        refine op_move rfl (.int _ _) rfl ?_
        refine op_indexRd R rfl el_22 sz_41 rfl rfl (by omega) (by omega) rfl ?_
        refine op_fieldAddr rfl fo_41_1 rfl ?_
        refine op_ld rfl ag_3 rfl ((R.ext0 H.ext).fld hd rfl (j := 1) rfl) ?_
        refine op_mapUpdate (.int _ _) rfl mt_51 un_3 rfl rfl rfl H (by first | exact at0 | exact at1 | exact at2 | exact at3 | exact at4 | exact at5 | exact at6 | exact at7 | exact at8 | exact at9) hM ?_
        rintro o w hM H
        refine op_nil (at_then ?_)
        refine W_qseq (fun x => x = _) mixed (by kernel_rfl) rfl ?_
        refine q_move rfl (.int _ _) rfl ?_
        refine q_gtr rfl rfl rfl ?_
        refine q_move rfl (.bool _) rfl ?_
        refine Wq_split 49 rfl ?_ ?_
        · intro h3
          replace h3 := dec_t h3
          obtain ⟨hxp, hp0, hp1, hdp, hqp⟩ := hp (by omega)
          have hcast : ((k : Int) - 1) = ((k - 1 : Nat) : Int) := by omega
          have hmod : (k - 1 + 1) % way.length = k := by rw [Nat.sub_add_cancel (by omega)]; exact Nat.mod_eq_of_lt hkl
          refine q_move rfl (.slice _ _ _) rfl ?_
          refine q_move rfl (.slice _ _ _) rfl ?_
          refine q_move rfl (.int _ _) rfl ?_
          refine q_sub_i64 rfl rfl rfl (by omega) (by omega) ?_
          rw [hcast]
          refine q_indexRd R' rfl el_23 sz_3 rfl rfl (by omega) (by omega) rfl ?_
          first | refine q_ldb rfl ag_3 rfl (by rintro _ rfl; exact H.drew) (by first | exact at0 | exact at1 | exact at2 | exact at3 | exact at4 | exact at5 | exact at6 | exact at7 | exact at8 | exact at9) rfl ?_ | refine q_ld rfl ag_3 rfl (by rintro _ rfl; exact ((R'.ext0 H.ext).one (f := fun x => .int .i64 x) hxp)) ?_ | refine q_ld rfl ag_3 rfl (by rintro _ rfl; exact ((R.ext0 H.ext).fld hdp rfl (j := 2) rfl)) ?_ | refine q_ld rfl ag_3 rfl (by rintro _ rfl; exact ((R.ext0 H.ext).fld hd rfl (j := 1) rfl)) ?_
          refine q_indexRd R rfl el_22 sz_41 rfl rfl (by omega) (by omega) rfl ?_
          refine q_fieldAddr rfl fo_41_2 rfl ?_
          first | refine q_ldb rfl ag_3 rfl (by rintro _ rfl; exact H.drew) (by first | exact at0 | exact at1 | exact at2 | exact at3 | exact at4 | exact at5 | exact at6 | exact at7 | exact at8 | exact at9) rfl ?_ | refine q_ld rfl ag_3 rfl (by rintro _ rfl; exact ((R'.ext0 H.ext).one (f := fun x => .int .i64 x) hxp)) ?_ | refine q_ld rfl ag_3 rfl (by rintro _ rfl; exact ((R.ext0 H.ext).fld hdp rfl (j := 2) rfl)) ?_ | refine q_ld rfl ag_3 rfl (by rintro _ rfl; exact ((R.ext0 H.ext).fld hd rfl (j := 1) rfl)) ?_
          refine q_move rfl (.slice _ _ _) rfl ?_
          refine q_move rfl (.int _ _) rfl ?_
          refine q_indexRd R rfl el_22 sz_41 rfl rfl (by omega) (by omega) rfl ?_
          refine q_fieldAddr rfl fo_41_1 rfl ?_
          first | refine q_ldb rfl ag_3 rfl (by rintro _ rfl; exact H.drew) (by first | exact at0 | exact at1 | exact at2 | exact at3 | exact at4 | exact at5 | exact at6 | exact at7 | exact at8 | exact at9) rfl ?_ | refine q_ld rfl ag_3 rfl (by rintro _ rfl; exact ((R'.ext0 H.ext).one (f := fun x => .int .i64 x) hxp)) ?_ | refine q_ld rfl ag_3 rfl (by rintro _ rfl; exact ((R.ext0 H.ext).fld hdp rfl (j := 2) rfl)) ?_ | refine q_ld rfl ag_3 rfl (by rintro _ rfl; exact ((R.ext0 H.ext).fld hd rfl (j := 1) rfl)) ?_
          refine q_neq rfl rfl rfl ?_
          refine q_pick1 rfl rfl (.bool _) rfl ?_
          refine q_nil ?_
          rintro _ rfl
          replace H := H.drew
          refine W_cond _ rfl ?_ ?_
          · intro h4
            replace h4 := ndec_t h4
            refine W_rseq ?_
            refine op_assign rfl (.bool _) rfl ?_
            refine op_nil (at_then ?_)
            refine W_ret (ret_block (ret_then (ret_then (ret_block (ret_then (leave1 (v := (.bool _)) rfl rfl rfl ?_))))))
            refine ⟨congrArg Value.bool ?_, H.ext⟩
            rw [ringB, all_not (p := ring2 l way) (i := k - 1) (by omega) (by rw [ring2, hmod, hqp, hq, decide_eq_false h4])]
            simp
          · intro h4
            replace h4 := ndec_f h4
            refine W_skip (at_block (at_then ?_))
            refine W_region ?_
            refine op_add_i64 rfl rfl rfl (by omega) (by omega) ?_
            refine op_move rfl (.int _ _) rfl ?_
            refine op_nil (at_then ?_)
            refine ⟨k + 1, rfl, ⟨by simp [put], trivial⟩, ⟨by omega, all_snoc hn h2, ?_, _, _, hM, H, hs'⟩, by omega⟩
            have := all_snoc hn2 (by rw [ring2, hmod, hqp, hq, decide_eq_true h4])
            rwa [show k - 1 + 1 = k + 1 - 1 from by omega] at this
        · intro h3
          replace h3 := dec_f h3
          refine q_skip rfl ?_
          refine q_skip rfl ?_
          refine q_skip rfl ?_
          refine q_skip rfl ?_
          refine q_skip rfl ?_
          refine q_skip rfl ?_
          refine q_skip rfl ?_
          refine q_skip rfl ?_
          refine q_skip rfl ?_
          refine q_skip rfl ?_
          refine q_skip rfl ?_
          refine q_skip rfl ?_
          refine q_skip rfl ?_
          refine q_skip rfl ?_
          refine q_skip rfl ?_
          refine q_pick0 rfl rfl (.bool _) rfl ?_
          refine q_nil ?_
          rintro _ rfl
          replace H := H.drew
          refine W_cond0 rfl ?_
          refine W_skip (at_block (at_then ?_))
          refine W_region ?_
          refine op_add_i64 rfl rfl rfl (by omega) (by omega) ?_
          refine op_move rfl (.int _ _) rfl ?_
          refine op_nil (at_then ?_)
          refine ⟨k + 1, rfl, ⟨by simp [put], trivial⟩, ⟨by omega, all_snoc hn h2, ?_, _, _, hM, H, hs'⟩, by omega⟩
          have : k = 0 := by omega
          subst this
          rfl
    · intro h1
      replace h1 := dec_f h1
      have hke : k = way.length := by omega
      subst hke
      obtain ⟨xp, dp, x0, d0, hp⟩ : ∃ (xp : Int) (dp : Due) (x0 : Int) (d0 : Due), 0 < way.length → way[way.length - 1]? = some xp ∧ 0 ≤ xp ∧ xp < l.length ∧ l[xp.toNat]? = some dp ∧ dq l way (way.length - 1) = dp ∧ way[0]? = some x0 ∧ 0 ≤ x0 ∧ x0 < l.length ∧ l[x0.toNat]? = some d0 ∧ dq l way 0 = d0 := by
        by_cases h0 : 0 < way.length
        · have hr := all_at hn (i := way.length - 1) (by omega)
          have hr0 := all_at hn (i := 0) (by omega)
          rw [ring1, Bool.and_eq_true] at hr hr0
          obtain ⟨xp, dp, e1, e2, e3, e4, e5, _⟩ := okI_get (by omega) hr.1
          obtain ⟨x0, d0, f1, f2, f3, f4, f5, _⟩ := okI_get (by omega) hr0.1
          exact ⟨xp, dp, x0, d0, fun _ => ⟨e1, e2, e3, e4, e5, f1, f2, f3, f4, f5⟩⟩
        · exact ⟨0, ⟨0, 0, 0, 0, 0, 0, false⟩, 0, ⟨0, 0, 0, 0, 0, 0, false⟩, fun h => absurd h h0⟩
      refine W_exit (exit_then (exit_then (exit_here (at_then ?_))))
      refine W_qseq (fun x => x = _) mixed (by kernel_rfl) rfl ?_
      refine q_move rfl (.slice _ _ _) rfl ?_
      refine q_len rfl el_23 rfl ?_
      refine q_gtr rfl rfl rfl ?_
      refine q_move rfl (.bool _) rfl ?_
      refine Wq_split 70 rfl ?_ ?_
      · intro h2
        replace h2 := dec_t h2
        obtain ⟨hxp, hp0, hp1, hdp, hqp, hx0, h00, h01, hd0, hq0⟩ := hp (by omega)
        have hcast : ((way.length : Int) - 1) = ((way.length - 1 : Nat) : Int) := by omega
        refine q_move rfl (.slice _ _ _) rfl ?_
        refine q_move rfl (.slice _ _ _) rfl ?_
        refine q_move rfl (.slice _ _ _) rfl ?_
        refine q_len rfl el_23 rfl ?_
        refine q_sub_i64 rfl rfl rfl (by omega) (by omega) ?_
        rw [hcast]
        refine q_indexRd R' rfl el_23 sz_3 rfl rfl (by omega) (by omega) rfl ?_
        first | refine q_ldb rfl ag_3 rfl (by rintro _ rfl; exact H.drew) (by first | exact at0 | exact at1 | exact at2 | exact at3 | exact at4 | exact at5 | exact at6 | exact at7 | exact at8 | exact at9) rfl ?_ | refine q_ld rfl ag_3 rfl (by rintro _ rfl; exact ((R'.ext0 H.ext).one (f := fun x => .int .i64 x) hxp)) ?_ | refine q_ld rfl ag_3 rfl (by rintro _ rfl; exact ((R'.ext0 H.ext).one (f := fun x => .int .i64 x) hx0)) ?_ | refine q_ld rfl ag_3 rfl (by rintro _ rfl; exact ((R.ext0 H.ext).fld hdp rfl (j := 2) rfl)) ?_ | refine q_ld rfl ag_3 rfl (by rintro _ rfl; exact ((R.ext0 H.ext).fld hd0 rfl (j := 1) rfl)) ?_
        refine q_indexRd R rfl el_22 sz_41 rfl rfl (by omega) (by omega) rfl ?_
        refine q_fieldAddr rfl fo_41_2 rfl ?_
        first | refine q_ldb rfl ag_3 rfl (by rintro _ rfl; exact H.drew) (by first | exact at0 | exact at1 | exact at2 | exact at3 | exact at4 | exact at5 | exact at6 | exact at7 | exact at8 | exact at9) rfl ?_ | refine q_ld rfl ag_3 rfl (by rintro _ rfl; exact ((R'.ext0 H.ext).one (f := fun x => .int .i64 x) hxp)) ?_ | refine q_ld rfl ag_3 rfl (by rintro _ rfl; exact ((R'.ext0 H.ext).one (f := fun x => .int .i64 x) hx0)) ?_ | refine q_ld rfl ag_3 rfl (by rintro _ rfl; exact ((R.ext0 H.ext).fld hdp rfl (j := 2) rfl)) ?_ | refine q_ld rfl ag_3 rfl (by rintro _ rfl; exact ((R.ext0 H.ext).fld hd0 rfl (j := 1) rfl)) ?_
        refine q_move rfl (.slice _ _ _) rfl ?_
        refine q_move rfl (.slice _ _ _) rfl ?_
        refine q_indexRd R' rfl el_23 sz_3 rfl rfl (by omega) (by omega) rfl ?_
        first | refine q_ldb rfl ag_3 rfl (by rintro _ rfl; exact H.drew) (by first | exact at0 | exact at1 | exact at2 | exact at3 | exact at4 | exact at5 | exact at6 | exact at7 | exact at8 | exact at9) rfl ?_ | refine q_ld rfl ag_3 rfl (by rintro _ rfl; exact ((R'.ext0 H.ext).one (f := fun x => .int .i64 x) hxp)) ?_ | refine q_ld rfl ag_3 rfl (by rintro _ rfl; exact ((R'.ext0 H.ext).one (f := fun x => .int .i64 x) hx0)) ?_ | refine q_ld rfl ag_3 rfl (by rintro _ rfl; exact ((R.ext0 H.ext).fld hdp rfl (j := 2) rfl)) ?_ | refine q_ld rfl ag_3 rfl (by rintro _ rfl; exact ((R.ext0 H.ext).fld hd0 rfl (j := 1) rfl)) ?_
        refine q_indexRd R rfl el_22 sz_41 rfl rfl (by omega) (by omega) rfl ?_
        refine q_fieldAddr rfl fo_41_1 rfl ?_
        first | refine q_ldb rfl ag_3 rfl (by rintro _ rfl; exact H.drew) (by first | exact at0 | exact at1 | exact at2 | exact at3 | exact at4 | exact at5 | exact at6 | exact at7 | exact at8 | exact at9) rfl ?_ | refine q_ld rfl ag_3 rfl (by rintro _ rfl; exact ((R'.ext0 H.ext).one (f := fun x => .int .i64 x) hxp)) ?_ | refine q_ld rfl ag_3 rfl (by rintro _ rfl; exact ((R'.ext0 H.ext).one (f := fun x => .int .i64 x) hx0)) ?_ | refine q_ld rfl ag_3 rfl (by rintro _ rfl; exact ((R.ext0 H.ext).fld hdp rfl (j := 2) rfl)) ?_ | refine q_ld rfl ag_3 rfl (by rintro _ rfl; exact ((R.ext0 H.ext).fld hd0 rfl (j := 1) rfl)) ?_
        refine q_eql rfl rfl rfl ?_
        refine q_pick1 rfl rfl (.bool _) rfl ?_
        refine q_assign rfl (.bool _) rfl ?_
        refine q_nil ?_
        rintro _ rfl
        replace H := H.drew
        refine W_ret (leave1 (v := (.bool _)) rfl rfl rfl ?_)
        have hlen : way.length - 1 + 1 = way.length := by omega
        refine ⟨congrArg Value.bool ?_, H.ext⟩
        have hr2 : ring2 l way (way.length - 1) = decide (dp.to = d0.fr) := by rw [ring2, hlen, Nat.mod_self, hqp, hq0]
        have hall : (List.range way.length).all (ring2 l way) = decide (dp.to = d0.fr) := by
          rw [← hlen, List.range_succ, List.all_append, hn2]
          simp [hr2]
        rw [ringB, hn, hall, decide_eq_true (show 0 < way.length by omega)]
        simp
      · intro h2
        replace h2 := dec_f h2
        refine q_skip rfl ?_
        refine q_skip rfl ?_
        refine q_skip rfl ?_
        refine q_skip rfl ?_
        refine q_skip rfl ?_
        refine q_skip rfl ?_
        refine q_skip rfl ?_
        refine q_skip rfl ?_
        refine q_skip rfl ?_
        refine q_skip rfl ?_
        refine q_skip rfl ?_
        refine q_skip rfl ?_
        refine q_skip rfl ?_
        refine q_skip rfl ?_
        refine q_skip rfl ?_
        refine q_skip rfl ?_
        refine q_skip rfl ?_
        refine q_skip rfl ?_
        refine q_pick0 rfl rfl (.bool _) rfl ?_
        refine q_assign rfl (.bool _) rfl ?_
        refine q_nil ?_
        rintro _ rfl
        replace H := H.drew
        refine W_ret (leave1 (v := (.bool _)) rfl rfl rfl ?_)
        refine ⟨congrArg Value.bool ?_, H.ext⟩
        rw [ringB, decide_eq_false (show ¬ 0 < way.length by omega)]
        simp

/-- The least amount of the first k places, at least one. -/
def leastTo (l : List Due) (way : List Int) : Nat → Int
  | 0 => (dq l way 0).am
  | k + 1 => min (leastTo l way k) (dq l way k).am
def leastD (l : List Due) (way : List Int) : Int := leastTo l way way.length

theorem leastTo_one (l : List Due) (way : List Int) : leastTo l way 1 = (dq l way 0).am := by
  simp [leastTo]

theorem ring_parts {l : List Due} {way : List Int} (h : ringB l way = true) : (List.range way.length).all (ring1 l way) = true ∧ (List.range way.length).all (ring2 l way) = true ∧ 0 < way.length := by
  simp only [ringB, Bool.and_eq_true, decide_eq_true_eq] at h
  exact ⟨h.1, h.2.1, h.2.2⟩

theorem ring_get {l : List Due} {way : List Int} (h : ringB l way = true) {k : Nat} (hk : k < way.length) :
    ∃ x d, way[k]? = some x ∧ 0 ≤ x ∧ x < l.length ∧ l[x.toNat]? = some d ∧ dq l way k = d ∧ d.held = false := by
  have h1 := all_at (ring_parts h).1 hk
  rw [ring1, Bool.and_eq_true] at h1
  exact okI_get hk h1.1

def leastV (l : List Due) (way : List Int) : Value := bif ringB l way then .tuple #[.int .i64 (leastD l way), .bool true] else .tuple #[.int .i64 0, .bool false]

theorem least_ok (a b : Option Addr) (c c' : Nat) (l : List Due) (way : List Int) (w : World) (R : Rd w a 7 Due.enc l) (R' : Rd w b 1 I64 way) (hm' : way.length ≤ 9223372036854775807) :
    Ret Try.prog 9 #[.slice a l.length c, .slice b way.length c'] w fun v w' => v = leastV l way ∧ Ext [] w w' := by
  obtain ⟨w0, rfl⟩ : ∃ w0, w0 = w := ⟨_, rfl⟩
  have H := Ctx.start w0 []
  refine ret_of_W (fn := Try.f9) Try.func9 rfl [.slice a l.length c, .slice b way.length c'] rfl (by kernel_rfl) ?_
  refine W_rseq ?_
  refine op_assign rfl (.int _ _) rfl ?_
  refine op_assign rfl (.bool _) rfl ?_
  refine op_nil (at_then ?_)
  refine W_seq ?_
  refine W_rseq ?_
  refine op_move rfl (.slice _ _ _) rfl ?_
  refine op_move rfl (.slice _ _ _) rfl ?_
  refine op_call rfl ca_22 (ring_ok a b c c' l way _ R R' hm') rfl ?_
  rintro v w ⟨rfl, hx⟩; replace H := H.call hx
  refine op_not rfl rfl ?_
  refine op_nil (at_then ?_)
  refine W_cond _ rfl ?_ ?_
  · intro h1
    replace h1 := nvar_t h1
    refine W_rseq ?_
    refine op_assign rfl (.int _ _) rfl ?_
    refine op_assign rfl (.bool _) rfl ?_
    refine op_nil (at_then ?_)
    refine W_ret (ret_then (leave2 (v1 := (.int _ _)) (v2 := (.bool _)) rfl rfl rfl rfl ?_))
    exact ⟨by rw [leastV, h1]; rfl, H.ext⟩
  · intro h1
    replace h1 := nvar_f h1
    obtain ⟨x0, d0, hx0, h00, h01, hd0, hq0, _⟩ := ring_get h1 (k := 0) (ring_parts h1).2.2
    have hpos := (ring_parts h1).2.2
    refine W_skip (at_then ?_)
    refine W_rseq ?_
    refine op_move rfl (.slice _ _ _) rfl ?_
    refine op_move rfl (.slice _ _ _) rfl ?_
    refine op_indexRd R' rfl el_23 sz_3 rfl rfl (by omega) (by omega) rfl ?_
    first | refine op_ldb rfl ag_3 rfl H (by first | exact at0 | exact at1 | exact at2 | exact at3 | exact at4 | exact at5 | exact at6 | exact at7 | exact at8 | exact at9) rfl ?_ | refine op_ld rfl ag_3 rfl ((R'.ext0 H.ext).one (f := fun x => .int .i64 x) hx0) ?_ | refine op_ld rfl ag_3 rfl ((R.ext0 H.ext).fld hd0 rfl (j := 3) rfl) ?_
    refine op_indexRd R rfl el_22 sz_41 rfl rfl (by omega) (by omega) rfl ?_
    refine op_fieldAddr rfl fo_41_3 rfl ?_
    first | refine op_ldb rfl ag_2 rfl H (by first | exact at0 | exact at1 | exact at2 | exact at3 | exact at4 | exact at5 | exact at6 | exact at7 | exact at8 | exact at9) rfl ?_ | refine op_ld rfl ag_2 rfl ((R'.ext0 H.ext).one (f := fun x => .int .i64 x) hx0) ?_ | refine op_ld rfl ag_2 rfl ((R.ext0 H.ext).fld hd0 rfl (j := 3) rfl) ?_
    refine op_assign rfl (.int _ _) rfl ?_
    refine op_nil (at_then ?_)
    refine W_seq ?_
    refine W_rseq ?_
    refine op_move rfl (.slice _ _ _) rfl ?_
    refine op_len rfl el_23 rfl ?_
    refine op_move rfl (.int _ _) rfl ?_
    refine op_nil (at_then ?_)
    refine W_block ?_
    refine W_loop 17175675200 (α := Nat) (fun k => [(22, .int .i64 k), (6, .int .i64 (leastTo l way k))]) (fun k w' => k ≤ way.length ∧ Ctx w0 [] w' []) (fun k => way.length - k) 0 rfl ?_ ?_ ?_
    · exact ⟨rfl, by rw [leastTo, hq0]; rfl, trivial⟩
    · exact ⟨Nat.zero_le _, H⟩
    · rintro k j w ⟨hk, H⟩
      refine W_rseq ?_
      refine op_lss rfl rfl rfl ?_
      refine op_nil (at_then ?_)
      refine W_seq ?_
      refine W_cond _ rfl ?_ ?_
      · intro h2
        replace h2 := dec_t h2
        obtain ⟨x, d, hx, hx0', hx1', hd, hq, _⟩ := ring_get h1 (k := k) (by omega)
        refine W_skip (at_then ?_)
        refine W_seq ?_
        refine W_block ?_
        refine W_rseq ?_
        refine op_indexRd R' rfl el_23 sz_3 rfl rfl (by omega) (by omega) rfl ?_
        first | refine op_ldb rfl ag_3 rfl H (by first | exact at0 | exact at1 | exact at2 | exact at3 | exact at4 | exact at5 | exact at6 | exact at7 | exact at8 | exact at9) rfl ?_ | refine op_ld rfl ag_3 rfl ((R'.ext0 H.ext).one (f := fun x => .int .i64 x) hx) ?_ | refine op_ld rfl ag_3 rfl ((R.ext0 H.ext).fld hd rfl (j := 3) rfl) ?_
        refine op_assign rfl (.int _ _) rfl ?_
        refine op_nil (at_then ?_)
        refine W_region ?_
        refine op_move rfl (.int _ _) rfl ?_
        refine op_move rfl (.slice _ _ _) rfl ?_
        refine op_move rfl (.int _ _) rfl ?_
        refine op_indexRd R rfl el_22 sz_41 rfl rfl (by omega) (by omega) rfl ?_
        refine op_fieldAddr rfl fo_41_3 rfl ?_
        first | refine op_ldb rfl ag_2 rfl H (by first | exact at0 | exact at1 | exact at2 | exact at3 | exact at4 | exact at5 | exact at6 | exact at7 | exact at8 | exact at9) rfl ?_ | refine op_ld rfl ag_2 rfl ((R'.ext0 H.ext).one (f := fun x => .int .i64 x) hx) ?_ | refine op_ld rfl ag_2 rfl ((R.ext0 H.ext).fld hd rfl (j := 3) rfl) ?_
        refine op_min2 rfl rfl rfl ?_
        refine op_assign rfl (.int _ _) rfl ?_
        refine op_nil (at_block (at_then ?_))
        refine W_region ?_
        refine op_add_i64 rfl rfl rfl (by omega) (by omega) ?_
        refine op_move rfl (.int _ _) rfl ?_
        refine op_nil (at_then ?_)
        exact ⟨k + 1, rfl, ⟨by simp [put], by rw [leastTo, hq]; rfl, trivial⟩, ⟨by omega, H⟩, by omega⟩
      · intro h2
        replace h2 := dec_f h2
        have hke : k = way.length := by omega
        subst hke
        refine W_exit (exit_then (exit_then (exit_here (at_then ?_))))
        refine W_rseq ?_
        refine op_move rfl (.int _ _) rfl ?_
        refine op_assign rfl (.int _ _) rfl ?_
        refine op_assign rfl (.bool _) rfl ?_
        refine op_nil (at_then ?_)
        refine W_ret (leave2 (v1 := (.int _ _)) (v2 := (.bool _)) rfl rfl rfl rfl ?_)
        exact ⟨by rw [leastV, h1]; rfl, H.ext⟩

theorem least29_ok (a b : Option Addr) (c c' : Nat) (l : List Due) (way : List Int) (w : World) (R : Rd w a 7 Due.enc l) (R' : Rd w b 1 I64 way) (hm : l.length ≤ 9223372036854775807) (hm' : way.length ≤ 9223372036854775807) :
    Ret Try.prog 10 #[.slice a l.length c, .slice b way.length c'] w fun v w' => v = leastV l way ∧ Ext [] w w' := by
  obtain ⟨w0, rfl⟩ : ∃ w0, w0 = w := ⟨_, rfl⟩
  have H := Ctx.start w0 []
  refine ret_of_W (fn := Try.f10) Try.func10 rfl [.slice a l.length c, .slice b way.length c'] rfl (by kernel_rfl) ?_
  refine W_rseq ?_
  refine op_assign rfl (.int _ _) rfl ?_
  refine op_assign rfl (.bool _) rfl ?_
  refine op_nil (at_then ?_)
  refine W_seq ?_
  refine W_rseq ?_
  refine op_move rfl (.slice _ _ _) rfl ?_
  refine op_move rfl (.slice _ _ _) rfl ?_
  refine op_call rfl ca_17 (ring29_ok a b c c' l way _ R R' hm hm') rfl ?_
  rintro v w ⟨rfl, hx⟩; replace H := H.call hx
  refine op_not rfl rfl ?_
  refine op_nil (at_then ?_)
  refine W_cond _ rfl ?_ ?_
  · intro h1
    replace h1 := nvar_t h1
    refine W_rseq ?_
    refine op_assign rfl (.int _ _) rfl ?_
    refine op_assign rfl (.bool _) rfl ?_
    refine op_nil (at_then ?_)
    refine W_ret (ret_then (leave2 (v1 := (.int _ _)) (v2 := (.bool _)) rfl rfl rfl rfl ?_))
    exact ⟨by rw [leastV, h1]; rfl, H.ext⟩
  · intro h1
    replace h1 := nvar_f h1
    obtain ⟨x0, d0, hx0, h00, h01, hd0, hq0, _⟩ := ring_get h1 (k := 0) (ring_parts h1).2.2
    have hpos := (ring_parts h1).2.2
    refine W_skip (at_then ?_)
    refine W_rseq ?_
    refine op_move rfl (.slice _ _ _) rfl ?_
    refine op_move rfl (.slice _ _ _) rfl ?_
    refine op_indexRd R' rfl el_23 sz_3 rfl rfl (by omega) (by omega) rfl ?_
    first | refine op_ldb rfl ag_3 rfl H (by first | exact at0 | exact at1 | exact at2 | exact at3 | exact at4 | exact at5 | exact at6 | exact at7 | exact at8 | exact at9) rfl ?_ | refine op_ld rfl ag_3 rfl ((R'.ext0 H.ext).one (f := fun x => .int .i64 x) hx0) ?_ | refine op_ld rfl ag_3 rfl ((R.ext0 H.ext).fld hd0 rfl (j := 3) rfl) ?_
    refine op_indexRd R rfl el_22 sz_41 rfl rfl (by omega) (by omega) rfl ?_
    refine op_fieldAddr rfl fo_41_3 rfl ?_
    first | refine op_ldb rfl ag_2 rfl H (by first | exact at0 | exact at1 | exact at2 | exact at3 | exact at4 | exact at5 | exact at6 | exact at7 | exact at8 | exact at9) rfl ?_ | refine op_ld rfl ag_2 rfl ((R'.ext0 H.ext).one (f := fun x => .int .i64 x) hx0) ?_ | refine op_ld rfl ag_2 rfl ((R.ext0 H.ext).fld hd0 rfl (j := 3) rfl) ?_
    refine op_assign rfl (.int _ _) rfl ?_
    refine op_nil (at_then ?_)
    refine W_seq ?_
    refine W_rseq ?_
    refine op_assign rfl (.int _ _) rfl ?_
    refine op_nil (at_then ?_)
    refine W_block ?_
    refine W_loop 34359214272 (α := Nat) (fun k => [(7, .int .i64 k), (6, .int .i64 (leastTo l way k))]) (fun k w' => 1 ≤ k ∧ k ≤ way.length ∧ Ctx w0 [] w' []) (fun k => way.length - k) 1 rfl ?_ ?_ ?_
    · exact ⟨rfl, by rw [leastTo_one, hq0]; rfl, trivial⟩
    · exact ⟨by omega, by omega, H⟩
    · rintro k j w ⟨hk1, hk, H⟩
      refine W_seq ?_
      refine W_rseq ?_
      refine op_move rfl (.int _ _) rfl ?_
      refine op_move rfl (.slice _ _ _) rfl ?_
      refine op_len rfl el_23 rfl ?_
      refine op_lss rfl rfl rfl ?_
      refine op_nil (at_then ?_)
      refine W_cond _ rfl ?_ ?_
      · intro h2
        replace h2 := dec_t h2
        obtain ⟨x, d, hx, hx0', hx1', hd, hq, _⟩ := ring_get h1 (k := k) (by omega)
        refine W_skip (at_then ?_)
        refine W_seq ?_
        refine W_block ?_
        refine W_region ?_
        refine op_move rfl (.int _ _) rfl ?_
        refine op_move rfl (.slice _ _ _) rfl ?_
        refine op_move rfl (.slice _ _ _) rfl ?_
        refine op_move rfl (.int _ _) rfl ?_
        refine op_indexRd R' rfl el_23 sz_3 rfl rfl (by omega) (by omega) rfl ?_
        first | refine op_ldb rfl ag_3 rfl H (by first | exact at0 | exact at1 | exact at2 | exact at3 | exact at4 | exact at5 | exact at6 | exact at7 | exact at8 | exact at9) rfl ?_ | refine op_ld rfl ag_3 rfl ((R'.ext0 H.ext).one (f := fun x => .int .i64 x) hx) ?_ | refine op_ld rfl ag_3 rfl ((R.ext0 H.ext).fld hd rfl (j := 3) rfl) ?_
        refine op_indexRd R rfl el_22 sz_41 rfl rfl (by omega) (by omega) rfl ?_
        refine op_fieldAddr rfl fo_41_3 rfl ?_
        first | refine op_ldb rfl ag_2 rfl H (by first | exact at0 | exact at1 | exact at2 | exact at3 | exact at4 | exact at5 | exact at6 | exact at7 | exact at8 | exact at9) rfl ?_ | refine op_ld rfl ag_2 rfl ((R'.ext0 H.ext).one (f := fun x => .int .i64 x) hx) ?_ | refine op_ld rfl ag_2 rfl ((R.ext0 H.ext).fld hd rfl (j := 3) rfl) ?_
        refine op_min2 rfl rfl rfl ?_
        refine op_assign rfl (.int _ _) rfl ?_
        refine op_nil (at_block (at_then ?_))
        refine W_region ?_
        refine op_move rfl (.int _ _) rfl ?_
        refine op_add_i64 rfl rfl rfl (by omega) (by omega) ?_
        refine op_assign rfl (.int _ _) rfl ?_
        refine op_nil (at_then ?_)
        exact ⟨k + 1, rfl, ⟨by simp [put], by rw [leastTo, hq]; rfl, trivial⟩, ⟨by omega, by omega, H⟩, by omega⟩
      · intro h2
        replace h2 := dec_f h2
        have hke : k = way.length := by omega
        subst hke
        refine W_exit (exit_then (exit_then (exit_here (at_then ?_))))
        refine W_rseq ?_
        refine op_move rfl (.int _ _) rfl ?_
        refine op_assign rfl (.int _ _) rfl ?_
        refine op_assign rfl (.bool _) rfl ?_
        refine op_nil (at_then ?_)
        refine W_ret (leave2 (v1 := (.int _ _)) (v2 := (.bool _)) rfl rfl rfl rfl ?_)
        exact ⟨by rw [leastV, h1]; rfl, H.ext⟩

theorem clone_ok (a : Option Addr) (c : Nat) (xs : List Int) (w : World) (R : Rd w a 1 I64 xs) (hm : xs.length ≤ 1048576) :
    Ret Try.prog 25 #[.slice a xs.length c] w fun v w' => Fresh w w' 3 1 v (xs.map fun x => .int .i64 x) := by
  obtain ⟨w0, rfl⟩ : ∃ w0, w0 = w := ⟨_, rfl⟩
  have H := Ctx.start w0 []
  refine ret_of_W (fn := Try.f25) Try.func25 rfl [.slice a xs.length c] rfl (by kernel_rfl) ?_
  refine W_rseq ?_
  refine op_assign rfl (.slice _ _ _) rfl ?_
  refine op_nil (at_then ?_)
  refine W_seq ?_
  refine W_rseq ?_
  refine op_move rfl (.slice _ _ _) rfl ?_
  refine op_eqlnil rfl el_23 rfl ?_
  refine op_nil (at_then ?_)
  refine W_cond _ rfl ?_ ?_
  · intro h1
    have ha : a = none := by simpa using h1
    subst ha
    have hxs : xs = [] := by
      cases xs with
      | nil => rfl
      | cons x xs => obtain ⟨b, o, h⟩ := R.some' (by simp); cases h
    subst hxs
    refine W_rseq ?_
    refine op_assign rfl (.slice _ _ _) rfl ?_
    refine op_nil (at_then ?_)
    refine W_ret (ret_then (leave1 (v := (.slice _ _ _)) rfl rfl rfl ?_))
    exact Fresh.nil H _ _
  · intro h1
    refine W_skip (at_then ?_)
    refine W_rseq ?_
    refine op_build0 rfl el_23 sz_3 H ?_
    rintro b5 w H O
    refine op_move rfl (.slice _ _ _) rfl ?_
    refine op_append rfl el_23 el_23 sz_3 by_3 zc_3 rfl (by decide) (xs.map fun x => .int .i64 x) rfl rfl H O (by simp) (by simp [oneCell]) (R.ext0 H.ext).app1 (by omega) ?_
    rintro a7 c7 full7 w H O
    refine op_assign rfl (.slice _ _ _) rfl ?_
    refine op_nil (at_then ?_)
    refine W_ret (leave1 (v := (.slice _ _ _)) rfl rfl rfl ?_)
    exact H.fresh O

end Go.Proofs.Ytogaoppnoibgdaa
