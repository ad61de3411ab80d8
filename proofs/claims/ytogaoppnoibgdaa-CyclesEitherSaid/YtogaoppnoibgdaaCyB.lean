/- What the functions of package cycles and of its reference do: numbers that are the same; rings. -/
import Derived.Test.YtogaoppnoibgdaaCyA
import Derived.Test.YtogaoppnoibgdaaGVMap
namespace Go.Proofs.Ytogaoppnoibgdaa
open Go.GV
attribute [local irreducible] Wops W Wq

abbrev I64 (x : Int) : List Value := [.int .i64 x]

theorem same_ok (a b : Option Addr) (c c' : Nat) (xs ys : List Int) (w : World) (R : Rd w a 1 I64 xs) (R' : Rd w b 1 I64 ys) (hm : xs.length ≤ 9223372036854775807) :
    Ret Try.prog 13 #[.slice a xs.length c, .slice b ys.length c'] w fun v w' => v = .bool (decide (xs = ys)) ∧ Ext [] w w' := by
  obtain ⟨w0, rfl⟩ : ∃ w0, w0 = w := ⟨_, rfl⟩
  have H := Ctx.start w0 []
  refine ret_of_W (fn := Try.f13) Try.func13 rfl [.slice a xs.length c, .slice b ys.length c'] rfl (by kernel_rfl) ?_
  refine W_rseq ?_
  refine op_assign rfl (.bool _) rfl ?_
  refine op_nil (at_then ?_)
  refine W_seq ?_
  refine W_rseq ?_
  refine op_move rfl (.slice _ _ _) rfl ?_
  refine op_len rfl el_23 rfl ?_
  refine op_move rfl (.slice _ _ _) rfl ?_
  refine op_len rfl el_23 rfl ?_
  refine op_neq rfl rfl rfl ?_
  refine op_nil (at_then ?_)
  refine W_cond _ rfl ?_ ?_
  · intro h1
    replace h1 := ndec_t h1
    refine W_rseq ?_
    refine op_assign rfl (.bool _) rfl ?_
    refine op_nil (at_then ?_)
    refine W_ret (ret_then (leave1 (v := (.bool _)) rfl rfl rfl ?_))
    refine ⟨congrArg Value.bool ?_, H.ext⟩
    rw [decide_eq_false]
    rintro rfl
    exact h1 rfl
  · intro h1
    replace h1 := ndec_f h1
    have hl : xs.length = ys.length := by omega
    refine W_skip (at_then ?_)
    refine W_seq ?_
    refine W_rseq ?_
    refine op_assign rfl (.int _ _) rfl ?_
    refine op_nil (at_then ?_)
    refine W_block ?_
    refine W_loop 67106864 (α := Nat) (fun k => [(5, .int .i64 k)]) (fun k w' => k ≤ xs.length ∧ Ctx w0 [] w' [] ∧ xs.take k = ys.take k) (fun k => xs.length - k) 0 rfl ?_ ?_ ?_
    · exact ⟨rfl, trivial⟩
    · exact ⟨Nat.zero_le _, H, rfl⟩
    · rintro k j w ⟨hk, H, hn⟩
      refine W_seq ?_
      refine W_rseq ?_
      refine op_move rfl (.int _ _) rfl ?_
      refine op_move rfl (.slice _ _ _) rfl ?_
      refine op_len rfl el_23 rfl ?_
      refine op_lss rfl rfl rfl ?_
      refine op_nil (at_then ?_)
      refine W_cond _ rfl ?_ ?_
      · intro h2
        replace h2 := dec_t h2
        obtain ⟨x, hx⟩ := get_some (l := xs) (i := k) (by omega)
        obtain ⟨y, hy⟩ := get_some (l := ys) (i := k) (by omega)
        refine W_skip (at_then ?_)
        refine W_seq ?_
        refine W_block ?_
        refine W_qseq (fun x => x = _) mixed (by kernel_rfl) rfl ?_
        refine q_move rfl (.slice _ _ _) rfl ?_
        refine q_move rfl (.int _ _) rfl ?_
        refine q_indexRd R rfl el_23 sz_3 rfl rfl (by omega) (by omega) rfl ?_
        first | refine q_ldb rfl ag_3 rfl (by rintro _ rfl; exact H.drew) (by first | exact at0 | exact at1 | exact at2 | exact at3 | exact at4 | exact at5 | exact at6 | exact at7 | exact at8 | exact at9) rfl ?_ | refine q_ld rfl ag_3 rfl (by rintro _ rfl; exact ((R.ext0 H.ext).one (f := fun x => .int .i64 x) hx)) ?_ | refine q_ld rfl ag_3 rfl (by rintro _ rfl; exact ((R'.ext0 H.ext).one (f := fun x => .int .i64 x) hy)) ?_
        refine q_move rfl (.slice _ _ _) rfl ?_
        refine q_move rfl (.int _ _) rfl ?_
        refine q_indexRd R' rfl el_23 sz_3 rfl rfl (by omega) (by omega) rfl ?_
        first | refine q_ldb rfl ag_3 rfl (by rintro _ rfl; exact H.drew) (by first | exact at0 | exact at1 | exact at2 | exact at3 | exact at4 | exact at5 | exact at6 | exact at7 | exact at8 | exact at9) rfl ?_ | refine q_ld rfl ag_3 rfl (by rintro _ rfl; exact ((R.ext0 H.ext).one (f := fun x => .int .i64 x) hx)) ?_ | refine q_ld rfl ag_3 rfl (by rintro _ rfl; exact ((R'.ext0 H.ext).one (f := fun x => .int .i64 x) hy)) ?_
        refine q_neq rfl rfl rfl ?_
        refine q_nil ?_
        rintro _ rfl
        replace H := H.drew
        refine W_cond _ rfl ?_ ?_
        · intro h3
          replace h3 := ndec_t h3
          refine W_rseq ?_
          refine op_assign rfl (.bool _) rfl ?_
          refine op_nil (at_then ?_)
          refine W_ret (ret_block (ret_then (ret_then (ret_block (ret_then (leave1 (v := (.bool _)) rfl rfl rfl ?_))))))
          refine ⟨congrArg Value.bool ?_, H.ext⟩
          rw [decide_eq_false]
          rintro rfl
          rw [hx] at hy
          injection hy with hy
          exact h3 hy
        · intro h3
          replace h3 := ndec_f h3
          refine W_skip (at_block (at_then ?_))
          refine W_region ?_
          refine op_move rfl (.int _ _) rfl ?_
          refine op_add_i64 rfl rfl rfl (by omega) (by omega) ?_
          refine op_assign rfl (.int _ _) rfl ?_
          refine op_nil (at_then ?_)
          refine ⟨k + 1, rfl, ⟨by simp [put], trivial⟩, ⟨by omega, H, ?_⟩, by omega⟩
          rw [take_snoc hx, take_snoc hy, hn, h3]
      · intro h2
        replace h2 := dec_f h2
        refine W_exit (exit_then (exit_then (exit_here (at_then ?_))))
        refine W_rseq ?_
        refine op_assign rfl (.bool _) rfl ?_
        refine op_nil (at_then ?_)
        refine W_ret (leave1 (v := (.bool _)) rfl rfl rfl ?_)
        rw [List.take_of_length_le (by omega), List.take_of_length_le (by omega)] at hn
        refine ⟨congrArg Value.bool ?_, H.ext⟩
        rw [decide_eq_true hn]

def dq (l : List Due) (way : List Int) (i : Nat) : Due := (l[((way[i]?).getD 0).toNat]?).getD ⟨0, 0, 0, 0, 0, 0, false⟩
def okI (l : List Due) (way : List Int) (i : Nat) : Bool := decide (0 ≤ (way[i]?).getD 0) && (decide ((way[i]?).getD 0 < l.length) && !(dq l way i).held)
def ring1 (l : List Due) (way : List Int) (i : Nat) : Bool := okI l way i && (List.range i).all fun k => !decide ((dq l way k).fr = (dq l way i).fr)
def ring2 (l : List Due) (way : List Int) (i : Nat) : Bool := decide ((dq l way i).to = (dq l way ((i + 1) % way.length)).fr)
def ringB (l : List Due) (way : List Int) : Bool := (List.range way.length).all (ring1 l way) && ((List.range way.length).all (ring2 l way) && decide (0 < way.length))

theorem okI_get {l : List Due} {way : List Int} {i : Nat} (hi : i < way.length) (h : okI l way i = true) :
    ∃ x d, way[i]? = some x ∧ 0 ≤ x ∧ x < l.length ∧ l[x.toNat]? = some d ∧ dq l way i = d ∧ d.held = false := by
  obtain ⟨x, hx⟩ := get_some hi
  unfold okI at h
  rw [hx] at h
  simp only [Option.getD_some, Bool.and_eq_true, decide_eq_true_eq, Bool.not_eq_true'] at h
  obtain ⟨d, hd⟩ := get_some (l := l) (i := x.toNat) (by omega)
  have hq : dq l way i = d := by unfold dq; rw [hx, Option.getD_some, hd]; rfl
  exact ⟨x, d, hx, h.1, h.2.1, hd, hq, by rw [← hq]; exact h.2.2⟩

theorem all_snoc {p : Nat → Bool} {k : Nat} (h : (List.range k).all p = true) (hp : p k = true) : (List.range (k + 1)).all p = true := by
  rw [List.range_succ, List.all_append, h]
  simp [hp]
theorem all_at {p : Nat → Bool} {k i : Nat} (h : (List.range k).all p = true) (hi : i < k) : p i = true := by
  rw [List.all_eq_true] at h
  exact h i (List.mem_range.2 hi)
theorem all_not {p : Nat → Bool} {n i : Nat} (hi : i < n) (hp : p i = false) : (List.range n).all p = false := by
  rw [Bool.eq_false_iff]
  intro h
  rw [all_at h hi] at hp
  cases hp

set_option maxHeartbeats 1000000 in
theorem ring29_ok (a b : Option Addr) (c c' : Nat) (l : List Due) (way : List Int) (w : World) (R : Rd w a 7 Due.enc l) (R' : Rd w b 1 I64 way) (hm : l.length ≤ 9223372036854775807) (hm' : way.length ≤ 9223372036854775807) :
    Ret Try.prog 17 #[.slice a l.length c, .slice b way.length c'] w fun v w' => v = .bool (ringB l way) ∧ Ext [] w w' := by
  obtain ⟨w0, rfl⟩ : ∃ w0, w0 = w := ⟨_, rfl⟩
  have H := Ctx.start w0 []
  refine ret_of_W (fn := Try.f17) Try.func17 rfl [.slice a l.length c, .slice b way.length c'] rfl (by kernel_rfl) ?_
  refine W_rseq ?_
  refine op_assign rfl (.bool _) rfl ?_
  refine op_nil (at_then ?_)
  refine W_seq ?_
  refine W_rseq ?_
  refine op_assign rfl (.int _ _) rfl ?_
  refine op_nil (at_then ?_)
  refine W_block ?_
  refine W_loop 1152921504606846832 (α := Nat) (fun k => [(5, .int .i64 k)]) (fun k w' => k ≤ way.length ∧ Ctx w0 [] w' [] ∧ (List.range k).all (ring1 l way) = true) (fun k => way.length - k) 0 rfl ?_ ?_ ?_
  · exact ⟨rfl, trivial⟩
  · exact ⟨Nat.zero_le _, H, rfl⟩
  · rintro k j w ⟨hk, H, hn⟩
    refine W_seq ?_
    refine W_rseq ?_
    refine op_move rfl (.int _ _) rfl ?_
    refine op_move rfl (.slice _ _ _) rfl ?_
    refine op_len rfl el_23 rfl ?_
    refine op_lss rfl rfl rfl ?_
    refine op_nil (at_then ?_)
    refine W_cond _ rfl ?_ ?_
    · intro h1
      replace h1 := dec_t h1
      have hkl : k < way.length := by omega
      obtain ⟨x, hx⟩ := get_some hkl
      refine W_skip (at_then ?_)
      refine W_seq ?_
      refine W_block ?_
      refine W_seq ?_
      refine W_rseq (Wops_join (α := Unit) 274877890560 (fun _ => [(37, .bool (!okI l way k))]) (fun _ w' => Ctx w0 [] w' []) rfl ?_ ?_)
      · refine op_move rfl (.slice _ _ _) rfl ?_
        refine op_move rfl (.int _ _) rfl ?_
        refine op_indexRd R' rfl el_23 sz_3 rfl rfl (by omega) (by omega) rfl ?_
        first | refine op_ldb rfl ag_3 rfl H (by first | exact at0 | exact at1 | exact at2 | exact at3 | exact at4 | exact at5 | exact at6 | exact at7 | exact at8 | exact at9) rfl ?_ | refine op_ld rfl ag_3 rfl ((R'.ext0 H.ext).one (f := fun x => .int .i64 x) hx) ?_
        refine op_lss rfl rfl rfl ?_
        refine op_move rfl (.bool _) rfl ?_
        refine Wops_split 19 rfl ?_ ?_
        · intro h1
          replace h1 := dec_t h1
          refine op_skip rfl ?_
          refine op_skip rfl ?_
          refine op_skip rfl ?_
          refine op_skip rfl ?_
          refine op_skip rfl ?_
          refine op_skip rfl ?_
          refine op_skip rfl ?_
          refine op_pick1 rfl rfl (.bool _) rfl ?_
          refine op_move rfl (.bool _) rfl ?_
          refine op_skip rfl ?_
          refine op_skip rfl ?_
          refine op_skip rfl ?_
          refine op_skip rfl ?_
          refine op_skip rfl ?_
          refine op_skip rfl ?_
          refine op_skip rfl ?_
          refine op_skip rfl ?_
          refine op_pick1 rfl rfl (.bool _) rfl ?_
          refine op_nil ?_
          exact ⟨rfl, (), rfl, ⟨congrArg Value.bool (by unfold okI; rw [hx]; simp_all; try omega), trivial⟩, H⟩
        · intro h2
          replace h2 := dec_f h2
          refine op_move rfl (.slice _ _ _) rfl ?_
          refine op_move rfl (.int _ _) rfl ?_
          refine op_indexRd R' rfl el_23 sz_3 rfl rfl (by omega) (by omega) rfl ?_
          first | refine op_ldb rfl ag_3 rfl H (by first | exact at0 | exact at1 | exact at2 | exact at3 | exact at4 | exact at5 | exact at6 | exact at7 | exact at8 | exact at9) rfl ?_ | refine op_ld rfl ag_3 rfl ((R'.ext0 H.ext).one (f := fun x => .int .i64 x) hx) ?_
          refine op_move rfl (.slice _ _ _) rfl ?_
          refine op_len rfl el_22 rfl ?_
          refine op_geq rfl rfl rfl ?_
          refine op_pick0 rfl rfl (.bool _) rfl ?_
          refine op_move rfl (.bool _) rfl ?_
          refine Wops_split 28 rfl ?_ ?_
          · intro h3
            replace h3 := dec_t h3
            refine op_skip rfl ?_
            refine op_skip rfl ?_
            refine op_skip rfl ?_
            refine op_skip rfl ?_
            refine op_skip rfl ?_
            refine op_skip rfl ?_
            refine op_skip rfl ?_
            refine op_skip rfl ?_
            refine op_pick1 rfl rfl (.bool _) rfl ?_
            refine op_nil ?_
            exact ⟨rfl, (), rfl, ⟨congrArg Value.bool (by unfold okI; rw [hx]; simp_all; try omega), trivial⟩, H⟩
          · intro h4
            replace h4 := dec_f h4
            refine op_move rfl (.slice _ _ _) rfl ?_
            refine op_move rfl (.slice _ _ _) rfl ?_
            refine op_move rfl (.int _ _) rfl ?_
            refine op_indexRd R' rfl el_23 sz_3 rfl rfl (by omega) (by omega) rfl ?_
            first | refine op_ldb rfl ag_3 rfl H (by first | exact at0 | exact at1 | exact at2 | exact at3 | exact at4 | exact at5 | exact at6 | exact at7 | exact at8 | exact at9) rfl ?_ | refine op_ld rfl ag_3 rfl ((R'.ext0 H.ext).one (f := fun x => .int .i64 x) hx) ?_
            refine op_indexRd R rfl el_22 sz_41 rfl rfl (by omega) (by omega) rfl ?_
            obtain ⟨d, hd⟩ := get_some (l := l) (i := x.toNat) (by omega)
            have hq : dq l way k = d := by unfold dq; rw [hx, Option.getD_some, hd]; rfl
            refine op_fieldAddr rfl fo_41_6 rfl ?_
            refine op_ld rfl ag_4 rfl ((R.ext0 H.ext).fld hd rfl (j := 6) rfl) ?_
            refine op_pick0 rfl rfl (.bool _) rfl ?_
            refine op_nil ?_
            exact ⟨rfl, (), rfl, ⟨congrArg Value.bool (by unfold okI; rw [hx]; simp_all; try omega), trivial⟩, H⟩
      rintro - j37 w H
      refine W_cond _ rfl ?_ ?_
      · intro h2
        replace h2 := nvar_t h2
        refine W_rseq ?_
        refine op_assign rfl (.bool _) rfl ?_
        refine op_nil (at_then ?_)
        refine W_ret (ret_then (ret_block (ret_then (ret_then (ret_block (ret_then (leave1 (v := (.bool _)) rfl rfl rfl ?_)))))))
        refine ⟨congrArg Value.bool ?_, H.ext⟩
        rw [ringB, all_not hkl (by rw [ring1, h2]; rfl)]
        rfl
      · intro h2
        replace h2 := nvar_f h2
        obtain ⟨x, d, hx, hx0, hx1, hd, hq, hh⟩ := okI_get hkl h2
        refine W_skip (at_then ?_)
        refine W_rseq ?_
        refine op_assign rfl (.int _ _) rfl ?_
        refine op_nil (at_then ?_)
        refine W_block ?_
        refine W_loop 1152921229728940112 (α := Nat) (fun q => [(6, .int .i64 q)]) (fun q w' => q ≤ k ∧ Ctx w0 [] w' [] ∧ ((List.range q).all fun q => !decide ((dq l way q).fr = (dq l way k).fr)) = true) (fun q => k - q) 0 rfl ?_ ?_ ?_
        · exact ⟨rfl, trivial⟩
        · exact ⟨Nat.zero_le _, H, rfl⟩
        · rintro q j2 w ⟨hqk, H, hn2⟩
          refine W_seq ?_
          refine W_rseq ?_
          refine op_move rfl (.int _ _) rfl ?_
          refine op_move rfl (.int _ _) rfl ?_
          refine op_lss rfl rfl rfl ?_
          refine op_nil (at_then ?_)
          refine W_cond _ rfl ?_ ?_
          · intro h3
            replace h3 := dec_t h3
            have hr := all_at hn (i := q) (by omega)
            rw [ring1, Bool.and_eq_true] at hr
            obtain ⟨x2, d2, hx2, hx20, hx21, hd2, hq2, hh2⟩ := okI_get (by omega) hr.1
            refine W_skip (at_then ?_)
            refine W_seq ?_
            refine W_block ?_
            refine W_qseq (fun x => x = _) mixed (by kernel_rfl) rfl ?_
            refine q_move rfl (.slice _ _ _) rfl ?_
            refine q_move rfl (.slice _ _ _) rfl ?_
            refine q_move rfl (.int _ _) rfl ?_
            refine q_indexRd R' rfl el_23 sz_3 rfl rfl (by omega) (by omega) rfl ?_
            first | refine q_ldb rfl ag_3 rfl (by rintro _ rfl; exact H.drew) (by first | exact at0 | exact at1 | exact at2 | exact at3 | exact at4 | exact at5 | exact at6 | exact at7 | exact at8 | exact at9) rfl ?_ | refine q_ld rfl ag_3 rfl (by rintro _ rfl; exact ((R'.ext0 H.ext).one (f := fun x => .int .i64 x) hx)) ?_ | refine q_ld rfl ag_3 rfl (by rintro _ rfl; exact ((R'.ext0 H.ext).one (f := fun x => .int .i64 x) hx2)) ?_ | refine q_ld rfl ag_3 rfl (by rintro _ rfl; exact ((R.ext0 H.ext).fld hd rfl (j := 1) rfl)) ?_ | refine q_ld rfl ag_3 rfl (by rintro _ rfl; exact ((R.ext0 H.ext).fld hd2 rfl (j := 1) rfl)) ?_
            refine q_indexRd R rfl el_22 sz_41 rfl rfl (by omega) (by omega) rfl ?_
            refine q_fieldAddr rfl fo_41_1 rfl ?_
            first | refine q_ldb rfl ag_3 rfl (by rintro _ rfl; exact H.drew) (by first | exact at0 | exact at1 | exact at2 | exact at3 | exact at4 | exact at5 | exact at6 | exact at7 | exact at8 | exact at9) rfl ?_ | refine q_ld rfl ag_3 rfl (by rintro _ rfl; exact ((R'.ext0 H.ext).one (f := fun x => .int .i64 x) hx)) ?_ | refine q_ld rfl ag_3 rfl (by rintro _ rfl; exact ((R'.ext0 H.ext).one (f := fun x => .int .i64 x) hx2)) ?_ | refine q_ld rfl ag_3 rfl (by rintro _ rfl; exact ((R.ext0 H.ext).fld hd rfl (j := 1) rfl)) ?_ | refine q_ld rfl ag_3 rfl (by rintro _ rfl; exact ((R.ext0 H.ext).fld hd2 rfl (j := 1) rfl)) ?_
            refine q_move rfl (.slice _ _ _) rfl ?_
            refine q_move rfl (.slice _ _ _) rfl ?_
            refine q_move rfl (.int _ _) rfl ?_
            refine q_indexRd R' rfl el_23 sz_3 rfl rfl (by omega) (by omega) rfl ?_
            first | refine q_ldb rfl ag_3 rfl (by rintro _ rfl; exact H.drew) (by first | exact at0 | exact at1 | exact at2 | exact at3 | exact at4 | exact at5 | exact at6 | exact at7 | exact at8 | exact at9) rfl ?_ | refine q_ld rfl ag_3 rfl (by rintro _ rfl; exact ((R'.ext0 H.ext).one (f := fun x => .int .i64 x) hx)) ?_ | refine q_ld rfl ag_3 rfl (by rintro _ rfl; exact ((R'.ext0 H.ext).one (f := fun x => .int .i64 x) hx2)) ?_ | refine q_ld rfl ag_3 rfl (by rintro _ rfl; exact ((R.ext0 H.ext).fld hd rfl (j := 1) rfl)) ?_ | refine q_ld rfl ag_3 rfl (by rintro _ rfl; exact ((R.ext0 H.ext).fld hd2 rfl (j := 1) rfl)) ?_
            refine q_indexRd R rfl el_22 sz_41 rfl rfl (by omega) (by omega) rfl ?_
            refine q_fieldAddr rfl fo_41_1 rfl ?_
            first | refine q_ldb rfl ag_3 rfl (by rintro _ rfl; exact H.drew) (by first | exact at0 | exact at1 | exact at2 | exact at3 | exact at4 | exact at5 | exact at6 | exact at7 | exact at8 | exact at9) rfl ?_ | refine q_ld rfl ag_3 rfl (by rintro _ rfl; exact ((R'.ext0 H.ext).one (f := fun x => .int .i64 x) hx)) ?_ | refine q_ld rfl ag_3 rfl (by rintro _ rfl; exact ((R'.ext0 H.ext).one (f := fun x => .int .i64 x) hx2)) ?_ | refine q_ld rfl ag_3 rfl (by rintro _ rfl; exact ((R.ext0 H.ext).fld hd rfl (j := 1) rfl)) ?_ | refine q_ld rfl ag_3 rfl (by rintro _ rfl; exact ((R.ext0 H.ext).fld hd2 rfl (j := 1) rfl)) ?_
            refine q_eql rfl rfl rfl ?_
            refine q_nil ?_
            rintro _ rfl
            replace H := H.drew
            refine W_cond _ rfl ?_ ?_
            · intro h4
              replace h4 := dec_t h4
              refine W_rseq ?_
              refine op_assign rfl (.bool _) rfl ?_
              refine op_nil (at_then ?_)
              refine W_ret (ret_block (ret_then (ret_then (ret_block (ret_block (ret_then (ret_then (ret_block (ret_then (leave1 (v := (.bool _)) rfl rfl rfl ?_))))))))))
              refine ⟨congrArg Value.bool ?_, H.ext⟩
              rw [ringB, all_not hkl (by rw [ring1, h2, all_not (i := q) (by omega) (by rw [hq, hq2, decide_eq_true h4]; rfl)]; rfl)]
              rfl
            · intro h4
              replace h4 := dec_f h4
              refine W_skip (at_block (at_then ?_))
              refine W_region ?_
              refine op_move rfl (.int _ _) rfl ?_
              refine op_add_i64 rfl rfl rfl (by omega) (by omega) ?_
              refine op_assign rfl (.int _ _) rfl ?_
              refine op_nil (at_then ?_)
              refine ⟨q + 1, rfl, ⟨by simp [put], trivial⟩, ⟨by omega, H, all_snoc hn2 (by rw [hq, hq2, decide_eq_false h4]; rfl)⟩, by omega⟩
          · intro h3
            replace h3 := dec_f h3
            have hqe : q = k := by omega
            subst hqe
            refine W_exit (exit_then (exit_then (exit_here (at_block (at_then ?_)))))
            refine W_region ?_
            refine op_move rfl (.int _ _) rfl ?_
            refine op_add_i64 rfl rfl rfl (by omega) (by omega) ?_
            refine op_assign rfl (.int _ _) rfl ?_
            refine op_nil (at_then ?_)
            refine ⟨q + 1, rfl, ⟨by simp [put], trivial⟩, ⟨by omega, H, all_snoc hn (by rw [ring1, h2, hn2]; rfl)⟩, by omega⟩
    · intro h1
      replace h1 := dec_f h1
      have hke : k = way.length := by omega
      subst hke
      refine W_exit (exit_then (exit_then (exit_here (at_then ?_))))
      refine W_seq ?_
      refine W_rseq ?_
      refine op_assign rfl (.int _ _) rfl ?_
      refine op_nil (at_then ?_)
      refine W_block ?_
      refine W_loop 154742503757751029755543696 (α := Nat) (fun k => [(7, .int .i64 k)]) (fun k w' => k ≤ way.length ∧ Ctx w0 [] w' [] ∧ (List.range k).all (ring2 l way) = true) (fun k => way.length - k) 0 rfl ?_ ?_ ?_
      · exact ⟨rfl, trivial⟩
      · exact ⟨Nat.zero_le _, H, rfl⟩
      · rintro k j2 w ⟨hk2, H, hn2⟩
        refine W_seq ?_
        refine W_rseq ?_
        refine op_move rfl (.int _ _) rfl ?_
        refine op_move rfl (.slice _ _ _) rfl ?_
        refine op_len rfl el_23 rfl ?_
        refine op_lss rfl rfl rfl ?_
        refine op_nil (at_then ?_)
        refine W_cond _ rfl ?_ ?_
        · intro h2
          replace h2 := dec_t h2
          have hkl : k < way.length := by omega
          have hm1 : (k + 1) % way.length < way.length := Nat.mod_lt _ (by omega)
          have hr := all_at hn (i := k) hkl
          have hr2 := all_at hn (i := (k + 1) % way.length) hm1
          rw [ring1, Bool.and_eq_true] at hr hr2
          obtain ⟨x, d, hx, hx0, hx1, hd, hq, hh⟩ := okI_get hkl hr.1
          obtain ⟨x2, d2, hx2, hx20, hx21, hd2, hq2, hh2⟩ := okI_get hm1 hr2.1
          have hcast : ((k : Int) + 1) % (way.length : Int) = (((k + 1) % way.length : Nat) : Int) := by rw [Int.natCast_emod, Int.natCast_add]; rfl
          refine W_skip (at_then ?_)
          refine W_seq ?_
          refine W_block ?_
          refine W_qseq (fun x => x = _) mixed (by kernel_rfl) rfl ?_
          refine q_move rfl (.slice _ _ _) rfl ?_
          refine q_move rfl (.slice _ _ _) rfl ?_
          refine q_move rfl (.int _ _) rfl ?_
          refine q_indexRd R' rfl el_23 sz_3 rfl rfl (by omega) (by omega) rfl ?_
          first | refine q_ldb rfl ag_3 rfl (by rintro _ rfl; exact H.drew) (by first | exact at0 | exact at1 | exact at2 | exact at3 | exact at4 | exact at5 | exact at6 | exact at7 | exact at8 | exact at9) rfl ?_ | refine q_ld rfl ag_3 rfl (by rintro _ rfl; exact ((R'.ext0 H.ext).one (f := fun x => .int .i64 x) hx)) ?_ | refine q_ld rfl ag_3 rfl (by rintro _ rfl; exact ((R'.ext0 H.ext).one (f := fun x => .int .i64 x) hx2)) ?_ | refine q_ld rfl ag_3 rfl (by rintro _ rfl; exact ((R.ext0 H.ext).fld hd rfl (j := 2) rfl)) ?_ | refine q_ld rfl ag_3 rfl (by rintro _ rfl; exact ((R.ext0 H.ext).fld hd2 rfl (j := 1) rfl)) ?_
          refine q_indexRd R rfl el_22 sz_41 rfl rfl (by omega) (by omega) rfl ?_
          refine q_fieldAddr rfl fo_41_2 rfl ?_
          first | refine q_ldb rfl ag_3 rfl (by rintro _ rfl; exact H.drew) (by first | exact at0 | exact at1 | exact at2 | exact at3 | exact at4 | exact at5 | exact at6 | exact at7 | exact at8 | exact at9) rfl ?_ | refine q_ld rfl ag_3 rfl (by rintro _ rfl; exact ((R'.ext0 H.ext).one (f := fun x => .int .i64 x) hx)) ?_ | refine q_ld rfl ag_3 rfl (by rintro _ rfl; exact ((R'.ext0 H.ext).one (f := fun x => .int .i64 x) hx2)) ?_ | refine q_ld rfl ag_3 rfl (by rintro _ rfl; exact ((R.ext0 H.ext).fld hd rfl (j := 2) rfl)) ?_ | refine q_ld rfl ag_3 rfl (by rintro _ rfl; exact ((R.ext0 H.ext).fld hd2 rfl (j := 1) rfl)) ?_
          refine q_move rfl (.slice _ _ _) rfl ?_
          refine q_move rfl (.slice _ _ _) rfl ?_
          refine q_move rfl (.int _ _) rfl ?_
          refine q_add_i64 rfl rfl rfl (by omega) (by omega) ?_
          refine q_move rfl (.slice _ _ _) rfl ?_
          refine q_len rfl el_23 rfl ?_
          refine q_rem rfl rfl rfl (by omega) (by omega) ?_
          rw [hcast]
          refine q_indexRd R' rfl el_23 sz_3 rfl rfl (by omega) (by omega) rfl ?_
          first | refine q_ldb rfl ag_3 rfl (by rintro _ rfl; exact H.drew) (by first | exact at0 | exact at1 | exact at2 | exact at3 | exact at4 | exact at5 | exact at6 | exact at7 | exact at8 | exact at9) rfl ?_ | refine q_ld rfl ag_3 rfl (by rintro _ rfl; exact ((R'.ext0 H.ext).one (f := fun x => .int .i64 x) hx)) ?_ | refine q_ld rfl ag_3 rfl (by rintro _ rfl; exact ((R'.ext0 H.ext).one (f := fun x => .int .i64 x) hx2)) ?_ | refine q_ld rfl ag_3 rfl (by rintro _ rfl; exact ((R.ext0 H.ext).fld hd rfl (j := 2) rfl)) ?_ | refine q_ld rfl ag_3 rfl (by rintro _ rfl; exact ((R.ext0 H.ext).fld hd2 rfl (j := 1) rfl)) ?_
          refine q_indexRd R rfl el_22 sz_41 rfl rfl (by omega) (by omega) rfl ?_
          refine q_fieldAddr rfl fo_41_1 rfl ?_
          first | refine q_ldb rfl ag_3 rfl (by rintro _ rfl; exact H.drew) (by first | exact at0 | exact at1 | exact at2 | exact at3 | exact at4 | exact at5 | exact at6 | exact at7 | exact at8 | exact at9) rfl ?_ | refine q_ld rfl ag_3 rfl (by rintro _ rfl; exact ((R'.ext0 H.ext).one (f := fun x => .int .i64 x) hx)) ?_ | refine q_ld rfl ag_3 rfl (by rintro _ rfl; exact ((R'.ext0 H.ext).one (f := fun x => .int .i64 x) hx2)) ?_ | refine q_ld rfl ag_3 rfl (by rintro _ rfl; exact ((R.ext0 H.ext).fld hd rfl (j := 2) rfl)) ?_ | refine q_ld rfl ag_3 rfl (by rintro _ rfl; exact ((R.ext0 H.ext).fld hd2 rfl (j := 1) rfl)) ?_
          refine q_neq rfl rfl rfl ?_
          refine q_nil ?_
          rintro _ rfl
          replace H := H.drew
          refine W_cond _ rfl ?_ ?_
          · intro h4
            replace h4 := ndec_t h4
            refine W_rseq ?_
            refine op_assign rfl (.bool _) rfl ?_
            refine op_nil (at_then ?_)
            refine W_ret (ret_block (ret_then (ret_then (ret_block (ret_then (leave1 (v := (.bool _)) rfl rfl rfl ?_))))))
            refine ⟨congrArg Value.bool ?_, H.ext⟩
            rw [ringB, all_not (p := ring2 l way) hkl (by rw [ring2, hq, hq2, decide_eq_false h4]), hn]
            rfl
          · intro h4
            replace h4 := ndec_f h4
            refine W_skip (at_block (at_then ?_))
            refine W_region ?_
            refine op_move rfl (.int _ _) rfl ?_
            refine op_add_i64 rfl rfl rfl (by omega) (by omega) ?_
            refine op_assign rfl (.int _ _) rfl ?_
            refine op_nil (at_then ?_)
            refine ⟨k + 1, rfl, ⟨by simp [put], trivial⟩, ⟨by omega, H, all_snoc hn2 (by rw [ring2, hq, hq2, decide_eq_true h4])⟩, by omega⟩
        · intro h2
          replace h2 := dec_f h2
          have hke : k = way.length := by omega
          subst hke
          refine W_exit (exit_then (exit_then (exit_here (at_then ?_))))
          refine W_rseq ?_
          refine op_move rfl (.slice _ _ _) rfl ?_
          refine op_len rfl el_23 rfl ?_
          refine op_gtr rfl rfl rfl ?_
          refine op_assign rfl (.bool _) rfl ?_
          refine op_nil (at_then ?_)
          refine W_ret (leave1 (v := (.bool _)) rfl rfl rfl ?_)
          refine ⟨congrArg Value.bool ?_, H.ext⟩
          rw [ringB, hn, hn2]
          rw [Bool.eq_iff_iff]
          simp

end Go.Proofs.Ytogaoppnoibgdaa
