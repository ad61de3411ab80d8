/- Part 4 of the proof. -/
import Derived.Test.YtapphbmlkdhnmaaGreatPart3
/- Flows within a net, arcs: the walks. -/
namespace Go.Proofs.YtapphbmlkdhnmaaGreat
open Go.GV
theorem ag_26_SeB : aggB Tryz.prog 26 = some false := by kernel_rfl
theorem ag_28_SeB : aggB Tryz.prog 28 = some true := by kernel_rfl
theorem ag_2_SeB : aggB Tryz.prog 2 = some false := by kernel_rfl
theorem ag_3_SeB : aggB Tryz.prog 3 = some false := by kernel_rfl
theorem ag_92_SeB : aggB Tryz.prog 92 = some true := by kernel_rfl
theorem ca_117_SeB : callable Tryz.prog 117 = true := by kernel_rfl
theorem ca_178_SeB : callable Tryz.prog 178 = true := by kernel_rfl
theorem ca_197_SeB : callable Tryz.prog 197 = true := by kernel_rfl
theorem ca_198_SeB : callable Tryz.prog 198 = true := by kernel_rfl
theorem ca_211_SeB : callable Tryz.prog 211 = true := by kernel_rfl
theorem ca_217_SeB : callable Tryz.prog 217 = true := by kernel_rfl
theorem el_26_SeB : elemT Tryz.prog 26 = some 92 := by kernel_rfl
theorem el_29_SeB : elemT Tryz.prog 29 = some 2 := by kernel_rfl
theorem fo_28_1_SeB : fieldO Tryz.prog 28 1 = some 1 := by kernel_rfl
theorem fo_92_0_SeB : fieldO Tryz.prog 92 0 = some 0 := by kernel_rfl
theorem fo_92_1_SeB : fieldO Tryz.prog 92 1 = some 1 := by kernel_rfl
theorem fo_92_2_SeB : fieldO Tryz.prog 92 2 = some 2 := by kernel_rfl
theorem fo_92_3_SeB : fieldO Tryz.prog 92 3 = some 3 := by kernel_rfl
theorem mixed_SeB : Tryz.prog.follows .mixedOrders = true := by kernel_rfl
theorem sz_28_SeB : tsize Tryz.prog 28 = some 2 := by kernel_rfl
theorem sz_2_SeB : tsize Tryz.prog 2 = some 1 := by kernel_rfl
theorem sz_92_SeB : tsize Tryz.prog 92 = some 4 := by kernel_rfl
theorem zc_92_SeB : zcells Tryz.prog 92 = some ([.int .i64 0, .int .i64 0, .int .i64 0, .int .i64 0]) := by kernel_rfl
attribute [local irreducible] Wops W Wq Wt

def i64v (x : Int) : Value := .int .i64 x
abbrev I1 (x : Int) : List Value := [.int .i64 x]
def inB (e : Ed) (x : Int) : Bool := decide (0 ≤ x) && decide (x ≤ e.cap)
/-- Is a flow within its net? -/
def withinN (N : Int) (es : List Ed) (fl : List Int) : Bool := (decide (fl.length = es.length) && rightN N es) && (List.zipWith inB es fl).all id
theorem zip_at {es : List Ed} {fl : List Int} {i : Nat} {e : Ed} {x : Int} (he : es[i]? = some e) (hx : fl[i]? = some x) : (List.zipWith inB es fl)[i]? = some (inB e x) := by
  rw [List.getElem?_zipWith, he, hx]

set_option maxRecDepth 20000 in
set_option maxHeartbeats 2000000 in
theorem within_ok (N : Int) (a b : Option Addr) (n c m d : Nat) (es : List Ed) (fl : List Int) (w : World) (R : Rd w a 4 encE es) (hn : es.length = n) (hN : I64 N) (Rf : Rd w b 1 I1 fl) (hm : fl.length = m) (hm2 : m ≤ 9223372036854775000) :
    Ret Tryz.prog 178 #[netV N a n c, .slice b m d] w fun v w' => v = .bool (withinN N es fl) ∧ Ext [] w w' := by
  subst hn hm
  obtain ⟨w0, rfl⟩ : ∃ w0, w0 = w := ⟨_, rfl⟩
  have H := Ctx.start w0 []
  refine ret_of_W (fn := Tryz.f178) Tryz.func178 rfl [netV N a es.length c, .slice b fl.length d] rfl (by kernel_rfl) ?_
  refine W_rseq ?_
  refine op_box rfl [.int .i64 N, .slice a es.length c] (.agg _) rfl rfl H ?_
  rintro b2 w - H
  refine op_assign rfl (.bool _) rfl ?_
  refine op_nil (at_then ?_)
  refine W_seq ?_
  refine W_rseq (Wops_join (α := Unit) 262016 (fun _ => [(17, .bool (!(decide (fl.length = es.length) && rightN N es)))]) (fun _ w' => Ctx w0 [] w' [(b2, Bl 28 [.int .i64 N, .slice a es.length c])]) rfl ?_ ?_)
  · refine op_move rfl (.slice _ _ _) rfl ?_
    refine op_len rfl el_29_SeB rfl ?_
    refine op_fieldAddr rfl fo_28_1_SeB rfl ?_
    refine op_ldb rfl ag_26_SeB rfl H (by first | exact at0 | exact at1 | exact at2 | exact at3 | exact at4 | exact at5 | exact at6 | exact at7 | exact at8 | exact at9) rfl ?_
    refine op_len rfl el_26_SeB rfl ?_
    refine op_neq rfl rfl rfl ?_
    refine op_move rfl (.bool _) rfl ?_
    refine Wops_split 13 rfl ?_ ?_
    · intro h1
      replace h1 := ndec_t h1
      refine op_skip rfl ?_
      refine op_skip rfl ?_
      refine op_skip rfl ?_
      refine op_pick1 rfl rfl (.bool _) rfl ?_
      refine op_nil ?_
      exact ⟨rfl, (), rfl, ⟨congrArg Value.bool (by rw [Bool.eq_iff_iff]; simp_all; try omega), trivial⟩, H⟩
    · intro h2
      replace h2 := ndec_f h2
      refine op_ldbN rfl ag_28_SeB sz_28_SeB rfl H (by first | exact at0 | exact at1 | exact at2 | exact at3 | exact at4 | exact at5 | exact at6 | exact at7 | exact at8 | exact at9) rfl ?_
      refine op_call rfl ca_117_SeB (right_ok N a es.length c es _ (R.ext0 H.ext) rfl hN) rfl ?_
      rintro v w ⟨rfl, hx15⟩
      replace H := H.call hx15
      refine op_not rfl rfl ?_
      refine op_pick0 rfl rfl (.bool _) rfl ?_
      refine op_nil ?_
      exact ⟨rfl, (), rfl, ⟨congrArg Value.bool (by rw [Bool.eq_iff_iff]; simp_all; try omega), trivial⟩, H⟩
  rintro - j17 w H
  refine W_cond _ rfl ?_ ?_
  · intro h1
    replace h1 := nvar_t h1
    refine W_rseq ?_
    refine op_assign rfl (.bool _) rfl ?_
    refine op_nil (at_then ?_)
    refine W_ret (ret_then (leave1 (v := (.bool _)) rfl rfl rfl ?_))
    exact ⟨congrArg Value.bool (by unfold withinN; rw [show (decide (fl.length = es.length) && rightN N es) = false by simpa using h1]; rfl), H.ext⟩
  · intro h1
    replace h1 := nvar_f h1
    have h1' : (decide (fl.length = es.length) && rightN N es) = true := by simpa using h1
    have hw : withinN N es fl = (List.zipWith inB es fl).all id := by unfold withinN; rw [h1']; rfl
    have hle : fl.length = es.length := by simp only [Bool.and_eq_true, decide_eq_true_eq] at h1'; exact h1'.1
    refine W_skip (at_then ?_)
    refine W_seq ?_
    refine W_rseq ?_
    refine op_move rfl (.slice _ _ _) rfl ?_
    refine op_len rfl el_29_SeB rfl ?_
    refine op_move rfl (.int _ _) rfl ?_
    refine op_nil (at_then ?_)
    refine W_block ?_
    refine W_loop 274876858480 (α := Nat) (fun i => [(20, .int .i64 (i : Int))]) (fun i w' => i ≤ fl.length ∧ Ctx w0 [] w' [(b2, Bl 28 [.int .i64 N, .slice a es.length c])] ∧ ∀ (k : Nat) (e : Ed) (x : Int), k < i → es[k]? = some e → fl[k]? = some x → inB e x = true) (fun i => fl.length - i) 0 rfl ?_ ?_ ?_
    · exact ⟨rfl, trivial⟩
    · exact ⟨Nat.zero_le _, H, fun k e x h => absurd h (Nat.not_lt_zero _)⟩
    · rintro i j w ⟨hi, H, hb⟩
      refine W_rseq ?_
      refine op_lss rfl rfl rfl ?_
      refine op_nil (at_then ?_)
      refine W_seq ?_
      refine W_cond _ rfl ?_ ?_
      · intro h2
        replace h2 := dec_t h2
        obtain ⟨e, he⟩ := get_some (l := es) (i := i) (by omega)
        obtain ⟨x, hx⟩ := get_some (l := fl) (i := i) (by omega)
        refine W_skip (at_then ?_)
        refine W_seq ?_
        refine W_block ?_
        refine W_rseq ?_
        refine op_move rfl (.int _ _) rfl ?_
        first | refine op_indexRd R rfl el_29_SeB sz_2_SeB rfl rfl (by omega) (by omega) (by first | rfl | omega) ?_ | refine op_indexRd Rf rfl el_29_SeB sz_2_SeB rfl rfl (by omega) (by omega) (by first | rfl | omega) ?_ | refine op_indexAddr rfl el_29_SeB sz_2_SeB rfl rfl (by omega) (by omega) ?_
        first | refine op_ldb rfl ag_2_SeB rfl H (by first | exact at0 | exact at1 | exact at2 | exact at3 | exact at4 | exact at5 | exact at6 | exact at7 | exact at8 | exact at9) rfl ?_ | refine op_ld rfl ag_2_SeB rfl (((R.ext0 H.ext).fld he rfl (j := 2) rfl)) ?_ | refine op_ld rfl ag_2_SeB rfl (((Rf.ext0 H.ext).fld hx rfl (j := 0) rfl)) ?_
        refine op_assign rfl (.int _ _) rfl ?_
        refine op_assign rfl (.int _ _) rfl ?_
        refine op_nil (at_then ?_)
        refine W_rseq (Wops_join (α := Unit) 137405399040 (fun _ => [(36, .bool (!inB e x))]) (fun _ w' => Ctx w0 [] w' [(b2, Bl 28 [.int .i64 N, .slice a es.length c])]) rfl ?_ ?_)
        · refine op_move rfl (.int _ _) rfl ?_
          refine op_lss rfl rfl rfl ?_
          refine op_move rfl (.bool _) rfl ?_
          refine Wops_split 27 rfl ?_ ?_
          · intro h3
            replace h3 := dec_t h3
            refine op_skip rfl ?_
            refine op_skip rfl ?_
            refine op_skip rfl ?_
            refine op_skip rfl ?_
            refine op_skip rfl ?_
            refine op_skip rfl ?_
            refine op_skip rfl ?_
            refine op_skip rfl ?_
            refine op_pick1 rfl rfl (.bool _) rfl ?_
            refine op_nil ?_
            exact ⟨rfl, (), rfl, ⟨congrArg Value.bool (by unfold inB; rw [Bool.eq_iff_iff]; simp_all; try omega), trivial⟩, H⟩
          · intro h4
            replace h4 := dec_f h4
            refine op_move rfl (.int _ _) rfl ?_
            refine op_fieldAddr rfl fo_28_1_SeB rfl ?_
            first | refine op_ldb rfl ag_26_SeB rfl H (by first | exact at0 | exact at1 | exact at2 | exact at3 | exact at4 | exact at5 | exact at6 | exact at7 | exact at8 | exact at9) rfl ?_ | refine op_ld rfl ag_26_SeB rfl (((R.ext0 H.ext).fld he rfl (j := 2) rfl)) ?_ | refine op_ld rfl ag_26_SeB rfl (((Rf.ext0 H.ext).fld hx rfl (j := 0) rfl)) ?_
            refine op_move rfl (.int _ _) rfl ?_
            first | refine op_indexRd R rfl el_26_SeB sz_92_SeB rfl rfl (by omega) (by omega) (by first | rfl | omega) ?_ | refine op_indexRd Rf rfl el_26_SeB sz_92_SeB rfl rfl (by omega) (by omega) (by first | rfl | omega) ?_ | refine op_indexAddr rfl el_26_SeB sz_92_SeB rfl rfl (by omega) (by omega) ?_
            refine op_fieldAddr rfl fo_92_2_SeB rfl ?_
            first | refine op_ldb rfl ag_2_SeB rfl H (by first | exact at0 | exact at1 | exact at2 | exact at3 | exact at4 | exact at5 | exact at6 | exact at7 | exact at8 | exact at9) rfl ?_ | refine op_ld rfl ag_2_SeB rfl (((R.ext0 H.ext).fld he rfl (j := 2) rfl)) ?_ | refine op_ld rfl ag_2_SeB rfl (((Rf.ext0 H.ext).fld hx rfl (j := 0) rfl)) ?_
            refine op_gtr rfl rfl rfl ?_
            refine op_pick0 rfl rfl (.bool _) rfl ?_
            refine op_nil ?_
            exact ⟨rfl, (), rfl, ⟨congrArg Value.bool (by unfold inB; rw [Bool.eq_iff_iff]; simp_all; try omega), trivial⟩, H⟩
        rintro - j36 w H
        refine W_cond _ rfl ?_ ?_
        · intro h3
          replace h3 := nvar_t h3
          refine W_rseq ?_
          refine op_assign rfl (.bool _) rfl ?_
          refine op_nil (at_then ?_)
          refine W_ret (ret_block (ret_then (ret_then (ret_block (ret_then (leave1 (v := (.bool _)) rfl rfl rfl ?_))))))
          exact ⟨congrArg Value.bool (by rw [hw, all_false (zip_at he hx) (show id (inB e x) = false by simpa using h3)]), H.ext⟩
        · intro h3
          replace h3 := nvar_f h3
          refine W_skip (at_block (at_then ?_))
          refine W_region ?_
          refine op_add_i64 rfl rfl rfl (by omega) (by omega) ?_
          refine op_move rfl (.int _ _) rfl ?_
          refine op_nil (at_then ?_)
          refine ⟨i + 1, rfl, ⟨rfl, trivial⟩, ⟨by omega, H, fun k f y hk hf hy => ?_⟩, by omega⟩
          rcases Nat.lt_or_ge k i with h7 | h7
          · exact hb k f y h7 hf hy
          · obtain rfl : k = i := by omega
            rw [he] at hf; rw [hx] at hy
            cases hf; cases hy
            simpa using h3
      · intro h2
        replace h2 := dec_f h2
        refine W_exit (exit_then (exit_then (exit_here (at_then ?_))))
        refine W_rseq ?_
        refine op_assign rfl (.bool _) rfl ?_
        refine op_nil (at_then ?_)
        refine W_ret (leave1 (v := (.bool _)) rfl rfl rfl ?_)
        refine ⟨congrArg Value.bool ?_, H.ext⟩
        rw [hw, all_true fun k x hk hx => ?_]
        rw [List.length_zipWith] at hk
        obtain ⟨e, he⟩ := get_some (l := es) (i := k) (by omega)
        obtain ⟨y, hy⟩ := get_some (l := fl) (i := k) (by omega)
        rw [zip_at he hy] at hx
        cases hx
        exact hb k e y (by omega) he hy
theorem within_of {N : Int} {es : List Ed} {fl : List Int} (h : withinN N es fl = true) : fl.length = es.length ∧ rightN N es = true ∧ ∀ (i : Nat) (e : Ed) (x : Int), es[i]? = some e → fl[i]? = some x → 0 ≤ x ∧ x ≤ e.cap := by
  unfold withinN at h
  simp only [Bool.and_eq_true, decide_eq_true_eq, List.all_eq_true] at h
  refine ⟨h.1.1, h.1.2, fun i e x he hx => ?_⟩
  have := h.2 _ (List.mem_of_getElem? (zip_at he hx))
  unfold inB at this
  simpa using this
theorem right_of {N : Int} {es : List Ed} (h : rightN N es = true) : 1 ≤ N ∧ N ≤ 40 ∧ es.length ≤ 200 ∧ (∀ e ∈ es, edgeB N e = true) ∧ prods es ≤ 4611686018427387904 := by
  unfold rightN at h
  simp only [Bool.and_eq_true, decide_eq_true_eq, List.all_eq_true] at h
  exact ⟨h.1.1, h.1.2, h.2.1, h.2.2.1, h.2.2.2⟩

/-! ### Arcs -/
def hasB (es : List Ed) (a : Int) : Bool := decide (0 ≤ a) && decide (a < 2 * es.length)
theorem has_ok (N : Int) (a : Option Addr) (n c : Nat) (es : List Ed) (hn : es.length = n) (hb : n ≤ 1000000) (k : Int) (w : World) : Ret Tryz.prog 197 #[netV N a n c, .int .i64 k] w fun v w' => v = .bool (hasB es k) ∧ Ext [] w w' := by
  subst hn
  obtain ⟨w0, rfl⟩ : ∃ w0, w0 = w := ⟨_, rfl⟩
  have H := Ctx.start w0 []
  refine ret_of_W (fn := Tryz.f197) Tryz.func197 rfl [netV N a es.length c, .int .i64 k] rfl (by kernel_rfl) ?_
  refine W_rseq ?_
  refine op_box rfl [.int .i64 N, .slice a es.length c] (.agg _) rfl rfl H ?_
  rintro b2 w - H
  refine op_assign rfl (.bool _) rfl ?_
  refine op_nil (at_then ?_)
  refine W_rseq ?_
  refine op_move rfl (.int _ _) rfl ?_
  refine op_geq rfl rfl rfl ?_
  refine op_move rfl (.bool _) rfl ?_
  refine Wops_split 7 rfl ?_ ?_
  · intro h1
    replace h1 := dec_t h1
    refine op_move rfl (.int _ _) rfl ?_
    refine op_fieldAddr rfl fo_28_1_SeB rfl ?_
    refine op_ldb rfl ag_26_SeB rfl H (by first | exact at0 | exact at1 | exact at2 | exact at3 | exact at4 | exact at5 | exact at6 | exact at7 | exact at8 | exact at9) rfl ?_
    refine op_len rfl el_26_SeB rfl ?_
    refine op_mul_i64 rfl rfl rfl (by omega) (by omega) ?_
    refine op_lss rfl rfl rfl ?_
    refine op_pick1 rfl rfl (.bool _) rfl ?_
    refine op_assign rfl (.bool _) rfl ?_
    refine op_nil (at_then ?_)
    refine W_ret (leave1 (v := (.bool _)) rfl rfl rfl ?_)
    exact ⟨congrArg Value.bool (by unfold hasB; rw [Bool.eq_iff_iff]; simp_all; try omega), H.ext⟩
  · intro h2
    replace h2 := dec_f h2
    refine op_skip rfl ?_
    refine op_skip rfl ?_
    refine op_skip rfl ?_
    refine op_skip rfl ?_
    refine op_skip rfl ?_
    refine op_skip rfl ?_
    refine op_pick0 rfl rfl (.bool _) rfl ?_
    refine op_assign rfl (.bool _) rfl ?_
    refine op_nil (at_then ?_)
    refine W_ret (leave1 (v := (.bool _)) rfl rfl rfl ?_)
    exact ⟨congrArg Value.bool (by unfold hasB; rw [Bool.eq_iff_iff]; simp_all; try omega), H.ext⟩
theorem back_ok (k : Nat) (hk : k < 9223372036854775808) (w : World) : Ret Tryz.prog 217 #[.int .i64 (k : Int)] w fun v w' => v = .bool (decide (k % 2 = 1)) ∧ w = w' := by
  obtain ⟨w0, rfl⟩ : ∃ w0, w0 = w := ⟨_, rfl⟩
  refine ret_of_W (fn := Tryz.f217) Tryz.func217 rfl [.int .i64 (k : Int)] rfl (by kernel_rfl) ?_
  refine W_rseq ?_
  refine op_assign rfl (.bool _) rfl ?_
  refine op_nil (at_then ?_)
  refine W_rseq ?_
  refine op_move rfl (.int _ _) rfl ?_
  refine op_and_i64 (b := 1) rfl rfl rfl (by omega) (by omega) ?_
  rw [Nat.and_one_is_mod]
  refine op_eql rfl rfl rfl ?_
  refine op_assign rfl (.bool _) rfl ?_
  refine op_nil (at_then ?_)
  refine W_ret (leave1 (v := (.bool _)) rfl rfl rfl ?_)
  exact ⟨congrArg Value.bool (by rw [Bool.eq_iff_iff]; simp; omega), rfl⟩
/-- An arc of an edge: from where, to where, at which cost. -/
def arcE (e : Ed) (k : Nat) : Int × Int × Int := if k % 2 = 1 then (e.t, e.f, -e.cost) else (e.f, e.t, e.cost)
theorem ends_ok (N : Int) (a : Option Addr) (n c : Nat) (es : List Ed) (w : World) (R : Rd w a 4 encE es) (hn : es.length = n) (hb : n ≤ 1000000) (k : Nat) {e : Ed} (he : es[k / 2]? = some e) (hc : -9223372036854775808 < e.cost ∧ e.cost ≤ 9223372036854775807) : Ret Tryz.prog 211 #[netV N a n c, .int .i64 (k : Int)] w fun v w' => v = .tuple #[.int .i64 (arcE e k).1, .int .i64 (arcE e k).2.1, .int .i64 (arcE e k).2.2] ∧ Ext [] w w' := by
  subst hn
  obtain ⟨w0, rfl⟩ : ∃ w0, w0 = w := ⟨_, rfl⟩
  have H := Ctx.start w0 []
  have hk := get_lt he
  refine ret_of_W (fn := Tryz.f211) Tryz.func211 rfl [netV N a es.length c, .int .i64 (k : Int)] rfl (by kernel_rfl) ?_
  refine W_rseq ?_
  refine op_box rfl [.int .i64 N, .slice a es.length c] (.agg _) rfl rfl H ?_
  rintro b2 w - H
  refine op_assign rfl (.int _ _) rfl ?_
  refine op_assign rfl (.int _ _) rfl ?_
  refine op_assign rfl (.int _ _) rfl ?_
  refine op_nil (at_then ?_)
  refine W_rseq ?_
  refine op_fieldAddr rfl fo_28_1_SeB rfl ?_
  refine op_ldb rfl ag_26_SeB rfl H (by first | exact at0 | exact at1 | exact at2 | exact at3 | exact at4 | exact at5 | exact at6 | exact at7 | exact at8 | exact at9) rfl ?_
  refine op_move rfl (.int _ _) rfl ?_
  refine op_shr_i64 (n := 1) rfl rfl rfl (by omega) ?_
  rw [show k / 2 ^ 1 = k / 2 from rfl]
  first | refine op_indexRd R rfl el_26_SeB sz_92_SeB rfl rfl (by omega) (by omega) (by first | rfl | omega) ?_ | refine op_indexAddr rfl el_26_SeB sz_92_SeB rfl rfl (by omega) (by omega) ?_
  first | refine op_ldN _ rfl ag_92_SeB sz_92_SeB rfl rfl ((R.ext0 H.ext).row he rfl) ?_ | refine op_ldbN rfl ag_92_SeB sz_92_SeB rfl H (by first | exact at0 | exact at1 | exact at2 | exact at3 | exact at4 | exact at5 | exact at6 | exact at7 | exact at8 | exact at9) rfl ?_
  refine op_alloc rfl zc_92_SeB H ?_
  rintro b7 w - H
  refine op_stb0 rfl sz_92_SeB rfl rfl rfl (by first | exact encE_one _ | simp [oneCell]) H (by first | exact at0 | exact at1 | exact at2 | exact at3 | exact at4 | exact at5 | exact at6 | exact at7 | exact at8 | exact at9) rfl ?_
  rintro w H
  refine op_nil (at_then ?_)
  refine W_seq ?_
  refine W_rseq ?_
  refine op_move rfl (.int _ _) rfl ?_
  refine op_call rfl ca_217_SeB (back_ok k (by omega) _) rfl ?_
  rintro v w ⟨rfl, rfl⟩
  refine op_nil (at_then ?_)
  refine W_cond _ rfl ?_ ?_
  · intro h1
    refine W_qseq (fun x => x = _) mixed_SeB (by kernel_rfl) rfl ?_
    refine q_fieldAddr rfl fo_92_1_SeB rfl ?_
    refine q_ldb rfl ag_3_SeB rfl (by rintro _ rfl; exact H.drew) (by first | exact at0 | exact at1 | exact at2 | exact at3 | exact at4 | exact at5 | exact at6 | exact at7 | exact at8 | exact at9) rfl ?_
    refine q_fieldAddr rfl fo_92_0_SeB rfl ?_
    refine q_ldb rfl ag_3_SeB rfl (by rintro _ rfl; exact H.drew) (by first | exact at0 | exact at1 | exact at2 | exact at3 | exact at4 | exact at5 | exact at6 | exact at7 | exact at8 | exact at9) rfl ?_
    refine q_fieldAddr rfl fo_92_3_SeB rfl ?_
    refine q_ldb rfl ag_2_SeB rfl (by rintro _ rfl; exact H.drew) (by first | exact at0 | exact at1 | exact at2 | exact at3 | exact at4 | exact at5 | exact at6 | exact at7 | exact at8 | exact at9) rfl ?_
    refine q_neg_i64 rfl rfl (by omega) (by omega) ?_
    refine q_assign rfl (.int _ _) rfl ?_
    refine q_assign rfl (.int _ _) rfl ?_
    refine q_assign rfl (.int _ _) rfl ?_
    refine q_nil ?_
    rintro _ rfl
    replace H := H.drew
    refine W_ret (ret_then (leave3 (v1 := (.int _ _)) (v2 := (.int _ _)) (v3 := (.int _ _)) rfl rfl rfl rfl rfl ?_))
    exact ⟨by unfold arcE; rw [if_pos (of_decide_eq_true h1)], H.ext⟩
  · intro h1
    refine W_skip (at_then ?_)
    refine W_qseq (fun x => x = _) mixed_SeB (by kernel_rfl) rfl ?_
    refine q_fieldAddr rfl fo_92_0_SeB rfl ?_
    refine q_ldb rfl ag_3_SeB rfl (by rintro _ rfl; exact H.drew) (by first | exact at0 | exact at1 | exact at2 | exact at3 | exact at4 | exact at5 | exact at6 | exact at7 | exact at8 | exact at9) rfl ?_
    refine q_fieldAddr rfl fo_92_1_SeB rfl ?_
    refine q_ldb rfl ag_3_SeB rfl (by rintro _ rfl; exact H.drew) (by first | exact at0 | exact at1 | exact at2 | exact at3 | exact at4 | exact at5 | exact at6 | exact at7 | exact at8 | exact at9) rfl ?_
    refine q_fieldAddr rfl fo_92_3_SeB rfl ?_
    refine q_ldb rfl ag_2_SeB rfl (by rintro _ rfl; exact H.drew) (by first | exact at0 | exact at1 | exact at2 | exact at3 | exact at4 | exact at5 | exact at6 | exact at7 | exact at8 | exact at9) rfl ?_
    refine q_assign rfl (.int _ _) rfl ?_
    refine q_assign rfl (.int _ _) rfl ?_
    refine q_assign rfl (.int _ _) rfl ?_
    refine q_nil ?_
    rintro _ rfl
    replace H := H.drew
    refine W_ret (leave3 (v1 := (.int _ _)) (v2 := (.int _ _)) (v3 := (.int _ _)) rfl rfl rfl rfl rfl ?_)
    exact ⟨by unfold arcE; rw [if_neg (of_decide_eq_false h1)], H.ext⟩
/-- What is told of an arc. -/
def endsI (N : Int) (es : List Ed) (k : Int) : Int × Int × Int := if (hasB es k && rightN N es) = true then arcE (es.getD (k.toNat / 2) ⟨0, 0, 0, 0⟩) k.toNat else (0, 0, 0)
set_option maxRecDepth 20000 in
theorem Ends_ok (N : Int) (a : Option Addr) (n c : Nat) (es : List Ed) (w : World) (R : Rd w a 4 encE es) (hn : es.length = n) (hb : n ≤ 1000000) (hN : I64 N) (k : Int) : Ret Tryz.prog 180 #[netV N a n c, .int .i64 k] w fun v w' => v = .tuple #[.int .i64 (endsI N es k).1, .int .i64 (endsI N es k).2.1, .int .i64 (endsI N es k).2.2] ∧ Ext [] w w' := by
  subst hn
  obtain ⟨w0, rfl⟩ : ∃ w0, w0 = w := ⟨_, rfl⟩
  have H := Ctx.start w0 []
  refine ret_of_W (fn := Tryz.f180) Tryz.func180 rfl [netV N a es.length c, .int .i64 k] rfl (by kernel_rfl) ?_
  refine W_rseq ?_
  refine op_box rfl [.int .i64 N, .slice a es.length c] (.agg _) rfl rfl H ?_
  rintro b2 w - H
  refine op_assign rfl (.int _ _) rfl ?_
  refine op_assign rfl (.int _ _) rfl ?_
  refine op_assign rfl (.int _ _) rfl ?_
  refine op_nil (at_then ?_)
  refine W_seq ?_
  refine W_rseq (Wops_join (α := Unit) 65408 (fun _ => [(15, .bool (!(hasB es k && rightN N es)))]) (fun _ w' => Ctx w0 [] w' [(b2, Bl 28 [.int .i64 N, .slice a es.length c])]) rfl ?_ ?_)
  · refine op_ldbN rfl ag_28_SeB sz_28_SeB rfl H (by first | exact at0 | exact at1 | exact at2 | exact at3 | exact at4 | exact at5 | exact at6 | exact at7 | exact at8 | exact at9) rfl ?_
    refine op_move rfl (.int _ _) rfl ?_
    refine op_call rfl ca_197_SeB (has_ok N a es.length c es rfl hb k _) rfl ?_
    rintro v w ⟨rfl, hx9⟩
    replace H := H.call hx9
    refine op_not rfl rfl ?_
    refine op_move rfl (.bool _) rfl ?_
    refine Wops_split 11 rfl ?_ ?_
    · intro h1
      replace h1 := nvar_t h1
      refine op_skip rfl ?_
      refine op_skip rfl ?_
      refine op_skip rfl ?_
      refine op_pick1 rfl rfl (.bool _) rfl ?_
      refine op_nil ?_
      exact ⟨rfl, (), rfl, ⟨congrArg Value.bool (by rw [Bool.eq_iff_iff]; simp_all), trivial⟩, H⟩
    · intro h2
      replace h2 := nvar_f h2
      refine op_ldbN rfl ag_28_SeB sz_28_SeB rfl H (by first | exact at0 | exact at1 | exact at2 | exact at3 | exact at4 | exact at5 | exact at6 | exact at7 | exact at8 | exact at9) rfl ?_
      refine op_call rfl ca_117_SeB (right_ok N a es.length c es _ (R.ext0 H.ext) rfl hN) rfl ?_
      rintro v w ⟨rfl, hx13⟩
      replace H := H.call hx13
      refine op_not rfl rfl ?_
      refine op_pick0 rfl rfl (.bool _) rfl ?_
      refine op_nil ?_
      exact ⟨rfl, (), rfl, ⟨congrArg Value.bool (by rw [Bool.eq_iff_iff]; simp_all), trivial⟩, H⟩
  rintro - j15 w H
  refine W_cond _ rfl ?_ ?_
  · intro h1
    replace h1 := nvar_t h1
    refine W_rseq ?_
    refine op_assign rfl (.int _ _) rfl ?_
    refine op_assign rfl (.int _ _) rfl ?_
    refine op_assign rfl (.int _ _) rfl ?_
    refine op_nil (at_then ?_)
    refine W_ret (ret_then (leave3 (v1 := (.int _ _)) (v2 := (.int _ _)) (v3 := (.int _ _)) rfl rfl rfl rfl rfl ?_))
    exact ⟨by unfold endsI; rw [if_neg (by rw [show (hasB es k && rightN N es) = false by simpa using h1]; simp)], H.ext⟩
  · intro h1
    replace h1 := nvar_f h1
    have h1' : (hasB es k && rightN N es) = true := by simpa using h1
    have hk : 0 ≤ k ∧ k < 2 * es.length := by
      simp only [Bool.and_eq_true] at h1'
      have := h1'.1
      unfold hasB at this
      simpa using this
    obtain ⟨q, rfl⟩ : ∃ q : Nat, k = (q : Int) := ⟨k.toNat, by omega⟩
    obtain ⟨e, he⟩ := get_some (l := es) (i := q / 2) (by omega)
    have hee := (right_of (Bool.and_eq_true_iff.1 h1').2).2.2.2.1 e (List.mem_of_getElem? he)
    have hco := edge_of hee
    have hE : endsI N es (q : Int) = arcE e q := by unfold endsI; rw [if_pos h1', Int.toNat_natCast, List.getD_eq_getElem?_getD, he]; rfl
    rw [hE]
    refine W_skip (at_then ?_)
    refine W_rseq ?_
    refine op_ldbN rfl ag_28_SeB sz_28_SeB rfl H (by first | exact at0 | exact at1 | exact at2 | exact at3 | exact at4 | exact at5 | exact at6 | exact at7 | exact at8 | exact at9) rfl ?_
    refine op_move rfl (.int _ _) rfl ?_
    refine op_call rfl ca_211_SeB (ends_ok N a es.length c es _ (R.ext0 H.ext) rfl hb q he (by omega)) rfl ?_
    rintro v w ⟨rfl, hx18⟩
    replace H := H.call hx18
    refine op_extract rfl rfl rfl ?_
    refine op_extract rfl rfl rfl ?_
    refine op_extract rfl rfl rfl ?_
    refine op_assign rfl (.int _ _) rfl ?_
    refine op_assign rfl (.int _ _) rfl ?_
    refine op_assign rfl (.int _ _) rfl ?_
    refine op_nil (at_then ?_)
    refine W_ret (leave3 (v1 := (.int _ _)) (v2 := (.int _ _)) (v3 := (.int _ _)) rfl rfl rfl rfl rfl ?_)
    exact ⟨rfl, H.ext⟩
def roomE (e : Ed) (x : Int) (k : Nat) : Int := if k % 2 = 1 then x else e.cap - x
theorem room_ok (N : Int) (a b : Option Addr) (n c m d : Nat) (es : List Ed) (fl : List Int) (w : World) (R : Rd w a 4 encE es) (hn : es.length = n) (hb : n ≤ 1000000) (Rf : Rd w b 1 I1 fl) (hm : fl.length = m) (k : Nat) {e : Ed} {x : Int} (he : es[k / 2]? = some e) (hx : fl[k / 2]? = some x) (hr : -9223372036854775808 ≤ e.cap - x ∧ e.cap - x ≤ 9223372036854775807) :
    Ret Tryz.prog 198 #[netV N a n c, .slice b m d, .int .i64 (k : Int)] w fun v w' => v = .int .i64 (roomE e x k) ∧ Ext [] w w' := by
  subst hn hm
  obtain ⟨w0, rfl⟩ : ∃ w0, w0 = w := ⟨_, rfl⟩
  have H := Ctx.start w0 []
  have hk := get_lt he
  have hkx := get_lt hx
  refine ret_of_W (fn := Tryz.f198) Tryz.func198 rfl [netV N a es.length c, .slice b fl.length d, .int .i64 (k : Int)] rfl (by kernel_rfl) ?_
  refine W_rseq ?_
  refine op_box rfl [.int .i64 N, .slice a es.length c] (.agg _) rfl rfl H ?_
  rintro b3 w - H
  refine op_assign rfl (.int _ _) rfl ?_
  refine op_nil (at_then ?_)
  refine W_rseq ?_
  refine op_move rfl (.slice _ _ _) rfl ?_
  refine op_move rfl (.int _ _) rfl ?_
  refine op_shr_i64 (n := 1) rfl rfl rfl (by omega) ?_
  rw [show k / 2 ^ 1 = k / 2 from rfl]
  first | refine op_indexRd R rfl el_29_SeB sz_2_SeB rfl rfl (by omega) (by omega) (by first | rfl | omega) ?_ | refine op_indexRd Rf rfl el_29_SeB sz_2_SeB rfl rfl (by omega) (by omega) (by first | rfl | omega) ?_ | refine op_indexAddr rfl el_29_SeB sz_2_SeB rfl rfl (by omega) (by omega) ?_
  first | refine op_ldb rfl ag_2_SeB rfl H (by first | exact at0 | exact at1 | exact at2 | exact at3 | exact at4 | exact at5 | exact at6 | exact at7 | exact at8 | exact at9) rfl ?_ | refine op_ld rfl ag_2_SeB rfl (((R.ext0 H.ext).fld he rfl (j := 2) rfl)) ?_ | refine op_ld rfl ag_2_SeB rfl (((Rf.ext0 H.ext).fld hx rfl (j := 0) rfl)) ?_
  refine op_assign rfl (.int _ _) rfl ?_
  refine op_nil (at_then ?_)
  refine W_seq ?_
  refine W_rseq ?_
  refine op_move rfl (.int _ _) rfl ?_
  refine op_call rfl ca_217_SeB (back_ok k (by omega) _) rfl ?_
  rintro v w ⟨rfl, rfl⟩
  refine op_nil (at_then ?_)
  refine W_cond _ rfl ?_ ?_
  · intro h1
    refine W_rseq ?_
    refine op_move rfl (.int _ _) rfl ?_
    refine op_assign rfl (.int _ _) rfl ?_
    refine op_nil (at_then ?_)
    refine W_ret (ret_then (leave1 (v := (.int _ _)) rfl rfl rfl ?_))
    exact ⟨by unfold roomE; rw [if_pos (of_decide_eq_true h1)], H.ext⟩
  · intro h1
    refine W_skip (at_then ?_)
    refine W_rseq ?_
    refine op_fieldAddr rfl fo_28_1_SeB rfl ?_
    first | refine op_ldb rfl ag_26_SeB rfl H (by first | exact at0 | exact at1 | exact at2 | exact at3 | exact at4 | exact at5 | exact at6 | exact at7 | exact at8 | exact at9) rfl ?_ | refine op_ld rfl ag_26_SeB rfl (((R.ext0 H.ext).fld he rfl (j := 2) rfl)) ?_ | refine op_ld rfl ag_26_SeB rfl (((Rf.ext0 H.ext).fld hx rfl (j := 0) rfl)) ?_
    refine op_move rfl (.int _ _) rfl ?_
    refine op_shr_i64 (n := 1) rfl rfl rfl (by omega) ?_
    rw [show k / 2 ^ 1 = k / 2 from rfl]
    first | refine op_indexRd R rfl el_26_SeB sz_92_SeB rfl rfl (by omega) (by omega) (by first | rfl | omega) ?_ | refine op_indexRd Rf rfl el_26_SeB sz_92_SeB rfl rfl (by omega) (by omega) (by first | rfl | omega) ?_ | refine op_indexAddr rfl el_26_SeB sz_92_SeB rfl rfl (by omega) (by omega) ?_
    refine op_fieldAddr rfl fo_92_2_SeB rfl ?_
    first | refine op_ldb rfl ag_2_SeB rfl H (by first | exact at0 | exact at1 | exact at2 | exact at3 | exact at4 | exact at5 | exact at6 | exact at7 | exact at8 | exact at9) rfl ?_ | refine op_ld rfl ag_2_SeB rfl (((R.ext0 H.ext).fld he rfl (j := 2) rfl)) ?_ | refine op_ld rfl ag_2_SeB rfl (((Rf.ext0 H.ext).fld hx rfl (j := 0) rfl)) ?_
    refine op_move rfl (.int _ _) rfl ?_
    refine op_sub_i64 rfl rfl rfl (by omega) (by omega) ?_
    refine op_assign rfl (.int _ _) rfl ?_
    refine op_nil (at_then ?_)
    refine W_ret (leave1 (v := (.int _ _)) rfl rfl rfl ?_)
    exact ⟨by unfold roomE; rw [if_neg (of_decide_eq_false h1)], H.ext⟩
def roomI (N : Int) (es : List Ed) (fl : List Int) (k : Int) : Int := if (hasB es k && withinN N es fl) = true then roomE (es.getD (k.toNat / 2) ⟨0, 0, 0, 0⟩) (fl.getD (k.toNat / 2) 0) k.toNat else 0
set_option maxRecDepth 20000 in
theorem Room_ok (N : Int) (a b : Option Addr) (n c m d : Nat) (es : List Ed) (fl : List Int) (w : World) (R : Rd w a 4 encE es) (hn : es.length = n) (hb : n ≤ 1000000) (hN : I64 N) (Rf : Rd w b 1 I1 fl) (hm : fl.length = m) (hm2 : m ≤ 9223372036854775000) (k : Int) : Ret Tryz.prog 170 #[netV N a n c, .slice b m d, .int .i64 k] w fun v w' => v = .int .i64 (roomI N es fl k) ∧ Ext [] w w' := by
  subst hn hm
  obtain ⟨w0, rfl⟩ : ∃ w0, w0 = w := ⟨_, rfl⟩
  have H := Ctx.start w0 []
  refine ret_of_W (fn := Tryz.f170) Tryz.func170 rfl [netV N a es.length c, .slice b fl.length d, .int .i64 k] rfl (by kernel_rfl) ?_
  refine W_rseq ?_
  refine op_box rfl [.int .i64 N, .slice a es.length c] (.agg _) rfl rfl H ?_
  rintro b3 w - H
  refine op_assign rfl (.int _ _) rfl ?_
  refine op_nil (at_then ?_)
  refine W_seq ?_
  refine W_rseq (Wops_join (α := Unit) 130944 (fun _ => [(16, .bool (!(hasB es k && withinN N es fl)))]) (fun _ w' => Ctx w0 [] w' [(b3, Bl 28 [.int .i64 N, .slice a es.length c])]) rfl ?_ ?_)
  · refine op_ldbN rfl ag_28_SeB sz_28_SeB rfl H (by first | exact at0 | exact at1 | exact at2 | exact at3 | exact at4 | exact at5 | exact at6 | exact at7 | exact at8 | exact at9) rfl ?_
    refine op_move rfl (.int _ _) rfl ?_
    refine op_call rfl ca_197_SeB (has_ok N a es.length c es rfl hb k _) rfl ?_
    rintro v w ⟨rfl, hx9⟩
    replace H := H.call hx9
    refine op_not rfl rfl ?_
    refine op_move rfl (.bool _) rfl ?_
    refine Wops_split 11 rfl ?_ ?_
    · intro h1
      replace h1 := nvar_t h1
      refine op_skip rfl ?_
      refine op_skip rfl ?_
      refine op_skip rfl ?_
      refine op_skip rfl ?_
      refine op_pick1 rfl rfl (.bool _) rfl ?_
      refine op_nil ?_
      exact ⟨rfl, (), rfl, ⟨congrArg Value.bool (by rw [Bool.eq_iff_iff]; simp_all), trivial⟩, H⟩
    · intro h2
      replace h2 := nvar_f h2
      refine op_ldbN rfl ag_28_SeB sz_28_SeB rfl H (by first | exact at0 | exact at1 | exact at2 | exact at3 | exact at4 | exact at5 | exact at6 | exact at7 | exact at8 | exact at9) rfl ?_
      refine op_move rfl (.slice _ _ _) rfl ?_
      refine op_call rfl ca_178_SeB (within_ok N a b es.length c fl.length d es fl _ (R.ext0 H.ext) rfl hN (Rf.ext0 H.ext) rfl hm2) rfl ?_
      rintro v w ⟨rfl, hx14⟩
      replace H := H.call hx14
      refine op_not rfl rfl ?_
      refine op_pick0 rfl rfl (.bool _) rfl ?_
      refine op_nil ?_
      exact ⟨rfl, (), rfl, ⟨congrArg Value.bool (by rw [Bool.eq_iff_iff]; simp_all), trivial⟩, H⟩
  rintro - j16 w H
  refine W_cond _ rfl ?_ ?_
  · intro h1
    replace h1 := nvar_t h1
    refine W_rseq ?_
    refine op_assign rfl (.int _ _) rfl ?_
    refine op_nil (at_then ?_)
    refine W_ret (ret_then (leave1 (v := (.int _ _)) rfl rfl rfl ?_))
    exact ⟨by unfold roomI; rw [if_neg (by rw [show (hasB es k && withinN N es fl) = false by simpa using h1]; simp)], H.ext⟩
  · intro h1
    replace h1 := nvar_f h1
    have h1' : (hasB es k && withinN N es fl) = true := by simpa using h1
    have hk : 0 ≤ k ∧ k < 2 * es.length := by
      simp only [Bool.and_eq_true] at h1'
      have := h1'.1
      unfold hasB at this
      simpa using this
    obtain ⟨q, rfl⟩ : ∃ q : Nat, k = (q : Int) := ⟨k.toNat, by omega⟩
    obtain ⟨hl, hri, hin⟩ := within_of (Bool.and_eq_true_iff.1 h1').2
    obtain ⟨e, he⟩ := get_some (l := es) (i := q / 2) (by omega)
    obtain ⟨x, hx⟩ := get_some (l := fl) (i := q / 2) (by omega)
    have hee := (right_of hri).2.2.2.1 e (List.mem_of_getElem? he)
    have hco := edge_of hee
    have hxx := hin _ e x he hx
    have hE : roomI N es fl (q : Int) = roomE e x q := by unfold roomI; rw [if_pos h1', Int.toNat_natCast, List.getD_eq_getElem?_getD, he, List.getD_eq_getElem?_getD, hx]; rfl
    rw [hE]
    refine W_skip (at_then ?_)
    refine W_rseq ?_
    refine op_ldbN rfl ag_28_SeB sz_28_SeB rfl H (by first | exact at0 | exact at1 | exact at2 | exact at3 | exact at4 | exact at5 | exact at6 | exact at7 | exact at8 | exact at9) rfl ?_
    refine op_move rfl (.slice _ _ _) rfl ?_
    refine op_move rfl (.int _ _) rfl ?_
    refine op_call rfl ca_198_SeB (room_ok N a b es.length c fl.length d es fl _ (R.ext0 H.ext) rfl hb (Rf.ext0 H.ext) rfl q he hx (by omega)) rfl ?_
    rintro v w ⟨rfl, hx20⟩
    replace H := H.call hx20
    refine op_assign rfl (.int _ _) rfl ?_
    refine op_nil (at_then ?_)
    refine W_ret (leave1 (v := (.int _ _)) rfl rfl rfl ?_)
    exact ⟨rfl, H.ext⟩

end Go.Proofs.YtapphbmlkdhnmaaGreat

/- Ranges over a function, as a rule: what an iterator yields, what the rounds keep. It holds for every program. -/
namespace Go.GV
open Go

/-- Blocks that may turn; they grow by new ones alone. -/
abbrev Mt := Nat → Prop
structure Grw (M M' : Mt) (w w' : World) : Prop where
  ext : ∃ S, (∀ x ∈ S, M x ∨ w.heap.size ≤ x) ∧ Ext S w w'
  new : ∀ x, M' x → M x ∨ w.heap.size ≤ x
theorem Grw.to {M M' : Mt} {w w' : World} (g : Grw M M' w w') {b : Nat} {o : Obj} (hb : w.heap[b]? = some o) (hn : ¬ M b) : w'.heap[b]? = some o := by
  obtain ⟨S, hS, hx⟩ := g.ext
  have hl := heap_lt hb
  rw [hx.block b hl fun h => by rcases hS b h with h | h; exact hn h; omega]
  exact hb
theorem Grw.size {M M' : Mt} {w w' : World} (g : Grw M M' w w') : w.heap.size ≤ w'.heap.size := let ⟨_, _, hx⟩ := g.ext; hx.size
theorem Grw.not {M M' : Mt} {w w' : World} (g : Grw M M' w w') {b : Nat} (hb : b < w.heap.size) (hn : ¬ M b) : ¬ M' b := fun h => by
  rcases g.new b h with h | h
  · exact hn h
  · omega
theorem Grw.call {M M' : Mt} {w0 w w' : World} (h : Ext [] w0 w) (hM : ∀ x, M x → x < w0.heap.size) (g : Grw M M' w w') : Grw M M' w0 w' := by
  obtain ⟨S, hS, hx⟩ := g.ext
  have hs := h.size
  exact ⟨⟨S, fun x hm => (hS x hm).imp id fun h => by omega, (h.mono (by simp)).trans hx⟩, fun x hm => (g.new x hm).imp id fun h => by omega⟩
/-- An iterator yields these values, one by one, whatever the rounds do that leave K; it writes Z and new blocks alone, the rounds M; E: a round has ended it. -/
def IterOk (P : Program) (gf : FuncId) (ca : Array Value) (Z : List Nat) (K : Mt → World → Prop) (xs : List (List Value)) : Prop :=
  ∀ (l : Nat) (w : World) (J : Nat → Mt → World → Prop) (E : World → Prop), (∃ M, J 0 M w) → (∀ i M w' w'', J i M w' → Ext Z w' w'' → J i M w'') → (∀ w' w'', E w' → Ext Z w' w'' → E w'') → (∀ i M w', J i M w' → (∀ x, M x → x < w'.heap.size) ∧ K M w') →
    (∀ i v M w', xs[i]? = some v → J i M w' → YieldAt P l v w' fun u w'' => (u = .bool true ∧ ∃ M', J (i + 1) M' w'' ∧ Grw M M' w' w'') ∨ (u = .bool false ∧ E w'')) →
    Ret P gf (#[.func (.yield l) #[] #[]] ++ ca) w fun _ w' => (∃ M, J xs.length M w') ∨ E w'

section
variable {P : Program} {Q : Exit → Env → World → Prop} {e : Env} {w : World} {n : Nat}
/-- The environment of a round. -/
def putsP (e : Env) (l : List (Tmp × Value)) : Env := l.foldl (fun e p => put e (some p.1) p.2) e
theorem sim_zip : ∀ (l : List (Tmp × Value)) {e : Env} {a : Act}, Sim n e a → (∀ p ∈ l, p.1 < n) → Sim n (putsP e l) { a with tmps := l.foldl (fun tmps p => tmps.setIfInBounds p.1 p.2) a.tmps }
  | [], _, _, h, _ => h
  | p :: l, e, a, h, hp => by
    have h1 : Sim n (put e (some p.1) p.2) { a with tmps := a.tmps.setIfInBounds p.1 p.2 } := by
      have := Sim.put h (some p.1) p.2 (by rintro _ ⟨⟩; exact hp p (List.mem_cons_self ..))
      simpa [Act.put] using this
    exact sim_zip l h1 fun q hq => hp q (List.mem_cons_of_mem _ hq)
theorem fold_zip (ps : Array Tmp) (vs : List Value) (tmps : Array Value) : (ps.zip vs.toArray).foldl (fun tmps (t, a) => tmps.setIfInBounds t a) tmps = (ps.toList.zip vs).foldl (fun tmps p => tmps.setIfInBounds p.1 p.2) tmps := by
  rw [← Array.foldl_toList, Array.toList_zip]
/-- How a round's body may end. -/
def Qbody (D l : Nat) (J1 : Mt → World → Prop) (E : World → Prop) (M : Mt) (w wB : World) : Exit → Env → World → Prop
  | .normal, _, w3 => ∃ M', J1 M' w3 ∧ (∀ x, M' x → M x ∨ w.heap.size ≤ x) ∧ ∃ S, Ext S wB w3 ∧ ∀ x ∈ S, M x ∨ w.heap.size ≤ x
  | .ret, _, w3 => E w3 ∧ ∃ S, Ext S wB w3 ∧ D ∉ S ∧ l ∉ S
  | _, _, _ => False
def Qassign (P : Program) (D l n : Nat) (body : Code) (J1 : Mt → World → Prop) (E : World → Prop) (M : Mt) (w : World) : Exit → Env → World → Prop
  | .normal, e, w1 => Ext [] w w1 ∧ ∀ wB, Ext [l] w1 wB → W P (some l) n body (Qbody D l J1 E M w wB) e wB
  | _, _, _ => False
theorem Ext.to {S : List Nat} {w w' : World} (h : Ext S w w') {b : Nat} {o : Obj} (hb : w.heap[b]? = some o) (hn : b ∉ S) : w'.heap[b]? = some o := by
  rw [h.block b (heap_lt hb) hn]; exact hb
theorem jump_none {w : World} {j : Option Code} (hj : j = none) (h : Q .normal e w) : jumped Q e w j := by subst hj; exact h
theorem jump_ret {w : World} {j : Option Code} (hj : j = some .ret) (h : Q .ret e w) : jumped Q e w j := by subst hj; exact h
/-- The statement. The rounds' assignments are walked with the record ready, their bodies with it busy: both worlds differ in its block alone. -/
theorem W_range {f : Operand} {ps : Array Tmp} {assign body : Code} {gf : Nat} {ca : Array Value} {Z : List Nat} {K : Mt → World → Prop} {xs : List (List Value)} (hf : ev e f = .func (.func gf) #[] ca) (hc : callable P gf = true)
    (hI : IterOk P gf ca Z K xs) (hfit : (fits n assign && fits n body) = true) (hps : (ps.toList.all fun p => decide (p < n)) = true) (hlen : ∀ v ∈ xs, v.length = ps.size)
    (J : Nat → Mt → World → Prop) (E : World → Prop) (hZ : w.heap.size ∉ Z ∧ w.heap.size + 1 ∉ Z) (hj0 : ∀ w2, Ext [] w w2 → w.heap.size + 1 < w2.heap.size → ∃ M, J 0 M w2)
    (hjs : ∀ i M w' w'', J i M w' → Ext (w.heap.size :: (w.heap.size + 1) :: Z) w' w'' → J i M w'') (hes : ∀ w' w'', E w' → Ext (w.heap.size :: (w.heap.size + 1) :: Z) w' w'' → E w'')
    (hk : ∀ i M w', J i M w' → (∀ x, M x → x < w'.heap.size ∧ x ≠ w.heap.size ∧ x ≠ w.heap.size + 1) ∧ K (fun x => x = w.heap.size + 1 ∨ M x) w')
    (hb : ∀ i v M w', xs[i]? = some v → J i M w' → w.heap.size + 1 < w'.heap.size → W P (some (w.heap.size + 1)) n assign (Qassign P w.heap.size (w.heap.size + 1) n body (J (i + 1)) E M w') (putsP ⟨e.g, []⟩ (ps.toList.zip v)) w')
    (hend : ∀ M w4, J xs.length M w4 → w4.heap[w.heap.size]? = some (.deferred (some [])) → Q .normal ⟨e.g, { target := .collected w.heap.size, args := #[] } :: e.ds⟩ w4)
    (hret : ∀ w4, E w4 → w4.heap[w.heap.size]? = some (.deferred (some [])) → Q .ret ⟨e.g, { target := .collected w.heap.size, args := #[] } :: e.ds⟩ w4) : W P none n (.rangeFunc f ps assign body) Q e w := by
  refine W_rangeFunc hf hc ?_
  intro fn tmps hts htm D l w2 hDe hle hx2 hD hrec
  subst hDe hle
  obtain ⟨lo, hlo, hrec'⟩ : ∃ lo, lo = ({ state := .ready, pending := none, fn, tmps, params := ps, assign, body, defers := w.heap.size } : Loop) ∧ w2.heap[w.heap.size + 1]? = some (.loop lo) := ⟨_, rfl, hrec⟩
  have hsz2 := heap_lt hrec'
  have hne : w.heap.size ≠ w.heap.size + 1 := by omega
  refine Ret.mono (hI (w.heap.size + 1) w2 (fun i Mh w' => (∃ M : Mt, (Mh = fun x => x = w.heap.size + 1 ∨ M x) ∧ J i M w') ∧ w'.heap[w.heap.size + 1]? = some (.loop lo) ∧ w'.heap[w.heap.size]? = some (.deferred (some []))) (fun w' => E w' ∧ (∃ lp, w'.heap[w.heap.size + 1]? = some (.loop lp) ∧ lp.state = .done ∧ lp.pending = some .ret) ∧ w'.heap[w.heap.size]? = some (.deferred (some [])))
    (let ⟨M, hM⟩ := hj0 w2 hx2 hsz2; ⟨_, ⟨M, rfl, hM⟩, hrec', hD⟩) (fun i Mh w' w'' h hx => ⟨let ⟨M, hMh, hM⟩ := h.1; ⟨M, hMh, hjs i M w' w'' hM (hx.mono fun x hx => List.mem_cons_of_mem _ (List.mem_cons_of_mem _ hx))⟩, hx.to h.2.1 hZ.2, hx.to h.2.2 hZ.1⟩)
    (fun w' w'' h hx => ⟨hes w' w'' h.1 (hx.mono fun x hx => List.mem_cons_of_mem _ (List.mem_cons_of_mem _ hx)), let ⟨lp, h1, h2⟩ := h.2.1; ⟨lp, hx.to h1 hZ.2, h2⟩, hx.to h.2.2 hZ.1⟩) (fun i Mh w' h => by
      obtain ⟨⟨M, rfl, hM⟩, hl, _⟩ := h
      exact ⟨fun x hx => hx.elim (fun h => by rw [h]; exact heap_lt hl) fun h => ((hk i M w' hM).1 x h).1, (hk i M w' hM).2⟩) ?_) ?_
  · rintro i v Mh w' hx ⟨⟨M, rfl, hJ⟩, hl, hDw⟩
    have hsz := heap_lt hl
    have hkM := (hk i M w' hJ).1
    have hbody := hb i v M w' hx hJ hsz
    have hlp : lo.params = ps := by rw [hlo]
    have hla : lo.assign = assign := by rw [hlo]
    have hlb : lo.body = body := by rw [hlo]
    have hlt : lo.tmps = tmps := by rw [hlo]
    have hls : lo.state = .ready := by rw [hlo]
    have hpd : lo.pending = none := by rw [hlo]
    refine yield_of hl (by rw [hlp]; exact hlen v (List.mem_of_getElem? hx)) ?_
    rw [hlp, hla, hlb, hlt, fold_zip]
    have hs0 : Sim n (⟨e.g, []⟩ : Env) ({ tmps := tmps, defers := [] } : Act) := ⟨rfl, hts, htm⟩
    refine round_of_W (putsP ⟨e.g, []⟩ (ps.toList.zip v)) (sim_zip _ hs0 fun p hp => ?_) hfit ?_
    · have h1 := List.all_eq_true.1 hps p.1 (List.of_mem_zip hp).1
      exact of_decide_eq_true h1
    · refine W_mono assign ?_ hbody
      intro x e1 w1 hq
      cases x with
      | normal =>
        obtain ⟨hS, hW⟩ := hq
        have hl1 := hS.to hl (by simp)
        have hD1 := hS.to hDw (by simp)
        have hxB := Ext.setB w1 (w.heap.size + 1) (.loop { lo with state := .busy })
        refine ⟨lo, hl1, hls, W_mono body ?_ (hW _ hxB)⟩
        have hlB : (w1.putObj (w.heap.size + 1) (.loop { lo with state := .busy })).heap[w.heap.size + 1]? = some (.loop { lo with state := .busy }) := setB_same hl1
        have hDB : (w1.putObj (w.heap.size + 1) (.loop { lo with state := .busy })).heap[w.heap.size]? = some (.deferred (some [])) := hxB.to hD1 (by simp)
        intro y e3 w3 hq3
        cases y with
        | normal =>
          obtain ⟨M', hJ3, hM', S3, hS3, hin⟩ := hq3
          have hlS3 : w.heap.size + 1 ∉ S3 := fun h => by
            rcases hin _ h with h | h
            · exact (hkM _ h).2.2 rfl
            · omega
          have hDS3 : w.heap.size ∉ S3 := fun h => by
            rcases hin _ h with h | h
            · exact (hkM _ h).2.1 rfl
            · omega
          have hl3 := hS3.to hlB hlS3
          have hD3 := hS3.to hDB hDS3
          have hx4 := Ext.setB w3 (w.heap.size + 1) (.loop { ({ lo with state := .busy } : Loop) with state := .ready, pending := none })
          refine ⟨_, hl3, .inl ⟨rfl, fun x => x = w.heap.size + 1 ∨ M' x, ⟨⟨M', rfl, hjs _ _ _ _ hJ3 (hx4.mono (by simp))⟩, ?_, hx4.to hD3 (by simp)⟩, ⟨⟨(w.heap.size + 1) :: S3, fun x hx => ?_, ?_⟩, fun x hx => ?_⟩⟩⟩
          · rw [setB_same hl3]
            congr 2
            cases lo
            simp_all
          · rcases List.mem_cons.1 hx with h | h
            · exact .inl (.inl h)
            · exact (hin x h).imp .inr id
          · exact (((hS.mono (by simp)).trans (hxB.mono (by simp))).trans (hS3.mono fun x h => List.mem_cons_of_mem _ h)).trans (hx4.mono (by simp))
          · rcases hx with h | h
            · exact .inl (.inl h)
            · exact (hM' x h).imp .inr id
        | ret =>
          obtain ⟨hE3, S3, hS3, hDS3, hlS3⟩ := hq3
          have hl3 := hS3.to hlB hlS3
          have hD3 := hS3.to hDB hDS3
          have hx4 := Ext.setB w3 (w.heap.size + 1) (.loop { ({ lo with state := .busy } : Loop) with state := .done, pending := some .ret })
          exact ⟨_, hl3, .inr ⟨rfl, hes _ _ hE3 (hx4.mono (by simp)), ⟨_, setB_same hl3, rfl, rfl⟩, hx4.to hD3 (by simp)⟩⟩
        | exit id => exact hq3.elim
        | goto t => exact hq3.elim
        | panic c => exact hq3.elim
        | outgrown => exact hq3.elim
      | exit id => exact hq.elim
      | goto t => exact hq.elim
      | ret => exact hq.elim
      | panic c => exact hq.elim
      | outgrown => exact hq.elim
  · intro v w3 h
    rcases h with ⟨Mh, ⟨M, _, h1⟩, h2, h3⟩ | ⟨h1, h2, h3⟩
    · have hx4 := Ext.setB w3 (w.heap.size + 1) (.loop { lo with state := .exhausted })
      exact ⟨lo, h2, by rw [hlo]; exact (fun h => by cases h), jump_none (by rw [hlo]) (hend M _ (hjs _ _ _ _ h1 (hx4.mono (by simp))) (hx4.to h3 (by simp)))⟩
    · obtain ⟨lp, h2, h4, h5⟩ := h2
      have hx4 := Ext.setB w3 (w.heap.size + 1) (.loop { lp with state := .exhausted })
      exact ⟨lp, h2, by rw [h4]; exact (fun h => by cases h), jump_ret h5 (hret _ (hes _ _ h1 (hx4.mono (by simp))) (hx4.to h3 (by simp)))⟩
theorem marks_one {w : World} {D : Nat} {ds : List Deferred} {K : World → Prop} (hD : w.heap[D]? = some (.deferred (some []))) (hds : ds = [{ target := .collected D, args := #[] }]) (hK : ∀ wF, Ext [D] w wF → K wF) : Marks ds w K := by
  subst hds
  exact ⟨D, rfl, hD, hK _ (Ext.setB w D _)⟩
theorem q_buildS {C : World → Prop} {K : Env → Prop} {ops rest : List Oper} {dst : Option Tmp} {ty : TypeId} {pos : String} {af : Array Edge} {g : Option (Nat × Bool)} {t : TypeId} {parts : Array (Nat × Operand)} {pl : List (Nat × Nat)} {zl : List Value} (l : List Value) (hg : wants ⟨dst, .build t parts, ty, pos, af, g⟩ ops e = true) (hp : placesB P t = some pl) (hz : zcells P t = some zl)
    (hl : Instr.fill (fun i => pl.toArray[i]?) zl.toArray (parts.toList.map fun p => (p.1, ev e p.2)) = some l.toArray) (h : Wq P ops C K rest (put e dst (.agg l.toArray))) :
    Wq P ops C K (⟨dst, .build t parts, ty, pos, af, g⟩ :: rest) e := by
  refine q_val hg (fun w _ => ?_) h
  have hb : P.built t (parts.map fun (i, x) => (i, ev e x)).toList = some l.toArray := built_of hp hz (by rw [Array.toList_map]; exact hl)
  simp [execOp, run_build w t _ _ hb]
end
end Go.GV

/- What flows over: the walks. -/
namespace Go.Proofs.YtapphbmlkdhnmaaGreat
open Go.GV
theorem ag_26_SeC : aggB Tryz.prog 26 = some false := by kernel_rfl
theorem ag_28_SeC : aggB Tryz.prog 28 = some true := by kernel_rfl
theorem ag_29_SeC : aggB Tryz.prog 29 = some false := by kernel_rfl
theorem ag_2_SeC : aggB Tryz.prog 2 = some false := by kernel_rfl
theorem ag_3_SeC : aggB Tryz.prog 3 = some false := by kernel_rfl
theorem ag_92_SeC : aggB Tryz.prog 92 = some true := by kernel_rfl
theorem by_2_SeC : tbytes Tryz.prog 2 = some 8 := by kernel_rfl
theorem ca_178_SeC : callable Tryz.prog 178 = true := by kernel_rfl
theorem ca_179_SeC : callable Tryz.prog 179 = true := by kernel_rfl
theorem ca_210_SeC : callable Tryz.prog 210 = true := by kernel_rfl
theorem ca_224_SeC : callable Tryz.prog 224 = true := by kernel_rfl
theorem el_26_SeC : elemT Tryz.prog 26 = some 92 := by kernel_rfl
theorem el_29_SeC : elemT Tryz.prog 29 = some 2 := by kernel_rfl
theorem fo_28_0_SeC : fieldO Tryz.prog 28 0 = some 0 := by kernel_rfl
theorem fo_28_1_SeC : fieldO Tryz.prog 28 1 = some 1 := by kernel_rfl
theorem fo_92_0_SeC : fieldO Tryz.prog 92 0 = some 0 := by kernel_rfl
theorem fo_92_1_SeC : fieldO Tryz.prog 92 1 = some 1 := by kernel_rfl
theorem mixed_SeC : Tryz.prog.follows .mixedOrders = true := by kernel_rfl
theorem sz_28_SeC : tsize Tryz.prog 28 = some 2 := by kernel_rfl
theorem sz_29_SeC : tsize Tryz.prog 29 = some 1 := by kernel_rfl
theorem sz_2_SeC : tsize Tryz.prog 2 = some 1 := by kernel_rfl
theorem sz_92_SeC : tsize Tryz.prog 92 = some 4 := by kernel_rfl
theorem zc_29_SeC : zcells Tryz.prog 29 = some ([.slice none 0 0]) := by kernel_rfl
theorem zc_2_SeC : zcells Tryz.prog 2 = some ([.int .i64 0]) := by kernel_rfl
theorem zc_92_SeC : zcells Tryz.prog 92 = some ([.int .i64 0, .int .i64 0, .int .i64 0, .int .i64 0]) := by kernel_rfl
attribute [local irreducible] Wops W Wq Wt

abbrev ptr (b : Nat) : Value := .pointer (some ⟨b, 0, none⟩)
/-! ### Tables -/
def tab (f : Nat → Int) (n : Nat) : List Int := (List.range n).map f
theorem tab_len (f : Nat → Int) (n : Nat) : (tab f n).length = n := by unfold tab; simp
theorem tab_get {f : Nat → Int} {n i : Nat} (h : i < n) : (tab f n)[i]? = some (f i) := range_get h
theorem tab_of (l : List Int) : tab (fun i => l.getD i 0) l.length = l := by
  apply List.ext_getElem?
  intro j
  by_cases hj : j < l.length
  · rw [tab_get hj, List.getD_eq_getElem?_getD, List.getElem?_eq_getElem hj]; rfl
  · rw [List.getElem?_eq_none (by rw [tab_len]; omega), List.getElem?_eq_none (by omega)]
theorem tab_at {f : Nat → Int} {n i : Nat} {x : Int} (h : (tab f n)[i]? = some x) : i < n ∧ x = f i := by
  have h1 := get_lt h
  rw [tab_len] at h1
  rw [tab_get h1] at h
  cases h
  exact ⟨h1, rfl⟩
abbrev tabV (f : Nat → Int) (n : Nat) : List Value := (List.range n).map fun i => .int .i64 (f i)
theorem tabV_flat (f : Nat → Int) (n : Nat) : tabV f n = (tab f n).flatMap I1 := by
  unfold tab I1
  rw [flat1, List.map_map]; rfl
theorem tab_rd {w : World} {b : Nat} {t : TypeId} {f : Nat → Int} {n : Nat} (h : w.heap[b]? = some (Bl t (tabV f n))) : Rd w (some ⟨b, 0, none⟩) 1 I1 (tab f n) :=
  Rd.of_bl (r := []) (enc := I1) (xs := tab f n) h (by rw [tabV_flat, List.append_nil]) fun _ _ => rfl

def e0 : Ed := ⟨0, 0, 0, 0⟩
/-- A net as a graph. -/
def grE (N : Int) (es : List Ed) : Gr := ⟨N.toNat, es.length, fun i => (es.getD i e0).f.toNat, fun i => (es.getD i e0).t.toNat, fun i => (es.getD i e0).cost⟩
def capE (es : List Ed) (i : Nat) : Int := (es.getD i e0).cap
def flE (fl : List Int) (i : Nat) : Int := fl.getD i 0
theorem getD_of {α : Type} {l : List α} {i : Nat} {x d : α} (h : l[i]? = some x) : l.getD i d = x := by rw [List.getD_eq_getElem?_getD, h]; rfl
def overL (N : Int) (es : List Ed) (fl : List Int) : List Int := tab (over7 (grE N es) (flE fl)) N.toNat
def flowsN (N : Int) (es : List Ed) (fl : List Int) : Bool := withinN N es fl && (overL N es fl).all fun x => decide (x = 0)

/-! ### The edges, one by one -/
theorem edges_ok (N : Int) (a b : Option Addr) (n c m d : Nat) (w : World) : Ret Tryz.prog 210 #[netV N a n c, .slice b m d] w fun v w' => ∃ b2 b3, v = .func (.func 224) #[] #[ptr b2, ptr b3] ∧ w'.heap[b2]? = some (Bl 28 [.int .i64 N, .slice a n c]) ∧ w'.heap[b3]? = some (Bl 29 [.slice b m d]) ∧ w.heap.size ≤ b2 ∧ w.heap.size ≤ b3 ∧ b2 ≠ b3 ∧ Ext [] w w' := by
  obtain ⟨w0, rfl⟩ : ∃ w0, w0 = w := ⟨_, rfl⟩
  have H := Ctx.start w0 []
  refine ret_of_W (fn := Tryz.f210) Tryz.func210 rfl [netV N a n c, .slice b m d] rfl (by kernel_rfl) ?_
  refine W_rseq ?_
  refine op_box rfl [.int .i64 N, .slice a n c] (.agg _) rfl rfl H ?_
  rintro b2 w - H
  refine op_box rfl _ (.slice _ _ _) rfl rfl H ?_
  rintro b3 w - H
  refine op_assign rfl .nilFunc rfl ?_
  refine op_nil (at_then ?_)
  refine W_rseq ?_
  refine op_makeFuncL rfl [.pointer _, .pointer _] rfl ?_
  refine op_assign rfl (.func _ _ _) rfl ?_
  refine op_nil (at_then ?_)
  refine W_ret (leave1 (v := (.func _ _ _)) rfl rfl rfl ?_)
  have ho : ∀ x ∈ [(b3, Bl 29 [.slice b m d]), (b2, Bl 28 [.int .i64 N, .slice a n c])], w0.heap.size ≤ x.1 := fun x hx => (H.own x hx).elim (fun h => by cases h) id
  exact ⟨b2, b3, rfl, H.get at1, H.get at0, ho (b2, _) (List.mem_cons_of_mem _ (List.mem_cons_self ..)), ho (b3, _) (List.mem_cons_self ..), H.ne at1 at0 (by decide), H.ext⟩
def flowV (p : Ed × Int) : List Value := [.agg (encE p.1).toArray, .int .i64 p.2]
/-- What the rounds leave. -/
structure EdgeK (b2 b3 : Nat) (N : Int) (a b : Option Addr) (n c m d : Nat) (es : List Ed) (fl : List Int) (w : World) : Prop where
  h2 : w.heap[b2]? = some (Bl 28 [.int .i64 N, .slice a n c])
  h3 : w.heap[b3]? = some (Bl 29 [.slice b m d])
  R : Rd w a 4 encE es
  Rf : Rd w b 1 I1 fl
theorem zip_get {α β : Type} {l : List α} {m : List β} {i : Nat} {x : α} {y : β} (h1 : l[i]? = some x) (h2 : m[i]? = some y) : (l.zip m)[i]? = some (x, y) := by
  rw [List.getElem?_zip_eq_some]; exact ⟨h1, h2⟩

set_option maxRecDepth 20000 in
set_option maxHeartbeats 2000000 in
theorem edges1_ok {b2 b3 : Nat} {N : Int} {a b : Option Addr} {n c m d : Nat} {es : List Ed} {fl : List Int} (hn : es.length = n) (hm : fl.length = m) (hnm : n = m) (hn2 : n ≤ 1000000) : IterOk Tryz.prog 224 #[ptr b2, ptr b3] [] (fun _ w => EdgeK b2 b3 N a b n c m d es fl w) ((es.zip fl).map flowV) := by
  subst hn hm
  intro l w J E hJ0 hJs hEs hK hY
  obtain ⟨M0, hJ0⟩ := hJ0
  obtain ⟨w0, rfl⟩ : ∃ w0, w0 = w := ⟨_, rfl⟩
  have hlen : ((es.zip fl).map flowV).length = es.length := by rw [List.length_map, List.length_zip]; omega
  refine ret_of_W (fn := Tryz.f224) Tryz.func224 rfl [.func (.yield l) #[] #[], .pointer (some ⟨b2, 0, none⟩), .pointer (some ⟨b3, 0, none⟩)] rfl (by kernel_rfl) ?_
  have K0 := (hK _ _ _ hJ0).2
  refine W_rseq ?_
  refine op_fieldAddr rfl fo_28_1_SeC rfl ?_
  first | refine op_ldb rfl ag_26_SeC rfl H (by first | exact at0 | exact at1 | exact at2 | exact at3 | exact at4 | exact at5 | exact at6 | exact at7 | exact at8 | exact at9) rfl ?_ | refine op_ld rfl ag_26_SeC rfl ((by rw [cell_bl K0.h2]; rfl)) ?_
  refine op_len rfl el_26_SeC rfl ?_
  refine op_move rfl (.int _ _) rfl ?_
  refine op_nil (at_then ?_)
  refine W_block ?_
  refine W_loop 8388144 (α := Nat) (fun i => [(9, .int .i64 (i : Int))]) (fun i w' => i ≤ es.length ∧ ∃ M, J i M w') (fun i => es.length - i) 0 rfl ?_ ?_ ?_
  · exact ⟨rfl, trivial⟩
  · exact ⟨Nat.zero_le _, M0, hJ0⟩
  · rintro i j w ⟨hi, M, hJ⟩
    have KK := (hK _ _ _ hJ).2
    have R := KK.R
    have Rf := KK.Rf
    obtain ⟨w1, rfl⟩ : ∃ w1, w1 = w := ⟨_, rfl⟩
    have H := Ctx.start w1 []
    refine W_rseq ?_
    refine op_lss rfl rfl rfl ?_
    refine op_nil (at_then ?_)
    refine W_seq ?_
    refine W_cond _ rfl ?_ ?_
    · intro h1
      replace h1 := dec_t h1
      obtain ⟨e, he⟩ := get_some (l := es) (i := i) (by omega)
      obtain ⟨x, hfx⟩ := get_some (l := fl) (i := i) (by omega)
      refine W_skip (at_then ?_)
      refine W_seq ?_
      refine W_block ?_
      refine W_rseq ?_
      refine op_move rfl (.int _ _) rfl ?_
      first | refine op_indexRd R rfl el_26_SeC sz_92_SeC rfl rfl (by omega) (by omega) (by first | rfl | omega) ?_ | refine op_indexAddr rfl el_26_SeC sz_92_SeC rfl rfl (by omega) (by omega) ?_
      first | refine op_ldN _ rfl ag_92_SeC sz_92_SeC rfl rfl ((R.ext0 H.ext).row he rfl) ?_ | refine op_ldbN rfl ag_92_SeC sz_92_SeC rfl H (by first | exact at0 | exact at1 | exact at2 | exact at3 | exact at4 | exact at5 | exact at6 | exact at7 | exact at8 | exact at9) rfl ?_
      refine op_alloc rfl zc_92_SeC H ?_
      rintro b5 w - H
      refine op_assign rfl (.int _ _) rfl ?_
      refine op_stb0 rfl sz_92_SeC rfl rfl rfl (by first | exact encE_one _ | simp [oneCell]) H (by first | exact at0 | exact at1 | exact at2 | exact at3 | exact at4 | exact at5 | exact at6 | exact at7 | exact at8 | exact at9) rfl ?_
      rintro w H
      refine op_nil (at_then ?_)
      have hY1 := hY i (flowV (e, x)) M w.drew (by rw [List.getElem?_map, zip_get he hfx]; rfl) (hJs _ _ _ _ hJ (H.ext.trans (Ext.drew [] w)))
      have KR := (hK _ _ _ (hJs _ _ _ _ hJ (H.ext.trans (Ext.drew [] w)))).2
      refine W_tseq 6 mixed_SeC (by kernel_rfl) rfl rfl ?_
      refine q_move rfl (.func _ _ _) rfl ?_
      refine q_ldbN rfl ag_92_SeC sz_92_SeC rfl (by rintro _ rfl; exact H.drew) (by first | exact at0 | exact at1 | exact at2 | exact at3 | exact at4 | exact at5 | exact at6 | exact at7 | exact at8 | exact at9) rfl ?_
      first | refine q_ldb rfl ag_29_SeC rfl (by rintro _ rfl; exact H.drew) (by first | exact at0 | exact at1 | exact at2 | exact at3 | exact at4 | exact at5 | exact at6 | exact at7 | exact at8 | exact at9) rfl ?_ | refine q_ld rfl ag_29_SeC rfl (by rintro _ rfl; exact ((by rw [cell_bl KR.h3]; rfl))) ?_ | refine q_ld rfl ag_29_SeC rfl (by rintro _ rfl; exact ((KR.Rf.fld hfx rfl (j := 0) rfl))) ?_
      refine q_move rfl (.int _ _) rfl ?_
      first | refine q_indexRd R rfl el_29_SeC sz_2_SeC rfl rfl (by omega) (by omega) (by first | rfl | omega) ?_ | refine q_indexRd Rf rfl el_29_SeC sz_2_SeC rfl rfl (by omega) (by omega) (by first | rfl | omega) ?_ | refine q_indexAddr rfl el_29_SeC sz_2_SeC rfl rfl (by omega) (by omega) ?_
      first | refine q_ldb rfl ag_2_SeC rfl (by rintro _ rfl; exact H.drew) (by first | exact at0 | exact at1 | exact at2 | exact at3 | exact at4 | exact at5 | exact at6 | exact at7 | exact at8 | exact at9) rfl ?_ | refine q_ld rfl ag_2_SeC rfl (by rintro _ rfl; exact ((by rw [cell_bl KR.h3]; rfl))) ?_ | refine q_ld rfl ag_2_SeC rfl (by rintro _ rfl; exact ((KR.Rf.fld hfx rfl (j := 0) rfl))) ?_
      refine q_nil ?_
      replace H := H.drew
      refine op_yield (vs := flowV (e, x)) rfl rfl hY1 rfl ?_
      rintro u w hu
      obtain ⟨bb, rfl, hu1, hu0⟩ : ∃ bb, u = .bool bb ∧ (bb = true → ∃ M, J (i + 1) M w) ∧ (bb = false → E w) := hu.elim (fun h => ⟨true, h.1, fun _ => let ⟨M', h1, _⟩ := h.2; ⟨M', h1⟩, fun h => by cases h⟩) (fun h => ⟨false, h.1, (fun h => by cases h), fun _ => h.2⟩)
      refine op_not rfl rfl ?_
      refine op_nil (at_then ?_)
      refine W_cond _ rfl ?_ ?_
      · intro h2
        replace h2 := nvar_t h2
        refine W_ret (ret_block (ret_then (ret_then (ret_block (leave0 rfl rfl ?_)))))
        exact .inr (hu0 (by simpa using h2))
      · intro h2
        replace h2 := nvar_f h2
        refine W_skip (at_block (at_then ?_))
        refine W_region ?_
        refine op_add_i64 rfl rfl rfl (by omega) (by omega) ?_
        refine op_move rfl (.int _ _) rfl ?_
        refine op_nil (at_then ?_)
        exact ⟨i + 1, rfl, ⟨rfl, trivial⟩, ⟨by omega, hu1 (by simpa using h2)⟩, by omega⟩
    · intro h1
      replace h1 := dec_f h1
      refine W_exit (exit_then (exit_then (exit_here (leave0n rfl rfl ?_))))
      obtain rfl : i = es.length := by omega
      exact .inl ⟨M, by rw [hlen]; exact hJ⟩

/-! ### What comes to each node, less what goes -/
theorem one_t {p : Prop} [Decidable p] (h : p) : one p = 1 := if_pos h
theorem one_f {p : Prop} [Decidable p] (h : ¬ p) : one p = 0 := if_neg h
theorem upd_same (p : Nat → Int) (v : Nat) (x : Int) : upd p v x v = x := if_pos rfl
theorem upd_ne {p : Nat → Int} {v : Nat} {x : Int} {u : Nat} (h : u ≠ v) : upd p v x u = p u := if_neg h
theorem over_step (g : Gr) (x : Nat → Int) (k v : Nat) : overK g x (k + 1) v = overK g x k v + (one (g.t k = v) - one (g.f k = v)) * x k := rfl

set_option maxRecDepth 20000 in
set_option maxHeartbeats 4000000 in
theorem over_ok (N : Int) (a b : Option Addr) (n c m d : Nat) (es : List Ed) (fl : List Int) (w : World) (R : Rd w a 4 encE es) (hn : es.length = n) (hN : I64 N) (Rf : Rd w b 1 I1 fl) (hm : fl.length = m) (hm2 : m ≤ 9223372036854775000) :
    Ret Tryz.prog 179 #[netV N a n c, .slice b m d] w fun v w' => (withinN N es fl = false → v = .slice none 0 0) ∧ (withinN N es fl = true → ∃ b', v = .slice (some ⟨b', 0, none⟩) N.toNat N.toNat ∧ w'.heap[b']? = some (Bl 2 (tabV (over7 (grE N es) (flE fl)) N.toNat)) ∧ w.heap.size ≤ b') ∧ Ext [] w w' := by
  subst hn hm
  obtain ⟨w0, rfl⟩ : ∃ w0, w0 = w := ⟨_, rfl⟩
  have H := Ctx.start w0 []
  refine ret_of_WM (fn := Tryz.f179) Tryz.func179 rfl [netV N a es.length c, .slice b fl.length d] rfl (by kernel_rfl) ?_
  refine W_rseq ?_
  refine op_box rfl [.int .i64 N, .slice a es.length c] (.agg _) rfl rfl H ?_
  rintro b2 w - H
  refine op_assign rfl (.slice _ _ _) rfl ?_
  refine op_nil (at_then ?_)
  refine W_seq ?_
  refine W_rseq ?_
  refine op_ldbN rfl ag_28_SeC sz_28_SeC rfl H (by first | exact at0 | exact at1 | exact at2 | exact at3 | exact at4 | exact at5 | exact at6 | exact at7 | exact at8 | exact at9) rfl ?_
  refine op_move rfl (.slice _ _ _) rfl ?_
  refine op_call rfl ca_178_SeC (within_ok N a b es.length c fl.length d es fl _ (R.ext0 H.ext) rfl hN (Rf.ext0 H.ext) rfl hm2) rfl ?_
  rintro v w ⟨rfl, hx10⟩
  replace H := H.call hx10
  refine op_not rfl rfl ?_
  refine op_nil (at_then ?_)
  refine W_cond _ rfl ?_ ?_
  · intro h1
    replace h1 := nvar_t h1
    refine W_rseq ?_
    refine op_assign rfl (.slice _ _ _) rfl ?_
    refine op_nil (at_then ?_)
    refine W_ret (ret_then (leaveM1 (v := (.slice _ _ _)) rfl rfl ?_))
    have h1' : withinN N es fl = false := by simpa using h1
    exact ⟨fun _ => rfl, fun h => (by rw [h1'] at h; cases h), H.ext⟩
  · intro h1
    replace h1 := nvar_f h1
    have h1' : withinN N es fl = true := by simpa using h1
    obtain ⟨hl, hr, hin⟩ := within_of h1'
    obtain ⟨hN1, hN40, hn200, hed, -⟩ := right_of hr
    obtain ⟨nn, rfl⟩ : ∃ nn : Nat, N = (nn : Int) := ⟨N.toNat, by omega⟩
    obtain ⟨g, hg⟩ : ∃ g, g = grE (nn : Int) es := ⟨_, rfl⟩
    obtain ⟨x, hx⟩ : ∃ x, x = flE fl := ⟨_, rfl⟩
    have hgE : g.E = es.length := by rw [hg]; rfl
    refine W_skip (at_then ?_)
    refine W_rseq ?_
    refine op_fieldAddr rfl fo_28_0_SeC rfl ?_
    refine op_ldb rfl ag_3_SeC rfl H (by first | exact at0 | exact at1 | exact at2 | exact at3 | exact at4 | exact at5 | exact at6 | exact at7 | exact at8 | exact at9) rfl ?_
    refine op_make rfl el_29_SeC sz_2_SeC by_2_SeC zc_2_SeC rfl rfl (by omega) (by omega) (by omega) (by omega) H ?_
    rintro b14 w - H
    rw [show ((nn : Int)).toNat = nn from rfl, rep_range] at H
    refine op_alloc rfl zc_29_SeC H ?_
    rintro b5 w - H
    refine op_stb (.slice _ _ _) rfl sz_29_SeC rfl rfl rfl H (by first | exact at0 | exact at1 | exact at2 | exact at3 | exact at4 | exact at5 | exact at6 | exact at7 | exact at8 | exact at9) (by first | decide | (simp; done) | (simp; omega)) ?_
    rintro w H
    refine op_nil (at_then ?_)
    refine W_seq ?_
    refine W_rseq ?_
    refine op_ldbN rfl ag_28_SeC sz_28_SeC rfl H (by first | exact at0 | exact at1 | exact at2 | exact at3 | exact at4 | exact at5 | exact at6 | exact at7 | exact at8 | exact at9) rfl ?_
    refine op_move rfl (.slice _ _ _) rfl ?_
    have hlt := H.lt (k := 0) rfl
    have hlt1 := H.lt (k := 1) rfl
    refine op_call rfl ca_210_SeC (edges_ok (nn : Int) a b es.length c fl.length d _) rfl ?_
    rintro v w ⟨x2, x3, rfl, hb2, hb3, hs2, hs3, hne, hx17⟩
    have H3 := (H.callAdd hx17 hb2 hs2).add hb3 (.inr (Nat.le_trans H.size hs3)) (fun y hy => (List.mem_cons.1 hy).elim (fun h => by rw [h]; exact hne) fun hy => Nat.ne_of_lt (Nat.lt_of_lt_of_le (heap_lt (H.blk y hy)) hs3))
    refine op_nil (at_then ?_)
    refine W_block ?_
    obtain ⟨ws, rfl⟩ : ∃ z, z = w := ⟨_, rfl⟩
    have hk3 := H3.lt (k := 0) rfl
    have hk2 := H3.lt (k := 1) rfl
    have hk5 := H3.lt (k := 2) rfl
    have hk14 := H3.lt (k := 3) rfl
    have hkb := H3.lt (k := 4) rfl
    have hs0 := H3.size
    replace H3 := H3.perm (List.perm_middle (l₁ := [_, _, _]) (l₂ := [_]))
    refine W_range (gf := 224) rfl ca_224_SeC (edges1_ok (b2 := x2) (b3 := x3) (N := (nn : Int)) (a := a) (b := b) (c := c) (d := d) (es := es) (fl := fl) rfl rfl hl.symm (by omega)) (by kernel_rfl) (by kernel_rfl) (fun v hv => by obtain ⟨p, -, rfl⟩ := List.mem_map.1 hv; rfl)
      (fun i M w' => (M = fun y => y = b14) ∧ Ctx w0 [] w' [(b14, Bl 2 (tabV (overK g x i) nn)), (x3, Bl 29 [.slice b fl.length d]), (x2, Bl 28 [.int .i64 (nn : Int), .slice a es.length c]), (b5, Bl 29 [.slice (some ⟨b14, 0, none⟩) nn nn]), (b2, Bl 28 [.int .i64 (nn : Int), .slice a es.length c])]) (fun _ => False) (by simp)
      (fun w2 hx2 _ => ⟨_, rfl, H3.call hx2⟩) (fun i M w' w'' hJ hx => ⟨hJ.1, hJ.2.step hx (fun y hy => ?_) fun z hz => .inr ?_⟩) (fun _ _ h _ => h) (fun i M w' hJ => ⟨fun y hy => ?_, hJ.2.get at2, hJ.2.get at1, R.ext0 hJ.2.ext, Rf.ext0 hJ.2.ext⟩) ?_ ?_ (fun _ h _ => h.elim)
    · simp only [List.mem_cons, List.not_mem_nil, or_false] at hy ⊢
      rcases hy with rfl | rfl | rfl | rfl | rfl <;> (dsimp only; omega)
    · simp only [List.mem_cons, List.not_mem_nil, or_false] at hz
      omega
    · rw [hJ.1] at hy
      subst hy
      exact ⟨heap_lt (hJ.2.get at0), by omega, by omega⟩
    · rintro i v _ w hxv ⟨rfl, HJ⟩ hsz
      rw [List.getElem?_map] at hxv
      obtain ⟨⟨e, xx⟩, hez, rfl⟩ := Option.map_eq_some_iff.1 hxv
      obtain ⟨he, hfx⟩ := List.getElem?_zip_eq_some.1 hez
      have hi := get_lt he
      obtain ⟨hf0, hfN, ht0, htN, -⟩ := edge_of (hed e (List.mem_of_getElem? he))
      obtain ⟨fn, hfn⟩ : ∃ fn : Nat, e.f = fn := ⟨e.f.toNat, by omega⟩
      obtain ⟨tn, htn⟩ : ∃ tn : Nat, e.t = tn := ⟨e.t.toNat, by omega⟩
      have hgf : g.f i = fn := by rw [hg]; show ((es.getD i e0).f.toNat) = fn; rw [getD_of he, hfn]; rfl
      have hgt : g.t i = tn := by rw [hg]; show ((es.getD i e0).t.toNat) = tn; rw [getD_of he, htn]; rfl
      have hxi : x i = xx := by rw [hx]; exact getD_of hfx
      have hxb : ∀ j, j < i + 1 → 0 ≤ x j ∧ x j ≤ 4503599627370496 := fun j hj => by
        obtain ⟨e', he'⟩ := get_some (l := es) (i := j) (by omega)
        obtain ⟨y, hy⟩ := get_some (l := fl) (i := j) (by omega)
        have h3 := hin j e' y he' hy
        have h4 := edge_of (hed e' (List.mem_of_getElem? he'))
        rw [hx]
        show 0 ≤ fl.getD j 0 ∧ fl.getD j 0 ≤ 4503599627370496
        rw [getD_of hy]
        omega
      have hbf := over_bnd (g := g) (x := x) fn (k := i) fun j hj => hxb j (by omega)
      have hbt := over_bnd (g := g) (x := x) tn (k := i) fun j hj => hxb j (by omega)
      have hxx := hxb i (by omega)
      rw [hxi] at hxx
      obtain ⟨o', ho'⟩ : ∃ o', o' = upd (overK g x i) fn (overK g x i fn - xx) := ⟨_, rfl⟩
      have hof : o' fn = overK g x i fn - xx := by rw [ho', upd_same]
      have hon : ∀ q, q ≠ fn → o' q = overK g x i q := fun q hq => by rw [ho', upd_ne hq]
      have hot : -(201 * 4503599627370496) ≤ o' tn ∧ o' tn ≤ 201 * 4503599627370496 := by
        by_cases h : tn = fn
        · rw [h, hof]; omega
        · rw [hon tn h]; omega
      have hst : ∀ q, overK g x (i + 1) q = upd o' tn (o' tn + xx) q := fun q => by
        rw [over_step, hgf, hgt, hxi]
        by_cases h1 : q = tn
        · subst h1
          rw [upd_same, one_t rfl]
          by_cases h2 : fn = q
          · subst h2; rw [one_t rfl, hof]; omega
          · rw [one_f h2, hon q (Ne.symm h2)]; omega
        · rw [upd_ne h1, one_f (Ne.symm h1)]
          by_cases h2 : fn = q
          · subst h2; rw [one_t rfl, hof]; omega
          · rw [one_f h2, hon q (Ne.symm h2)]; omega
      obtain ⟨w1, rfl⟩ : ∃ z, z = w := ⟨_, rfl⟩
      have H := Ctx.start w1 []
      refine W_rseq ?_
      refine op_alloc rfl zc_92_SeC H ?_
      rintro b6 w - H
      refine op_stb0 rfl sz_92_SeC rfl rfl rfl (by first | exact encE_one _ | simp [oneCell]) H (by first | exact at0 | exact at1 | exact at2 | exact at3 | exact at4 | exact at5 | exact at6 | exact at7 | exact at8 | exact at9) rfl ?_
      rintro w H
      refine op_nil (at_then ?_)
      refine W_region ?_
      refine op_assign rfl (.int _ _) rfl ?_
      refine op_nil ?_
      refine ⟨H.ext, fun wB hxB => ?_⟩
      have hb6 := (H.own _ (List.mem_cons_self ..)).elim (fun h => by cases h) id
      have HB := ((HJ.callAdd H.ext (H.get at0) hb6).step hxB (fun y hy => by
        simp only [List.mem_cons, List.not_mem_nil, or_false] at hy ⊢
        rcases hy with rfl | rfl | rfl | rfl | rfl | rfl <;> (dsimp only; omega)) (fun z hz => .inr (by rw [List.mem_singleton.1 hz]; omega))).perm (List.Perm.swap _ _ _)
      obtain ⟨w2, rfl⟩ : ∃ z, z = wB := ⟨_, rfl⟩
      have hb6B := HB.get at1
      have hb5B := HB.get at4
      have hn6 : b6 ∉ [b14] := by rw [List.mem_singleton]; omega
      have hn5 : b5 ∉ [b14] := by rw [List.mem_singleton]; exact HB.ne at4 at0 (by decide)
      have H := Ctx.lend (L1 := [_]) (L2 := _) HB
      dsimp only [List.map] at H
      refine W_block ?_
      refine W_rseq ?_
      first | refine op_ldb rfl ag_29_SeC rfl H (by first | exact at0 | exact at1 | exact at2 | exact at3 | exact at4 | exact at5 | exact at6 | exact at7 | exact at8 | exact at9) rfl ?_ | refine op_ld rfl ag_29_SeC rfl ((H.old (cell_bl hb5B _) hn5)) ?_ | refine op_ld rfl ag_29_SeC rfl ((H.old (cell_bl hb6B _) hn6)) ?_
      refine op_fieldAddr rfl fo_92_0_SeC rfl ?_
      first | refine op_ldb rfl ag_3_SeC rfl H (by first | exact at0 | exact at1 | exact at2 | exact at3 | exact at4 | exact at5 | exact at6 | exact at7 | exact at8 | exact at9) rfl ?_ | refine op_ld rfl ag_3_SeC rfl ((H.old (cell_bl hb5B _) hn5)) ?_ | refine op_ld rfl ag_3_SeC rfl ((H.old (cell_bl hb6B _) hn6)) ?_
      refine op_indexAddr rfl el_29_SeC sz_2_SeC rfl rfl (by omega) (by omega) ?_
      refine op_ldr fn _ rfl ag_2_SeC rfl H at0 (by rw [hfn]; simp) (by omega) rfl ?_
      refine op_move rfl (.int _ _) rfl ?_
      refine op_sub_i64 rfl rfl rfl (by omega) (by omega) ?_
      refine op_indexAddr rfl el_29_SeC sz_2_SeC rfl rfl (by omega) (by omega) ?_
      refine op_str fn (fun q => .int .i64 (o' q)) (.int _ _) rfl sz_2_SeC rfl rfl rfl H at0 (by rw [hfn]; simp) (by omega) (by rw [hof]) (fun q _ hq => by rw [hon q hq]) ?_
      rintro w H
      refine op_nil (at_then ?_)
      refine W_region ?_
      first | refine op_ldb rfl ag_29_SeC rfl H (by first | exact at0 | exact at1 | exact at2 | exact at3 | exact at4 | exact at5 | exact at6 | exact at7 | exact at8 | exact at9) rfl ?_ | refine op_ld rfl ag_29_SeC rfl ((H.old (cell_bl hb5B _) hn5)) ?_ | refine op_ld rfl ag_29_SeC rfl ((H.old (cell_bl hb6B _) hn6)) ?_
      refine op_fieldAddr rfl fo_92_1_SeC rfl ?_
      first | refine op_ldb rfl ag_3_SeC rfl H (by first | exact at0 | exact at1 | exact at2 | exact at3 | exact at4 | exact at5 | exact at6 | exact at7 | exact at8 | exact at9) rfl ?_ | refine op_ld rfl ag_3_SeC rfl ((H.old (cell_bl hb5B _) hn5)) ?_ | refine op_ld rfl ag_3_SeC rfl ((H.old (cell_bl hb6B _) hn6)) ?_
      refine op_indexAddr rfl el_29_SeC sz_2_SeC rfl rfl (by omega) (by omega) ?_
      refine op_ldr tn _ rfl ag_2_SeC rfl H at0 (by rw [htn]; simp) (by omega) rfl ?_
      refine op_move rfl (.int _ _) rfl ?_
      refine op_add_i64 rfl rfl rfl (by omega) (by omega) ?_
      refine op_indexAddr rfl el_29_SeC sz_2_SeC rfl rfl (by omega) (by omega) ?_
      refine op_str tn (fun q => .int .i64 (overK g x (i + 1) q)) (.int _ _) rfl sz_2_SeC rfl rfl rfl H at0 (by rw [htn]; simp) (by omega) (by rw [hst, upd_same]) (fun q _ hq => by rw [hst, upd_ne hq]) ?_
      rintro w H
      refine op_nil (at_block ?_)
      exact ⟨_, ⟨rfl, ((Ctx.back (L1 := [_]) (L1' := [_]) HB H).perm (List.Perm.swap _ _ _)).tail⟩, fun y h => .inl h, [b14], H.ext, fun y hy => .inl (List.mem_singleton.1 hy)⟩
    · rintro M w ⟨-, HJ⟩ hD
      rw [List.length_map, List.length_zip, hl, Nat.min_self] at HJ
      replace H := HJ
      refine at_block (at_then ?_)
      refine W_rseq ?_
      first | refine op_ldb rfl ag_29_SeC rfl H (by first | exact at0 | exact at1 | exact at2 | exact at3 | exact at4 | exact at5 | exact at6 | exact at7 | exact at8 | exact at9) rfl ?_ | refine op_ld rfl ag_29_SeC rfl ((H.old (cell_bl hb5B _) hn5)) ?_ | refine op_ld rfl ag_29_SeC rfl ((H.old (cell_bl hb6B _) hn6)) ?_
      refine op_assign rfl (.slice _ _ _) rfl ?_
      refine op_nil (at_then ?_)
      refine W_ret (leaveM1 (v := (.slice _ _ _)) rfl rfl ?_)
      refine marks_one hD rfl fun wF hxF => ?_
      refine ⟨fun h => (by rw [h1'] at h; cases h), fun _ => ⟨b14, rfl, ?_, ?_⟩, H.ext.then hxF fun z hz => .inr (by rw [List.mem_singleton.1 hz]; omega)⟩
      · rw [hxF.block b14 (heap_lt (H.get at0)) (by rw [List.mem_singleton]; omega)]
        have h3 := H.get at0
        rw [show over7 (grE (nn : Int) es) (flE fl) = overK g x es.length by rw [hg, hx]; rfl]
        exact h3
      · exact (H.own (b14, _) (List.mem_of_getElem? (i := 0) rfl)).elim (fun h => by cases h) id

theorem flows_ok (N : Int) (a b : Option Addr) (n c m d : Nat) (es : List Ed) (fl : List Int) (w : World) (R : Rd w a 4 encE es) (hn : es.length = n) (hN : I64 N) (Rf : Rd w b 1 I1 fl) (hm : fl.length = m) (hm2 : m ≤ 9223372036854775000) :
    Ret Tryz.prog 131 #[netV N a n c, .slice b m d] w fun v w' => v = .bool (flowsN N es fl) ∧ Ext [] w w' := by
  subst hn hm
  obtain ⟨w0, rfl⟩ : ∃ w0, w0 = w := ⟨_, rfl⟩
  have H := Ctx.start w0 []
  refine ret_of_W (fn := Tryz.f131) Tryz.func131 rfl [netV N a es.length c, .slice b fl.length d] rfl (by kernel_rfl) ?_
  refine W_rseq ?_
  refine op_box rfl [.int .i64 N, .slice a es.length c] (.agg _) rfl rfl H ?_
  rintro b2 w - H
  refine op_assign rfl (.bool _) rfl ?_
  refine op_nil (at_then ?_)
  refine W_seq ?_
  refine W_rseq ?_
  refine op_ldbN rfl ag_28_SeC sz_28_SeC rfl H (by first | exact at0 | exact at1 | exact at2 | exact at3 | exact at4 | exact at5 | exact at6 | exact at7 | exact at8 | exact at9) rfl ?_
  refine op_move rfl (.slice _ _ _) rfl ?_
  refine op_call rfl ca_178_SeC (within_ok N a b es.length c fl.length d es fl _ (R.ext0 H.ext) rfl hN (Rf.ext0 H.ext) rfl hm2) rfl ?_
  rintro v w ⟨rfl, hx9⟩
  replace H := H.call hx9
  refine op_not rfl rfl ?_
  refine op_nil (at_then ?_)
  refine W_cond _ rfl ?_ ?_
  · intro h1
    replace h1 := nvar_t h1
    refine W_rseq ?_
    refine op_assign rfl (.bool _) rfl ?_
    refine op_nil (at_then ?_)
    refine W_ret (ret_then (leave1 (v := (.bool _)) rfl rfl rfl ?_))
    have h1' : withinN N es fl = false := by simpa using h1
    exact ⟨congrArg Value.bool (by unfold flowsN; rw [h1']; rfl), H.ext⟩
  · intro h1
    replace h1 := nvar_f h1
    have h1' : withinN N es fl = true := by simpa using h1
    have hfN : flowsN N es fl = (overL N es fl).all fun x => decide (x = 0) := by unfold flowsN; rw [h1']; rfl
    obtain ⟨hN1, hN40, -⟩ := right_of (within_of h1').2.1
    obtain ⟨nn, rfl⟩ : ∃ nn : Nat, N = (nn : Int) := ⟨N.toNat, by omega⟩
    refine W_skip (at_then ?_)
    refine W_seq ?_
    refine W_rseq ?_
    refine op_ldbN rfl ag_28_SeC sz_28_SeC rfl H (by first | exact at0 | exact at1 | exact at2 | exact at3 | exact at4 | exact at5 | exact at6 | exact at7 | exact at8 | exact at9) rfl ?_
    refine op_move rfl (.slice _ _ _) rfl ?_
    refine op_call rfl ca_179_SeC (over_ok (nn : Int) a b es.length c fl.length d es fl _ (R.ext0 H.ext) rfl hN (Rf.ext0 H.ext) rfl hm2) rfl ?_
    rintro v w ⟨-, hv, hx13⟩
    obtain ⟨b13, rfl, hb13, hs13⟩ := hv h1'
    replace H := H.call hx13
    have R7 := tab_rd hb13
    rw [show ((nn : Int)).toNat = nn from rfl] at R7 ⊢
    refine op_len rfl el_29_SeC rfl ?_
    refine op_move rfl (.int _ _) rfl ?_
    refine op_nil (at_then ?_)
    refine W_block ?_
    have hov : overL (nn : Int) es fl = tab (over7 (grE (nn : Int) es) (flE fl)) nn := rfl
    rw [← hov] at R7
    have hlen : (overL (nn : Int) es fl).length = nn := by rw [hov, tab_len]
    obtain ⟨w7, rfl⟩ : ∃ z, z = w := ⟨_, rfl⟩
    refine W_loop 4161616 (α := Nat) (fun i => [(15, .int .i64 (i : Int))]) (fun i w' => i ≤ nn ∧ Ext [] w7 w' ∧ Ctx w0 [] w' [(b2, Bl 28 [.int .i64 (nn : Int), .slice a es.length c])] ∧ ∀ (k : Nat) (x : Int), k < i → (overL (nn : Int) es fl)[k]? = some x → decide (x = 0) = true) (fun i => nn - i) 0 rfl ?_ ?_ ?_
    · exact ⟨rfl, trivial⟩
    · exact ⟨Nat.zero_le _, .refl _ _, H, fun k x h => absurd h (Nat.not_lt_zero _)⟩
    · rintro i j w ⟨hi, hx7, H, hb⟩
      refine W_rseq ?_
      refine op_lss rfl rfl rfl ?_
      refine op_nil (at_then ?_)
      refine W_seq ?_
      refine W_cond _ rfl ?_ ?_
      · intro h2
        replace h2 := dec_t h2
        obtain ⟨x, h7x⟩ := get_some (l := overL (nn : Int) es fl) (i := i) (by omega)
        refine W_skip (at_then ?_)
        refine W_seq ?_
        refine W_block ?_
        refine W_rseq ?_
        first | refine op_indexRd R7 rfl el_29_SeC sz_2_SeC rfl rfl (by omega) (by omega) (by first | rfl | omega) ?_ | refine op_indexAddr rfl el_29_SeC sz_2_SeC rfl rfl (by omega) (by omega) ?_
        first | refine op_ldb rfl ag_2_SeC rfl H (by first | exact at0 | exact at1 | exact at2 | exact at3 | exact at4 | exact at5 | exact at6 | exact at7 | exact at8 | exact at9) rfl ?_ | refine op_ld rfl ag_2_SeC rfl (((R7.ext0 hx7).fld h7x rfl (j := 0) rfl)) ?_
        refine op_assign rfl (.int _ _) rfl ?_
        refine op_nil (at_then ?_)
        refine W_rseq ?_
        refine op_move rfl (.int _ _) rfl ?_
        refine op_neq rfl rfl rfl ?_
        refine op_nil (at_then ?_)
        refine W_cond _ rfl ?_ ?_
        · intro h3
          replace h3 := ndec_t h3
          refine W_rseq ?_
          refine op_assign rfl (.bool _) rfl ?_
          refine op_nil (at_then ?_)
          refine W_ret (ret_block (ret_then (ret_then (ret_block (ret_then (leave1 (v := (.bool _)) rfl rfl rfl ?_))))))
          exact ⟨congrArg Value.bool (by rw [hfN, all_false h7x (decide_eq_false (by simpa using h3))]), H.ext⟩
        · intro h3
          replace h3 := ndec_f h3
          refine W_skip (at_block (at_then ?_))
          refine W_region ?_
          refine op_add_i64 rfl rfl rfl (by omega) (by omega) ?_
          refine op_move rfl (.int _ _) rfl ?_
          refine op_nil (at_then ?_)
          refine ⟨i + 1, rfl, ⟨rfl, trivial⟩, ⟨by omega, hx7, H, fun k y hk hy => ?_⟩, by omega⟩
          rcases Nat.lt_or_ge k i with h7 | h7
          · exact hb k y h7 hy
          · obtain rfl : k = i := by omega
            rw [h7x] at hy
            cases hy
            simpa using h3
      · intro h2
        replace h2 := dec_f h2
        refine W_exit (exit_then (exit_then (exit_here (at_then ?_))))
        refine W_rseq ?_
        refine op_assign rfl (.bool _) rfl ?_
        refine op_nil (at_then ?_)
        refine W_ret (leave1 (v := (.bool _)) rfl rfl rfl ?_)
        exact ⟨congrArg Value.bool (by rw [hfN, all_true fun k x hk hx => hb k x (by omega) hx]), H.ext⟩
theorem flows_of {N : Int} {es : List Ed} {fl : List Int} (h : flowsN N es fl = true) : withinN N es fl = true ∧ ∀ v, v < N.toNat → over7 (grE N es) (flE fl) v = 0 := by
  unfold flowsN overL at h
  rw [Bool.and_eq_true] at h
  refine ⟨h.1, fun v hv => ?_⟩
  have h2 := List.all_eq_true.1 h.2 _ (List.mem_of_getElem? (tab_get hv))
  simpa using h2

end Go.Proofs.YtapphbmlkdhnmaaGreat

/- Whether what flows is the best: the walks. -/
namespace Go.Proofs.YtapphbmlkdhnmaaGreat
open Go.GV
theorem ag_26_SeD : aggB Tryz.prog 26 = some false := by kernel_rfl
theorem ag_28_SeD : aggB Tryz.prog 28 = some true := by kernel_rfl
theorem ag_29_SeD : aggB Tryz.prog 29 = some false := by kernel_rfl
theorem ag_2_SeD : aggB Tryz.prog 2 = some false := by kernel_rfl
theorem ag_3_SeD : aggB Tryz.prog 3 = some false := by kernel_rfl
theorem ca_170_SeD : callable Tryz.prog 170 = true := by kernel_rfl
theorem ca_180_SeD : callable Tryz.prog 180 = true := by kernel_rfl
theorem el_26_SeD : elemT Tryz.prog 26 = some 92 := by kernel_rfl
theorem el_29_SeD : elemT Tryz.prog 29 = some 2 := by kernel_rfl
theorem fo_28_0_SeD : fieldO Tryz.prog 28 0 = some 0 := by kernel_rfl
theorem fo_28_1_SeD : fieldO Tryz.prog 28 1 = some 1 := by kernel_rfl
theorem fo_31_0_SeD : fieldO Tryz.prog 31 0 = some 0 := by kernel_rfl
theorem fo_31_1_SeD : fieldO Tryz.prog 31 1 = some 1 := by kernel_rfl
theorem mixed_SeD : Tryz.prog.follows .mixedOrders = true := by kernel_rfl
theorem sz_28_SeD : tsize Tryz.prog 28 = some 2 := by kernel_rfl
theorem sz_2_SeD : tsize Tryz.prog 2 = some 1 := by kernel_rfl
attribute [local irreducible] Wops W Wq Wt

def farB (x : Int) : Bool := decide (-1099511627776 ≤ x) && decide (x ≤ 1099511627776)
def potN (N : Int) (pot : List Int) : Bool := pot.all farB && decide ((pot.length : Int) = N)
def lenI (N : Int) (es : List Ed) (pot : List Int) (k : Int) : Int := (endsI N es k).2.2 + pot.getD (endsI N es k).1.toNat 0 - pot.getD (endsI N es k).2.1.toNat 0
def tightB (N : Int) (es : List Ed) (fl pot : List Int) (k : Nat) : Bool := !(decide (lenI N es pot (k : Int) < 0) && decide (0 < roomI N es fl (k : Int)))
def tightN (N : Int) (es : List Ed) (fl pot : List Int) : Bool := (List.range (2 * es.length)).all (tightB N es fl pot)
def checkN (N : Int) (es : List Ed) (fl pot : List Int) : Bool := rightN N es && (flowsN N es fl && (potN N pot && tightN N es fl pot))

set_option maxRecDepth 20000 in
theorem pots_ok (N : Int) (a p : Option Addr) (n c m d : Nat) (pot : List Int) (w : World) (R : Rd w p 1 I1 pot) (hm : pot.length = m) (hm2 : m ≤ 9223372036854775000) :
    Ret Tryz.prog 133 #[netV N a n c, .slice p m d] w fun v w' => v = .bool (potN N pot) ∧ Ext [] w w' := by
  subst hm
  obtain ⟨w0, rfl⟩ : ∃ w0, w0 = w := ⟨_, rfl⟩
  have H := Ctx.start w0 []
  refine ret_of_W (fn := Tryz.f133) Tryz.func133 rfl [netV N a n c, .slice p pot.length d] rfl (by kernel_rfl) ?_
  refine W_rseq ?_
  refine op_box rfl [.int .i64 N, .slice a n c] (.agg _) rfl rfl H ?_
  rintro b2 w - H
  refine op_assign rfl (.bool _) rfl ?_
  refine op_nil (at_then ?_)
  refine W_seq ?_
  refine W_rseq ?_
  refine op_move rfl (.slice _ _ _) rfl ?_
  refine op_len rfl el_29_SeD rfl ?_
  refine op_move rfl (.int _ _) rfl ?_
  refine op_nil (at_then ?_)
  refine W_block ?_
  refine W_loop 1048144 (α := Nat) (fun i => [(9, .int .i64 (i : Int))]) (fun i w' => i ≤ pot.length ∧ Ctx w0 [] w' [(b2, Bl 28 [.int .i64 N, .slice a n c])] ∧ ∀ (k : Nat) (x : Int), k < i → pot[k]? = some x → farB x = true) (fun i => pot.length - i) 0 rfl ?_ ?_ ?_
  · exact ⟨rfl, trivial⟩
  · exact ⟨Nat.zero_le _, H, fun k x h => absurd h (Nat.not_lt_zero _)⟩
  · rintro i j w ⟨hi, H, hb⟩
    refine W_rseq ?_
    refine op_lss rfl rfl rfl ?_
    refine op_nil (at_then ?_)
    refine W_seq ?_
    refine W_cond _ rfl ?_ ?_
    · intro h2
      replace h2 := dec_t h2
      obtain ⟨x, h7x⟩ := get_some (l := pot) (i := i) (by omega)
      refine W_skip (at_then ?_)
      refine W_seq ?_
      refine W_block ?_
      refine W_rseq ?_
      first | refine op_indexRd R rfl el_29_SeD sz_2_SeD rfl rfl (by omega) (by omega) (by first | rfl | omega) ?_ | refine op_indexAddr rfl el_29_SeD sz_2_SeD rfl rfl (by omega) (by omega) ?_
      first | refine op_ldb rfl ag_2_SeD rfl H (by first | exact at0 | exact at1 | exact at2 | exact at3 | exact at4 | exact at5 | exact at6 | exact at7 | exact at8 | exact at9) rfl ?_ | refine op_ld rfl ag_2_SeD rfl (((R.ext0 H.ext).fld h7x rfl (j := 0) rfl)) ?_
      refine op_assign rfl (.int _ _) rfl ?_
      refine op_nil (at_then ?_)
      refine W_rseq (Wops_join (α := Unit) 516096 (fun _ => [(18, .bool (!farB x))]) (fun _ w' => Ctx w0 [] w' [(b2, Bl 28 [.int .i64 N, .slice a n c])]) rfl ?_ ?_)
      · refine op_move rfl (.int _ _) rfl ?_
        refine op_lss rfl rfl rfl ?_
        refine op_move rfl (.bool _) rfl ?_
        refine Wops_split 15 rfl ?_ ?_
        · intro h1
          replace h1 := dec_t h1
          refine op_skip rfl ?_
          refine op_skip rfl ?_
          refine op_pick1 rfl rfl (.bool _) rfl ?_
          refine op_nil ?_
          exact ⟨rfl, (), rfl, ⟨congrArg Value.bool (by unfold farB; rw [Bool.eq_iff_iff]; simp_all; try omega), trivial⟩, H⟩
        · intro h2
          replace h2 := dec_f h2
          refine op_move rfl (.int _ _) rfl ?_
          refine op_gtr rfl rfl rfl ?_
          refine op_pick0 rfl rfl (.bool _) rfl ?_
          refine op_nil ?_
          exact ⟨rfl, (), rfl, ⟨congrArg Value.bool (by unfold farB; rw [Bool.eq_iff_iff]; simp_all; try omega), trivial⟩, H⟩
      rintro - j18 w H
      refine W_cond _ rfl ?_ ?_
      · intro h3
        replace h3 := nvar_t h3
        refine W_rseq ?_
        refine op_assign rfl (.bool _) rfl ?_
        refine op_nil (at_then ?_)
        refine W_ret (ret_block (ret_then (ret_then (ret_block (ret_then (leave1 (v := (.bool _)) rfl rfl rfl ?_))))))
        exact ⟨congrArg Value.bool (by unfold potN; rw [all_false h7x (by simpa using h3)]; rfl), H.ext⟩
      · intro h3
        replace h3 := nvar_f h3
        refine W_skip (at_block (at_then ?_))
        refine W_region ?_
        refine op_add_i64 rfl rfl rfl (by omega) (by omega) ?_
        refine op_move rfl (.int _ _) rfl ?_
        refine op_nil (at_then ?_)
        refine ⟨i + 1, rfl, ⟨rfl, trivial⟩, ⟨by omega, H, fun k y hk hy => ?_⟩, by omega⟩
        rcases Nat.lt_or_ge k i with h7 | h7
        · exact hb k y h7 hy
        · obtain rfl : k = i := by omega
          rw [h7x] at hy
          cases hy
          simpa using h3
    · intro h2
      replace h2 := dec_f h2
      refine W_exit (exit_then (exit_then (exit_here (at_then ?_))))
      refine W_rseq ?_
      refine op_move rfl (.slice _ _ _) rfl ?_
      refine op_len rfl el_29_SeD rfl ?_
      refine op_fieldAddr rfl fo_28_0_SeD rfl ?_
      first | refine op_ldb rfl ag_3_SeD rfl H (by first | exact at0 | exact at1 | exact at2 | exact at3 | exact at4 | exact at5 | exact at6 | exact at7 | exact at8 | exact at9) rfl ?_ | refine op_ld rfl ag_3_SeD rfl (((R.ext0 H.ext).fld h7x rfl (j := 0) rfl)) ?_
      refine op_eql rfl rfl rfl ?_
      refine op_assign rfl (.bool _) rfl ?_
      refine op_nil (at_then ?_)
      refine W_ret (leave1 (v := (.bool _)) rfl rfl rfl ?_)
      exact ⟨congrArg Value.bool (by unfold potN; rw [all_true fun k x hk hx => hb k x (by omega) hx, Bool.true_and]), H.ext⟩

theorem ends_in {N : Int} {es : List Ed} (hr : rightN N es = true) {k : Nat} (hk : k < 2 * es.length) : ∃ e, es[k / 2]? = some e ∧ endsI N es (k : Int) = arcE e k ∧ 0 ≤ (arcE e k).1 ∧ (arcE e k).1 < N ∧ 0 ≤ (arcE e k).2.1 ∧ (arcE e k).2.1 < N ∧ -1000 ≤ (arcE e k).2.2 ∧ (arcE e k).2.2 ≤ 1000 := by
  obtain ⟨e, he⟩ := get_some (l := es) (i := k / 2) (by omega)
  have hco := edge_of ((right_of hr).2.2.2.1 e (List.mem_of_getElem? he))
  refine ⟨e, he, ?_, ?_⟩
  · unfold endsI
    rw [if_pos (by rw [hr, Bool.and_true]; unfold hasB; simp; omega), Int.toNat_natCast, getD_of he]
  · unfold arcE
    split <;> (dsimp only; omega)
theorem pot_in {N : Int} {pot : List Int} (hp : potN N pot = true) : (pot.length : Int) = N ∧ ∀ (i : Nat) (x : Int), pot[i]? = some x → -1099511627776 ≤ x ∧ x ≤ 1099511627776 := by
  unfold potN farB at hp
  simp only [Bool.and_eq_true, decide_eq_true_eq, List.all_eq_true] at hp
  exact ⟨hp.2, fun i x hx => hp.1 x (List.mem_of_getElem? hx)⟩
theorem room_in {N : Int} {es : List Ed} {fl : List Int} (hw : withinN N es fl = true) {k : Nat} (hk : k < 2 * es.length) : ∃ e x, es[k / 2]? = some e ∧ fl[k / 2]? = some x ∧ roomI N es fl (k : Int) = roomE e x k ∧ 0 ≤ x ∧ x ≤ e.cap ∧ e.cap ≤ 4503599627370496 := by
  obtain ⟨hl, hri, hin⟩ := within_of hw
  obtain ⟨e, he⟩ := get_some (l := es) (i := k / 2) (by omega)
  obtain ⟨x, hx⟩ := get_some (l := fl) (i := k / 2) (by omega)
  have hco := edge_of ((right_of hri).2.2.2.1 e (List.mem_of_getElem? he))
  have := hin _ e x he hx
  refine ⟨e, x, he, hx, ?_, this.1, this.2, by omega⟩
  unfold roomI
  rw [if_pos (by rw [hw, Bool.and_true]; unfold hasB; simp; omega), Int.toNat_natCast, getD_of he, getD_of hx]
abbrev certV (b p : Option Addr) (m d q r : Nat) : Value := .agg #[.slice b m d, .slice p q r]

set_option maxRecDepth 20000 in
set_option maxHeartbeats 2000000 in
theorem tight_ok (N : Int) (a b p : Option Addr) (n c m d q r : Nat) (es : List Ed) (fl pot : List Int) (w : World) (R : Rd w a 4 encE es) (hn : es.length = n) (hN : I64 N) (Rf : Rd w b 1 I1 fl) (hm : fl.length = m) (Rp : Rd w p 1 I1 pot) (hq : pot.length = q)
    (hr : rightN N es = true) (hw : withinN N es fl = true) (hp : potN N pot = true) :
    Ret Tryz.prog 135 #[netV N a n c, certV b p m d q r] w fun v w' => v = .bool (tightN N es fl pot) ∧ Ext [] w w' := by
  subst hn hm hq
  obtain ⟨w0, rfl⟩ : ∃ w0, w0 = w := ⟨_, rfl⟩
  have H := Ctx.start w0 []
  obtain ⟨hN1, hN40, hn200, -⟩ := right_of hr
  obtain ⟨hpl, hpb⟩ := pot_in hp
  have hfl := (within_of hw).1
  refine ret_of_W (fn := Tryz.f135) Tryz.func135 rfl [netV N a es.length c, certV b p fl.length d pot.length r] rfl (by kernel_rfl) ?_
  refine W_rseq ?_
  refine op_box rfl [.int .i64 N, .slice a es.length c] (.agg _) rfl rfl H ?_
  rintro b2 w - H
  refine op_box rfl [.slice b fl.length d, .slice p pot.length r] (.agg _) rfl rfl H ?_
  rintro b3 w - H
  refine op_assign rfl (.bool _) rfl ?_
  refine op_nil (at_then ?_)
  refine W_seq ?_
  refine W_rseq ?_
  refine op_fieldAddr rfl fo_28_1_SeD rfl ?_
  refine op_ldb rfl ag_26_SeD rfl H (by first | exact at0 | exact at1 | exact at2 | exact at3 | exact at4 | exact at5 | exact at6 | exact at7 | exact at8 | exact at9) rfl ?_
  refine op_len rfl el_26_SeD rfl ?_
  refine op_mul_i64 rfl rfl rfl (by omega) (by omega) ?_
  refine op_move rfl (.int _ _) rfl ?_
  refine op_nil (at_then ?_)
  refine W_block ?_
  refine W_loop 70368744169968 (α := Nat) (fun i => [(13, .int .i64 (i : Int))]) (fun i w' => i ≤ 2 * es.length ∧ Ctx w0 [] w' [(b3, Bl 31 [.slice b fl.length d, .slice p pot.length r]), (b2, Bl 28 [.int .i64 N, .slice a es.length c])] ∧ ∀ k, k < i → tightB N es fl pot k = true) (fun i => 2 * es.length - i) 0 rfl ?_ ?_ ?_
  · exact ⟨rfl, trivial⟩
  · exact ⟨Nat.zero_le _, H, fun k h => absurd h (Nat.not_lt_zero _)⟩
  · rintro i j w ⟨hi, H, hb⟩
    refine W_rseq ?_
    refine op_lss rfl rfl rfl ?_
    refine op_nil (at_then ?_)
    refine W_seq ?_
    refine W_cond _ rfl ?_ ?_
    · intro h2
      replace h2 := dec_t h2
      have hi2 : i < 2 * es.length := by omega
      obtain ⟨e, he, hE, q1, q2, q3, q4, q5, q6⟩ := ends_in hr hi2
      obtain ⟨e', x, he', hx, hro, r1, r2, r3⟩ := room_in hw hi2
      obtain ⟨un, hun⟩ : ∃ un : Nat, (arcE e i).1 = un := ⟨(arcE e i).1.toNat, by omega⟩
      obtain ⟨vn, hvn⟩ : ∃ vn : Nat, (arcE e i).2.1 = vn := ⟨(arcE e i).2.1.toNat, by omega⟩
      obtain ⟨pu, hpu⟩ := get_some (l := pot) (i := un) (by omega)
      obtain ⟨pv, hpv⟩ := get_some (l := pot) (i := vn) (by omega)
      have hbu := hpb _ _ hpu
      have hbv := hpb _ _ hpv
      have hli : lenI N es pot (i : Int) = (arcE e i).2.2 + pu - pv := by
        unfold lenI
        rw [hE, hun, hvn, Int.toNat_natCast, Int.toNat_natCast, getD_of hpu, getD_of hpv]
      have hgo : tightB N es fl pot i = true → ∀ k, k < i + 1 → tightB N es fl pot k = true := fun h3 k hk => by
        rcases Nat.lt_or_ge k i with h7 | h7
        · exact hb k h7
        · obtain rfl : k = i := by omega
          exact h3
      refine W_skip (at_then ?_)
      refine W_seq ?_
      refine W_block ?_
      refine W_rseq ?_
      refine op_move rfl (.int _ _) rfl ?_
      refine op_assign rfl (.int _ _) rfl ?_
      refine op_nil (at_then ?_)
      refine W_rseq ?_
      refine op_ldbN rfl ag_28_SeD sz_28_SeD rfl H (by first | exact at0 | exact at1 | exact at2 | exact at3 | exact at4 | exact at5 | exact at6 | exact at7 | exact at8 | exact at9) rfl ?_
      refine op_move rfl (.int _ _) rfl ?_
      refine op_call rfl ca_180_SeD (Ends_ok N a es.length c es _ (R.ext0 H.ext) rfl (by omega) hN (i : Int)) rfl ?_
      rintro v w ⟨rfl, hx19⟩
      replace H := H.call hx19
      rw [hE, hun, hvn]
      refine op_move rfl (.tuple _) rfl ?_
      refine op_extract rfl rfl rfl ?_
      refine op_extract rfl rfl rfl ?_
      refine op_extract rfl rfl rfl ?_
      refine op_assign rfl (.int _ _) rfl ?_
      refine op_assign rfl (.int _ _) rfl ?_
      refine op_assign rfl (.int _ _) rfl ?_
      refine op_nil (at_then ?_)
      refine W_tseq 19 mixed_SeD (by kernel_rfl) rfl rfl ?_
      refine q_move rfl (.int _ _) rfl ?_
      refine q_fieldAddr rfl fo_31_1_SeD rfl ?_
      first | refine q_ldb rfl ag_29_SeD rfl (by rintro _ rfl; exact H.drew) (by first | exact at0 | exact at1 | exact at2 | exact at3 | exact at4 | exact at5 | exact at6 | exact at7 | exact at8 | exact at9) rfl ?_ | refine q_ld rfl ag_29_SeD rfl (by rintro _ rfl; exact (((Rp.ext0 (H.ext.trans (Ext.drew [] _))).fld hpu rfl (j := 0) rfl))) ?_ | refine q_ld rfl ag_29_SeD rfl (by rintro _ rfl; exact (((Rp.ext0 (H.ext.trans (Ext.drew [] _))).fld hpv rfl (j := 0) rfl))) ?_
      refine q_move rfl (.int _ _) rfl ?_
      first | refine q_indexRd Rp rfl el_29_SeD sz_2_SeD rfl rfl (by omega) (by omega) (by first | rfl | omega) ?_ | refine q_indexAddr rfl el_29_SeD sz_2_SeD rfl rfl (by omega) (by omega) ?_
      first | refine q_ldb rfl ag_2_SeD rfl (by rintro _ rfl; exact H.drew) (by first | exact at0 | exact at1 | exact at2 | exact at3 | exact at4 | exact at5 | exact at6 | exact at7 | exact at8 | exact at9) rfl ?_ | refine q_ld rfl ag_2_SeD rfl (by rintro _ rfl; exact (((Rp.ext0 (H.ext.trans (Ext.drew [] _))).fld hpu rfl (j := 0) rfl))) ?_ | refine q_ld rfl ag_2_SeD rfl (by rintro _ rfl; exact (((Rp.ext0 (H.ext.trans (Ext.drew [] _))).fld hpv rfl (j := 0) rfl))) ?_
      refine q_add_i64 rfl rfl rfl (by omega) (by omega) ?_
      refine q_fieldAddr rfl fo_31_1_SeD rfl ?_
      first | refine q_ldb rfl ag_29_SeD rfl (by rintro _ rfl; exact H.drew) (by first | exact at0 | exact at1 | exact at2 | exact at3 | exact at4 | exact at5 | exact at6 | exact at7 | exact at8 | exact at9) rfl ?_ | refine q_ld rfl ag_29_SeD rfl (by rintro _ rfl; exact (((Rp.ext0 (H.ext.trans (Ext.drew [] _))).fld hpu rfl (j := 0) rfl))) ?_ | refine q_ld rfl ag_29_SeD rfl (by rintro _ rfl; exact (((Rp.ext0 (H.ext.trans (Ext.drew [] _))).fld hpv rfl (j := 0) rfl))) ?_
      refine q_move rfl (.int _ _) rfl ?_
      first | refine q_indexRd Rp rfl el_29_SeD sz_2_SeD rfl rfl (by omega) (by omega) (by first | rfl | omega) ?_ | refine q_indexAddr rfl el_29_SeD sz_2_SeD rfl rfl (by omega) (by omega) ?_
      first | refine q_ldb rfl ag_2_SeD rfl (by rintro _ rfl; exact H.drew) (by first | exact at0 | exact at1 | exact at2 | exact at3 | exact at4 | exact at5 | exact at6 | exact at7 | exact at8 | exact at9) rfl ?_ | refine q_ld rfl ag_2_SeD rfl (by rintro _ rfl; exact (((Rp.ext0 (H.ext.trans (Ext.drew [] _))).fld hpu rfl (j := 0) rfl))) ?_ | refine q_ld rfl ag_2_SeD rfl (by rintro _ rfl; exact (((Rp.ext0 (H.ext.trans (Ext.drew [] _))).fld hpv rfl (j := 0) rfl))) ?_
      refine q_sub_i64 rfl rfl rfl (by omega) (by omega) ?_
      refine q_lss rfl rfl rfl ?_
      refine q_move rfl (.bool _) rfl ?_
      refine Wq_split 37 rfl ?_ ?_
      · intro h3
        replace h3 := dec_t h3
        refine q_ldbN rfl ag_28_SeD sz_28_SeD rfl (by rintro _ rfl; exact H.drew) (by first | exact at0 | exact at1 | exact at2 | exact at3 | exact at4 | exact at5 | exact at6 | exact at7 | exact at8 | exact at9) rfl ?_
        refine q_fieldAddr rfl fo_31_0_SeD rfl ?_
        first | refine q_ldb rfl ag_29_SeD rfl (by rintro _ rfl; exact H.drew) (by first | exact at0 | exact at1 | exact at2 | exact at3 | exact at4 | exact at5 | exact at6 | exact at7 | exact at8 | exact at9) rfl ?_ | refine q_ld rfl ag_29_SeD rfl (by rintro _ rfl; exact (((Rp.ext0 (H.ext.trans (Ext.drew [] _))).fld hpu rfl (j := 0) rfl))) ?_ | refine q_ld rfl ag_29_SeD rfl (by rintro _ rfl; exact (((Rp.ext0 (H.ext.trans (Ext.drew [] _))).fld hpv rfl (j := 0) rfl))) ?_
        refine q_move rfl (.int _ _) rfl ?_
        refine q_nil ?_
        replace H := H.drew
        refine op_call rfl ca_170_SeD (Room_ok N a b es.length c fl.length d es fl _ (R.ext0 H.ext) rfl (by omega) hN (Rf.ext0 H.ext) rfl (by omega) (i : Int)) rfl ?_
        rintro v w ⟨rfl, hx42⟩
        replace H := H.call hx42
        refine op_gtr rfl rfl rfl ?_
        refine op_pick1 rfl rfl (.bool _) rfl ?_
        refine op_nil (at_then ?_)
        refine W_cond _ rfl ?_ ?_
        · intro h4
          replace h4 := dec_t h4
          refine W_rseq ?_
          refine op_assign rfl (.bool _) rfl ?_
          refine op_nil (at_then ?_)
          refine W_ret (ret_block (ret_then (ret_then (ret_block (ret_then (leave1 (v := (.bool _)) rfl rfl rfl ?_))))))
          exact ⟨congrArg Value.bool (by unfold tightN; rw [all_false (List.getElem?_range hi2) (by unfold tightB; rw [hli, decide_eq_true h3, decide_eq_true h4]; rfl)]), H.ext⟩
        · intro h4
          replace h4 := dec_f h4
          refine W_skip (at_block (at_then ?_))
          refine W_region ?_
          refine op_add_i64 rfl rfl rfl (by omega) (by omega) ?_
          refine op_move rfl (.int _ _) rfl ?_
          refine op_nil (at_then ?_)
          exact ⟨i + 1, rfl, ⟨rfl, trivial⟩, ⟨by omega, H, hgo (by unfold tightB; rw [hli, decide_eq_false h4, Bool.and_false]; rfl)⟩, by omega⟩
      · intro h3
        replace h3 := dec_f h3
        refine q_skip rfl ?_
        refine q_skip rfl ?_
        refine q_skip rfl ?_
        refine q_skip rfl ?_
        refine q_nil ?_
        replace H := H.drew
        refine op_skip rfl ?_
        refine op_skip rfl ?_
        refine op_pick0 rfl rfl (.bool _) rfl ?_
        refine op_nil (at_then ?_)
        refine W_cond0 rfl ?_
        refine W_skip (at_block (at_then ?_))
        refine W_region ?_
        refine op_add_i64 rfl rfl rfl (by omega) (by omega) ?_
        refine op_move rfl (.int _ _) rfl ?_
        refine op_nil (at_then ?_)
        exact ⟨i + 1, rfl, ⟨rfl, trivial⟩, ⟨by omega, H, hgo (by unfold tightB; rw [hli, decide_eq_false h3, Bool.false_and]; rfl)⟩, by omega⟩
    · intro h2
      replace h2 := dec_f h2
      refine W_exit (exit_then (exit_then (exit_here (at_then ?_))))
      refine W_rseq ?_
      refine op_assign rfl (.bool _) rfl ?_
      refine op_nil (at_then ?_)
      refine W_ret (leave1 (v := (.bool _)) rfl rfl rfl ?_)
      exact ⟨congrArg Value.bool (by unfold tightN; rw [List.all_eq_true.2 fun k hk => hb k (by have := List.mem_range.1 hk; omega)]), H.ext⟩

end Go.Proofs.YtapphbmlkdhnmaaGreat

/- Whether it is the best: the walk. -/
namespace Go.Proofs.YtapphbmlkdhnmaaGreat
open Go.GV
theorem ag_28_SeE : aggB Tryz.prog 28 = some true := by kernel_rfl
theorem ag_29_SeE : aggB Tryz.prog 29 = some false := by kernel_rfl
theorem ag_31_SeE : aggB Tryz.prog 31 = some true := by kernel_rfl
theorem ag_34_SeE : aggB Tryz.prog 34 = some false := by kernel_rfl
theorem ca_117_SeE : callable Tryz.prog 117 = true := by kernel_rfl
theorem ca_129_SeE : callable Tryz.prog 129 = true := by kernel_rfl
theorem ca_130_SeE : callable Tryz.prog 130 = true := by kernel_rfl
theorem ca_131_SeE : callable Tryz.prog 131 = true := by kernel_rfl
theorem ca_132_SeE : callable Tryz.prog 132 = true := by kernel_rfl
theorem ca_133_SeE : callable Tryz.prog 133 = true := by kernel_rfl
theorem ca_134_SeE : callable Tryz.prog 134 = true := by kernel_rfl
theorem ca_135_SeE : callable Tryz.prog 135 = true := by kernel_rfl
theorem el_178_SeE : elemT Tryz.prog 178 = some 34 := by kernel_rfl
theorem fo_31_0_SeE : fieldO Tryz.prog 31 0 = some 0 := by kernel_rfl
theorem fo_31_1_SeE : fieldO Tryz.prog 31 1 = some 1 := by kernel_rfl
theorem sz_28_SeE : tsize Tryz.prog 28 = some 2 := by kernel_rfl
theorem sz_31_SeE : tsize Tryz.prog 31 = some 2 := by kernel_rfl
theorem sz_34_SeE : tsize Tryz.prog 34 = some 1 := by kernel_rfl
theorem zc_34_SeE : zcells Tryz.prog 34 = some ([.nilFunc]) := by kernel_rfl
attribute [local irreducible] Wops W Wq Wt

theorem cells_bl {w : World} {b : Nat} {t : TypeId} {l : List Value} (h : w.heap[b]? = some (Bl t l)) : ∀ j v, l[j]? = some v → w.cell? ⟨b, 0 + j, none⟩ = some v := fun j v hv => by
  rw [cell_bl h, Nat.zero_add]; exact hv
/-- What the four questions read. -/
structure ChkK (b2 b3 : Nat) (N : Int) (a b p : Option Addr) (c d r : Nat) (es : List Ed) (fl pot : List Int) (w : World) : Prop where
  h2 : w.heap[b2]? = some (Bl 28 [.int .i64 N, .slice a es.length c])
  h3 : w.heap[b3]? = some (Bl 31 [.slice b fl.length d, .slice p pot.length r])
  R : Rd w a 4 encE es
  Rf : Rd w b 1 I1 fl
  Rp : Rd w p 1 I1 pot
theorem ChkK.ext {b2 b3 : Nat} {N : Int} {a b p : Option Addr} {c d r : Nat} {es : List Ed} {fl pot : List Int} {w w' : World} (K : ChkK b2 b3 N a b p c d r es fl pot w) (h : Ext [] w w') : ChkK b2 b3 N a b p c d r es fl pot w' :=
  ⟨h.to K.h2 (by simp), h.to K.h3 (by simp), K.R.ext0 h, K.Rf.ext0 h, K.Rp.ext0 h⟩
section
variable {b2 b3 : Nat} {N : Int} {a b p : Option Addr} {c d r : Nat} {es : List Ed} {fl pot : List Int} {w : World}
theorem chk1_ok (K : ChkK b2 b3 N a b p c d r es fl pot w) (hN : I64 N) : Ret Tryz.prog 129 #[ptr b2] w fun v w' => v = .bool (rightN N es) ∧ Ext [] w w' := by
  obtain ⟨w0, rfl⟩ : ∃ w0, w0 = w := ⟨_, rfl⟩
  have H := Ctx.start w0 []
  refine ret_of_W (fn := Tryz.f129) Tryz.func129 rfl [.pointer (some ⟨b2, 0, none⟩)] rfl (by kernel_rfl) ?_
  refine W_rseq ?_
  refine op_assign rfl (.bool _) rfl ?_
  refine op_nil (at_then ?_)
  refine W_rseq ?_
  first | refine op_ldN _ rfl ag_28_SeE sz_28_SeE rfl rfl (cells_bl K.h2) ?_ | refine op_ldbN rfl ag_28_SeE sz_28_SeE rfl H (by first | exact at0 | exact at1 | exact at2 | exact at3 | exact at4 | exact at5 | exact at6 | exact at7 | exact at8 | exact at9) rfl ?_
  refine op_call rfl ca_117_SeE (right_ok N a es.length c es _ K.R rfl hN) rfl ?_
  rintro v w ⟨rfl, hx3⟩
  replace H := H.call hx3
  refine op_assign rfl (.bool _) rfl ?_
  refine op_nil (at_then ?_)
  refine W_ret (leave1 (v := (.bool _)) rfl rfl rfl ?_)
  exact ⟨rfl, H.ext⟩
theorem chk2_ok (K : ChkK b2 b3 N a b p c d r es fl pot w) (hN : I64 N) (hf : fl.length ≤ 9223372036854775000) : Ret Tryz.prog 130 #[ptr b2, ptr b3] w fun v w' => v = .bool (flowsN N es fl) ∧ Ext [] w w' := by
  obtain ⟨w0, rfl⟩ : ∃ w0, w0 = w := ⟨_, rfl⟩
  have H := Ctx.start w0 []
  refine ret_of_W (fn := Tryz.f130) Tryz.func130 rfl [.pointer (some ⟨b2, 0, none⟩), .pointer (some ⟨b3, 0, none⟩)] rfl (by kernel_rfl) ?_
  refine W_rseq ?_
  refine op_assign rfl (.bool _) rfl ?_
  refine op_nil (at_then ?_)
  refine W_rseq ?_
  first | refine op_ldN _ rfl ag_28_SeE sz_28_SeE rfl rfl (cells_bl K.h2) ?_ | refine op_ldbN rfl ag_28_SeE sz_28_SeE rfl H (by first | exact at0 | exact at1 | exact at2 | exact at3 | exact at4 | exact at5 | exact at6 | exact at7 | exact at8 | exact at9) rfl ?_
  refine op_fieldAddr rfl fo_31_0_SeE rfl ?_
  first | refine op_ldb rfl ag_29_SeE rfl H (by first | exact at0 | exact at1 | exact at2 | exact at3 | exact at4 | exact at5 | exact at6 | exact at7 | exact at8 | exact at9) rfl ?_ | refine op_ld rfl ag_29_SeE rfl ((by rw [cell_bl K.h3]; rfl)) ?_
  refine op_call rfl ca_131_SeE (flows_ok N a b es.length c fl.length d es fl _ K.R rfl hN K.Rf rfl hf) rfl ?_
  rintro v w ⟨rfl, hx3⟩
  replace H := H.call hx3
  refine op_assign rfl (.bool _) rfl ?_
  refine op_nil (at_then ?_)
  refine W_ret (leave1 (v := (.bool _)) rfl rfl rfl ?_)
  exact ⟨rfl, H.ext⟩
theorem chk3_ok (K : ChkK b2 b3 N a b p c d r es fl pot w) (hq : pot.length ≤ 9223372036854775000) : Ret Tryz.prog 132 #[ptr b2, ptr b3] w fun v w' => v = .bool (potN N pot) ∧ Ext [] w w' := by
  obtain ⟨w0, rfl⟩ : ∃ w0, w0 = w := ⟨_, rfl⟩
  have H := Ctx.start w0 []
  refine ret_of_W (fn := Tryz.f132) Tryz.func132 rfl [.pointer (some ⟨b2, 0, none⟩), .pointer (some ⟨b3, 0, none⟩)] rfl (by kernel_rfl) ?_
  refine W_rseq ?_
  refine op_assign rfl (.bool _) rfl ?_
  refine op_nil (at_then ?_)
  refine W_rseq ?_
  first | refine op_ldN _ rfl ag_28_SeE sz_28_SeE rfl rfl (cells_bl K.h2) ?_ | refine op_ldbN rfl ag_28_SeE sz_28_SeE rfl H (by first | exact at0 | exact at1 | exact at2 | exact at3 | exact at4 | exact at5 | exact at6 | exact at7 | exact at8 | exact at9) rfl ?_
  refine op_fieldAddr rfl fo_31_1_SeE rfl ?_
  first | refine op_ldb rfl ag_29_SeE rfl H (by first | exact at0 | exact at1 | exact at2 | exact at3 | exact at4 | exact at5 | exact at6 | exact at7 | exact at8 | exact at9) rfl ?_ | refine op_ld rfl ag_29_SeE rfl ((by rw [cell_bl K.h3]; rfl)) ?_
  refine op_call rfl ca_133_SeE (pots_ok N a p es.length c pot.length r pot _ K.Rp rfl hq) rfl ?_
  rintro v w ⟨rfl, hx3⟩
  replace H := H.call hx3
  refine op_assign rfl (.bool _) rfl ?_
  refine op_nil (at_then ?_)
  refine W_ret (leave1 (v := (.bool _)) rfl rfl rfl ?_)
  exact ⟨rfl, H.ext⟩
theorem chk4_ok (K : ChkK b2 b3 N a b p c d r es fl pot w) (hN : I64 N) (hr : rightN N es = true) (hw : withinN N es fl = true) (hp : potN N pot = true) : Ret Tryz.prog 134 #[ptr b2, ptr b3] w fun v w' => v = .bool (tightN N es fl pot) ∧ Ext [] w w' := by
  obtain ⟨w0, rfl⟩ : ∃ w0, w0 = w := ⟨_, rfl⟩
  have H := Ctx.start w0 []
  refine ret_of_W (fn := Tryz.f134) Tryz.func134 rfl [.pointer (some ⟨b2, 0, none⟩), .pointer (some ⟨b3, 0, none⟩)] rfl (by kernel_rfl) ?_
  refine W_rseq ?_
  refine op_assign rfl (.bool _) rfl ?_
  refine op_nil (at_then ?_)
  refine W_rseq ?_
  refine op_ldN _ rfl ag_28_SeE sz_28_SeE rfl rfl (cells_bl K.h2) ?_
  refine op_ldN _ rfl ag_31_SeE sz_31_SeE rfl rfl (cells_bl K.h3) ?_
  refine op_call rfl ca_135_SeE (tight_ok N a b p es.length c fl.length d pot.length r es fl pot _ K.R rfl hN K.Rf rfl K.Rp rfl hr hw hp) rfl ?_
  rintro v w ⟨rfl, hx3⟩
  replace H := H.call hx3
  refine op_assign rfl (.bool _) rfl ?_
  refine op_nil (at_then ?_)
  refine W_ret (leave1 (v := (.bool _)) rfl rfl rfl ?_)
  exact ⟨rfl, H.ext⟩
end
def askN (N : Int) (es : List Ed) (fl pot : List Int) : Nat → Bool
  | 0 => rightN N es
  | 1 => flowsN N es fl
  | 2 => potN N pot
  | _ => tightN N es fl pot
theorem ask_all {N : Int} {es : List Ed} {fl pot : List Int} (h : ∀ k, k < 4 → askN N es fl pot k = true) : checkN N es fl pot = true := by
  have h0 := h 0 (by omega)
  have h1 := h 1 (by omega)
  have h2 := h 2 (by omega)
  have h3 := h 3 (by omega)
  unfold checkN
  rw [show rightN N es = true from h0, show flowsN N es fl = true from h1, show potN N pot = true from h2, show tightN N es fl pot = true from h3]; rfl
theorem ask_not {N : Int} {es : List Ed} {fl pot : List Int} {k : Nat} (hk : k < 4) (h : askN N es fl pot k = false) : checkN N es fl pot = false := by
  have : k = 0 ∨ k = 1 ∨ k = 2 ∨ k = 3 := by omega
  unfold checkN
  rcases this with rfl | rfl | rfl | rfl
  · rw [show rightN N es = false from h]; simp
  · rw [show flowsN N es fl = false from h]; simp
  · rw [show potN N pot = false from h]; simp
  · rw [show tightN N es fl pot = false from h]; simp

set_option maxRecDepth 20000 in
set_option maxHeartbeats 2000000 in
theorem check_ok (N : Int) (a b p : Option Addr) (n c m d q r : Nat) (es : List Ed) (fl pot : List Int) (w : World) (R : Rd w a 4 encE es) (hn : es.length = n) (hN : I64 N) (Rf : Rd w b 1 I1 fl) (hm : fl.length = m) (hm2 : m ≤ 9223372036854775000) (Rp : Rd w p 1 I1 pot) (hq : pot.length = q) (hq2 : q ≤ 9223372036854775000) :
    Ret Tryz.prog 66 #[netV N a n c, certV b p m d q r] w fun v w' => v = .bool (checkN N es fl pot) ∧ Ext [] w w' := by
  subst hn hm hq
  obtain ⟨w0, rfl⟩ : ∃ w0, w0 = w := ⟨_, rfl⟩
  have H := Ctx.start w0 []
  refine ret_of_W (fn := Tryz.f66) Tryz.func66 rfl [netV N a es.length c, certV b p fl.length d pot.length r] rfl (by kernel_rfl) ?_
  refine W_rseq ?_
  refine op_box rfl [.int .i64 N, .slice a es.length c] (.agg _) rfl rfl H ?_
  rintro b2 w - H
  refine op_box rfl [.slice b fl.length d, .slice p pot.length r] (.agg _) rfl rfl H ?_
  rintro b3 w - H
  refine op_assign rfl (.bool _) rfl ?_
  refine op_nil (at_then ?_)
  refine W_seq ?_
  refine W_rseq ?_
  refine op_makeFuncL rfl [.pointer _] rfl ?_
  refine op_makeFuncL rfl [.pointer _, .pointer _] rfl ?_
  refine op_makeFuncL rfl [.pointer _, .pointer _] rfl ?_
  refine op_makeFuncL rfl [.pointer _, .pointer _] rfl ?_
  refine op_buildL [.func (.func 129) #[] #[ptr b2], .func (.func 130) #[] #[ptr b2, ptr b3], .func (.func 132) #[] #[ptr b2, ptr b3], .func (.func 134) #[] #[ptr b2, ptr b3]] rfl el_178_SeE sz_34_SeE zc_34_SeE (by decide) (by decide) (by kernel_rfl) H ?_
  rintro b11 w - H
  refine op_len rfl el_178_SeE rfl ?_
  refine op_move rfl (.int _ _) rfl ?_
  refine op_nil (at_then ?_)
  refine W_block ?_
  refine W_loop 2089040 (α := Nat) (fun i => [(13, .int .i64 (i : Int))]) (fun i w' => i ≤ 4 ∧ Ctx w0 [] w' [(b11, Bl 34 [.func (.func 129) #[] #[ptr b2], .func (.func 130) #[] #[ptr b2, ptr b3], .func (.func 132) #[] #[ptr b2, ptr b3], .func (.func 134) #[] #[ptr b2, ptr b3]]), (b3, Bl 31 [.slice b fl.length d, .slice p pot.length r]), (b2, Bl 28 [.int .i64 N, .slice a es.length c])] ∧ ∀ k, k < i → askN N es fl pot k = true) (fun i => 4 - i) 0 rfl ?_ ?_ ?_
  · exact ⟨rfl, trivial⟩
  · exact ⟨Nat.zero_le _, H, fun k h => absurd h (Nat.not_lt_zero _)⟩
  · rintro i j w ⟨hi, H, hb⟩
    refine W_rseq ?_
    refine op_lss rfl rfl rfl ?_
    refine op_nil (at_then ?_)
    refine W_seq ?_
    refine W_cond _ rfl ?_ ?_
    · intro h2
      replace h2 := dec_t h2
      have KK : ChkK b2 b3 N a b p c d r es fl pot w := ⟨H.get at2, H.get at1, R.ext0 H.ext, Rf.ext0 H.ext, Rp.ext0 H.ext⟩
      obtain ⟨f, ca, hfi, hcf, hret⟩ : ∃ f ca, [Value.func (.func 129) #[] #[ptr b2], .func (.func 130) #[] #[ptr b2, ptr b3], .func (.func 132) #[] #[ptr b2, ptr b3], .func (.func 134) #[] #[ptr b2, ptr b3]][i]? = some (.func (.func f) #[] ca) ∧ callable Tryz.prog f = true ∧ Ret Tryz.prog f ca w (fun v w' => v = .bool (askN N es fl pot i) ∧ Ext [] w w') := by
        have : i = 0 ∨ i = 1 ∨ i = 2 ∨ i = 3 := by omega
        rcases this with rfl | rfl | rfl | rfl
        · exact ⟨_, _, rfl, ca_129_SeE, chk1_ok KK hN⟩
        · exact ⟨_, _, rfl, ca_130_SeE, chk2_ok KK hN hm2⟩
        · exact ⟨_, _, rfl, ca_132_SeE, chk3_ok KK hq2⟩
        · exact ⟨_, _, rfl, ca_134_SeE, chk4_ok KK hN (hb 0 (by omega)) (flows_of (hb 1 (by omega))).1 (hb 2 (by omega))⟩
      refine W_skip (at_then ?_)
      refine W_seq ?_
      refine W_block ?_
      refine W_rseq ?_
      refine op_indexAddr rfl el_178_SeE sz_34_SeE rfl rfl (by omega) (by omega) ?_
      first | refine op_ldb rfl ag_34_SeE rfl H (by first | exact at0 | exact at1 | exact at2 | exact at3 | exact at4 | exact at5 | exact at6 | exact at7 | exact at8 | exact at9) rfl ?_ | refine op_ld rfl ag_34_SeE rfl ((by rw [cell_bl (H.get at0)]; simpa using hfi)) ?_
      refine op_assign rfl (.func _ _ _) rfl ?_
      refine op_nil (at_then ?_)
      refine W_rseq ?_
      refine op_move rfl (.func _ _ _) rfl ?_
      refine op_calld (l := ca.toList) rfl rfl hcf (by simpa using hret) (by simp) ?_
      rintro v w ⟨rfl, hx18⟩
      replace H := H.call hx18
      refine op_not rfl rfl ?_
      refine op_nil (at_then ?_)
      refine W_cond _ rfl ?_ ?_
      · intro h3
        replace h3 := nvar_t h3
        refine W_rseq ?_
        refine op_assign rfl (.bool _) rfl ?_
        refine op_nil (at_then ?_)
        refine W_ret (ret_block (ret_then (ret_then (ret_block (ret_then (leave1 (v := (.bool _)) rfl rfl rfl ?_))))))
        exact ⟨congrArg Value.bool (by rw [ask_not (k := i) (by omega) (by simpa using h3)]), H.ext⟩
      · intro h3
        replace h3 := nvar_f h3
        refine W_skip (at_block (at_then ?_))
        refine W_region ?_
        refine op_add_i64 rfl rfl rfl (by omega) (by omega) ?_
        refine op_move rfl (.int _ _) rfl ?_
        refine op_nil (at_then ?_)
        refine ⟨i + 1, rfl, ⟨rfl, trivial⟩, ⟨by omega, H, fun k hk => ?_⟩, by omega⟩
        rcases Nat.lt_or_ge k i with h7 | h7
        · exact hb k h7
        · obtain rfl : k = i := by omega
          simpa using h3
    · intro h2
      replace h2 := dec_f h2
      refine W_exit (exit_then (exit_then (exit_here (at_then ?_))))
      refine W_rseq ?_
      refine op_assign rfl (.bool _) rfl ?_
      refine op_nil (at_then ?_)
      refine W_ret (leave1 (v := (.bool _)) rfl rfl rfl ?_)
      exact ⟨congrArg Value.bool (by rw [ask_all fun k hk => hb k (by omega)]), H.ext⟩

end Go.Proofs.YtapphbmlkdhnmaaGreat

/- Pointers against nil; reads of maps that any order takes. It holds for every program. -/
namespace Go.GV
open Go

section
variable {P : Program} {r : Option Nat} {ops rest : List Oper} {Q : Exit → Env → World → Prop} {e : Env} {w w0 : World} {S : List Nat} {L : List (Nat × Obj)} {C : World → Prop} {K : Env → Prop}
  {dst : Option Tmp} {ty : TypeId} {pos : String} {af : Array Edge} {g : Option (Nat × Bool)}

theorem run_peq {P : Program} {t el : TypeId} (hu : P.underlying t = some (.pointer el)) (d : Nat) (a : Option Addr) (w : World) : (Op.equalIn (d + 1) t (.pointer a) (.pointer none)).run P w = .ok a.isNone w := by
  cases a <;> simp [Op.equalIn, run_under hu]
theorem run_peql {P : Program} {t el : TypeId} (hu : P.underlying t = some (.pointer el)) (a : Option Addr) (w : World) : (binOp .eql t (.pointer a) (.pointer none)).run P w = .ok (.bool a.isNone) w := by
  simp only [binOp, Sem.run_bind, Op.equal, Op.maxDepth, run_peq hu 9999]
  cases a <;> rfl
theorem op_eqlptr {t t2 : TypeId} {x : Operand} {a : Option Addr} {el : TypeId} (hg : wants ⟨dst, .binOp .eql t x (.const (.pointer none)) t2, ty, pos, af, g⟩ ops e = true) (hu : P.underlying t = some (.pointer el)) (hx : ev e x = .pointer a)
    (h : Wops P r ops Q rest (put e dst (.bool a.isNone)) w) : Wops P r ops Q (⟨dst, .binOp .eql t x (.const (.pointer none)) t2, ty, pos, af, g⟩ :: rest) e w :=
  op_val hg rfl (by
    have hq : eqGuard .eql t x (.const (.pointer none)) (.pointer a) (.pointer none) = pure () := rfl
    have he : ev e (.const (.pointer none)) = .pointer none := rfl
    simp only [execOp, hx, he, hq, Sem.run_bind, Sem.run_pure, Result.andThen_ok, run_peql hu]) h
theorem run_lookup {t k el : TypeId} {kk : IntKind} {x y : Operand} {b : Nat} {o : Obj} {m : List (Int × Value)} {n : Int} {z : Value}
    (ht : mapT P t = some (k, el)) (hk : P.underlying k = some (.int kk)) (hz : (P.info? el).bind (·.zero) = some z) (hx : ev e x = .map (some b)) (hy : ev e y = .int kk n) (hb : w.heap[b]? = some o) (hM : MapO kk m o) :
    (execOp (ev e) ⟨dst, .lookup t x y false, ty, pos, af, g⟩).run P w = .ok (.value ((mget m n).getD z)) w := by
  obtain ⟨es, clock, rfl, hes, _⟩ := hM
  have hf := findNow_at kk n es.toList m 0 hes
  have hgo : (getObj b).run P w = .ok (.map es clock) w := by simp [getObj, Sem.run, hb]
  have hzr : (zeroValue el).run P w = .ok z w := by
    cases hi : P.info? el with
    | none => rw [hi] at hz; cases hz
    | some i => rw [hi] at hz; simp at hz; simp [zeroValue, typeInfo, program, Sem.run, hi, hz]
  cases hm : mget m n with
  | none => simp [execOp, Instr.lookup, run_under (mapT_u ht), hx, hy, hgo, run_checkKey hk, Instr.findKey, run_under hk, hf.1 hm, hzr]
  | some v =>
    obtain ⟨i, hi, _⟩ := hf.2 v hm
    simp [execOp, Instr.lookup, run_under (mapT_u ht), hx, hy, hgo, run_checkKey hk, Instr.findKey, run_under hk, hi]
theorem op_lookupH {t k el : TypeId} {kk : IntKind} {x y : Operand} {b : Nat} {o : Obj} {m : List (Int × Value)} {n : Int} {z : Value} (hg : wants ⟨dst, .lookup t x y false, ty, pos, af, g⟩ ops e = true)
    (ht : mapT P t = some (k, el)) (hk : P.underlying k = some (.int kk)) (hz : (P.info? el).bind (·.zero) = some z) (hx : ev e x = .map (some b)) (hy : ev e y = .int kk n) (hb : w.heap[b]? = some o) (hM : MapO kk m o)
    (h : Wops P r ops Q rest (put e dst ((mget m n).getD z)) w) : Wops P r ops Q (⟨dst, .lookup t x y false, ty, pos, af, g⟩ :: rest) e w :=
  op_val hg rfl (run_lookup ht hk hz hx hy hb hM) h
end
end Go.GV
