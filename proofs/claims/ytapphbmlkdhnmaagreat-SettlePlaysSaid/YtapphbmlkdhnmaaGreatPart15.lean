/- Part 15 of the proof. -/
import Derived.Test.YtapphbmlkdhnmaaGreatPart14
import Derived.Test.YtapphbmlkdhnmaaGreatPart5
import Derived.Test.YtapphbmlkdhnmaaGreatPart6
/- The dues of the reference: Of, whole. -/
namespace Go.Proofs.YtapphbmlkdhnmaaGreat
open Go.GV
theorem ag_23_SnQ : aggB Tryz.prog 23 = some false := by kernel_rfl
theorem ag_24_SnQ : aggB Tryz.prog 24 = some false := by kernel_rfl
theorem ag_62_SnQ : aggB Tryz.prog 62 = some true := by kernel_rfl
theorem by_62_SnQ : tbytes Tryz.prog 62 = some 56 := by kernel_rfl
theorem ca_115_SnQ : callable Tryz.prog 115 = true := by kernel_rfl
theorem ca_76_SnQ : callable Tryz.prog 76 = true := by kernel_rfl
theorem ca_77_SnQ : callable Tryz.prog 77 = true := by kernel_rfl
theorem el_23_SnQ : elemT Tryz.prog 23 = some 62 := by kernel_rfl
theorem fo_48_0_SnQ : fieldO Tryz.prog 48 0 = some 0 := by kernel_rfl
theorem fo_62_0_SnQ : fieldO Tryz.prog 62 0 = some 0 := by kernel_rfl
theorem mixed_SnQ : Tryz.prog.follows .mixedOrders = true := by kernel_rfl
theorem pl_48_SnQ : placesB Tryz.prog 48 = some [(0, 1), (1, 1)] := by kernel_rfl
theorem sz_23_SnQ : tsize Tryz.prog 23 = some 1 := by kernel_rfl
theorem sz_62_SnQ : tsize Tryz.prog 62 = some 7 := by kernel_rfl
theorem zc_48_SnQ : zcells Tryz.prog 48 = some ([.slice none 0 0, .int .u64 0]) := by kernel_rfl
theorem zc_62_SnQ : zcells Tryz.prog 62 = some ([.int .u64 0, .int .i64 0, .int .i64 0, .int .i64 0, .int .i64 0, .int .i64 0, .bool false]) := by kernel_rfl
attribute [local irreducible] Wops W Wq Wt

theorem encD_ones (ds : List Du) : ∀ v ∈ ds.flatMap encD, oneCell v = true := fun v hv => by
  obtain ⟨a, _, h⟩ := List.mem_flatMap.1 hv
  exact encD_one a v h
theorem encD_len (ds : List Du) : (ds.flatMap encD).length = ds.length * 7 := by
  induction ds with
  | nil => rfl
  | cons a ds ih =>
    rw [List.flatMap_cons, List.length_append, ih]
    show 7 + ds.length * 7 = (ds.length + 1) * 7
    omega
theorem lastId_take {ds : List Du} {i : Nat} {p : Du} (h0 : 0 < i) (h : ds[i - 1]? = some p) : lastId 0 (ds.take i) = p.id := by
  obtain ⟨j, rfl⟩ : ∃ j, i = j + 1 := ⟨i - 1, by omega⟩
  rw [List.take_succ, show ds[j]? = some p from h]
  exact lastId_append 0 _ p
set_option maxRecDepth 20000 in
set_option maxHeartbeats 4000000 in
theorem r18of_ok (a : Option Addr) (n c : Nat) (ds : List Du) (nx : Int) (w : World) (R : Rd w a 7 encD ds) (hn : ds.length = n) (hn2 : n ≤ 1000000000) (hnx : 0 ≤ nx ∧ nx < 18446744073709551616) (hid : ∀ d ∈ ds, 0 ≤ d.id ∧ d.id < 18446744073709551616) :
    Ret Tryz.prog 56 #[.slice a n c, .int .u64 nx] w fun v w' => ∃ p, v = .tuple #[p, .int .i64 (ofC ds nx)] ∧ (ofC ds nx ≠ 0 → p = .pointer none) ∧ (ofC ds nx = 0 → ∃ bd a' c' full, p = ptr bd ∧ w'.heap[bd]? = some (Bl 48 [.slice a' ds.length c', .int .u64 nx]) ∧ OS a' ds.length c' 7 full (ds.flatMap encD) ∧
      (∀ x ∈ ent a' 62 full, w'.heap[x.1]? = some x.2 ∧ w.heap.size ≤ x.1 ∧ x.1 ≠ bd) ∧ w.heap.size ≤ bd) ∧ Ext [] w w' := by
  subst hn
  obtain ⟨w0, rfl⟩ : ∃ w0, w0 = w := ⟨_, rfl⟩
  have H := Ctx.start w0 []
  refine ret_of_W (fn := Tryz.f56) Tryz.func56 rfl [.slice a ds.length c, .int .u64 nx] rfl (by kernel_rfl) ?_
  refine W_rseq ?_
  refine op_assign rfl (.pointer _) rfl ?_
  refine op_assign rfl (.int _ _) rfl ?_
  refine op_nil (at_then ?_)
  refine W_seq ?_
  refine W_rseq ?_
  refine op_move rfl (.slice _ _ _) rfl ?_
  refine op_len rfl el_23_SnQ rfl ?_
  refine op_gtr rfl rfl rfl ?_
  refine op_nil (at_then ?_)
  refine W_cond _ rfl ?_ ?_
  · intro h1
    replace h1 := dec_t h1
    refine W_rseq ?_
    refine op_assign rfl (.pointer _) rfl ?_
    refine op_assign rfl (.int _ _) rfl ?_
    refine op_nil (at_then ?_)
    refine W_ret (ret_then (leave2 (v1 := (.pointer _)) (v2 := (.int _ _)) rfl rfl rfl rfl ?_))
    have h1' : ofC ds nx = 6 := by unfold ofC; rw [if_pos (by omega)]
    exact ⟨_, by rw [h1'], fun _ => rfl, (fun h => by omega), H.ext⟩
  · intro h1
    replace h1 := dec_f h1
    have h1' : ¬ 64 < ds.length := by omega
    refine W_skip (at_then ?_)
    refine W_seq ?_
    refine W_rseq ?_
    refine op_assign rfl (.int _ _) rfl ?_
    refine op_nil (at_then ?_)
    refine W_block ?_
    refine W_loop 1152921504606838896 (α := Nat) (fun i => [(6, .int .i64 (i : Int))]) (fun i w' => i ≤ ds.length ∧ Ctx w0 [] w' [] ∧ ascB nx 0 (ds.take i) = true) (fun i => ds.length - i) 0 rfl ?_ ?_ ?_
    · exact ⟨rfl, trivial⟩
    · exact ⟨Nat.zero_le _, H, rfl⟩
    · clear H
      rintro i j w ⟨hi, H, has⟩
      refine W_seq ?_
      refine W_rseq ?_
      refine op_move rfl (.int _ _) rfl ?_
      refine op_move rfl (.slice _ _ _) rfl ?_
      refine op_len rfl el_23_SnQ rfl ?_
      refine op_lss rfl rfl rfl ?_
      refine op_nil (at_then ?_)
      refine W_cond _ rfl ?_ ?_
      · intro h3
        replace h3 := dec_t h3
        obtain ⟨d, hd⟩ := get_some (l := ds) (i := i) (by omega)
        obtain ⟨pd, hpv⟩ : ∃ pd : Du, 0 < i → ds[i - 1]? = some pd := by
          rcases Nat.eq_zero_or_pos i with h | h
          · exact ⟨d, fun h7 => by omega⟩
          · obtain ⟨pd, hpd⟩ := get_some (l := ds) (i := i - 1) (by omega)
            exact ⟨pd, fun _ => hpd⟩
        obtain ⟨ah, hah⟩ : ∃ ah, ah = lastId 0 (ds.take i) := ⟨_, rfl⟩
        have hah0 : i = 0 → ah = 0 := fun h => by subst h; exact hah
        have hah1 : 0 < i → ah = pd.id := fun h => by rw [hah]; exact lastId_take h (hpv h)
        have hahp : 0 ≤ ah := by rw [hah]; exact (asc_lt has).2.2
        have hdi := hid d (List.mem_of_getElem? hd)
        have htk : ds.take (i + 1) = ds.take i ++ [d] := by rw [List.take_succ, hd]; rfl
        have hasc : ascB nx 0 (ds.take (i + 1)) = (mayD d && (decide (ah < d.id) && decide (d.id < nx))) := by
          rw [htk, ascB_append, has, Bool.true_and, ← hah]
          show (_ && true) = _
          rw [Bool.and_true]
        have hpdi : 0 < i → 0 ≤ pd.id ∧ pd.id < 18446744073709551616 := fun h => hid pd (List.mem_of_getElem? (hpv h))
        have hbad : (mayD d && (decide (ah < d.id) && decide (d.id < nx))) = false → ofC ds nx = 1 := fun h4 => by
          unfold ofC
          rw [if_neg h1']
          split
          · rfl
          · rw [if_pos]
            have h5 : ascB nx 0 ds = ascB nx 0 (ds.take (i + 1) ++ ds.drop (i + 1)) := by rw [List.take_append_drop]
            rw [h5, ascB_append, hasc, h4]; rfl
        have hnext : (mayD d && (decide (ah < d.id) && decide (d.id < nx))) = true → ascB nx 0 (ds.take (i + 1)) = true := fun h4 => by rw [hasc]; exact h4
        refine W_skip (at_then ?_)
        refine W_seq ?_
        refine W_block ?_
        refine W_sseqz [([0, 1, 2, 3], 4), ([5, 6, 7, 8, 9, 10, 11, 12, 13, 14, 15, 16, 17, 18, 19, 20, 21, 22, 23, 24, 25, 26, 27, 28, 29, 30, 31, 32, 33, 34, 35, 36, 37, 38, 39], 40)] (fun z => Ext [] w0 z) [] mixed_SnQ (by kernel_rfl) (H.drew.ext) ?_
        refine seg_cons rfl rfl ?_
        refine t_move rfl (.slice _ _ _) rfl ?_
        refine t_move rfl (.int _ _) rfl ?_
        first | refine t_indexRd R rfl el_23_SnQ sz_62_SnQ rfl rfl (by omega) (by omega) (by first | rfl | omega) ?_ | refine t_indexAddr rfl el_23_SnQ sz_62_SnQ rfl rfl (by omega) (by omega) ?_
        first | refine t_ldN _ rfl ag_62_SnQ sz_62_SnQ rfl rfl (fun _ hx => (R.ext0 hx).row hd rfl) ?_ | refine t_ldbN rfl ag_62_SnQ sz_62_SnQ rfl True.intro (by first | exact at0 | exact at1 | exact at2 | exact at3 | exact at4 | exact at5 | exact at6 | exact at7 | exact at8 | exact at9) rfl ?_
        refine t_nil ?_
        replace H := H.drew
        refine op_call rfl ca_76_SnQ (r18may_ok d _) rfl ?_
        rintro v w ⟨rfl, hx23⟩
        replace H := H.call hx23
        refine op_nil (at_seg (H.ext) ?_)
        refine seg_cons rfl rfl ?_
        refine t_not rfl rfl ?_
        refine t_move rfl (.bool _) rfl ?_
        refine Wt_split 25 rfl ?_ ?_
        · intro g1
          replace g1 := nvar_t g1
          refine t_skip rfl ?_
          refine t_skip rfl ?_
          refine t_skip rfl ?_
          refine t_skip rfl ?_
          refine t_skip rfl ?_
          refine t_skip rfl ?_
          refine t_pick1 rfl rfl (.bool _) rfl ?_
          refine t_move rfl (.bool _) rfl ?_
          refine t_skip rfl ?_
          refine t_skip rfl ?_
          refine t_skip rfl ?_
          refine t_skip rfl ?_
          refine t_skip rfl ?_
          refine t_skip rfl ?_
          refine t_skip rfl ?_
          refine t_pick1 rfl rfl (.bool _) rfl ?_
          refine t_move rfl (.bool _) rfl ?_
          refine t_skip rfl ?_
          refine t_skip rfl ?_
          refine t_skip rfl ?_
          refine t_skip rfl ?_
          refine t_skip rfl ?_
          refine t_skip rfl ?_
          refine t_skip rfl ?_
          refine t_skip rfl ?_
          refine t_skip rfl ?_
          refine t_skip rfl ?_
          refine t_skip rfl ?_
          refine t_skip rfl ?_
          refine t_skip rfl ?_
          refine t_skip rfl ?_
          refine t_skip rfl ?_
          refine t_skip rfl ?_
          refine t_nil ?_
          refine op_pick1 rfl rfl (.bool _) rfl ?_
          refine op_nil (at_seg (H.ext) ?_)
          refine seg_nil ?_
          refine W_cond1 rfl ?_
          refine W_rseq ?_
          refine op_assign rfl (.pointer _) rfl ?_
          refine op_assign rfl (.int _ _) rfl ?_
          refine op_nil (at_then ?_)
          refine W_ret (ret_block (ret_then (ret_then (ret_block (ret_then (leave2 (v1 := (.pointer _)) (v2 := (.int _ _)) rfl rfl rfl rfl ?_))))))
          exact ⟨_, by rw [hbad (by rw [show mayD d = false by simpa using g1]; rfl)], fun _ => rfl, (fun h => by rw [hbad (by rw [show mayD d = false by simpa using g1]; rfl)] at h; omega), H.ext⟩
        · intro g1
          replace g1 := nvar_f g1
          have g1' : mayD d = true := by simpa using g1
          refine t_move rfl (.slice _ _ _) rfl ?_
          refine t_move rfl (.int _ _) rfl ?_
          first | refine t_indexRd R rfl el_23_SnQ sz_62_SnQ rfl rfl (by omega) (by omega) (by first | rfl | omega) ?_ | refine t_indexAddr rfl el_23_SnQ sz_62_SnQ rfl rfl (by omega) (by omega) ?_
          refine t_fieldAddr rfl fo_62_0_SnQ rfl ?_
          first | refine t_ldb rfl ag_24_SnQ rfl True.intro (by first | exact at0 | exact at1 | exact at2 | exact at3 | exact at4 | exact at5 | exact at6 | exact at7 | exact at8 | exact at9) rfl ?_ | refine t_ld rfl ag_24_SnQ rfl (fun _ hx => ((R.ext0 hx).fld hd rfl (j := 0) rfl)) ?_ | refine t_ld rfl ag_24_SnQ rfl (fun _ hx => ((R.ext0 hx).fld (hpv (by omega)) rfl (j := 0) rfl)) ?_
          refine t_lss rfl rfl rfl ?_
          refine t_pick0 rfl rfl (.bool _) rfl ?_
          refine t_move rfl (.bool _) rfl ?_
          refine Wt_split 33 rfl ?_ ?_
          · intro g2
            replace g2 := dec_t g2
            refine t_skip rfl ?_
            refine t_skip rfl ?_
            refine t_skip rfl ?_
            refine t_skip rfl ?_
            refine t_skip rfl ?_
            refine t_skip rfl ?_
            refine t_skip rfl ?_
            refine t_pick1 rfl rfl (.bool _) rfl ?_
            refine t_move rfl (.bool _) rfl ?_
            refine t_skip rfl ?_
            refine t_skip rfl ?_
            refine t_skip rfl ?_
            refine t_skip rfl ?_
            refine t_skip rfl ?_
            refine t_skip rfl ?_
            refine t_skip rfl ?_
            refine t_skip rfl ?_
            refine t_skip rfl ?_
            refine t_skip rfl ?_
            refine t_skip rfl ?_
            refine t_skip rfl ?_
            refine t_skip rfl ?_
            refine t_skip rfl ?_
            refine t_skip rfl ?_
            refine t_skip rfl ?_
            refine t_nil ?_
            refine op_pick1 rfl rfl (.bool _) rfl ?_
            refine op_nil (at_seg (H.ext) ?_)
            refine seg_nil ?_
            refine W_cond1 rfl ?_
            refine W_rseq ?_
            refine op_assign rfl (.pointer _) rfl ?_
            refine op_assign rfl (.int _ _) rfl ?_
            refine op_nil (at_then ?_)
            refine W_ret (ret_block (ret_then (ret_then (ret_block (ret_then (leave2 (v1 := (.pointer _)) (v2 := (.int _ _)) rfl rfl rfl rfl ?_))))))
            have hb := hbad (by rw [g1', Bool.true_and, decide_eq_false (show ¬ ah < d.id by omega)]; rfl)
            exact ⟨_, by rw [hb], fun _ => rfl, (fun h => by omega), H.ext⟩
          · intro g2
            replace g2 := dec_f g2
            refine t_move rfl (.slice _ _ _) rfl ?_
            refine t_move rfl (.int _ _) rfl ?_
            first | refine t_indexRd R rfl el_23_SnQ sz_62_SnQ rfl rfl (by omega) (by omega) (by first | rfl | omega) ?_ | refine t_indexAddr rfl el_23_SnQ sz_62_SnQ rfl rfl (by omega) (by omega) ?_
            refine t_fieldAddr rfl fo_62_0_SnQ rfl ?_
            first | refine t_ldb rfl ag_24_SnQ rfl True.intro (by first | exact at0 | exact at1 | exact at2 | exact at3 | exact at4 | exact at5 | exact at6 | exact at7 | exact at8 | exact at9) rfl ?_ | refine t_ld rfl ag_24_SnQ rfl (fun _ hx => ((R.ext0 hx).fld hd rfl (j := 0) rfl)) ?_ | refine t_ld rfl ag_24_SnQ rfl (fun _ hx => ((R.ext0 hx).fld (hpv (by omega)) rfl (j := 0) rfl)) ?_
            refine t_move rfl (.int _ _) rfl ?_
            refine t_geq rfl rfl rfl ?_
            refine t_pick0 rfl rfl (.bool _) rfl ?_
            refine t_move rfl (.bool _) rfl ?_
            refine Wt_split 42 rfl ?_ ?_
            · intro g3
              replace g3 := dec_t g3
              refine t_skip rfl ?_
              refine t_skip rfl ?_
              refine t_skip rfl ?_
              refine t_skip rfl ?_
              refine t_skip rfl ?_
              refine t_skip rfl ?_
              refine t_skip rfl ?_
              refine t_skip rfl ?_
              refine t_skip rfl ?_
              refine t_skip rfl ?_
              refine t_skip rfl ?_
              refine t_skip rfl ?_
              refine t_skip rfl ?_
              refine t_skip rfl ?_
              refine t_skip rfl ?_
              refine t_skip rfl ?_
              refine t_nil ?_
              refine op_pick1 rfl rfl (.bool _) rfl ?_
              refine op_nil (at_seg (H.ext) ?_)
              refine seg_nil ?_
              refine W_cond1 rfl ?_
              refine W_rseq ?_
              refine op_assign rfl (.pointer _) rfl ?_
              refine op_assign rfl (.int _ _) rfl ?_
              refine op_nil (at_then ?_)
              refine W_ret (ret_block (ret_then (ret_then (ret_block (ret_then (leave2 (v1 := (.pointer _)) (v2 := (.int _ _)) rfl rfl rfl rfl ?_))))))
              have hb := hbad (by rw [g1', Bool.true_and, decide_eq_false (show ¬ d.id < nx by omega), Bool.and_false])
              exact ⟨_, by rw [hb], fun _ => rfl, (fun h => by omega), H.ext⟩
            · intro g3
              replace g3 := dec_f g3
              refine t_move rfl (.int _ _) rfl ?_
              refine t_gtr rfl rfl rfl ?_
              refine t_move rfl (.bool _) rfl ?_
              refine Wt_split 45 rfl ?_ ?_
              · intro g4
                replace g4 := dec_t g4
                have hp0 := hah1 (by omega)
                refine t_move rfl (.slice _ _ _) rfl ?_
                refine t_move rfl (.int _ _) rfl ?_
                refine t_sub_i64 rfl rfl rfl (by omega) (by omega) ?_
                rw [show (i : Int) - 1 = ((i - 1 : Nat) : Int) by omega]
                first | refine t_indexRd R rfl el_23_SnQ sz_62_SnQ rfl rfl (by omega) (by omega) (by first | rfl | omega) ?_ | refine t_indexAddr rfl el_23_SnQ sz_62_SnQ rfl rfl (by omega) (by omega) ?_
                refine t_fieldAddr rfl fo_62_0_SnQ rfl ?_
                first | refine t_ldb rfl ag_24_SnQ rfl True.intro (by first | exact at0 | exact at1 | exact at2 | exact at3 | exact at4 | exact at5 | exact at6 | exact at7 | exact at8 | exact at9) rfl ?_ | refine t_ld rfl ag_24_SnQ rfl (fun _ hx => ((R.ext0 hx).fld hd rfl (j := 0) rfl)) ?_ | refine t_ld rfl ag_24_SnQ rfl (fun _ hx => ((R.ext0 hx).fld (hpv (by omega)) rfl (j := 0) rfl)) ?_
                refine t_move rfl (.slice _ _ _) rfl ?_
                refine t_move rfl (.int _ _) rfl ?_
                first | refine t_indexRd R rfl el_23_SnQ sz_62_SnQ rfl rfl (by omega) (by omega) (by first | rfl | omega) ?_ | refine t_indexAddr rfl el_23_SnQ sz_62_SnQ rfl rfl (by omega) (by omega) ?_
                refine t_fieldAddr rfl fo_62_0_SnQ rfl ?_
                first | refine t_ldb rfl ag_24_SnQ rfl True.intro (by first | exact at0 | exact at1 | exact at2 | exact at3 | exact at4 | exact at5 | exact at6 | exact at7 | exact at8 | exact at9) rfl ?_ | refine t_ld rfl ag_24_SnQ rfl (fun _ hx => ((R.ext0 hx).fld hd rfl (j := 0) rfl)) ?_ | refine t_ld rfl ag_24_SnQ rfl (fun _ hx => ((R.ext0 hx).fld (hpv (by omega)) rfl (j := 0) rfl)) ?_
                refine t_geq rfl rfl rfl ?_
                refine t_pick1 rfl rfl (.bool _) rfl ?_
                refine t_nil ?_
                refine op_pick0 rfl rfl (.bool _) rfl ?_
                refine op_nil (at_seg (H.ext) ?_)
                refine seg_nil ?_
                refine W_cond _ rfl ?_ ?_
                · intro g5
                  replace g5 := dec_t g5
                  refine W_rseq ?_
                  refine op_assign rfl (.pointer _) rfl ?_
                  refine op_assign rfl (.int _ _) rfl ?_
                  refine op_nil (at_then ?_)
                  refine W_ret (ret_block (ret_then (ret_then (ret_block (ret_then (leave2 (v1 := (.pointer _)) (v2 := (.int _ _)) rfl rfl rfl rfl ?_))))))
                  have hb := hbad (by rw [g1', Bool.true_and, decide_eq_false (show ¬ ah < d.id by omega)]; rfl)
                  exact ⟨_, by rw [hb], fun _ => rfl, (fun h => by omega), H.ext⟩
                · intro g5
                  replace g5 := dec_f g5
                  refine W_skip (at_block (at_then ?_))
                  refine W_region ?_
                  refine op_move rfl (.int _ _) rfl ?_
                  refine op_add_i64 rfl rfl rfl (by omega) (by omega) ?_
                  refine op_assign rfl (.int _ _) rfl ?_
                  refine op_nil (at_then ?_)
                  exact ⟨i + 1, rfl, ⟨rfl, trivial⟩, ⟨by omega, H, hnext (by rw [g1', decide_eq_true (show ah < d.id by omega), decide_eq_true (show d.id < nx by omega)]; rfl)⟩, by omega⟩
              · intro g4
                replace g4 := dec_f g4
                have hp0 := hah0 (by omega)
                refine t_skip rfl ?_
                refine t_skip rfl ?_
                refine t_skip rfl ?_
                refine t_skip rfl ?_
                refine t_skip rfl ?_
                refine t_skip rfl ?_
                refine t_skip rfl ?_
                refine t_skip rfl ?_
                refine t_skip rfl ?_
                refine t_skip rfl ?_
                refine t_skip rfl ?_
                refine t_skip rfl ?_
                refine t_pick0 rfl rfl (.bool _) rfl ?_
                refine t_nil ?_
                refine op_pick0 rfl rfl (.bool _) rfl ?_
                refine op_nil (at_seg (H.ext) ?_)
                refine seg_nil ?_
                refine W_cond0 rfl ?_
                refine W_skip (at_block (at_then ?_))
                refine W_region ?_
                refine op_move rfl (.int _ _) rfl ?_
                refine op_add_i64 rfl rfl rfl (by omega) (by omega) ?_
                refine op_assign rfl (.int _ _) rfl ?_
                refine op_nil (at_then ?_)
                exact ⟨i + 1, rfl, ⟨rfl, trivial⟩, ⟨by omega, H, hnext (by rw [g1', decide_eq_true (show ah < d.id by omega), decide_eq_true (show d.id < nx by omega)]; rfl)⟩, by omega⟩
      · intro h3
        replace h3 := dec_f h3
        obtain rfl : i = ds.length := by omega
        rw [List.take_length] at has
        refine W_exit (exit_then (exit_then (exit_here (at_then ?_))))
        refine W_seq ?_
        refine W_rseq (Wops_join (α := Unit) 72634054790231359488 (fun _ => [(65, .bool (!(decide (1 ≤ nx) && decide (nx ≤ 4611686018427387904))))]) (fun _ w' => Ctx w0 [] w' []) rfl ?_ ?_)
        · refine op_move rfl (.int _ _) rfl ?_
          refine op_lss rfl rfl rfl ?_
          refine op_move rfl (.bool _) rfl ?_
          refine Wops_split 62 rfl ?_ ?_
          · intro h1
            replace h1 := dec_t h1
            refine op_skip rfl ?_
            refine op_skip rfl ?_
            refine op_pick1 rfl rfl (.bool _) rfl ?_
            refine op_nil ?_
            exact ⟨rfl, (), rfl, ⟨congrArg Value.bool (by rw [Bool.eq_iff_iff]; simp_all; try omega), trivial⟩, H⟩
          · intro h2
            replace h2 := dec_f h2
            refine op_move rfl (.int _ _) rfl ?_
            refine op_gtr rfl rfl rfl ?_
            refine op_pick0 rfl rfl (.bool _) rfl ?_
            refine op_nil ?_
            exact ⟨rfl, (), rfl, ⟨congrArg Value.bool (by rw [Bool.eq_iff_iff]; simp_all; try omega), trivial⟩, H⟩
        rintro - j65 w H
        refine W_cond _ rfl ?_ ?_
        · intro h2
          replace h2 := nvar_t h2
          refine W_rseq ?_
          refine op_assign rfl (.pointer _) rfl ?_
          refine op_assign rfl (.int _ _) rfl ?_
          refine op_nil (at_then ?_)
          refine W_ret (ret_then (leave2 (v1 := (.pointer _)) (v2 := (.int _ _)) rfl rfl rfl rfl ?_))
          have h2' : ofC ds nx = 1 := by unfold ofC; rw [if_neg h1', if_pos (by simpa using h2)]
          exact ⟨_, by rw [h2'], fun _ => rfl, (fun h => by omega), H.ext⟩
        · intro h2
          replace h2 := nvar_f h2
          have h2' : (decide (1 ≤ nx) && decide (nx ≤ 4611686018427387904)) = true := by simpa using h2
          have h2n : ¬ (decide (1 ≤ nx) && decide (nx ≤ 4611686018427387904)) = false := by rw [h2']; decide
          obtain ⟨tt, htt⟩ : ∃ tt, tt = totM (ds.map Du.am) := ⟨_, rfl⟩
          have hC : ofC ds nx = tt.2 := by unfold ofC; rw [if_neg h1', if_neg h2n, if_neg (by rw [has]; decide), htt]
          rw [hC]
          refine W_skip (at_then ?_)
          refine W_rseq ?_
          refine op_move rfl (.slice _ _ _) rfl ?_
          refine op_call rfl ca_115_SnQ (r18am_ok a ds.length c ds _ (R.ext0 H.ext) rfl (by omega)) rfl ?_
          rintro v w F4
          obtain ⟨a4, n4, c4, f4, rfl, O4, hb4⟩ := F4.ex
          replace H := H.call F4.ext
          have hl4 := O4.llen
          rw [List.length_map, List.length_map] at hl4
          refine op_call rfl ca_77_SnQ (r16sum_ok a4 n4 c4 (ds.map Du.am) _ (O4.rd1 fun x hx => (hb4 x hx).1) (by rw [List.length_map]; omega) (by omega)) rfl ?_
          rintro v w ⟨rfl, rfl⟩
          rw [← htt]
          refine op_move rfl (.tuple _) rfl ?_
          refine op_extract rfl rfl rfl ?_
          refine op_extract rfl rfl rfl ?_
          refine op_assign rfl (.int _ _) rfl ?_
          refine op_assign rfl (.int _ _) rfl ?_
          refine op_nil (at_then ?_)
          refine W_seq ?_
          refine W_rseq ?_
          refine op_move rfl (.int _ _) rfl ?_
          refine op_neq rfl rfl rfl ?_
          refine op_nil (at_then ?_)
          refine W_cond _ rfl ?_ ?_
          · intro h5
            replace h5 := ndec_t h5
            refine W_rseq ?_
            refine op_move rfl (.int _ _) rfl ?_
            refine op_assign rfl (.pointer _) rfl ?_
            refine op_assign rfl (.int _ _) rfl ?_
            refine op_nil (at_then ?_)
            refine W_ret (ret_then (leave2 (v1 := (.pointer _)) (v2 := (.int _ _)) rfl rfl rfl rfl ?_))
            exact ⟨_, rfl, fun _ => rfl, (fun h => absurd h h5), H.ext⟩
          · intro h5
            replace h5 := ndec_f h5
            refine W_skip (at_then ?_)
            refine W_rseq ?_
            refine op_move rfl (.int _ _) rfl ?_
            refine op_buildS [.slice none 0 0, .int .u64 nx] rfl pl_48_SnQ zc_48_SnQ (by kernel_rfl) ?_
            refine op_box rfl [.slice none 0 0, .int .u64 nx] (.agg _) rfl rfl H ?_
            rintro b77 w - H
            refine op_assign rfl (.pointer _) rfl ?_
            refine op_nil (at_then ?_)
            refine W_rseq ?_
            refine op_move rfl (.pointer _) rfl ?_
            refine op_move rfl (.pointer _) rfl ?_
            refine op_nilCheck rfl rfl ?_
            refine op_fieldAddr rfl fo_48_0_SnQ rfl ?_
            first | refine op_ldb rfl ag_23_SnQ rfl H (by first | exact at0 | exact at1 | exact at2 | exact at3 | exact at4 | exact at5 | exact at6 | exact at7 | exact at8 | exact at9) rfl ?_ | refine op_ld rfl ag_23_SnQ rfl (((R.ext0 hx).fld hd rfl (j := 0) rfl)) ?_ | refine op_ld rfl ag_23_SnQ rfl (((R.ext0 hx).fld (hpv (by omega)) rfl (j := 0) rfl)) ?_
            refine op_move rfl (.slice _ _ _) rfl ?_
            refine op_append (L := [_]) (a := none) (n := 0) (c := 0) (full := []) (l := []) rfl el_23_SnQ el_23_SnQ sz_62_SnQ by_62_SnQ zc_62_SnQ rfl (by decide) (ds.flatMap encD) rfl rfl H OS.nil (encD_len ds) (encD_ones ds) ((R.ext0 H.ext).app (fun _ _ => rfl) (by omega)) (by omega) ?_
            rintro a7 c7 full7 w H O
            rw [show 0 + ds.length = ds.length from Nat.zero_add _]
            refine op_nilCheck rfl rfl ?_
            refine op_fieldAddr rfl fo_48_0_SnQ rfl ?_
            refine op_stb (.slice _ _ _) rfl sz_23_SnQ rfl rfl rfl H (by first | exact at0 | exact at1 | exact at2 | exact at3 | exact at4 | exact at5 | exact at6 | exact at7 | exact at8 | exact at9) (by first | decide | (simp; done) | (simp; omega)) ?_
            rintro w H
            refine op_nil (at_then ?_)
            refine W_rseq ?_
            refine op_move rfl (.pointer _) rfl ?_
            refine op_assign rfl (.pointer _) rfl ?_
            refine op_assign rfl (.int _ _) rfl ?_
            refine op_nil (at_then ?_)
            refine W_ret (leave2 (v1 := (.pointer _)) (v2 := (.int _ _)) rfl rfl rfl rfl ?_)
            have h5' : tt.2 = 0 := by omega
            rw [List.nil_append, Nat.zero_add] at O
            refine ⟨_, by rw [h5'], (fun h => absurd h5' h), (fun _ => ⟨b77, a7, c7, full7, rfl, H.get at0, O, fun x hx => ?_, ?_⟩), H.ext⟩
            · have hm := List.mem_cons_of_mem (b77, Bl 48 [.slice a7 ds.length c7, .int .u64 nx]) hx
              refine ⟨H.blk x hm, (H.own x hm).elim (fun h => by cases h) id, fun h => ?_⟩
              exact (List.pairwise_cons.1 H.nd).1 x hx h.symm
            · exact (H.own (b77, _) (List.mem_cons_self ..)).elim (fun h => by cases h) id
end Go.Proofs.YtapphbmlkdhnmaaGreat

/- The dues: Pay. -/
namespace Go.Proofs.YtapphbmlkdhnmaaGreat
open Go.GV
theorem ag_121_SnR : aggB Tryz.prog 121 = some false := by kernel_rfl
theorem ag_2_SnR : aggB Tryz.prog 2 = some false := by kernel_rfl
theorem ag_4_SnR : aggB Tryz.prog 4 = some false := by kernel_rfl
theorem fo_123_0_SnR : fieldO Tryz.prog 123 0 = some 0 := by kernel_rfl
theorem fo_62_3_SnR : fieldO Tryz.prog 62 3 = some 3 := by kernel_rfl
theorem fo_62_6_SnR : fieldO Tryz.prog 62 6 = some 6 := by kernel_rfl
theorem mixed_SnR : Tryz.prog.follows .mixedOrders = true := by kernel_rfl
theorem mt_121_SnR : mapT Tryz.prog 121 = some (24, 62) := by kernel_rfl
theorem sz_2_SnR : tsize Tryz.prog 2 = some 1 := by kernel_rfl
theorem sz_62_SnR : tsize Tryz.prog 62 = some 7 := by kernel_rfl
theorem un_24_SnR : Tryz.prog.underlying 24 = some (.int .u64) := by kernel_rfl
theorem un_36_SnR : Tryz.prog.underlying 36 = some (.pointer 123) := by kernel_rfl
theorem zc_62_SnR : zcells Tryz.prog 62 = some ([.int .u64 0, .int .i64 0, .int .i64 0, .int .i64 0, .int .i64 0, .int .i64 0, .bool false]) := by kernel_rfl
theorem zv_62_SnR : (Tryz.prog.info? 62).bind (·.zero) = some (.agg #[.int .u64 0, .int .i64 0, .int .i64 0, .int .i64 0, .int .i64 0, .int .i64 0, .bool false]) := by kernel_rfl
attribute [local irreducible] Wops W Wq Wt

/-- What paying x at a due answers. -/
def pC (d : Du) (x : Int) : Int := if x < 0 then 1 else if d.held = true then 14 else if d.am < x then 12 else 0
def pD (d : Du) (x : Int) : Du := if pC d x = 0 then { d with am := d.am - x } else d
set_option maxRecDepth 20000 in
set_option maxHeartbeats 2000000 in
theorem pay1_ok {b7 bx : Nat} {d : Du} {x : Int} (w : World) (h7 : w.heap[b7]? = some (Bl 62 (encD d))) (hx : w.heap[bx]? = some (Bl 2 [.int .i64 x])) (hne : bx ≠ b7) (ham : 0 ≤ d.am ∧ d.am ≤ 4503599627370496) :
    Ret Tryz.prog 139 #[ptr b7, ptr bx] w fun v w' => v = .int .i64 (pC d x) ∧ Ctx w [b7] w' [(b7, Bl 62 (encD (pD d x)))] := by
  obtain ⟨w0, rfl⟩ : ∃ w0, w0 = w := ⟨_, rfl⟩
  have H := Ctx.start1 h7
  have hn : bx ∉ [b7] := by rw [List.mem_singleton]; exact hne
  refine ret_of_W (fn := Tryz.f139) Tryz.func139 rfl [.pointer (some ⟨b7, 0, none⟩), .pointer (some ⟨bx, 0, none⟩)] rfl (by kernel_rfl) ?_
  refine W_rseq ?_
  refine op_assign rfl (.int _ _) rfl ?_
  refine op_nil (at_then ?_)
  refine W_seq ?_
  refine W_block ?_
  refine W_rseq ?_
  first | refine op_ldb rfl ag_2_SnR rfl H (by first | exact at0 | exact at1 | exact at2 | exact at3 | exact at4 | exact at5 | exact at6 | exact at7 | exact at8 | exact at9) rfl ?_ | refine op_ld rfl ag_2_SnR rfl ((H.old (cell_bl hx _) hn)) ?_ | refine op_ld rfl ag_2_SnR rfl ((H.drew.old (cell_bl hx _) hn)) ?_
  refine op_lss rfl rfl rfl ?_
  refine op_assign rfl (.bool _) rfl ?_
  refine op_nil (at_then ?_)
  refine W_cond _ rfl ?_ ?_
  · intro h1
    replace h1 := dec_t h1
    refine W_rseq ?_
    refine op_assign rfl (.int _ _) rfl ?_
    refine op_nil (at_then ?_)
    refine W_ret (ret_block (ret_then (leave1 (v := (.int _ _)) rfl rfl rfl ?_)))
    have hp : pC d x = 1 := if_pos h1
    exact ⟨by rw [hp], by unfold pD; rw [hp, if_neg (by decide)]; exact H⟩
  · intro h1
    replace h1 := dec_f h1
    refine W_rseq ?_
    refine op_move rfl (.pointer _) rfl ?_
    refine op_nilCheck rfl rfl ?_
    refine op_fieldAddr rfl fo_62_6_SnR rfl ?_
    first | refine op_ldb rfl ag_4_SnR rfl H (by first | exact at0 | exact at1 | exact at2 | exact at3 | exact at4 | exact at5 | exact at6 | exact at7 | exact at8 | exact at9) rfl ?_ | refine op_ld rfl ag_4_SnR rfl ((H.old (cell_bl hx _) hn)) ?_ | refine op_ld rfl ag_4_SnR rfl ((H.drew.old (cell_bl hx _) hn)) ?_
    refine op_assign rfl (.bool _) rfl ?_
    refine op_nil (at_then ?_)
    refine W_cond _ rfl ?_ ?_
    · intro h2
      refine W_rseq ?_
      refine op_assign rfl (.int _ _) rfl ?_
      refine op_nil (at_then ?_)
      refine W_ret (ret_block (ret_then (leave1 (v := (.int _ _)) rfl rfl rfl ?_)))
      have hp : pC d x = 14 := by unfold pC; rw [if_neg (by omega), if_pos h2]
      exact ⟨by rw [hp], by unfold pD; rw [hp, if_neg (by decide)]; exact H⟩
    · intro h2
      refine W_qseq (fun x => x = _) mixed_SnR (by kernel_rfl) rfl ?_
      first | refine q_ldb rfl ag_2_SnR rfl (by rintro _ rfl; exact H.drew) (by first | exact at0 | exact at1 | exact at2 | exact at3 | exact at4 | exact at5 | exact at6 | exact at7 | exact at8 | exact at9) rfl ?_ | refine q_ld rfl ag_2_SnR rfl (by rintro _ rfl; exact ((H.old (cell_bl hx _) hn))) ?_ | refine q_ld rfl ag_2_SnR rfl (by rintro _ rfl; exact ((H.drew.old (cell_bl hx _) hn))) ?_
      refine q_move rfl (.pointer _) rfl ?_
      refine q_nilCheck rfl rfl ?_
      refine q_fieldAddr rfl fo_62_3_SnR rfl ?_
      first | refine q_ldb rfl ag_2_SnR rfl (by rintro _ rfl; exact H.drew) (by first | exact at0 | exact at1 | exact at2 | exact at3 | exact at4 | exact at5 | exact at6 | exact at7 | exact at8 | exact at9) rfl ?_ | refine q_ld rfl ag_2_SnR rfl (by rintro _ rfl; exact ((H.old (cell_bl hx _) hn))) ?_ | refine q_ld rfl ag_2_SnR rfl (by rintro _ rfl; exact ((H.drew.old (cell_bl hx _) hn))) ?_
      refine q_gtr rfl rfl rfl ?_
      refine q_assign rfl (.bool _) rfl ?_
      refine q_nil ?_
      rintro _ rfl
      replace H := H.drew
      refine W_cond _ rfl ?_ ?_
      · intro h3
        replace h3 := dec_t h3
        refine W_rseq ?_
        refine op_assign rfl (.int _ _) rfl ?_
        refine op_nil (at_then ?_)
        refine W_ret (ret_block (ret_then (leave1 (v := (.int _ _)) rfl rfl rfl ?_)))
        have hp : pC d x = 12 := by unfold pC; rw [if_neg (by omega), if_neg (by rw [h2]; decide), if_pos h3]
        exact ⟨by rw [hp], by unfold pD; rw [hp, if_neg (by decide)]; exact H⟩
      · intro h3
        replace h3 := dec_f h3
        refine W_skip (at_block (at_then ?_))
        refine W_tseq 8 mixed_SnR (by kernel_rfl) rfl rfl ?_
        refine q_move rfl (.pointer _) rfl ?_
        refine q_nilCheck rfl rfl ?_
        refine q_fieldAddr rfl fo_62_3_SnR rfl ?_
        first | refine q_ldb rfl ag_2_SnR rfl (by rintro _ rfl; exact H.drew) (by first | exact at0 | exact at1 | exact at2 | exact at3 | exact at4 | exact at5 | exact at6 | exact at7 | exact at8 | exact at9) rfl ?_ | refine q_ld rfl ag_2_SnR rfl (by rintro _ rfl; exact ((H.old (cell_bl hx _) hn))) ?_ | refine q_ld rfl ag_2_SnR rfl (by rintro _ rfl; exact ((H.drew.old (cell_bl hx _) hn))) ?_
        first | refine q_ldb rfl ag_2_SnR rfl (by rintro _ rfl; exact H.drew) (by first | exact at0 | exact at1 | exact at2 | exact at3 | exact at4 | exact at5 | exact at6 | exact at7 | exact at8 | exact at9) rfl ?_ | refine q_ld rfl ag_2_SnR rfl (by rintro _ rfl; exact ((H.old (cell_bl hx _) hn))) ?_ | refine q_ld rfl ag_2_SnR rfl (by rintro _ rfl; exact ((H.drew.old (cell_bl hx _) hn))) ?_
        refine q_sub_i64 rfl rfl rfl (by omega) (by omega) ?_
        refine q_nilCheck rfl rfl ?_
        refine q_fieldAddr rfl fo_62_3_SnR rfl ?_
        refine q_nil ?_
        replace H := H.drew
        refine op_stb (.int _ _) rfl sz_2_SnR rfl rfl rfl H (by first | exact at0 | exact at1 | exact at2 | exact at3 | exact at4 | exact at5 | exact at6 | exact at7 | exact at8 | exact at9) (by first | decide | (simp; done) | (simp; omega)) ?_
        rintro w H
        refine op_nil (at_then ?_)
        refine W_rseq ?_
        refine op_assign rfl (.int _ _) rfl ?_
        refine op_nil (at_then ?_)
        refine W_ret (leave1 (v := (.int _ _)) rfl rfl rfl ?_)
        have hp : pC d x = 0 := by unfold pC; rw [if_neg (by omega), if_neg (by rw [h2]; decide), if_neg (by omega)]
        exact ⟨by rw [hp], by unfold pD; rw [hp, if_pos rfl]; exact H⟩
def findD (ds : List Du) (k : Int) : Option Du := ds.find? fun d => d.id == k
theorem mget_find (ds : List Du) (k : Int) : mget (dm ds) k = (findD ds k).map dueV := by
  induction ds with
  | nil => rfl
  | cons x ds ih =>
    unfold dm mget findD at ih ⊢
    rw [List.map_cons, List.find?_cons, List.find?_cons]
    cases h : x.id == k with
    | true => rfl
    | false => exact ih
/-- The dues once x has been paid at one. -/
def payL : List Du → Int → Int → List Du
  | [], _, _ => []
  | d :: ds, k, x => if d.id = k then (if d.am = x then ds else { d with am := d.am - x } :: ds) else d :: payL ds k x
theorem payL_del {ds : List Du} {k x : Int} {d : Du} (h : findD ds k = some d) (hx : d.am = x) : mdel (dm ds) k = dm (payL ds k x) := by
  induction ds with
  | nil => cases h
  | cons y ds ih =>
    unfold findD at h
    rw [List.find?_cons] at h
    by_cases e : y.id = k
    · rw [show (y.id == k) = true by simpa using e] at h
      injection h with h
      subst h
      unfold payL
      rw [if_pos e, if_pos hx]
      show (if y.id = k then dm ds else _) = _
      rw [if_pos e]
    · rw [show (y.id == k) = false by simpa using e] at h
      unfold payL
      rw [if_neg e]
      show (if y.id = k then _ else (y.id, dueV y) :: mdel (dm ds) k) = _
      rw [if_neg e, ih h]; rfl
theorem payL_set {ds : List Du} {k x : Int} {d : Du} (h : findD ds k = some d) (hx : ¬ d.am = x) : mset (dm ds) k (dueV { d with am := d.am - x }) = dm (payL ds k x) := by
  induction ds with
  | nil => cases h
  | cons y ds ih =>
    unfold findD at h
    rw [List.find?_cons] at h
    by_cases e : y.id = k
    · rw [show (y.id == k) = true by simpa using e] at h
      injection h with h
      subst h
      unfold payL
      rw [if_pos e, if_neg hx]
      show (if y.id = k then (k, _) :: dm ds else _) = _
      rw [if_pos e, ← e]; rfl
    · rw [show (y.id == k) = false by simpa using e] at h
      unfold payL
      rw [if_neg e]
      show (if y.id = k then _ else (y.id, dueV y) :: mset (dm ds) k _) = _
      rw [if_neg e, ih h]; rfl
def payC (ds : List Du) (k x : Int) : Int := match findD ds k with
  | none => 11
  | some d => pC d x
def payS (ds : List Du) (k x : Int) : List Du := if payC ds k x = 0 then payL ds k x else ds
def payF (bx : Nat) : Value := .func (.func 139) #[] #[ptr bx]
set_option maxRecDepth 20000 in
set_option maxHeartbeats 2000000 in
theorem turn_none {bd b bx : Nat} {nx k x : Int} {o : Obj} {ds : List Du} (w : World) (hd : w.heap[bd]? = some (Bl 123 (DU b nx))) (hb : w.heap[b]? = some o) (hM : MapO .u64 (dm ds) o) (hbd : bd ≠ b) (hf : findD ds k = none) :
    Ret Tryz.prog 138 #[ptr bd, .int .u64 k, payF bx] w fun v w' => v = .int .i64 (payC ds k x) ∧ ∃ o', MapO .u64 (dm (payS ds k x)) o' ∧ Ctx w [b] w' [(b, o')] := by
  obtain ⟨w0, rfl⟩ : ∃ w0, w0 = w := ⟨_, rfl⟩
  have H := Ctx.start1 hb
  have hc : payC ds k x = 11 := by unfold payC; rw [hf]
  have hmg : mget (dm ds) k = none := by rw [mget_find, hf]; rfl
  unfold payS
  rw [hc, if_neg (by decide)]
  refine ret_of_W (fn := Tryz.f138) Tryz.func138 rfl [.pointer (some ⟨bd, 0, none⟩), .int .u64 k, .func (.func 139) #[] #[.pointer (some ⟨bx, 0, none⟩)]] rfl (by kernel_rfl) ?_
  refine W_rseq ?_
  refine op_assign rfl (.int _ _) rfl ?_
  refine op_nil (at_then ?_)
  refine W_seq ?_
  refine W_rseq ?_
  refine op_move rfl (.pointer _) rfl ?_
  refine op_eqlptr rfl un_36_SnR rfl ?_
  refine op_nil (at_then ?_)
  refine W_cond _ rfl ?_ ?_
  · intro h0
    cases h0
  · intro h0
    refine W_skip (at_then ?_)
    refine W_rseq ?_
    refine op_move rfl (.pointer _) rfl ?_
    refine op_nilCheck rfl rfl ?_
    refine op_fieldAddr rfl fo_123_0_SnR rfl ?_
    first | refine op_ldb rfl ag_121_SnR rfl H (by first | exact at0 | exact at1 | exact at2 | exact at3 | exact at4 | exact at5 | exact at6 | exact at7 | exact at8 | exact at9) rfl ?_ | refine op_ld rfl ag_121_SnR rfl ((H.old (cell_bl hd _) (by rw [List.mem_singleton]; exact hbd))) ?_
    refine op_move rfl (.int _ _) rfl ?_
    refine op_lookupOk rfl mt_121_SnR un_24_SnR zv_62_SnR rfl rfl H at0 hM ?_
    rw [hmg]
    rw [Option.getD_none, Option.isSome_none]
    refine op_move rfl (.tuple _) rfl ?_
    refine op_extract rfl rfl rfl ?_
    refine op_extract rfl rfl rfl ?_
    refine op_alloc rfl zc_62_SnR H ?_
    rintro b7 w - H
    refine op_stb0 rfl sz_62_SnR rfl rfl rfl (by first | exact encD_one d00 | simp [oneCell]) H (by first | exact at0 | exact at1 | exact at2 | exact at3 | exact at4 | exact at5 | exact at6 | exact at7 | exact at8 | exact at9) rfl ?_
    rintro w H
    refine op_assign rfl (.bool _) rfl ?_
    refine op_nil (at_then ?_)
    refine W_seq ?_
    refine W_rseq ?_
    refine op_move rfl (.bool _) rfl ?_
    refine op_not rfl rfl ?_
    refine op_nil (at_then ?_)
    refine W_cond _ rfl ?_ ?_
    · intro h1
      replace h1 := nvar_t h1
      refine W_rseq ?_
      refine op_assign rfl (.int _ _) rfl ?_
      refine op_nil (at_then ?_)
      refine W_ret (ret_then (leave1 (v := (.int _ _)) rfl rfl rfl ?_))
      exact ⟨rfl, o, hM, H.tail⟩
    · intro h1
      replace h1 := nvar_f h1
      cases h1
end Go.Proofs.YtapphbmlkdhnmaaGreat

/- The dues: Pay, whole. -/
namespace Go.Proofs.YtapphbmlkdhnmaaGreat
open Go.GV
theorem ag_121_SnS : aggB Tryz.prog 121 = some false := by kernel_rfl
theorem ag_2_SnS : aggB Tryz.prog 2 = some false := by kernel_rfl
theorem ag_62_SnS : aggB Tryz.prog 62 = some true := by kernel_rfl
theorem ca_138_SnS : callable Tryz.prog 138 = true := by kernel_rfl
theorem ca_139_SnS : callable Tryz.prog 139 = true := by kernel_rfl
theorem fo_123_0_SnS : fieldO Tryz.prog 123 0 = some 0 := by kernel_rfl
theorem fo_62_3_SnS : fieldO Tryz.prog 62 3 = some 3 := by kernel_rfl
theorem mixed_SnS : Tryz.prog.follows .mixedOrders = true := by kernel_rfl
theorem mt_121_SnS : mapT Tryz.prog 121 = some (24, 62) := by kernel_rfl
theorem sz_62_SnS : tsize Tryz.prog 62 = some 7 := by kernel_rfl
theorem un_24_SnS : Tryz.prog.underlying 24 = some (.int .u64) := by kernel_rfl
theorem un_36_SnS : Tryz.prog.underlying 36 = some (.pointer 123) := by kernel_rfl
theorem zc_62_SnS : zcells Tryz.prog 62 = some ([.int .u64 0, .int .i64 0, .int .i64 0, .int .i64 0, .int .i64 0, .int .i64 0, .bool false]) := by kernel_rfl
theorem zv_62_SnS : (Tryz.prog.info? 62).bind (·.zero) = some (.agg #[.int .u64 0, .int .i64 0, .int .i64 0, .int .i64 0, .int .i64 0, .int .i64 0, .bool false]) := by kernel_rfl
attribute [local irreducible] Wops W Wq Wt

theorem findD_some {ds : List Du} {k : Int} {d : Du} (h : findD ds k = some d) : d ∈ ds ∧ d.id = k := by
  have h1 := List.mem_of_find?_eq_some h
  have h2 := List.find?_some h
  exact ⟨h1, by simpa using h2⟩
theorem pC_cases (d : Du) (x : Int) : pC d x = 1 ∨ pC d x = 14 ∨ pC d x = 12 ∨ (pC d x = 0 ∧ 0 ≤ x ∧ x ≤ d.am ∧ d.held = false) := by
  unfold pC
  split
  · exact .inl rfl
  · split
    · exact .inr (.inl rfl)
    · rename_i h2
      split
      · exact .inr (.inr (.inl rfl))
      · exact .inr (.inr (.inr ⟨rfl, by omega, by omega, by simpa using h2⟩))
set_option maxRecDepth 20000 in
set_option maxHeartbeats 4000000 in
theorem turn_some {bd b bx : Nat} {nx k x : Int} {o : Obj} {ds : List Du} {d : Du} (w : World) (hd : w.heap[bd]? = some (Bl 123 (DU b nx))) (hb : w.heap[b]? = some o) (hM : MapO .u64 (dm ds) o) (hbd : bd ≠ b) (hf : findD ds k = some d)
    (hx : w.heap[bx]? = some (Bl 2 [.int .i64 x])) (hbx : bx ≠ b) (ham : 0 ≤ d.am ∧ d.am ≤ 4503599627370496) :
    Ret Tryz.prog 138 #[ptr bd, .int .u64 k, payF bx] w fun v w' => v = .int .i64 (payC ds k x) ∧ ∃ o', MapO .u64 (dm (payS ds k x)) o' ∧ Ctx w [b] w' [(b, o')] := by
  obtain ⟨w0, rfl⟩ : ∃ w0, w0 = w := ⟨_, rfl⟩
  have H := Ctx.start1 hb
  have hxl := heap_lt hx
  have hc : payC ds k x = pC d x := by unfold payC; rw [hf]
  have hmg : mget (dm ds) k = some (dueV d) := by rw [mget_find, hf]; rfl
  have hcs := pC_cases d x
  unfold payS
  rw [hc]
  obtain ⟨code, hcode⟩ : ∃ code, code = pC d x := ⟨_, rfl⟩
  obtain ⟨e, he⟩ : ∃ e, e = pD d x := ⟨_, rfl⟩
  have heam : code = 0 → e = { d with am := d.am - x } := fun h => by rw [he]; unfold pD; rw [if_pos (by omega)]
  rw [← hcode] at hcs
  rw [← hcode]
  refine ret_of_W (fn := Tryz.f138) Tryz.func138 rfl [.pointer (some ⟨bd, 0, none⟩), .int .u64 k, .func (.func 139) #[] #[.pointer (some ⟨bx, 0, none⟩)]] rfl (by kernel_rfl) ?_
  refine W_rseq ?_
  refine op_assign rfl (.int _ _) rfl ?_
  refine op_nil (at_then ?_)
  refine W_seq ?_
  refine W_rseq ?_
  refine op_move rfl (.pointer _) rfl ?_
  refine op_eqlptr rfl un_36_SnS rfl ?_
  refine op_nil (at_then ?_)
  refine W_cond _ rfl ?_ ?_
  · intro h0
    cases h0
  · intro h0
    refine W_skip (at_then ?_)
    refine W_rseq ?_
    refine op_move rfl (.pointer _) rfl ?_
    refine op_nilCheck rfl rfl ?_
    refine op_fieldAddr rfl fo_123_0_SnS rfl ?_
    first | refine op_ldb rfl ag_121_SnS rfl H (by first | exact at0 | exact at1 | exact at2 | exact at3 | exact at4 | exact at5 | exact at6 | exact at7 | exact at8 | exact at9) rfl ?_ | refine op_ld rfl ag_121_SnS rfl ((H.old (cell_bl hd _) (by rw [List.mem_singleton]; exact hbd))) ?_ | refine op_ld rfl ag_121_SnS rfl ((H.drew.old (cell_bl hd _) (by rw [List.mem_singleton]; exact hbd))) ?_
    refine op_move rfl (.int _ _) rfl ?_
    refine op_lookupOk rfl mt_121_SnS un_24_SnS zv_62_SnS rfl rfl H at0 hM ?_
    rw [hmg]
    rw [Option.getD_some, Option.isSome_some]
    refine op_move rfl (.tuple _) rfl ?_
    refine op_extract rfl rfl rfl ?_
    refine op_extract rfl rfl rfl ?_
    refine op_alloc rfl zc_62_SnS H ?_
    rintro b7 w - H
    refine op_stb0 rfl sz_62_SnS rfl rfl rfl (by first | exact encD_one _ | simp [oneCell]) H (by first | exact at0 | exact at1 | exact at2 | exact at3 | exact at4 | exact at5 | exact at6 | exact at7 | exact at8 | exact at9) rfl ?_
    rintro w H
    refine op_assign rfl (.bool _) rfl ?_
    refine op_nil (at_then ?_)
    refine W_seq ?_
    refine W_rseq ?_
    refine op_move rfl (.bool _) rfl ?_
    refine op_not rfl rfl ?_
    refine op_nil (at_then ?_)
    refine W_cond _ rfl ?_ ?_
    · intro h1
      replace h1 := nvar_t h1
      cases h1
    · intro h1
      replace h1 := nvar_f h1
      refine W_skip (at_then ?_)
      refine W_rseq ?_
      refine op_move rfl (.func _ _ _) rfl ?_
      have hb7 : w0.heap.size ≤ b7 := (H.own _ (List.mem_cons_self ..)).elim (fun h => by have h8 := H.ne at0 at1 (by decide); exact absurd (List.mem_singleton.1 h) h8) id
      refine op_calld rfl rfl ca_139_SnS (pay1_ok (x := x) (d := d) _ (H.get at0) (H.ext.to hx (by rw [List.mem_singleton]; exact hbx)) (by omega) ham) rfl ?_
      rintro v w ⟨rfl, H2⟩
      replace H := Ctx.back (L1 := [_]) (L2 := [_]) H H2
      rw [← hcode]
      rw [← he] at H
      refine op_assign rfl (.int _ _) rfl ?_
      refine op_nil (at_then ?_)
      refine W_seq ?_
      refine W_block ?_
      refine W_rseq ?_
      refine op_move rfl (.int _ _) rfl ?_
      refine op_neq rfl rfl rfl ?_
      refine op_assign rfl (.bool _) rfl ?_
      refine op_nil (at_then ?_)
      refine W_cond _ rfl ?_ ?_
      · intro h2
        replace h2 := ndec_t h2
        refine W_skip (at_block (at_then ?_))
        refine W_rseq ?_
        refine op_move rfl (.int _ _) rfl ?_
        refine op_assign rfl (.int _ _) rfl ?_
        refine op_nil (at_then ?_)
        refine W_ret (leave1 (v := (.int _ _)) rfl rfl rfl ?_)
        rw [if_neg h2]
        exact ⟨rfl, o, hM, H.tail⟩
      · intro h2
        replace h2 := ndec_f h2
        have h2' : code = 0 := by omega
        have hee := heam h2'
        have hea : e.am = d.am - x := by rw [hee]
        rw [if_pos h2']
        refine W_rseq ?_
        refine op_fieldAddr rfl fo_62_3_SnS rfl ?_
        first | refine op_ldb rfl ag_2_SnS rfl H (by first | exact at0 | exact at1 | exact at2 | exact at3 | exact at4 | exact at5 | exact at6 | exact at7 | exact at8 | exact at9) rfl ?_ | refine op_ld rfl ag_2_SnS rfl ((H.old (cell_bl hd _) (by rw [List.mem_singleton]; exact hbd))) ?_ | refine op_ld rfl ag_2_SnS rfl ((H.drew.old (cell_bl hd _) (by rw [List.mem_singleton]; exact hbd))) ?_
        refine op_eql rfl rfl rfl ?_
        refine op_assign rfl (.bool _) rfl ?_
        refine op_nil (at_then ?_)
        refine W_cond _ rfl ?_ ?_
        · intro h3
          replace h3 := dec_t h3
          refine W_region ?_
          refine op_move rfl (.pointer _) rfl ?_
          refine op_nilCheck rfl rfl ?_
          refine op_fieldAddr rfl fo_123_0_SnS rfl ?_
          first | refine op_ldb rfl ag_121_SnS rfl H (by first | exact at0 | exact at1 | exact at2 | exact at3 | exact at4 | exact at5 | exact at6 | exact at7 | exact at8 | exact at9) rfl ?_ | refine op_ld rfl ag_121_SnS rfl ((H.old (cell_bl hd _) (by rw [List.mem_singleton]; exact hbd))) ?_ | refine op_ld rfl ag_121_SnS rfl ((H.drew.old (cell_bl hd _) (by rw [List.mem_singleton]; exact hbd))) ?_
          refine op_move rfl (.int _ _) rfl ?_
          refine op_delete rfl mt_121_SnS un_24_SnS rfl rfl H at1 hM ?_
          rintro o2 w hM2 H
          refine op_nil (at_block (at_then ?_))
          refine W_rseq ?_
          refine op_move rfl (.int _ _) rfl ?_
          refine op_assign rfl (.int _ _) rfl ?_
          refine op_nil (at_then ?_)
          refine W_ret (leave1 (v := (.int _ _)) rfl rfl rfl ?_)
          exact ⟨rfl, o2, by rw [← payL_del hf (by omega)]; exact hM2, H.tail⟩
        · intro h3
          replace h3 := dec_f h3
          refine W_tail 6 mixed_SnS (by kernel_rfl) rfl rfl ?_
          refine q_move rfl (.pointer _) rfl ?_
          refine q_nilCheck rfl rfl ?_
          refine q_fieldAddr rfl fo_123_0_SnS rfl ?_
          first | refine q_ldb rfl ag_121_SnS rfl (by rintro _ rfl; exact H.drew) (by first | exact at0 | exact at1 | exact at2 | exact at3 | exact at4 | exact at5 | exact at6 | exact at7 | exact at8 | exact at9) rfl ?_ | refine q_ld rfl ag_121_SnS rfl (by rintro _ rfl; exact ((H.old (cell_bl hd _) (by rw [List.mem_singleton]; exact hbd)))) ?_ | refine q_ld rfl ag_121_SnS rfl (by rintro _ rfl; exact ((H.drew.old (cell_bl hd _) (by rw [List.mem_singleton]; exact hbd)))) ?_
          refine q_move rfl (.int _ _) rfl ?_
          refine q_ldbN rfl ag_62_SnS sz_62_SnS rfl (by rintro _ rfl; exact H.drew) (by first | exact at0 | exact at1 | exact at2 | exact at3 | exact at4 | exact at5 | exact at6 | exact at7 | exact at8 | exact at9) rfl ?_
          refine q_nil ?_
          replace H := H.drew
          refine op_mapUpdate (dueV e) rfl mt_121_SnS un_24_SnS rfl rfl rfl H at1 hM ?_
          rintro o2 w hM2 H
          refine op_nil (at_block (at_then ?_))
          refine W_rseq ?_
          refine op_move rfl (.int _ _) rfl ?_
          refine op_assign rfl (.int _ _) rfl ?_
          refine op_nil (at_then ?_)
          refine W_ret (leave1 (v := (.int _ _)) rfl rfl rfl ?_)
          exact ⟨rfl, o2, by rw [← payL_set hf (show ¬ d.am = x by omega), ← hee]; exact hM2, H.tail⟩
theorem turn_any {bd b bx : Nat} {nx k x : Int} {o : Obj} {ds : List Du} (w : World) (hd : w.heap[bd]? = some (Bl 123 (DU b nx))) (hb : w.heap[b]? = some o) (hM : MapO .u64 (dm ds) o) (hbd : bd ≠ b)
    (hx : w.heap[bx]? = some (Bl 2 [.int .i64 x])) (hbx : bx ≠ b) (ham : ∀ d ∈ ds, 0 ≤ d.am ∧ d.am ≤ 4503599627370496) :
    Ret Tryz.prog 138 #[ptr bd, .int .u64 k, payF bx] w fun v w' => v = .int .i64 (payC ds k x) ∧ ∃ o', MapO .u64 (dm (payS ds k x)) o' ∧ Ctx w [b] w' [(b, o')] := by
  cases hf : findD ds k with
  | none => exact turn_none w hd hb hM hbd hf
  | some d => exact turn_some w hd hb hM hbd hf hx hbx (ham d (findD_some hf).1)
set_option maxRecDepth 20000 in
theorem dpay_ok {bd b : Nat} {nx k x : Int} {o : Obj} {ds : List Du} (w : World) (hd : w.heap[bd]? = some (Bl 123 (DU b nx))) (hb : w.heap[b]? = some o) (hM : MapO .u64 (dm ds) o) (hbd : bd ≠ b) (ham : ∀ d ∈ ds, 0 ≤ d.am ∧ d.am ≤ 4503599627370496) :
    Ret Tryz.prog 69 #[ptr bd, .int .u64 k, .int .i64 x] w fun v w' => v = .int .i64 (payC ds k x) ∧ ∃ o', MapO .u64 (dm (payS ds k x)) o' ∧ Ctx w [b] w' [(b, o')] := by
  obtain ⟨w0, rfl⟩ : ∃ w0, w0 = w := ⟨_, rfl⟩
  have H := Ctx.start w0 []
  have hbl := heap_lt hb
  refine ret_of_W (fn := Tryz.f69) Tryz.func69 rfl [.pointer (some ⟨bd, 0, none⟩), .int .u64 k, .int .i64 x] rfl (by kernel_rfl) ?_
  refine W_rseq ?_
  refine op_box rfl _ (.int _ _) rfl rfl H ?_
  rintro b5 w - H
  refine op_assign rfl (.int _ _) rfl ?_
  refine op_nil (at_then ?_)
  refine W_rseq ?_
  refine op_move rfl (.pointer _) rfl ?_
  refine op_move rfl (.int _ _) rfl ?_
  refine op_makeFuncL rfl [.pointer _] rfl ?_
  have hb5 : w0.heap.size ≤ b5 := (H.own _ (List.mem_cons_self ..)).elim (fun h => by cases h) id
  refine op_call rfl ca_138_SnS (turn_any (x := x) _ (H.ext.to hd (by simp)) (H.ext.to hb (by simp)) hM hbd (H.get at0) (by omega) ham) rfl ?_
  rintro v w ⟨rfl, o', hM', H2⟩
  refine op_assign rfl (.int _ _) rfl ?_
  refine op_nil (at_then ?_)
  refine W_ret (leave1 (v := (.int _ _)) rfl rfl rfl ?_)
  have H3 := H.ext.mono (S' := [b]) (by simp)
  exact ⟨rfl, o', hM', ⟨H3.trans H2.ext, H2.blk, H2.nd, fun y hy => by rw [List.mem_singleton.1 hy]; exact .inl (List.mem_singleton.2 rfl)⟩⟩
end Go.Proofs.YtapphbmlkdhnmaaGreat

/- The dues of the reference: place. -/
namespace Go.Proofs.YtapphbmlkdhnmaaGreat
open Go.GV
theorem ag_23_SnT : aggB Tryz.prog 23 = some false := by kernel_rfl
theorem ag_24_SnT : aggB Tryz.prog 24 = some false := by kernel_rfl
theorem el_23_SnT : elemT Tryz.prog 23 = some 62 := by kernel_rfl
theorem fo_48_0_SnT : fieldO Tryz.prog 48 0 = some 0 := by kernel_rfl
theorem fo_62_0_SnT : fieldO Tryz.prog 62 0 = some 0 := by kernel_rfl
theorem sz_62_SnT : tsize Tryz.prog 62 = some 7 := by kernel_rfl
attribute [local irreducible] Wops W Wq Wt

/-- Where a due stands. -/
structure PlD (ds : List Du) (k : Int) (i : Nat) (d : Du) : Prop where
  at' : ds[i]? = some d
  id : d.id = k
  fst : ∀ (j : Nat) (e : Du), j < i → ds[j]? = some e → e.id ≠ k
theorem PlD.find {ds : List Du} {k : Int} {i : Nat} {d : Du} (h : PlD ds k i d) : findD ds k = some d := by
  induction ds generalizing i with
  | nil => have := h.at'; cases this
  | cons y ds ih =>
    unfold findD
    rw [List.find?_cons]
    cases i with
    | zero =>
      have h1 := h.at'
      injection h1 with h1
      rw [h1, show (d.id == k) = true by simpa using h.id]
    | succ i =>
      have h1 := h.fst 0 y (Nat.succ_pos _) rfl
      rw [show (y.id == k) = false by simpa using h1]
      exact ih ⟨h.at', h.id, fun j e hj he => h.fst (j + 1) e (Nat.succ_lt_succ hj) he⟩
theorem PlD.pay {ds : List Du} {k x : Int} {i : Nat} {d : Du} (h : PlD ds k i d) : payL ds k x = if d.am = x then ds.eraseIdx i else ds.set i { d with am := d.am - x } := by
  induction ds generalizing i with
  | nil => have := h.at'; cases this
  | cons y ds ih =>
    unfold payL
    cases i with
    | zero =>
      have h1 := h.at'
      injection h1 with h1
      rw [h1, if_pos h.id]; rfl
    | succ i =>
      have h1 := h.fst 0 y (Nat.succ_pos _) rfl
      rw [if_neg h1, ih ⟨h.at', h.id, fun j e hj he => h.fst (j + 1) e (Nat.succ_lt_succ hj) he⟩]
      split <;> rfl
theorem find_none {ds : List Du} {k : Int} (h : ∀ (j : Nat) (e : Du), j < ds.length → ds[j]? = some e → e.id ≠ k) : findD ds k = none := by
  unfold findD
  rw [List.find?_eq_none]
  intro e he
  obtain ⟨j, hj⟩ := List.mem_iff_getElem?.1 he
  simpa using h j e (get_lt hj) hj
set_option maxRecDepth 20000 in
theorem place_ok {bd : Nat} (a : Option Addr) (n c : Nat) (ds : List Du) (nx k : Int) (w : World) (hd : w.heap[bd]? = some (Bl 48 [.slice a n c, .int .u64 nx])) (R : Rd w a 7 encD ds) (hn : ds.length = n) (hn2 : n ≤ 1000000) :
    Ret Tryz.prog 141 #[ptr bd, .int .u64 k] w fun v w' => w = w' ∧ ((v = .int .i64 (-1) ∧ findD ds k = none) ∨ ∃ (i : Nat) (d : Du), v = .int .i64 (i : Int) ∧ PlD ds k i d) := by
  subst hn
  obtain ⟨w0, rfl⟩ : ∃ w0, w0 = w := ⟨_, rfl⟩
  refine ret_of_W (fn := Tryz.f141) Tryz.func141 rfl [.pointer (some ⟨bd, 0, none⟩), .int .u64 k] rfl (by kernel_rfl) ?_
  refine W_rseq ?_
  refine op_assign rfl (.int _ _) rfl ?_
  refine op_nil (at_then ?_)
  refine W_seq ?_
  refine W_rseq ?_
  refine op_assign rfl (.int _ _) rfl ?_
  refine op_nil (at_then ?_)
  refine W_block ?_
  refine W_loop 67108848 (α := Nat) (fun i => [(5, .int .i64 (i : Int))]) (fun i w' => i ≤ ds.length ∧ w0 = w' ∧ ∀ (j : Nat) (e : Du), j < i → ds[j]? = some e → e.id ≠ k) (fun i => ds.length - i) 0 rfl ?_ ?_ ?_
  · exact ⟨rfl, trivial⟩
  · exact ⟨Nat.zero_le _, rfl, fun j e h => absurd h (Nat.not_lt_zero _)⟩
  · rintro i j w ⟨hi, rfl, hb⟩
    refine W_seq ?_
    refine W_rseq ?_
    refine op_move rfl (.int _ _) rfl ?_
    refine op_move rfl (.pointer _) rfl ?_
    refine op_nilCheck rfl rfl ?_
    refine op_fieldAddr rfl fo_48_0_SnT rfl ?_
    first | refine op_ldb rfl ag_23_SnT rfl H (by first | exact at0 | exact at1 | exact at2 | exact at3 | exact at4 | exact at5 | exact at6 | exact at7 | exact at8 | exact at9) rfl ?_ | refine op_ld rfl ag_23_SnT rfl ((by rw [cell_bl hd]; rfl)) ?_
    refine op_len rfl el_23_SnT rfl ?_
    refine op_lss rfl rfl rfl ?_
    refine op_nil (at_then ?_)
    refine W_cond _ rfl ?_ ?_
    · intro h1
      replace h1 := dec_t h1
      obtain ⟨d, hd2⟩ := get_some (l := ds) (i := i) (by omega)
      refine W_skip (at_then ?_)
      refine W_seq ?_
      refine W_block ?_
      refine W_rseq ?_
      refine op_move rfl (.pointer _) rfl ?_
      refine op_nilCheck rfl rfl ?_
      refine op_fieldAddr rfl fo_48_0_SnT rfl ?_
      first | refine op_ldb rfl ag_23_SnT rfl H (by first | exact at0 | exact at1 | exact at2 | exact at3 | exact at4 | exact at5 | exact at6 | exact at7 | exact at8 | exact at9) rfl ?_ | refine op_ld rfl ag_23_SnT rfl ((by rw [cell_bl hd]; rfl)) ?_ | refine op_ld rfl ag_23_SnT rfl ((R.fld hd2 rfl (j := 0) rfl)) ?_
      refine op_move rfl (.int _ _) rfl ?_
      first | refine op_indexRd R rfl el_23_SnT sz_62_SnT rfl rfl (by omega) (by omega) (by first | rfl | omega) ?_ | refine op_indexAddr rfl el_23_SnT sz_62_SnT rfl rfl (by omega) (by omega) ?_
      refine op_fieldAddr rfl fo_62_0_SnT rfl ?_
      first | refine op_ldb rfl ag_24_SnT rfl H (by first | exact at0 | exact at1 | exact at2 | exact at3 | exact at4 | exact at5 | exact at6 | exact at7 | exact at8 | exact at9) rfl ?_ | refine op_ld rfl ag_24_SnT rfl ((by rw [cell_bl hd]; rfl)) ?_ | refine op_ld rfl ag_24_SnT rfl ((R.fld hd2 rfl (j := 0) rfl)) ?_
      refine op_move rfl (.int _ _) rfl ?_
      refine op_eql rfl rfl rfl ?_
      refine op_nil (at_then ?_)
      refine W_cond _ rfl ?_ ?_
      · intro h2
        replace h2 := dec_t h2
        refine W_rseq ?_
        refine op_move rfl (.int _ _) rfl ?_
        refine op_assign rfl (.int _ _) rfl ?_
        refine op_nil (at_then ?_)
        refine W_ret (ret_block (ret_then (ret_then (ret_block (ret_then (leave1 (v := (.int _ _)) rfl rfl rfl ?_))))))
        exact ⟨rfl, .inr ⟨i, d, rfl, hd2, h2, hb⟩⟩
      · intro h2
        replace h2 := dec_f h2
        refine W_skip (at_block (at_then ?_))
        refine W_region ?_
        refine op_move rfl (.int _ _) rfl ?_
        refine op_add_i64 rfl rfl rfl (by omega) (by omega) ?_
        refine op_assign rfl (.int _ _) rfl ?_
        refine op_nil (at_then ?_)
        refine ⟨i + 1, rfl, ⟨rfl, trivial⟩, ⟨by omega, rfl, fun j e hj he => ?_⟩, by omega⟩
        rcases Nat.lt_or_ge j i with h7 | h7
        · exact hb j e h7 he
        · obtain rfl : j = i := by omega
          rw [hd2] at he
          cases he
          exact h2
    · intro h1
      replace h1 := dec_f h1
      refine W_exit (exit_then (exit_then (exit_here (at_then ?_))))
      refine W_rseq ?_
      refine op_assign rfl (.int _ _) rfl ?_
      refine op_nil (at_then ?_)
      refine W_ret (leave1 (v := (.int _ _)) rfl rfl rfl ?_)
      exact ⟨rfl, .inl ⟨rfl, find_none fun j e hj he => hb j e (by omega) he⟩⟩
end Go.Proofs.YtapphbmlkdhnmaaGreat

/- The dues of the reference: remove. -/
namespace Go.Proofs.YtapphbmlkdhnmaaGreat
open Go.GV
theorem ag_23_SnU : aggB Tryz.prog 23 = some false := by kernel_rfl
theorem by_62_SnU : tbytes Tryz.prog 62 = some 56 := by kernel_rfl
theorem el_23_SnU : elemT Tryz.prog 23 = some 62 := by kernel_rfl
theorem fo_48_0_SnU : fieldO Tryz.prog 48 0 = some 0 := by kernel_rfl
theorem sz_23_SnU : tsize Tryz.prog 23 = some 1 := by kernel_rfl
theorem sz_62_SnU : tsize Tryz.prog 62 = some 7 := by kernel_rfl
theorem zc_62_SnU : zcells Tryz.prog 62 = some ([.int .u64 0, .int .i64 0, .int .i64 0, .int .i64 0, .int .i64 0, .int .i64 0, .bool false]) := by kernel_rfl
attribute [local irreducible] Wops W Wq Wt

set_option maxRecDepth 20000 in
set_option maxHeartbeats 2000000 in
theorem remove_ok {bd : Nat} (a : Option Addr) (n c i : Nat) (ds : List Du) (nx : Int) (w : World) (hd : w.heap[bd]? = some (Bl 48 [.slice a n c, .int .u64 nx])) (hR : ∀ w', Ext [bd] w w' → Rd w' a 7 encD ds) (hn : ds.length = n) (hc : ds.length ≤ c) (hn2 : n ≤ 1000000) (hi : i < n) :
    Ret Tryz.prog 142 #[ptr bd, .int .i64 (i : Int)] w fun v w' => v = .tuple #[] ∧ ∃ a' c' full, OS a' (ds.eraseIdx i).length c' 7 full ((ds.eraseIdx i).flatMap encD) ∧ Ctx w [bd] w' ((bd, Bl 48 [.slice a' (ds.eraseIdx i).length c', .int .u64 nx]) :: ent a' 62 full) := by
  subst hn
  obtain ⟨w0, rfl⟩ : ∃ w0, w0 = w := ⟨_, rfl⟩
  have H := Ctx.start1 hd
  have hel : (ds.eraseIdx i).length = i + (ds.length - (i + 1)) := by rw [List.length_eraseIdx]; split <;> omega
  have hef : (ds.eraseIdx i).flatMap encD = (ds.take i).flatMap encD ++ (ds.drop (i + 1)).flatMap encD := by rw [List.eraseIdx_eq_take_drop_succ, List.flatMap_append]
  refine ret_of_W (fn := Tryz.f142) Tryz.func142 rfl [.pointer (some ⟨bd, 0, none⟩), .int .i64 (i : Int)] rfl (by kernel_rfl) ?_
  refine W_rseq ?_
  refine op_assign rfl (.slice _ _ _) rfl ?_
  refine op_nil (at_then ?_)
  refine W_rseq ?_
  refine op_move rfl (.slice _ _ _) rfl ?_
  refine op_move rfl (.pointer _) rfl ?_
  refine op_nilCheck rfl rfl ?_
  refine op_fieldAddr rfl fo_48_0_SnU rfl ?_
  refine op_ldb rfl ag_23_SnU rfl H (by first | exact at0 | exact at1 | exact at2 | exact at3 | exact at4 | exact at5 | exact at6 | exact at7 | exact at8 | exact at9) rfl ?_
  refine op_move rfl (.int _ _) rfl ?_
  refine op_slice_hi rfl el_23_SnU sz_62_SnU rfl rfl (by omega) (by omega) ?_
  refine op_append (L := [_]) (a := none) (n := 0) (c := 0) (full := []) (l := []) rfl el_23_SnU el_23_SnU sz_62_SnU by_62_SnU zc_62_SnU rfl (by decide) ((ds.take i).flatMap encD) rfl rfl H OS.nil (by rw [encD_len, List.length_take]; omega) (encD_ones _) (((hR _ H.ext).take i).app (fun _ _ => rfl) (by omega)) (by omega) ?_
  rintro a1 c1 f1 w H O1
  refine op_assign rfl (.slice _ _ _) rfl ?_
  refine op_nil (at_then ?_)
  refine W_region ?_
  refine op_move rfl (.pointer _) rfl ?_
  refine op_move rfl (.slice _ _ _) rfl ?_
  refine op_move rfl (.pointer _) rfl ?_
  refine op_nilCheck rfl rfl ?_
  refine op_fieldAddr rfl fo_48_0_SnU rfl ?_
  refine op_ldb rfl ag_23_SnU rfl H (by first | exact at0 | exact at1 | exact at2 | exact at3 | exact at4 | exact at5 | exact at6 | exact at7 | exact at8 | exact at9) rfl ?_
  refine op_move rfl (.int _ _) rfl ?_
  refine op_add_i64 rfl rfl rfl (by omega) (by omega) ?_
  rw [show (i : Int) + 1 = ((i + 1 : Nat) : Int) by omega]
  refine op_slice_lo rfl el_23_SnU sz_62_SnU rfl rfl (by omega) (by omega) ?_
  refine op_append (L := [_]) rfl el_23_SnU el_23_SnU sz_62_SnU by_62_SnU zc_62_SnU rfl (by decide) ((ds.drop (i + 1)).flatMap encD) rfl rfl H O1 (by rw [encD_len, List.length_drop]; rfl) (encD_ones _) (((hR _ H.ext).cut (i + 1) c hc).app (fun _ _ => rfl) (by omega)) (by omega) ?_
  rintro a2 c2 f2 w H O2
  refine op_nilCheck rfl rfl ?_
  refine op_fieldAddr rfl fo_48_0_SnU rfl ?_
  refine op_stb (.slice _ _ _) rfl sz_23_SnU rfl rfl rfl H (by first | exact at0 | exact at1 | exact at2 | exact at3 | exact at4 | exact at5 | exact at6 | exact at7 | exact at8 | exact at9) (by first | decide | (simp; done) | (simp; omega)) ?_
  rintro w H
  refine op_nil (leave0n rfl rfl ?_)
  have hln : 0 + ((i : Int)).toNat + (ds.length - ((i + 1 : Nat) : Int).toNat) = (ds.eraseIdx i).length := by rw [hel]; omega
  rw [List.nil_append, ← hef, hln] at O2
  rw [hln] at H
  exact ⟨rfl, a2, c2, f2, O2, H⟩
end Go.Proofs.YtapphbmlkdhnmaaGreat

/- The dues of the reference: Pay. -/
namespace Go.Proofs.YtapphbmlkdhnmaaGreat
open Go.GV
theorem ag_23_SnV : aggB Tryz.prog 23 = some false := by kernel_rfl
theorem ag_2_SnV : aggB Tryz.prog 2 = some false := by kernel_rfl
theorem ag_4_SnV : aggB Tryz.prog 4 = some false := by kernel_rfl
theorem ca_141_SnV : callable Tryz.prog 141 = true := by kernel_rfl
theorem ca_142_SnV : callable Tryz.prog 142 = true := by kernel_rfl
theorem el_23_SnV : elemT Tryz.prog 23 = some 62 := by kernel_rfl
theorem fo_48_0_SnV : fieldO Tryz.prog 48 0 = some 0 := by kernel_rfl
theorem fo_62_3_SnV : fieldO Tryz.prog 62 3 = some 3 := by kernel_rfl
theorem fo_62_6_SnV : fieldO Tryz.prog 62 6 = some 6 := by kernel_rfl
theorem sz_2_SnV : tsize Tryz.prog 2 = some 1 := by kernel_rfl
theorem sz_62_SnV : tsize Tryz.prog 62 = some 7 := by kernel_rfl
attribute [local irreducible] Wops W Wq Wt

theorem eraseIdx_set_self {α : Type} {l : List α} {i : Nat} {x : α} : (l.set i x).eraseIdx i = l.eraseIdx i := by
  induction l generalizing i with
  | nil => rfl
  | cons y l ih =>
    cases i with
    | zero => rfl
    | succ i => simp [ih]
set_option maxRecDepth 20000 in
set_option maxHeartbeats 4000000 in
theorem r18pay_ok {bd : Nat} {nx k x : Int} {ds : List Du} (a : Option Addr) (c : Nat) (full : List Value) (w : World) (hd : w.heap[bd]? = some (Bl 48 [.slice a ds.length c, .int .u64 nx])) (O : OS a ds.length c 7 full (ds.flatMap encD))
    (hb : ∀ y ∈ ent a 62 full, w.heap[y.1]? = some y.2 ∧ y.1 ≠ bd) (hn2 : ds.length ≤ 1000000) (ham : ∀ d ∈ ds, 0 ≤ d.am ∧ d.am ≤ 4503599627370496) :
    Ret Tryz.prog 73 #[ptr bd, .int .u64 k, .int .i64 x] w fun v w' => v = .int .i64 (payC ds k x) ∧ ∃ a' c' full', w'.heap[bd]? = some (Bl 48 [.slice a' (payS ds k x).length c', .int .u64 nx]) ∧ OS a' (payS ds k x).length c' 7 full' ((payS ds k x).flatMap encD) ∧
      (∀ y ∈ ent a' 62 full', w'.heap[y.1]? = some y.2 ∧ y.1 ≠ bd ∧ (y.1 ∈ (ent a 62 full).map (·.1) ∨ w.heap.size ≤ y.1)) ∧ Ext (bd :: (ent a 62 full).map (·.1)) w w' := by
  obtain ⟨w0, rfl⟩ : ∃ w0, w0 = w := ⟨_, rfl⟩
  have R : Rd w0 a 7 encD ds := OS.rd O (fun x hx => (hb x hx).1) (fun _ _ => rfl) (by omega)
  have hsame : ∀ {C : Int}, payC ds k x = C → C ≠ 0 → payS ds k x = ds := fun h1 h2 => by unfold payS; rw [h1, if_neg h2]
  have hsm : ∀ y ∈ ent a 62 full, w0.heap[y.1]? = some y.2 ∧ y.1 ≠ bd ∧ (y.1 ∈ (ent a 62 full).map (·.1) ∨ w0.heap.size ≤ y.1) := fun y hy => ⟨(hb y hy).1, (hb y hy).2, .inl (List.mem_map_of_mem (f := (·.1)) hy)⟩
  refine ret_of_W (fn := Tryz.f73) Tryz.func73 rfl [.pointer (some ⟨bd, 0, none⟩), .int .u64 k, .int .i64 x] rfl (by kernel_rfl) ?_
  refine W_rseq ?_
  refine op_assign rfl (.int _ _) rfl ?_
  refine op_nil (at_then ?_)
  refine W_rseq ?_
  refine op_move rfl (.pointer _) rfl ?_
  refine op_move rfl (.int _ _) rfl ?_
  refine op_call rfl ca_141_SnV (place_ok a ds.length c ds nx k _ hd R rfl hn2) rfl ?_
  rintro v w ⟨rfl, hpl⟩
  obtain ⟨pi, rfl, hpi⟩ : ∃ pi : Int, v = .int .i64 pi ∧ ((pi = -1 ∧ findD ds k = none) ∨ ∃ (i : Nat) (d : Du), pi = (i : Int) ∧ PlD ds k i d) := hpl.elim (fun h => ⟨-1, h.1, .inl ⟨rfl, h.2⟩⟩) (fun ⟨i, d, h1, h2⟩ => ⟨i, h1, .inr ⟨i, d, rfl, h2⟩⟩)
  refine op_assign rfl (.int _ _) rfl ?_
  refine op_nil (at_then ?_)
  refine W_seq ?_
  refine W_rseq ?_
  refine op_move rfl (.int _ _) rfl ?_
  refine op_lss rfl rfl rfl ?_
  refine op_nil (at_then ?_)
  refine W_cond _ rfl ?_ ?_
  · intro h1
    replace h1 := dec_t h1
    refine W_rseq ?_
    refine op_assign rfl (.int _ _) rfl ?_
    refine op_nil (at_then ?_)
    refine W_ret (ret_then (leave1 (v := (.int _ _)) rfl rfl rfl ?_))
    rcases hpi with ⟨-, hf⟩ | ⟨i, d, rfl, -⟩
    · have hC : payC ds k x = 11 := by unfold payC; rw [hf]
      rw [hsame hC (by decide), hC]
      exact ⟨rfl, a, c, full, hd, O, hsm, Ext.refl _ _⟩
    · omega
  · intro h1
    replace h1 := dec_f h1
    obtain ⟨i, d, hpe, P⟩ : ∃ (i : Nat) (d : Du), pi = (i : Int) ∧ PlD ds k i d := hpi.elim (fun h => by omega) id
    subst hpe
    have hil := get_lt P.at'
    have hdm := ham d (List.mem_of_getElem? P.at')
    have hC0 : payC ds k x = pC d x := by unfold payC; rw [P.find]
    have hcs : (pC d x = if x < 0 then 1 else if d.held = true then 14 else if d.am < x then 12 else 0) := rfl
    obtain ⟨q, rfl⟩ := O.form (by omega)
    have hqb : w0.heap[q]? = some (Bl 62 full) ∧ q ≠ bd := hb (q, Bl 62 full) (List.mem_singleton.2 rfl)
    have H : Ctx w0 (bd :: [q]) w0 [(bd, Bl 48 [.slice (some ⟨q, 0, none⟩) ds.length c, .int .u64 nx]), (q, Bl 62 full)] := ⟨Ext.refl _ _, fun y hy => by
      simp only [List.mem_cons, List.not_mem_nil, or_false] at hy
      rcases hy with rfl | rfl
      · exact hd
      · exact hqb.1, by simp only [List.pairwise_cons, List.mem_singleton, forall_eq, List.not_mem_nil, false_implies, implies_true, List.Pairwise.nil, and_true]; exact fun h => hqb.2 h.symm, fun y hy => by
      simp only [List.mem_cons, List.not_mem_nil, or_false] at hy
      rcases hy with rfl | rfl
      · exact .inl (List.mem_cons_self ..)
      · exact .inl (List.mem_cons_of_mem _ (List.mem_cons_self ..))⟩
    have hOl := O.len
    have hOle := O.le
    refine W_skip (at_then ?_)
    refine W_seq ?_
    refine W_rseq ?_
    refine op_move rfl (.int _ _) rfl ?_
    refine op_lss rfl rfl rfl ?_
    refine op_nil (at_then ?_)
    refine W_cond _ rfl ?_ ?_
    · intro h2
      replace h2 := dec_t h2
      refine W_rseq ?_
      refine op_assign rfl (.int _ _) rfl ?_
      refine op_nil (at_then ?_)
      refine W_ret (ret_then (leave1 (v := (.int _ _)) rfl rfl rfl ?_))
      have hC : payC ds k x = 1 := by rw [hC0, hcs, if_pos h2]
      rw [hsame hC (by decide), hC]
      exact ⟨rfl, _, c, full, hd, O, hsm, Ext.refl _ _⟩
    · intro h2
      replace h2 := dec_f h2
      refine W_skip (at_then ?_)
      refine W_seq ?_
      refine W_rseq ?_
      refine op_move rfl (.pointer _) rfl ?_
      refine op_nilCheck rfl rfl ?_
      refine op_fieldAddr rfl fo_48_0_SnV rfl ?_
      first | refine op_ldb rfl ag_23_SnV rfl H (by first | exact at0 | exact at1 | exact at2 | exact at3 | exact at4 | exact at5 | exact at6 | exact at7 | exact at8 | exact at9) rfl ?_ | refine op_ld rfl ag_23_SnV rfl ((R.fld P.at' rfl (j := 6) rfl)) ?_ | refine op_ld rfl ag_23_SnV rfl ((R.fld P.at' rfl (j := 3) rfl)) ?_
      refine op_move rfl (.int _ _) rfl ?_
      first | refine op_indexRd R rfl el_23_SnV sz_62_SnV rfl rfl (by omega) (by omega) (by first | rfl | omega) ?_ | refine op_indexAddr rfl el_23_SnV sz_62_SnV rfl rfl (by omega) (by omega) ?_
      refine op_fieldAddr rfl fo_62_6_SnV rfl ?_
      first | refine op_ldb rfl ag_4_SnV rfl H (by first | exact at0 | exact at1 | exact at2 | exact at3 | exact at4 | exact at5 | exact at6 | exact at7 | exact at8 | exact at9) rfl ?_ | refine op_ld rfl ag_4_SnV rfl ((R.fld P.at' rfl (j := 6) rfl)) ?_ | refine op_ld rfl ag_4_SnV rfl ((R.fld P.at' rfl (j := 3) rfl)) ?_
      refine op_nil (at_then ?_)
      refine W_cond _ rfl ?_ ?_
      · intro h3
        refine W_rseq ?_
        refine op_assign rfl (.int _ _) rfl ?_
        refine op_nil (at_then ?_)
        refine W_ret (ret_then (leave1 (v := (.int _ _)) rfl rfl rfl ?_))
        have hC : payC ds k x = 14 := by rw [hC0, hcs, if_neg (by omega), if_pos h3]
        rw [hsame hC (by decide), hC]
        exact ⟨rfl, _, c, full, hd, O, hsm, Ext.refl _ _⟩
      · intro h3
        refine W_skip (at_then ?_)
        refine W_seq ?_
        refine W_rseq ?_
        refine op_move rfl (.int _ _) rfl ?_
        refine op_move rfl (.pointer _) rfl ?_
        refine op_nilCheck rfl rfl ?_
        refine op_fieldAddr rfl fo_48_0_SnV rfl ?_
        first | refine op_ldb rfl ag_23_SnV rfl H (by first | exact at0 | exact at1 | exact at2 | exact at3 | exact at4 | exact at5 | exact at6 | exact at7 | exact at8 | exact at9) rfl ?_ | refine op_ld rfl ag_23_SnV rfl ((R.fld P.at' rfl (j := 6) rfl)) ?_ | refine op_ld rfl ag_23_SnV rfl ((R.fld P.at' rfl (j := 3) rfl)) ?_
        refine op_move rfl (.int _ _) rfl ?_
        first | refine op_indexRd R rfl el_23_SnV sz_62_SnV rfl rfl (by omega) (by omega) (by first | rfl | omega) ?_ | refine op_indexAddr rfl el_23_SnV sz_62_SnV rfl rfl (by omega) (by omega) ?_
        refine op_fieldAddr rfl fo_62_3_SnV rfl ?_
        first | refine op_ldb rfl ag_2_SnV rfl H (by first | exact at0 | exact at1 | exact at2 | exact at3 | exact at4 | exact at5 | exact at6 | exact at7 | exact at8 | exact at9) rfl ?_ | refine op_ld rfl ag_2_SnV rfl ((R.fld P.at' rfl (j := 6) rfl)) ?_ | refine op_ld rfl ag_2_SnV rfl ((R.fld P.at' rfl (j := 3) rfl)) ?_
        refine op_gtr rfl rfl rfl ?_
        refine op_nil (at_then ?_)
        refine W_cond _ rfl ?_ ?_
        · intro h4
          replace h4 := dec_t h4
          refine W_rseq ?_
          refine op_assign rfl (.int _ _) rfl ?_
          refine op_nil (at_then ?_)
          refine W_ret (ret_then (leave1 (v := (.int _ _)) rfl rfl rfl ?_))
          have hC : payC ds k x = 12 := by rw [hC0, hcs, if_neg (by omega), if_neg (by rw [h3]; decide), if_pos h4]
          rw [hsame hC (by decide), hC]
          exact ⟨rfl, _, c, full, hd, O, hsm, Ext.refl _ _⟩
        · intro h4
          replace h4 := dec_f h4
          have hC : payC ds k x = 0 := by rw [hC0, hcs, if_neg (by omega), if_neg (by rw [h3]; decide), if_neg (by omega)]
          have hS : payS ds k x = payL ds k x := by unfold payS; rw [hC, if_pos rfl]
          rw [hS, hC]
          obtain ⟨e, he⟩ : ∃ e : Du, e = { d with am := d.am - x } := ⟨_, rfl⟩
          have hea : e.am = d.am - x := by rw [he]
          have O1 := OS.setf O (y := e) (j := 3) (v := .int .i64 (d.am - x)) (fun _ => rfl) P.at' (by decide) (by rw [he]; rfl)
          obtain ⟨full2, hf2⟩ : ∃ full2, full2 = full.set (i * 7 + 3) (.int .i64 (d.am - x)) := ⟨_, rfl⟩
          rw [← hf2] at O1
          have hat : (ds.set i e)[i]? = some e := List.getElem?_set_self hil
          have hR2 : ∀ {z : World}, z.heap[q]? = some (Bl 62 full2) → Rd z (some ⟨q, 0, none⟩) 7 encD (ds.set i e) := fun h => O1.rd (t := 62) (fun y hy => by have hy := List.mem_singleton.1 hy; rw [hy]; exact h) (fun _ _ => rfl) (by decide)
          have hsl : (ds.set i e).length = ds.length := List.length_set
          refine W_skip (at_then ?_)
          refine W_rseq ?_
          refine op_move rfl (.pointer _) rfl ?_
          refine op_nilCheck rfl rfl ?_
          refine op_fieldAddr rfl fo_48_0_SnV rfl ?_
          first | refine op_ldb rfl ag_23_SnV rfl H (by first | exact at0 | exact at1 | exact at2 | exact at3 | exact at4 | exact at5 | exact at6 | exact at7 | exact at8 | exact at9) rfl ?_ | refine op_ld rfl ag_23_SnV rfl ((R.fld P.at' rfl (j := 6) rfl)) ?_ | refine op_ld rfl ag_23_SnV rfl ((R.fld P.at' rfl (j := 3) rfl)) ?_
          refine op_move rfl (.int _ _) rfl ?_
          first | refine op_indexRd R rfl el_23_SnV sz_62_SnV rfl rfl (by omega) (by omega) (by first | rfl | omega) ?_ | refine op_indexAddr rfl el_23_SnV sz_62_SnV rfl rfl (by omega) (by omega) ?_
          refine op_fieldAddr rfl fo_62_3_SnV rfl ?_
          first | refine op_ldb rfl ag_2_SnV rfl H (by first | exact at0 | exact at1 | exact at2 | exact at3 | exact at4 | exact at5 | exact at6 | exact at7 | exact at8 | exact at9) rfl ?_ | refine op_ld rfl ag_2_SnV rfl ((R.fld P.at' rfl (j := 6) rfl)) ?_ | refine op_ld rfl ag_2_SnV rfl ((R.fld P.at' rfl (j := 3) rfl)) ?_
          refine op_move rfl (.int _ _) rfl ?_
          refine op_sub_i64 rfl rfl rfl (by omega) (by omega) ?_
          first | refine op_indexRd R rfl el_23_SnV sz_62_SnV rfl rfl (by omega) (by omega) (by first | rfl | omega) ?_ | refine op_indexAddr rfl el_23_SnV sz_62_SnV rfl rfl (by omega) (by omega) ?_
          refine op_fieldAddr rfl fo_62_3_SnV rfl ?_
          refine op_stb (.int _ _) rfl sz_2_SnV rfl rfl rfl H at1 (by show 0 + ((i : Int)).toNat * 7 + 3 < full.length; omega) ?_
          rintro w H
          replace H : Ctx w0 (bd :: [q]) w [(bd, Bl 48 [.slice (some ⟨q, 0, none⟩) ds.length c, .int .u64 nx]), (q, Bl 62 full2)] := by rw [hf2, show i * 7 + 3 = 0 + ((i : Int)).toNat * 7 + 3 by omega]; exact H
          refine op_nil (at_then ?_)
          refine W_seq ?_
          refine W_rseq ?_
          refine op_move rfl (.pointer _) rfl ?_
          refine op_nilCheck rfl rfl ?_
          refine op_fieldAddr rfl fo_48_0_SnV rfl ?_
          first | refine op_ldb rfl ag_23_SnV rfl H (by first | exact at0 | exact at1 | exact at2 | exact at3 | exact at4 | exact at5 | exact at6 | exact at7 | exact at8 | exact at9) rfl ?_ | refine op_ld rfl ag_23_SnV rfl (((hR2 (H.get at1)).fld hat rfl (j := 3) (show (encD e)[3]? = some (.int .i64 (d.am - x)) by rw [he]; rfl))) ?_
          refine op_move rfl (.int _ _) rfl ?_
          first | refine op_indexRd (hR2 (H.get at1)) rfl el_23_SnV sz_62_SnV rfl rfl (by omega) (by omega) (by first | rfl | omega) ?_ | refine op_indexAddr rfl el_23_SnV sz_62_SnV rfl rfl (by omega) (by omega) ?_
          refine op_fieldAddr rfl fo_62_3_SnV rfl ?_
          first | refine op_ldb rfl ag_2_SnV rfl H (by first | exact at0 | exact at1 | exact at2 | exact at3 | exact at4 | exact at5 | exact at6 | exact at7 | exact at8 | exact at9) rfl ?_ | refine op_ld rfl ag_2_SnV rfl (((hR2 (H.get at1)).fld hat rfl (j := 3) (show (encD e)[3]? = some (.int .i64 (d.am - x)) by rw [he]; rfl))) ?_
          refine op_eql rfl rfl rfl ?_
          refine op_nil (at_then ?_)
          refine W_cond _ rfl ?_ ?_
          · intro h5
            replace h5 := dec_t h5
            have hL : payL ds k x = ds.eraseIdx i := by rw [P.pay, if_pos (by omega)]
            have hes : (ds.set i e).eraseIdx i = ds.eraseIdx i := eraseIdx_set_self
            rw [hL]
            have hd2 := H.get at0
            have hq2 := H.get at1
            rw [← hsl] at hd2
            refine W_region ?_
            refine op_move rfl (.pointer _) rfl ?_
            refine op_move rfl (.int _ _) rfl ?_
            refine op_call rfl ca_142_SnV (remove_ok (some ⟨q, 0, none⟩) (ds.set i e).length c i (ds.set i e) nx _ hd2 (fun z hz => hR2 (hz.to hq2 (by rw [List.mem_singleton]; exact hqb.2))) rfl (by omega) (by omega) (by omega)) rfl ?_
            rintro v w ⟨rfl, a3, c3, f3, O3, H3⟩
            rw [hes] at O3
            rw [hes] at H3
            have hx0 := H.ext
            clear H
            have H := H3
            refine op_nil (at_then ?_)
            refine W_rseq ?_
            refine op_assign rfl (.int _ _) rfl ?_
            refine op_nil (at_then ?_)
            refine W_ret (leave1 (v := (.int _ _)) rfl rfl rfl ?_)
            refine ⟨rfl, a3, c3, f3, H3.get at0, O3, fun y hy => ?_, hx0.trans (H3.ext.mono (by simp))⟩
            have hm := List.mem_cons_of_mem (bd, Bl 48 [.slice a3 (ds.eraseIdx i).length c3, .int .u64 nx]) hy
            have hnb : y.1 ≠ bd := fun h => (List.pairwise_cons.1 H3.nd).1 y hy h.symm
            refine ⟨H3.blk y hm, hnb, (H3.own y hm).elim (fun h => absurd (List.mem_singleton.1 h) hnb) fun h => .inr (Nat.le_trans hx0.size h)⟩
          · intro h5
            replace h5 := dec_f h5
            refine W_skip (at_then ?_)
            refine W_rseq ?_
            refine op_assign rfl (.int _ _) rfl ?_
            refine op_nil (at_then ?_)
            refine W_ret (leave1 (v := (.int _ _)) rfl rfl rfl ?_)
            have hL : payL ds k x = ds.set i e := by rw [P.pay, if_neg (by omega), he]
            rw [hL, hsl]
            refine ⟨rfl, _, c, full2, H.get at0, O1, fun y hy => ?_, H.ext⟩
            have hy := List.mem_singleton.1 hy
            rw [hy]
            exact ⟨H.get at1, hqb.2, .inl (List.mem_singleton.2 rfl)⟩
end Go.Proofs.YtapphbmlkdhnmaaGreat

/- Dues that are open: Clone, IndexFunc. -/
namespace Go.Proofs.YtapphbmlkdhnmaaGreat
open Go.GV
theorem ag_4_SnW : aggB Tryz.prog 4 = some false := by kernel_rfl
theorem ag_62_SnW : aggB Tryz.prog 62 = some true := by kernel_rfl
theorem by_62_SnW : tbytes Tryz.prog 62 = some 56 := by kernel_rfl
theorem ca_158_SnW : callable Tryz.prog 158 = true := by kernel_rfl
theorem el_23_SnW : elemT Tryz.prog 23 = some 62 := by kernel_rfl
theorem fo_62_6_SnW : fieldO Tryz.prog 62 6 = some 6 := by kernel_rfl
theorem sz_62_SnW : tsize Tryz.prog 62 = some 7 := by kernel_rfl
theorem zc_62_SnW : zcells Tryz.prog 62 = some ([.int .u64 0, .int .i64 0, .int .i64 0, .int .i64 0, .int .i64 0, .int .i64 0, .bool false]) := by kernel_rfl
attribute [local irreducible] Wops W Wq Wt

theorem dclone_ok (a : Option Addr) (n c : Nat) (ds : List Du) (w : World) (R : Rd w a 7 encD ds) (hn : ds.length = n) (hm : n ≤ 1000000000) :
    Ret Tryz.prog 157 #[.slice a n c] w fun v w' => Fresh w w' 62 7 v (ds.flatMap encD) := by
  subst hn
  obtain ⟨w0, rfl⟩ : ∃ w0, w0 = w := ⟨_, rfl⟩
  have H := Ctx.start w0 []
  refine ret_of_W (fn := Tryz.f157) Tryz.func157 rfl [.slice a ds.length c] rfl (by kernel_rfl) ?_
  refine W_rseq ?_
  refine op_assign rfl (.slice _ _ _) rfl ?_
  refine op_nil (at_then ?_)
  refine W_seq ?_
  refine W_rseq ?_
  refine op_move rfl (.slice _ _ _) rfl ?_
  refine op_eqlnil rfl el_23_SnW rfl ?_
  refine op_nil (at_then ?_)
  refine W_cond _ rfl ?_ ?_
  · intro h1
    have ha : a = none := by simpa using h1
    subst ha
    have hxs : ds = [] := by
      cases ds with
      | nil => rfl
      | cons x xs => obtain ⟨b, o, h⟩ := R.some' (by simp); cases h
    subst hxs
    refine W_rseq ?_
    refine op_assign rfl (.slice _ _ _) rfl ?_
    refine op_nil (at_then ?_)
    refine W_ret (ret_then (leave1 (v := (.slice _ _ _)) rfl rfl rfl ?_))
    exact Fresh.nil H _ _
  · intro h1
    refine W_skip (at_then ?_)
    refine W_rseq ?_
    refine op_build0 rfl el_23_SnW sz_62_SnW H ?_
    rintro b5 w H O
    refine op_move rfl (.slice _ _ _) rfl ?_
    refine op_append rfl el_23_SnW el_23_SnW sz_62_SnW by_62_SnW zc_62_SnW rfl (by decide) (ds.flatMap encD) rfl rfl H O (encD_len ds) (encD_ones ds) ((R.ext0 H.ext).app (fun _ _ => rfl) (by omega)) (by omega) ?_
    rintro a7 c7 full7 w H O
    refine op_assign rfl (.slice _ _ _) rfl ?_
    refine op_nil (at_then ?_)
    refine W_ret (leave1 (v := (.slice _ _ _)) rfl rfl rfl ?_)
    exact H.fresh O
theorem open1_ok (d : Du) (w : World) : Ret Tryz.prog 158 #[dueV d] w fun v w' => v = .bool d.held ∧ Ext [] w w' := by
  obtain ⟨w0, rfl⟩ : ∃ w0, w0 = w := ⟨_, rfl⟩
  have H := Ctx.start w0 []
  refine ret_of_W (fn := Tryz.f158) Tryz.func158 rfl [dueV d] rfl (by kernel_rfl) ?_
  refine W_rseq ?_
  refine op_box rfl (encD d) (.agg _) rfl rfl H ?_
  rintro b1 w - H
  refine op_assign rfl (.bool _) rfl ?_
  refine op_nil (at_then ?_)
  refine W_rseq ?_
  refine op_fieldAddr rfl fo_62_6_SnW rfl ?_
  refine op_ldb rfl ag_4_SnW rfl H (by first | exact at0 | exact at1 | exact at2 | exact at3 | exact at4 | exact at5 | exact at6 | exact at7 | exact at8 | exact at9) rfl ?_
  refine op_assign rfl (.bool _) rfl ?_
  refine op_nil (at_then ?_)
  refine W_ret (leave1 (v := (.bool _)) rfl rfl rfl ?_)
  exact ⟨rfl, H.ext⟩
abbrev openF : Value := .func (.func 158) #[] #[]
/-- The first that is held. -/
structure FstH (ds : List Du) (i : Nat) : Prop where
  at' : ∃ d, ds[i]? = some d ∧ d.held = true
  fst : ∀ (j : Nat) (e : Du), j < i → ds[j]? = some e → e.held = false
set_option maxRecDepth 20000 in
theorem idxf_ok (a : Option Addr) (n c : Nat) (ds : List Du) (w : World) (R : Rd w a 7 encD ds) (hn : ds.length = n) (hn2 : n ≤ 1000000) :
    Ret Tryz.prog 186 #[.slice a n c, openF] w fun v w' => Ext [] w w' ∧ ((v = .int .i64 (-1) ∧ ∀ d ∈ ds, d.held = false) ∨ ∃ i : Nat, v = .int .i64 (i : Int) ∧ FstH ds i) := by
  subst hn
  obtain ⟨w0, rfl⟩ : ∃ w0, w0 = w := ⟨_, rfl⟩
  have H := Ctx.start w0 []
  refine ret_of_W (fn := Tryz.f186) Tryz.func186 rfl [.slice a ds.length c, .func (.func 158) #[] #[]] rfl (by kernel_rfl) ?_
  refine W_rseq ?_
  refine op_assign rfl (.int _ _) rfl ?_
  refine op_nil (at_then ?_)
  refine W_seq ?_
  refine W_rseq ?_
  refine op_move rfl (.slice _ _ _) rfl ?_
  refine op_len rfl el_23_SnW rfl ?_
  refine op_move rfl (.int _ _) rfl ?_
  refine op_nil (at_then ?_)
  refine W_block ?_
  refine W_loop 524080 (α := Nat) (fun i => [(8, .int .i64 (i : Int))]) (fun i w' => i ≤ ds.length ∧ Ctx w0 [] w' [] ∧ ∀ (j : Nat) (e : Du), j < i → ds[j]? = some e → e.held = false) (fun i => ds.length - i) 0 rfl ?_ ?_ ?_
  · exact ⟨rfl, trivial⟩
  · exact ⟨Nat.zero_le _, H, fun j e h => absurd h (Nat.not_lt_zero _)⟩
  · clear H
    rintro i j w ⟨hi, H, hb⟩
    refine W_rseq ?_
    refine op_lss rfl rfl rfl ?_
    refine op_nil (at_then ?_)
    refine W_seq ?_
    refine W_cond _ rfl ?_ ?_
    · intro h1
      replace h1 := dec_t h1
      obtain ⟨d, hd2⟩ := get_some (l := ds) (i := i) (by omega)
      refine W_skip (at_then ?_)
      refine W_seq ?_
      refine W_block ?_
      refine W_rseq ?_
      refine op_move rfl (.int _ _) rfl ?_
      refine op_assign rfl (.int _ _) rfl ?_
      refine op_nil (at_then ?_)
      refine W_rseq ?_
      refine op_move rfl (.func _ _ _) rfl ?_
      refine op_move rfl (.slice _ _ _) rfl ?_
      refine op_move rfl (.int _ _) rfl ?_
      first | refine op_indexRd R rfl el_23_SnW sz_62_SnW rfl rfl (by omega) (by omega) (by first | rfl | omega) ?_ | refine op_indexAddr rfl el_23_SnW sz_62_SnW rfl rfl (by omega) (by omega) ?_
      first | refine op_ldN _ rfl ag_62_SnW sz_62_SnW rfl rfl ((R.ext0 H.ext).row hd2 rfl) ?_ | refine op_ldbN rfl ag_62_SnW sz_62_SnW rfl H (by first | exact at0 | exact at1 | exact at2 | exact at3 | exact at4 | exact at5 | exact at6 | exact at7 | exact at8 | exact at9) rfl ?_
      refine op_calld rfl rfl ca_158_SnW (open1_ok d _) rfl ?_
      rintro v w ⟨rfl, hx16⟩
      replace H := H.call hx16
      refine op_nil (at_then ?_)
      refine W_cond _ rfl ?_ ?_
      · intro h2
        refine W_rseq ?_
        refine op_move rfl (.int _ _) rfl ?_
        refine op_assign rfl (.int _ _) rfl ?_
        refine op_nil (at_then ?_)
        refine W_ret (ret_block (ret_then (ret_then (ret_block (ret_then (leave1 (v := (.int _ _)) rfl rfl rfl ?_))))))
        exact ⟨H.ext, .inr ⟨i, rfl, ⟨d, hd2, h2⟩, hb⟩⟩
      · intro h2
        refine W_skip (at_block (at_then ?_))
        refine W_region ?_
        refine op_add_i64 rfl rfl rfl (by omega) (by omega) ?_
        refine op_move rfl (.int _ _) rfl ?_
        refine op_nil (at_then ?_)
        refine ⟨i + 1, rfl, ⟨rfl, trivial⟩, ⟨by omega, H, fun j e hj he => ?_⟩, by omega⟩
        rcases Nat.lt_or_ge j i with h7 | h7
        · exact hb j e h7 he
        · obtain rfl : j = i := by omega
          rw [hd2] at he
          cases he
          exact h2
    · intro h1
      replace h1 := dec_f h1
      refine W_exit (exit_then (exit_then (exit_here (at_then ?_))))
      refine W_rseq ?_
      refine op_assign rfl (.int _ _) rfl ?_
      refine op_nil (at_then ?_)
      refine W_ret (leave1 (v := (.int _ _)) rfl rfl rfl ?_)
      refine ⟨H.ext, .inl ⟨rfl, fun d hd => ?_⟩⟩
      obtain ⟨j, hj⟩ := List.mem_iff_getElem?.1 hd
      exact hb j d (by have := get_lt hj; omega) hj
end Go.Proofs.YtapphbmlkdhnmaaGreat

/- Dues that are open: DeleteFunc, open. -/
namespace Go.Proofs.YtapphbmlkdhnmaaGreat
open Go.GV
theorem ag_62_SnX : aggB Tryz.prog 62 = some true := by kernel_rfl
theorem ca_158_SnX : callable Tryz.prog 158 = true := by kernel_rfl
theorem ca_186_SnX : callable Tryz.prog 186 = true := by kernel_rfl
theorem el_23_SnX : elemT Tryz.prog 23 = some 62 := by kernel_rfl
theorem sz_62_SnX : tsize Tryz.prog 62 = some 7 := by kernel_rfl
theorem zc_62_SnX : zcells Tryz.prog 62 = some ([.int .u64 0, .int .i64 0, .int .i64 0, .int .i64 0, .int .i64 0, .int .i64 0, .bool false]) := by kernel_rfl
attribute [local irreducible] Wops W Wq Wt

def opn (ds : List Du) : List Du := ds.filter fun d => !d.held
theorem over_take : ∀ (vs l : List Value) (o k : Nat), k ≤ o → (over l o vs).take k = l.take k
  | [], _, _, _, _ => rfl
  | v :: vs, l, o, k, h => by
    show (over (l.set o v) (o + 1) vs).take k = _
    rw [over_take vs (l.set o v) (o + 1) k (by omega)]
    refine List.ext_getElem? fun j => ?_
    rw [List.getElem?_take, List.getElem?_take]
    split
    · rw [List.getElem?_set_ne (by omega)]
    · rfl
theorem OS.shrink {α : Type} {a : Option Addr} {n c s i : Nat} {full vs : List Value} {enc : α → List Value} {L : List α} {o : Nat} (O : OS a n c s full (L.flatMap enc)) (hs : ∀ x ∈ L, (enc x).length = s) (hi : i ≤ n) (hL : L.length = n) (ho : vs = [] ∨ i * s ≤ o) : OS a i c s (Go.GV.over full o vs) ((L.take i).flatMap enc) := by
  refine ⟨O.zero, O.none', by rw [over_length]; exact O.len, Nat.le_trans hi O.le, ?_⟩
  have h1 : (Go.GV.over full o vs).take (i * s) = full.take (i * s) := by
    rcases ho with rfl | ho
    · rfl
    · exact over_take _ _ _ _ ho
  rw [h1]
  have h2 : full.take (i * s) = (full.take (n * s)).take (i * s) := by
    rw [List.take_take, Nat.min_eq_left (Nat.mul_le_mul_right _ hi)]
  rw [h2, O.pre]
  have h3 : L.flatMap enc = (L.take i).flatMap enc ++ (L.drop i).flatMap enc := by rw [← List.flatMap_append, List.take_append_drop]
  have h4 : ((L.take i).flatMap enc).length = i * s := by
    rw [flat_len fun z hz => hs z (List.mem_of_mem_take hz), List.length_take, Nat.min_eq_left (by omega)]
  rw [h3]
  exact List.take_left' h4
theorem opn_snoc (ds : List Du) (d : Du) : opn (ds ++ [d]) = opn ds ++ if d.held = true then [] else [d] := by
  unfold opn
  rw [List.filter_append]
  cases h : d.held <;> simp [h]
theorem opn_all {ds : List Du} (h : ∀ d ∈ ds, d.held = false) : opn ds = ds := by
  unfold opn
  rw [List.filter_eq_self]
  intro d hd
  rw [h d hd]; rfl
structure DSt where
  i : Nat
  j : Nat
  L : List Du
  full : List Value
set_option maxRecDepth 20000 in
set_option maxHeartbeats 4000000 in
theorem del_ok (a : Option Addr) (c : Nat) (full : List Value) (ds : List Du) (w : World) (O : OS a ds.length c 7 full (ds.flatMap encD)) (hb : ∀ y ∈ ent a 62 full, w.heap[y.1]? = some y.2) (hn2 : ds.length ≤ 1000000) :
    Ret Tryz.prog 156 #[.slice a ds.length c, openF] w fun v w' => ∃ full', v = .slice a (opn ds).length c ∧ OS a (opn ds).length c 7 full' ((opn ds).flatMap encD) ∧ Ctx w ((ent a 62 full).map (·.1)) w' (ent a 62 full') := by
  obtain ⟨w0, rfl⟩ : ∃ w0, w0 = w := ⟨_, rfl⟩
  have R : Rd w0 a 7 encD ds := OS.rd O hb (fun _ _ => rfl) (by omega)
  have H : Ctx w0 ((ent a 62 full).map (·.1)) w0 (ent a 62 full) := ⟨Ext.refl _ _, hb, ent_nd, fun x hx => .inl (List.mem_map_of_mem (f := (·.1)) hx)⟩
  refine ret_of_W (fn := Tryz.f156) Tryz.func156 rfl [.slice a ds.length c, .func (.func 158) #[] #[]] rfl (by kernel_rfl) ?_
  refine W_rseq ?_
  refine op_assign rfl (.slice _ _ _) rfl ?_
  refine op_nil (at_then ?_)
  refine W_rseq ?_
  refine op_move rfl (.slice _ _ _) rfl ?_
  refine op_move rfl (.func _ _ _) rfl ?_
  refine op_call rfl ca_186_SnX (idxf_ok a ds.length c ds _ R rfl hn2) rfl ?_
  rintro v w ⟨hx10, hidx⟩
  replace H := H.call hx10
  obtain ⟨pi, rfl, hpi⟩ : ∃ pi : Int, v = .int .i64 pi ∧ ((pi = -1 ∧ ∀ d ∈ ds, d.held = false) ∨ ∃ i : Nat, pi = (i : Int) ∧ FstH ds i) := hidx.elim (fun h => ⟨-1, h.1, .inl ⟨rfl, h.2⟩⟩) (fun ⟨i, h1, h2⟩ => ⟨i, h1, .inr ⟨i, rfl, h2⟩⟩)
  refine op_assign rfl (.int _ _) rfl ?_
  refine op_nil (at_then ?_)
  refine W_seq ?_
  refine W_rseq ?_
  refine op_move rfl (.int _ _) rfl ?_
  refine op_eql rfl rfl rfl ?_
  refine op_nil (at_then ?_)
  refine W_cond _ rfl ?_ ?_
  · intro h1
    replace h1 := dec_t h1
    refine W_rseq ?_
    refine op_move rfl (.slice _ _ _) rfl ?_
    refine op_assign rfl (.slice _ _ _) rfl ?_
    refine op_nil (at_then ?_)
    refine W_ret (ret_then (leave1 (v := (.slice _ _ _)) rfl rfl rfl ?_))
    have hal : ∀ d ∈ ds, d.held = false := hpi.elim (fun h => h.2) fun ⟨i, h, _⟩ => by omega
    rw [opn_all hal]
    exact ⟨full, rfl, O, H⟩
  · intro h1
    replace h1 := dec_f h1
    obtain ⟨i, hpe, P⟩ : ∃ i : Nat, pi = (i : Int) ∧ FstH ds i := hpi.elim (fun h => absurd h.1 h1) id
    subst hpe
    obtain ⟨d0, hd0, hh0⟩ := P.at'
    have hil := get_lt hd0
    obtain ⟨q, rfl⟩ := O.form (by omega)
    replace H : Ctx w0 [q] w [(q, Bl 62 full)] := H
    have hop0 : opn (ds.take i) = ds.take i := opn_all fun d hd => by
      obtain ⟨j, hj⟩ := List.mem_iff_getElem?.1 hd
      rw [List.getElem?_take] at hj
      split at hj
      · exact P.fst j d (by assumption) hj
      · cases hj
    have hst0 : opn (ds.take (i + 1)) = ds.take i := by
      rw [List.take_succ, hd0]
      show opn (ds.take i ++ [d0]) = _
      rw [opn_snoc, if_pos hh0, hop0, List.append_nil]
    refine W_skip (at_then ?_)
    refine W_seq ?_
    refine W_rseq ?_
    refine op_move rfl (.int _ _) rfl ?_
    refine op_add_i64 rfl rfl rfl (by omega) (by omega) ?_
    refine op_assign rfl (.int _ _) rfl ?_
    refine op_nil (at_then ?_)
    refine W_block ?_
    refine W_loop 68719411424 (α := DSt) (fun t => [(5, .int .i64 (t.i : Int)), (6, .int .i64 (t.j : Int))]) (fun t w' => t.i < t.j ∧ t.j ≤ ds.length ∧ t.L.length = ds.length ∧ t.L.take t.i = opn (ds.take t.j) ∧ (∀ p, t.j ≤ p → t.L[p]? = ds[p]?) ∧ OS (some ⟨q, 0, none⟩) ds.length c 7 t.full (t.L.flatMap encD) ∧ Ctx w0 [q] w' [(q, Bl 62 t.full)]) (fun t => ds.length - t.j) ⟨i, i + 1, ds, full⟩ rfl ?_ ?_ ?_
    · exact ⟨rfl, rfl, trivial⟩
    · exact ⟨Nat.lt_succ_self _, by dsimp only; omega, rfl, hst0.symm, fun p _ => rfl, O, H⟩
    · clear H
      rintro ⟨i, j, L, fu⟩ jj w ⟨hij, hj, hL, hT, hS, O1, H⟩; dsimp only at hij hj hL hT hS O1 H; dsimp only
      have hOl := O1.len
      have hOle := O1.le
      refine W_seq ?_
      refine W_rseq ?_
      refine op_move rfl (.int _ _) rfl ?_
      refine op_move rfl (.slice _ _ _) rfl ?_
      refine op_len rfl el_23_SnX rfl ?_
      refine op_lss rfl rfl rfl ?_
      refine op_nil (at_then ?_)
      refine W_cond _ rfl ?_ ?_
      · intro h2
        replace h2 := dec_t h2
        obtain ⟨d, hdj⟩ := get_some (l := ds) (i := j) (by omega)
        have hLd : L[j]? = some d := by rw [hS j (Nat.le_refl _), hdj]
        have R1 : Rd w (some ⟨q, 0, none⟩) 7 encD L := O1.rd (t := 62) (fun y hy => by have hy := List.mem_singleton.1 hy; rw [hy]; exact H.get at0) (fun _ _ => rfl) (by decide)
        have htk : ds.take (j + 1) = ds.take j ++ [d] := by rw [List.take_succ, hdj]; rfl
        refine W_skip (at_then ?_)
        refine W_seq ?_
        refine W_block ?_
        refine W_rseq ?_
        refine op_move rfl (.slice _ _ _) rfl ?_
        refine op_move rfl (.int _ _) rfl ?_
        first | refine op_indexRd R1 rfl el_23_SnX sz_62_SnX rfl rfl (by omega) (by omega) (by first | rfl | omega) ?_ | refine op_indexAddr rfl el_23_SnX sz_62_SnX rfl rfl (by omega) (by omega) ?_
        first | refine op_ldN _ rfl ag_62_SnX sz_62_SnX rfl rfl (R1.row hLd rfl) ?_ | refine op_ldbN rfl ag_62_SnX sz_62_SnX rfl H (by first | exact at0 | exact at1 | exact at2 | exact at3 | exact at4 | exact at5 | exact at6 | exact at7 | exact at8 | exact at9) rfl ?_
        refine op_alloc rfl zc_62_SnX H ?_
        rintro b7 w - H
        refine op_stb0 rfl sz_62_SnX rfl rfl rfl (by first | exact encD_one _ | simp [oneCell]) H (by first | exact at0 | exact at1 | exact at2 | exact at3 | exact at4 | exact at5 | exact at6 | exact at7 | exact at8 | exact at9) rfl ?_
        rintro w H
        refine op_nil (at_then ?_)
        refine W_rseq ?_
        refine op_move rfl (.func _ _ _) rfl ?_
        first | refine op_ldN _ rfl ag_62_SnX sz_62_SnX rfl rfl (R1.row hLd rfl) ?_ | refine op_ldbN rfl ag_62_SnX sz_62_SnX rfl H (by first | exact at0 | exact at1 | exact at2 | exact at3 | exact at4 | exact at5 | exact at6 | exact at7 | exact at8 | exact at9) rfl ?_
        refine op_calld rfl rfl ca_158_SnX (open1_ok d _) rfl ?_
        rintro v w ⟨rfl, hx28⟩
        replace H := H.call hx28
        refine op_not rfl rfl ?_
        refine op_nil (at_then ?_)
        refine W_cond _ rfl ?_ ?_
        · intro h3
          replace h3 := nvar_t h3
          have h3' : ¬ d.held = true := by simpa using h3
          obtain ⟨y, hy⟩ := get_some (l := L) (i := i) (by omega)
          have O2 := OS.over O1 (fun _ => rfl) hy d
          refine W_rseq ?_
          refine op_move rfl (.slice _ _ _) rfl ?_
          refine op_move rfl (.int _ _) rfl ?_
          first | refine op_ldN _ rfl ag_62_SnX sz_62_SnX rfl rfl (R1.row hLd rfl) ?_ | refine op_ldbN rfl ag_62_SnX sz_62_SnX rfl H (by first | exact at0 | exact at1 | exact at2 | exact at3 | exact at4 | exact at5 | exact at6 | exact at7 | exact at8 | exact at9) rfl ?_
          first | refine op_indexRd R1 rfl el_23_SnX sz_62_SnX rfl rfl (by omega) (by omega) (by first | rfl | omega) ?_ | refine op_indexAddr rfl el_23_SnX sz_62_SnX rfl rfl (by omega) (by omega) ?_
          refine op_stbN (vs := encD d) rfl sz_62_SnX rfl rfl rfl (encD_one d) H at1 (by show 0 + (i : Int).toNat * 7 + 7 ≤ _; omega) ?_
          rintro w H
          replace H : Ctx w0 [q] w [(b7, Bl 62 (encD d)), (q, Bl 62 (over fu (i * 7) (encD d)))] := by rw [show i * 7 = 0 + ((i : Int)).toNat * 7 by omega]; exact H
          refine op_nil (at_then ?_)
          refine W_region ?_
          refine op_move rfl (.int _ _) rfl ?_
          refine op_add_i64 rfl rfl rfl (by omega) (by omega) ?_
          refine op_assign rfl (.int _ _) rfl ?_
          refine op_nil (at_block (at_then ?_))
          refine W_region ?_
          refine op_move rfl (.int _ _) rfl ?_
          refine op_add_i64 rfl rfl rfl (by omega) (by omega) ?_
          refine op_assign rfl (.int _ _) rfl ?_
          refine op_nil (at_then ?_)
          refine ⟨⟨i + 1, j + 1, L.set i d, over fu (i * 7) (encD d)⟩, rfl, ⟨rfl, rfl, trivial⟩, ⟨by dsimp only; omega, by dsimp only; omega, by dsimp only; rw [List.length_set]; exact hL, ?_, fun p hp => ?_, O2, ?_⟩, by dsimp only; omega⟩
          · dsimp only
            rw [htk, opn_snoc, if_neg h3', ← hT, List.take_succ, List.getElem?_set_self (by omega)]
            congr 1
            refine List.ext_getElem? fun z => ?_
            rw [List.getElem?_take, List.getElem?_take]
            split
            · rw [List.getElem?_set_ne (by omega)]
            · rfl
          · dsimp only at hp ⊢
            rw [List.getElem?_set_ne (by omega)]
            exact hS p (by omega)
          · exact H.tail
        · intro h3
          replace h3 := nvar_f h3
          have h3' : d.held = true := by simpa using h3
          refine W_skip (at_block (at_then ?_))
          refine W_region ?_
          refine op_move rfl (.int _ _) rfl ?_
          refine op_add_i64 rfl rfl rfl (by omega) (by omega) ?_
          refine op_assign rfl (.int _ _) rfl ?_
          refine op_nil (at_then ?_)
          refine ⟨⟨i, j + 1, L, fu⟩, rfl, ⟨rfl, rfl, trivial⟩, ⟨by dsimp only; omega, by dsimp only; omega, hL, ?_, fun p hp => hS p (by dsimp only at hp; omega), O1, H.tail⟩, by dsimp only; omega⟩
          dsimp only
          rw [htk, opn_snoc, if_pos h3', List.append_nil]
          exact hT
      · intro h2
        replace h2 := dec_f h2
        obtain rfl : j = ds.length := by omega
        rw [List.take_length] at hT
        have hlen : (opn ds).length = i := by rw [← hT, List.length_take]; omega
        obtain ⟨o', ho', ho2⟩ : ∃ o', cutA (some ⟨q, 0, none⟩) c i 7 = some ⟨q, o', none⟩ ∧ ((c = i ∧ o' = 0) ∨ o' = i * 7) := by
          unfold cutA
          by_cases h : c = i
          · rw [if_pos h]; exact ⟨0, rfl, .inl ⟨h, rfl⟩⟩
          · rw [if_neg h]; exact ⟨0 + i * 7, (by show some (Addr.add _ _) = _; rw [add_none]), .inr (Nat.zero_add _)⟩
        refine W_exit (exit_then (exit_then (exit_here (at_then ?_))))
        refine W_rseq ?_
        refine op_move rfl (.slice _ _ _) rfl ?_
        refine op_move rfl (.int _ _) rfl ?_
        refine op_slice_lo rfl el_23_SnX sz_62_SnX rfl rfl (by omega) (by omega) ?_
        refine op_clearS (b := q) (o := o') (n := ds.length - i) (c := c - i) (s := 7) rfl el_23_SnX zc_62_SnX rfl (by simp [oneCell]) (show Value.slice (cutA (some ⟨q, 0, none⟩) c i 7) (ds.length - i) (c - i) = _ by rw [ho']) H at0 (by omega) ?_
        rintro w H
        refine op_nil (at_then ?_)
        refine W_rseq ?_
        refine op_move rfl (.slice _ _ _) rfl ?_
        refine op_move rfl (.int _ _) rfl ?_
        refine op_slice_hi rfl el_23_SnX sz_62_SnX rfl rfl (by omega) (by omega) ?_
        refine op_assign rfl (.slice _ _ _) rfl ?_
        refine op_nil (at_then ?_)
        refine W_ret (leave1 (v := (.slice _ _ _)) rfl rfl rfl ?_)
        have O3 := OS.shrink (i := i) (o := o') (vs := (List.replicate (ds.length - i) [Value.int .u64 0, .int .i64 0, .int .i64 0, .int .i64 0, .int .i64 0, .int .i64 0, .bool false]).flatten) O1 (fun _ _ => rfl) (by omega) hL (ho2.elim (fun h => by omega) fun h => .inr (by omega))
        rw [hT] at O3
        rw [hlen]
        exact ⟨_, rfl, O3, H⟩
end Go.Proofs.YtapphbmlkdhnmaaGreat

/- Dues that are open; may a round be built? -/
namespace Go.Proofs.YtapphbmlkdhnmaaGreat
open Go.GV
theorem ca_156_SnY : callable Tryz.prog 156 = true := by kernel_rfl
theorem ca_157_SnY : callable Tryz.prog 157 = true := by kernel_rfl
attribute [local irreducible] Wops W Wq Wt

theorem open_ok (a : Option Addr) (n c : Nat) (ds : List Du) (w : World) (R : Rd w a 7 encD ds) (hn : ds.length = n) (hm : n ≤ 1000000) :
    Ret Tryz.prog 105 #[.slice a n c] w fun v w' => Fresh w w' 62 7 v ((opn ds).flatMap encD) := by
  subst hn
  obtain ⟨w0, rfl⟩ : ∃ w0, w0 = w := ⟨_, rfl⟩
  refine ret_of_W (fn := Tryz.f105) Tryz.func105 rfl [.slice a ds.length c] rfl (by kernel_rfl) ?_
  refine W_rseq ?_
  refine op_assign rfl (.slice _ _ _) rfl ?_
  refine op_nil (at_then ?_)
  refine W_rseq ?_
  refine op_move rfl (.slice _ _ _) rfl ?_
  refine op_call rfl ca_157_SnY (dclone_ok a ds.length c ds _ R rfl (by omega)) rfl ?_
  rintro v w F
  obtain ⟨a4, n4, c4, f4, rfl, O4, hb4⟩ := F.ex
  have hl4 := O4.llen
  rw [encD_len] at hl4
  obtain rfl : ds.length = n4 := by omega
  refine op_call rfl ca_156_SnY (del_ok a4 c4 f4 ds _ O4 (fun y hy => (hb4 y hy).1) hm) rfl ?_
  rintro v w ⟨f5, rfl, O5, H5⟩
  refine op_assign rfl (.slice _ _ _) rfl ?_
  refine op_nil (at_then ?_)
  refine W_ret (leave1 (v := (.slice _ _ _)) rfl rfl rfl ?_)
  refine ⟨⟨_, _, _, f5, rfl, O5, fun x hx => ⟨H5.blk x hx, ?_⟩⟩, F.ext.then H5.ext fun x hx => ?_⟩
  · rcases H5.own x hx with h | h
    · obtain ⟨y, hy, hyx⟩ := List.mem_map.1 h
      rw [← hyx]
      exact (hb4 y hy).2
    · exact Nat.le_trans F.ext.size h
  · obtain ⟨y, hy, rfl⟩ := List.mem_map.1 hx
    exact .inr (hb4 y hy).2
/-- The dues with numbers from 1 on. -/
def renum : Nat → List Du → List Du
  | _, [] => []
  | i, d :: ds => { d with id := (i : Int) + 1 } :: renum (i + 1) ds
theorem renum_len (i : Nat) (ds : List Du) : (renum i ds).length = ds.length := by
  induction ds generalizing i with
  | nil => rfl
  | cons d ds ih => show (renum (i + 1) ds).length + 1 = ds.length + 1; rw [ih]
theorem renum_append (i : Nat) (ds es : List Du) : renum i (ds ++ es) = renum i ds ++ renum (i + ds.length) es := by
  induction ds generalizing i with
  | nil => rfl
  | cons d ds ih =>
    show _ :: renum (i + 1) (ds ++ es) = _ :: (renum (i + 1) ds ++ renum (i + (ds.length + 1)) es)
    rw [ih, show i + 1 + ds.length = i + (ds.length + 1) by omega]
theorem renum_take {ds : List Du} {i : Nat} {d : Du} (h : ds[i]? = some d) : renum 0 (ds.take (i + 1)) = renum 0 (ds.take i) ++ [{ d with id := (i : Int) + 1 }] := by
  have hl := get_lt h
  rw [List.take_succ, h]
  show renum 0 (ds.take i ++ [d]) = _
  rw [renum_append, List.length_take, Nat.min_eq_left (by omega), Nat.zero_add]; rfl
theorem renum_id {ds : List Du} : ∀ (i : Nat) (d : Du), d ∈ renum i ds → (i : Int) < d.id ∧ d.id ≤ i + ds.length := by
  induction ds with
  | nil => intro i d h; cases h
  | cons x ds ih =>
    intro i d h
    rcases List.mem_cons.1 h with rfl | h
    · dsimp only [List.length_cons]; omega
    · have := ih (i + 1) d h
      rw [List.length_cons]; omega
theorem renum_asc {ds : List Du} : ∀ (i : Nat), ascB ((i : Int) + ds.length + 1) i (renum i ds) = ds.all mayD := by
  induction ds with
  | nil => intro i; rfl
  | cons d ds ih =>
    intro i
    have h := ih (i + 1)
    show ((mayD d && (decide ((i : Int) < (i : Int) + 1) && decide ((i : Int) + 1 < _))) && ascB _ ((i : Int) + 1) (renum (i + 1) ds)) = (mayD d && ds.all mayD)
    rw [← h, decide_eq_true (show (i : Int) < (i : Int) + 1 by omega), decide_eq_true (show (i : Int) + 1 < (i : Int) + ((d :: ds).length : Nat) + 1 by rw [List.length_cons]; omega), show ((i : Int) + ((d :: ds).length : Nat) + 1) = (((i + 1 : Nat) : Int) + ds.length + 1) by rw [List.length_cons]; omega]
    simp
/-- May such a round be built? -/
def brightB (rs : List Int) (ds : List Du) : Bool :=
  decide (rs.length ≤ 16) && (!decide ((totM rs).2 = 1) && (ds.all (fun d => decide (max d.fr d.to < rs.length)) && decide (ofC (renum 0 ds) (ds.length + 1) = 0)))
end Go.Proofs.YtapphbmlkdhnmaaGreat

/- May a round be built: the walk. -/
namespace Go.Proofs.YtapphbmlkdhnmaaGreat
open Go.GV
theorem ag_3_SnZ : aggB Tryz.prog 3 = some false := by kernel_rfl
theorem ag_62_SnZ : aggB Tryz.prog 62 = some true := by kernel_rfl
theorem by_62_SnZ : tbytes Tryz.prog 62 = some 56 := by kernel_rfl
theorem ca_110_SnZ : callable Tryz.prog 110 = true := by kernel_rfl
theorem ca_57_SnZ : callable Tryz.prog 57 = true := by kernel_rfl
theorem el_23_SnZ : elemT Tryz.prog 23 = some 62 := by kernel_rfl
theorem el_29_SnZ : elemT Tryz.prog 29 = some 2 := by kernel_rfl
theorem fo_62_0_SnZ : fieldO Tryz.prog 62 0 = some 0 := by kernel_rfl
theorem fo_62_1_SnZ : fieldO Tryz.prog 62 1 = some 1 := by kernel_rfl
theorem fo_62_2_SnZ : fieldO Tryz.prog 62 2 = some 2 := by kernel_rfl
theorem sz_24_SnZ : tsize Tryz.prog 24 = some 1 := by kernel_rfl
theorem sz_62_SnZ : tsize Tryz.prog 62 = some 7 := by kernel_rfl
theorem un_24_SnZ : Tryz.prog.underlying 24 = some (.int .u64) := by kernel_rfl
theorem un_3_SnZ : Tryz.prog.underlying 3 = some (.int .i64) := by kernel_rfl
theorem zc_62_SnZ : zcells Tryz.prog 62 = some ([.int .u64 0, .int .i64 0, .int .i64 0, .int .i64 0, .int .i64 0, .int .i64 0, .bool false]) := by kernel_rfl
attribute [local irreducible] Wops W Wq Wt

theorem bright_no {rs : List Int} {ds : List Du} {i : Nat} {d : Du} (hd : ds[i]? = some d) (h : ¬ max d.fr d.to < rs.length) : brightB rs ds = false := by
  unfold brightB
  have : ds.all (fun d => decide (max d.fr d.to < rs.length)) = false := by
    rw [List.all_eq_false]
    exact ⟨d, List.mem_of_getElem? hd, by simpa using h⟩
  rw [this]
  simp
set_option maxRecDepth 20000 in
set_option maxHeartbeats 4000000 in
theorem bright_ok (a b : Option Addr) (n c m e : Nat) (rs : List Int) (ds : List Du) (w : World) (R : Rd w a 1 I1 rs) (hn : rs.length = n) (hn2 : n ≤ 1000000) (Rd' : Rd w b 7 encD ds) (hm : ds.length = m) (hm2 : m ≤ 1000000) :
    Ret Tryz.prog 104 #[.slice a n c, .slice b m e] w fun v w' => v = .bool (brightB rs ds) ∧ Ext [] w w' := by
  subst hn hm
  obtain ⟨w0, rfl⟩ : ∃ w0, w0 = w := ⟨_, rfl⟩
  have H := Ctx.start w0 []
  obtain ⟨tt, htt⟩ : ∃ tt, tt = totM rs := ⟨_, rfl⟩
  refine ret_of_W (fn := Tryz.f104) Tryz.func104 rfl [.slice a rs.length c, .slice b ds.length e] rfl (by kernel_rfl) ?_
  refine W_rseq ?_
  refine op_assign rfl (.bool _) rfl ?_
  refine op_nil (at_then ?_)
  refine W_seq ?_
  refine W_rseq ?_
  refine op_move rfl (.slice _ _ _) rfl ?_
  refine op_len rfl el_29_SnZ rfl ?_
  refine op_gtr rfl rfl rfl ?_
  refine op_nil (at_then ?_)
  refine W_cond _ rfl ?_ ?_
  · intro h1
    replace h1 := dec_t h1
    refine W_rseq ?_
    refine op_assign rfl (.bool _) rfl ?_
    refine op_nil (at_then ?_)
    refine W_ret (ret_then (leave1 (v := (.bool _)) rfl rfl rfl ?_))
    exact ⟨congrArg Value.bool (by unfold brightB; rw [decide_eq_false (show ¬ rs.length ≤ 16 by omega)]; rfl), H.ext⟩
  · intro h1
    replace h1 := dec_f h1
    have h1' : decide (rs.length ≤ 16) = true := decide_eq_true (by omega)
    refine W_skip (at_then ?_)
    refine W_seq ?_
    refine W_rseq ?_
    refine op_move rfl (.slice _ _ _) rfl ?_
    refine op_call rfl ca_110_SnZ (msum_ok a rs.length c rs _ R rfl hn2) rfl ?_
    rintro v w ⟨rfl, rfl⟩
    rw [← htt]
    refine op_move rfl (.tuple _) rfl ?_
    refine op_extract rfl rfl rfl ?_
    refine op_extract rfl rfl rfl ?_
    refine op_assign rfl (.int _ _) rfl ?_
    refine op_assign rfl (.int _ _) rfl ?_
    refine op_nil (at_then ?_)
    refine W_rseq ?_
    refine op_move rfl (.int _ _) rfl ?_
    refine op_eql rfl rfl rfl ?_
    refine op_nil (at_then ?_)
    refine W_cond _ rfl ?_ ?_
    · intro h2
      replace h2 := dec_t h2
      refine W_rseq ?_
      refine op_assign rfl (.bool _) rfl ?_
      refine op_nil (at_then ?_)
      refine W_ret (ret_then (leave1 (v := (.bool _)) rfl rfl rfl ?_))
      exact ⟨congrArg Value.bool (by unfold brightB; rw [← htt, h2, h1']; rfl), H.ext⟩
    · intro h2
      replace h2 := dec_f h2
      refine W_skip (at_then ?_)
      refine W_rseq ?_
      refine op_assign rfl (.slice _ _ _) rfl ?_
      refine op_nil (at_then ?_)
      refine W_seq ?_
      refine W_rseq ?_
      refine op_move rfl (.slice _ _ _) rfl ?_
      refine op_len rfl el_23_SnZ rfl ?_
      refine op_move rfl (.int _ _) rfl ?_
      refine op_nil (at_then ?_)
      refine W_block ?_
      refine W_loop 70368727401360 (α := LSt) (fun t => [(7, .slice t.a t.i t.c), (24, .int .i64 (t.i : Int))]) (fun t w' => t.i ≤ ds.length ∧ OS t.a t.i t.c 7 t.full ((renum 0 (ds.take t.i)).flatMap encD) ∧ Ctx w0 [] w' (ent t.a 62 t.full) ∧ ∀ (j : Nat) (d : Du), j < t.i → ds[j]? = some d → max d.fr d.to < rs.length) (fun t => ds.length - t.i) ⟨0, none, 0, []⟩ rfl ?_ ?_ ?_
      · exact ⟨rfl, rfl, trivial⟩
      · exact ⟨Nat.zero_le _, OS.nil, H, fun j d h => absurd h (Nat.not_lt_zero _)⟩
      · clear H
        rintro ⟨i, a2, c2, full⟩ jj w ⟨hi, O, H, hb⟩; dsimp only at hi O H hb; dsimp only
        refine W_rseq ?_
        refine op_lss rfl rfl rfl ?_
        refine op_nil (at_then ?_)
        refine W_seq ?_
        refine W_cond _ rfl ?_ ?_
        · intro h3
          replace h3 := dec_t h3
          obtain ⟨d, hd⟩ := get_some (l := ds) (i := i) (by omega)
          obtain ⟨d', hd'⟩ : ∃ d' : Du, d' = { d with id := (i : Int) + 1 } := ⟨_, rfl⟩
          refine W_skip (at_then ?_)
          refine W_seq ?_
          refine W_block ?_
          refine W_rseq ?_
          refine op_move rfl (.int _ _) rfl ?_
          first | refine op_indexRd Rd' rfl el_23_SnZ sz_62_SnZ rfl rfl (by omega) (by omega) (by first | rfl | omega) ?_ | refine op_indexAddr rfl el_23_SnZ sz_62_SnZ rfl rfl (by omega) (by omega) ?_
          first | refine op_ldN _ rfl ag_62_SnZ sz_62_SnZ rfl rfl ((Rd'.ext0 H.ext).row hd rfl) ?_ | refine op_ldbN rfl ag_62_SnZ sz_62_SnZ rfl H (by first | exact at0 | exact at1 | exact at2 | exact at3 | exact at4 | exact at5 | exact at6 | exact at7 | exact at8 | exact at9) rfl ?_
          refine op_alloc rfl zc_62_SnZ H ?_
          rintro b9 w - H
          refine op_assign rfl (.int _ _) rfl ?_
          refine op_stb0 rfl sz_62_SnZ rfl rfl rfl (by first | exact encD_one _ | simp [oneCell]) H (by first | exact at0 | exact at1 | exact at2 | exact at3 | exact at4 | exact at5 | exact at6 | exact at7 | exact at8 | exact at9) rfl ?_
          rintro w H
          refine op_nil (at_then ?_)
          refine W_seq ?_
          refine W_rseq ?_
          refine op_fieldAddr rfl fo_62_1_SnZ rfl ?_
          refine op_ldb rfl ag_3_SnZ rfl H (by first | exact at0 | exact at1 | exact at2 | exact at3 | exact at4 | exact at5 | exact at6 | exact at7 | exact at8 | exact at9) rfl ?_
          refine op_fieldAddr rfl fo_62_2_SnZ rfl ?_
          refine op_ldb rfl ag_3_SnZ rfl H (by first | exact at0 | exact at1 | exact at2 | exact at3 | exact at4 | exact at5 | exact at6 | exact at7 | exact at8 | exact at9) rfl ?_
          refine op_max2 rfl rfl rfl ?_
          refine op_move rfl (.slice _ _ _) rfl ?_
          refine op_len rfl el_29_SnZ rfl ?_
          refine op_geq rfl rfl rfl ?_
          refine op_nil (at_then ?_)
          refine W_cond _ rfl ?_ ?_
          · intro h4
            replace h4 := dec_t h4
            refine W_rseq ?_
            refine op_assign rfl (.bool _) rfl ?_
            refine op_nil (at_then ?_)
            refine W_ret (ret_then (ret_block (ret_then (ret_then (ret_block (ret_then (leave1 (v := (.bool _)) rfl rfl rfl ?_)))))))
            exact ⟨congrArg Value.bool (bright_no hd (show ¬ max d.fr d.to < rs.length by omega)).symm, H.ext⟩
          · intro h4
            replace h4 := dec_f h4
            refine W_skip (at_then ?_)
            refine W_rseq ?_
            refine op_move rfl (.int _ _) rfl ?_
            refine op_conv_u64 rfl rfl un_3_SnZ un_24_SnZ (by omega) (by omega) ?_
            refine op_add_u64 rfl rfl rfl (by omega) (by omega) ?_
            refine op_fieldAddr rfl fo_62_0_SnZ rfl ?_
            refine op_stb (.int _ _) rfl sz_24_SnZ rfl rfl rfl H (by first | exact at0 | exact at1 | exact at2 | exact at3 | exact at4 | exact at5 | exact at6 | exact at7 | exact at8 | exact at9) (by first | decide | (simp; done) | (simp; omega)) ?_
            rintro w H
            refine op_nil (at_then ?_)
            replace H : Ctx w0 [] w ((b9, Bl 62 (encD d')) :: ent a2 62 full) := by rw [hd']; exact H
            refine W_region ?_
            refine op_move rfl (.slice _ _ _) rfl ?_
            first | refine op_ldN _ rfl ag_62_SnZ sz_62_SnZ rfl rfl ((Rd'.ext0 H.ext).row hd rfl) ?_ | refine op_ldbN rfl ag_62_SnZ sz_62_SnZ rfl H (by first | exact at0 | exact at1 | exact at2 | exact at3 | exact at4 | exact at5 | exact at6 | exact at7 | exact at8 | exact at9) rfl ?_
            refine op_build1 _ (.agg _) rfl el_23_SnZ sz_62_SnZ zc_62_SnZ rfl (by decide) (by decide) rfl rfl rfl H ?_
            rintro b43 w - H
            refine op_appendb (L := [_]) rfl el_23_SnZ el_23_SnZ sz_62_SnZ by_62_SnZ zc_62_SnZ rfl (by decide) rfl rfl H O rfl (by simp [oneCell]) (by omega) ?_
            rintro a' c' full' w H O
            refine op_assign rfl (.slice _ _ _) rfl ?_
            refine op_nil (at_block (at_then ?_))
            refine W_region ?_
            refine op_add_i64 rfl rfl rfl (by omega) (by omega) ?_
            refine op_move rfl (.int _ _) rfl ?_
            refine op_nil (at_then ?_)
            refine ⟨⟨i + 1, a', c', full'⟩, rfl, ⟨rfl, rfl, trivial⟩, ⟨by dsimp only; omega, ?_, H.tail, fun j x hj hx => ?_⟩, by dsimp only; omega⟩
            · dsimp only
              rw [renum_take hd, ← hd', List.flatMap_append]
              exact O
            · rcases Nat.lt_or_ge j i with h7 | h7
              · exact hb j x h7 hx
              · obtain rfl : j = i := by dsimp only at hj; omega
                rw [hd] at hx
                cases hx
                omega
        · intro h3
          replace h3 := dec_f h3
          obtain rfl : i = ds.length := by omega
          rw [List.take_length] at O
          have hal : ds.all (fun d => decide (max d.fr d.to < rs.length)) = true := by
            rw [List.all_eq_true]
            intro d hd
            obtain ⟨j, hj⟩ := List.mem_iff_getElem?.1 hd
            exact decide_eq_true (hb j d (get_lt hj) hj)
          have RO : Rd w a2 7 encD (renum 0 ds) := OS.rd O (fun y hy => H.blk y hy) (fun _ _ => rfl) (by omega)
          have hbr : brightB rs ds = decide (ofC (renum 0 ds) (ds.length + 1) = 0) := by
            unfold brightB
            rw [h1', hal, ← htt, decide_eq_false h2]; rfl
          obtain ⟨cd, hcd⟩ : ∃ cd, cd = ofC (renum 0 ds) (ds.length + 1) := ⟨_, rfl⟩
          rw [hbr, ← hcd]
          refine W_exit (exit_then (exit_then (exit_here (at_then ?_))))
          refine W_rseq ?_
          refine op_move rfl (.slice _ _ _) rfl ?_
          refine op_move rfl (.slice _ _ _) rfl ?_
          refine op_len rfl el_23_SnZ rfl ?_
          refine op_conv_u64 rfl rfl un_3_SnZ un_24_SnZ (by omega) (by omega) ?_
          refine op_add_u64 rfl rfl rfl (by omega) (by omega) ?_
          refine op_call rfl ca_57_SnZ (dof_ok a2 ds.length c2 (renum 0 ds) (ds.length + 1) _ RO (renum_len 0 ds) (by omega) (by omega) (fun d hd => by have := renum_id 0 d hd; omega)) rfl ?_
          rintro v w ⟨p, rfl, hp1, hp2, hx52⟩
          obtain ⟨pp, rfl⟩ : ∃ pp, p = .pointer pp := by by_cases hz : ofC (renum 0 ds) (ds.length + 1) = 0; (obtain ⟨bd, _, _, e1, _⟩ := hp2 hz; exact ⟨_, e1⟩); exact ⟨none, hp1 hz⟩
          replace H := H.call hx52
          rw [← hcd]
          refine op_move rfl (.tuple _) rfl ?_
          refine op_extract rfl rfl rfl ?_
          refine op_extract rfl rfl rfl ?_
          refine op_assign rfl (.pointer _) rfl ?_
          refine op_assign rfl (.int _ _) rfl ?_
          refine op_nil (at_then ?_)
          refine W_rseq ?_
          refine op_move rfl (.int _ _) rfl ?_
          refine op_eql rfl rfl rfl ?_
          refine op_assign rfl (.bool _) rfl ?_
          refine op_nil (at_then ?_)
          refine W_ret (leave1 (v := (.bool _)) rfl rfl rfl ?_)
          exact ⟨rfl, H.ext⟩
end Go.Proofs.YtapphbmlkdhnmaaGreat
