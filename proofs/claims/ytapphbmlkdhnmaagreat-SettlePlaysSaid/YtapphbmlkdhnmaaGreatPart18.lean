/- Part 18 of the proof. -/
import Derived.Test.YtapphbmlkdhnmaaGreatPart17
import Derived.Test.YtapphbmlkdhnmaaGreatPart10
/- Arcs, and whether what flows is the best, as the reference has them. -/
namespace Go.Proofs.YtapphbmlkdhnmaaGreat
open Go.GV
theorem ag_26_SqF : aggB Tryz.prog 26 = some false := by kernel_rfl
theorem ag_28_SqF : aggB Tryz.prog 28 = some true := by kernel_rfl
theorem ag_29_SqF : aggB Tryz.prog 29 = some false := by kernel_rfl
theorem ag_2_SqF : aggB Tryz.prog 2 = some false := by kernel_rfl
theorem ag_3_SqF : aggB Tryz.prog 3 = some false := by kernel_rfl
theorem ag_92_SqF : aggB Tryz.prog 92 = some true := by kernel_rfl
theorem ca_125_SqF : callable Tryz.prog 125 = true := by kernel_rfl
theorem ca_127_SqF : callable Tryz.prog 127 = true := by kernel_rfl
theorem ca_128_SqF : callable Tryz.prog 128 = true := by kernel_rfl
theorem ca_176_SqF : callable Tryz.prog 176 = true := by kernel_rfl
theorem ca_177_SqF : callable Tryz.prog 177 = true := by kernel_rfl
theorem ca_63_SqF : callable Tryz.prog 63 = true := by kernel_rfl
theorem ca_64_SqF : callable Tryz.prog 64 = true := by kernel_rfl
theorem ca_65_SqF : callable Tryz.prog 65 = true := by kernel_rfl
theorem el_26_SqF : elemT Tryz.prog 26 = some 92 := by kernel_rfl
theorem el_29_SqF : elemT Tryz.prog 29 = some 2 := by kernel_rfl
theorem fo_28_0_SqF : fieldO Tryz.prog 28 0 = some 0 := by kernel_rfl
theorem fo_28_1_SqF : fieldO Tryz.prog 28 1 = some 1 := by kernel_rfl
theorem fo_31_0_SqF : fieldO Tryz.prog 31 0 = some 0 := by kernel_rfl
theorem fo_31_1_SqF : fieldO Tryz.prog 31 1 = some 1 := by kernel_rfl
theorem fo_92_0_SqF : fieldO Tryz.prog 92 0 = some 0 := by kernel_rfl
theorem fo_92_1_SqF : fieldO Tryz.prog 92 1 = some 1 := by kernel_rfl
theorem fo_92_2_SqF : fieldO Tryz.prog 92 2 = some 2 := by kernel_rfl
theorem fo_92_3_SqF : fieldO Tryz.prog 92 3 = some 3 := by kernel_rfl
theorem mixed_SqF : Tryz.prog.follows .mixedOrders = true := by kernel_rfl
theorem sz_28_SqF : tsize Tryz.prog 28 = some 2 := by kernel_rfl
theorem sz_2_SqF : tsize Tryz.prog 2 = some 1 := by kernel_rfl
theorem sz_92_SqF : tsize Tryz.prog 92 = some 4 := by kernel_rfl
theorem zc_92_SqF : zcells Tryz.prog 92 = some ([.int .i64 0, .int .i64 0, .int .i64 0, .int .i64 0]) := by kernel_rfl
attribute [local irreducible] Wops W Wq Wt

theorem r12has_ok (N : Int) (a : Option Addr) (n c : Nat) (es : List Ed) (hn : es.length = n) (hb : n ≤ 1000000) (k : Int) (w : World) : Ret Tryz.prog 176 #[netV N a n c, .int .i64 k] w fun v w' => v = .bool (hasB es k) ∧ Ext [] w w' := by
  subst hn
  obtain ⟨w0, rfl⟩ : ∃ w0, w0 = w := ⟨_, rfl⟩
  have H := Ctx.start w0 []
  refine ret_of_W (fn := Tryz.f176) Tryz.func176 rfl [netV N a es.length c, .int .i64 k] rfl (by kernel_rfl) ?_
  refine W_rseq ?_
  refine op_box rfl [.int .i64 N, .slice a es.length c] (.agg _) rfl rfl H ?_
  rintro b2 w - H
  refine op_assign rfl (.bool _) rfl ?_
  refine op_nil (at_then ?_)
  refine W_rseq ?_
  refine op_move rfl (.int _ _) rfl ?_
  refine op_geq rfl rfl rfl ?_
  refine op_move rfl (.bool _) rfl ?_
  refine Wops_split 7 rfl ?_ ?_
  · intro h1
    replace h1 := dec_t h1
    refine op_move rfl (.int _ _) rfl ?_
    refine op_fieldAddr rfl fo_28_1_SqF rfl ?_
    refine op_ldb rfl ag_26_SqF rfl H (by first | exact at0 | exact at1 | exact at2 | exact at3 | exact at4 | exact at5 | exact at6 | exact at7 | exact at8 | exact at9) rfl ?_
    refine op_len rfl el_26_SqF rfl ?_
    refine op_mul_i64 rfl rfl rfl (by omega) (by omega) ?_
    refine op_lss rfl rfl rfl ?_
    refine op_pick1 rfl rfl (.bool _) rfl ?_
    refine op_assign rfl (.bool _) rfl ?_
    refine op_nil (at_then ?_)
    refine W_ret (leave1 (v := (.bool _)) rfl rfl rfl ?_)
    exact ⟨congrArg Value.bool (by unfold hasB; rw [Bool.eq_iff_iff]; simp_all; try omega), H.ext⟩
  · intro h2
    replace h2 := dec_f h2
    refine op_skip rfl ?_
    refine op_skip rfl ?_
    refine op_skip rfl ?_
    refine op_skip rfl ?_
    refine op_skip rfl ?_
    refine op_skip rfl ?_
    refine op_pick0 rfl rfl (.bool _) rfl ?_
    refine op_assign rfl (.bool _) rfl ?_
    refine op_nil (at_then ?_)
    refine W_ret (leave1 (v := (.bool _)) rfl rfl rfl ?_)
    exact ⟨congrArg Value.bool (by unfold hasB; rw [Bool.eq_iff_iff]; simp_all; try omega), H.ext⟩
theorem has_in {es : List Ed} {k : Nat} (h : k < 2 * es.length) : hasB es (k : Int) = true := by unfold hasB; simp; omega
set_option maxRecDepth 20000 in
set_option maxHeartbeats 2000000 in
theorem r12ends_ok (N : Int) (a : Option Addr) (n c : Nat) (es : List Ed) (w : World) (R : Rd w a 4 encE es) (hn : es.length = n) (hb : n ≤ 1000000) (k : Nat) {e : Ed} (he : es[k / 2]? = some e) (hr : rightN N es = true) : Ret Tryz.prog 177 #[netV N a n c, .int .i64 (k : Int)] w fun v w' => v = .tuple #[.int .i64 (arcE e k).1, .int .i64 (arcE e k).2.1, .int .i64 (arcE e k).2.2] ∧ Ext [] w w' := by
  subst hn
  obtain ⟨w0, rfl⟩ : ∃ w0, w0 = w := ⟨_, rfl⟩
  have H := Ctx.start w0 []
  have hk := get_lt he
  have hco := edge_of ((right_of hr).2.2.2.1 e (List.mem_of_getElem? he))
  refine ret_of_W (fn := Tryz.f177) Tryz.func177 rfl [netV N a es.length c, .int .i64 (k : Int)] rfl (by kernel_rfl) ?_
  refine W_rseq ?_
  refine op_box rfl [.int .i64 N, .slice a es.length c] (.agg _) rfl rfl H ?_
  rintro b2 w - H
  refine op_assign rfl (.int _ _) rfl ?_
  refine op_assign rfl (.int _ _) rfl ?_
  refine op_assign rfl (.int _ _) rfl ?_
  refine op_nil (at_then ?_)
  refine W_seq ?_
  refine W_rseq (Wops_join (α := Unit) 130816 (fun _ => [(16, .bool (false))]) (fun _ w' => Ctx w0 [] w' [(b2, Bl 28 [.int .i64 N, .slice a es.length c])]) rfl ?_ ?_)
  · refine op_ldbN rfl ag_28_SqF sz_28_SqF rfl H (by first | exact at0 | exact at1 | exact at2 | exact at3 | exact at4 | exact at5 | exact at6 | exact at7 | exact at8 | exact at9) rfl ?_
    refine op_call rfl ca_63_SqF (r11right_ok N a es.length c es _ (R.ext0 H.ext) rfl hb) rfl ?_
    rintro v w ⟨rfl, hx9⟩
    replace H := H.call hx9
    rw [hr]
    refine op_not rfl rfl ?_
    refine op_move rfl (.bool _) rfl ?_
    refine Wops_split 11 rfl ?_ ?_
    · intro h1
      replace h1 := nvar_t h1
      refine op_skip rfl ?_
      refine op_skip rfl ?_
      refine op_skip rfl ?_
      refine op_skip rfl ?_
      refine op_pick1 rfl rfl (.bool _) rfl ?_
      refine op_nil ?_
      exact ⟨rfl, (), rfl, ⟨congrArg Value.bool (by first | rfl | simp_all), trivial⟩, H⟩
    · intro h2
      replace h2 := nvar_f h2
      refine op_ldbN rfl ag_28_SqF sz_28_SqF rfl H (by first | exact at0 | exact at1 | exact at2 | exact at3 | exact at4 | exact at5 | exact at6 | exact at7 | exact at8 | exact at9) rfl ?_
      refine op_move rfl (.int _ _) rfl ?_
      refine op_call rfl ca_176_SqF (r12has_ok N a es.length c es rfl hb (k : Int) _) rfl ?_
      rintro v w ⟨rfl, hx14⟩
      replace H := H.call hx14
      rw [has_in (by omega)]
      refine op_not rfl rfl ?_
      refine op_pick0 rfl rfl (.bool _) rfl ?_
      refine op_nil ?_
      exact ⟨rfl, (), rfl, ⟨congrArg Value.bool (by first | rfl | simp_all), trivial⟩, H⟩
  rintro - j16 w H
  refine W_cond0 rfl ?_
  refine W_skip (at_then ?_)
  refine W_rseq ?_
  refine op_fieldAddr rfl fo_28_1_SqF rfl ?_
  refine op_ldb rfl ag_26_SqF rfl H (by first | exact at0 | exact at1 | exact at2 | exact at3 | exact at4 | exact at5 | exact at6 | exact at7 | exact at8 | exact at9) rfl ?_
  refine op_move rfl (.int _ _) rfl ?_
  refine op_quo rfl rfl rfl (by omega) (by omega) (show _ ≤ (9223372036854775807 : Int) by omega) ?_
  rw [show (k : Int) / 2 = ((k / 2 : Nat) : Int) by omega]
  first | refine op_indexRd R rfl el_26_SqF sz_92_SqF rfl rfl (by omega) (by omega) (by first | rfl | omega) ?_ | refine op_indexAddr rfl el_26_SqF sz_92_SqF rfl rfl (by omega) (by omega) ?_
  first | refine op_ldN _ rfl ag_92_SqF sz_92_SqF rfl rfl ((R.ext0 H.ext).row he rfl) ?_ | refine op_ldbN rfl ag_92_SqF sz_92_SqF rfl H (by first | exact at0 | exact at1 | exact at2 | exact at3 | exact at4 | exact at5 | exact at6 | exact at7 | exact at8 | exact at9) rfl ?_
  refine op_alloc rfl zc_92_SqF H ?_
  rintro b7 w - H
  refine op_stb0 rfl sz_92_SqF rfl rfl rfl (by first | exact encE_one _ | simp [oneCell]) H (by first | exact at0 | exact at1 | exact at2 | exact at3 | exact at4 | exact at5 | exact at6 | exact at7 | exact at8 | exact at9) rfl ?_
  rintro w H
  refine op_nil (at_then ?_)
  refine W_seq ?_
  refine W_rseq ?_
  refine op_move rfl (.int _ _) rfl ?_
  refine op_rem rfl rfl rfl (by omega) (by omega) ?_
  rw [show (k : Int) % 2 = ((k % 2 : Nat) : Int) by omega]
  refine op_eql rfl rfl rfl ?_
  refine op_nil (at_then ?_)
  refine W_cond _ rfl ?_ ?_
  · intro h1
    replace h1 := dec_t h1
    refine W_qseq (fun x => x = _) mixed_SqF (by kernel_rfl) rfl ?_
    refine q_fieldAddr rfl fo_92_0_SqF rfl ?_
    refine q_ldb rfl ag_3_SqF rfl (by rintro _ rfl; exact H.drew) (by first | exact at0 | exact at1 | exact at2 | exact at3 | exact at4 | exact at5 | exact at6 | exact at7 | exact at8 | exact at9) rfl ?_
    refine q_fieldAddr rfl fo_92_1_SqF rfl ?_
    refine q_ldb rfl ag_3_SqF rfl (by rintro _ rfl; exact H.drew) (by first | exact at0 | exact at1 | exact at2 | exact at3 | exact at4 | exact at5 | exact at6 | exact at7 | exact at8 | exact at9) rfl ?_
    refine q_fieldAddr rfl fo_92_3_SqF rfl ?_
    refine q_ldb rfl ag_2_SqF rfl (by rintro _ rfl; exact H.drew) (by first | exact at0 | exact at1 | exact at2 | exact at3 | exact at4 | exact at5 | exact at6 | exact at7 | exact at8 | exact at9) rfl ?_
    refine q_assign rfl (.int _ _) rfl ?_
    refine q_assign rfl (.int _ _) rfl ?_
    refine q_assign rfl (.int _ _) rfl ?_
    refine q_nil ?_
    rintro _ rfl
    replace H := H.drew
    refine W_ret (ret_then (leave3 (v1 := (.int _ _)) (v2 := (.int _ _)) (v3 := (.int _ _)) rfl rfl rfl rfl rfl ?_))
    exact ⟨by unfold arcE; rw [if_neg (by omega)], H.ext⟩
  · intro h1
    replace h1 := dec_f h1
    refine W_skip (at_then ?_)
    refine W_qseq (fun x => x = _) mixed_SqF (by kernel_rfl) rfl ?_
    refine q_fieldAddr rfl fo_92_1_SqF rfl ?_
    refine q_ldb rfl ag_3_SqF rfl (by rintro _ rfl; exact H.drew) (by first | exact at0 | exact at1 | exact at2 | exact at3 | exact at4 | exact at5 | exact at6 | exact at7 | exact at8 | exact at9) rfl ?_
    refine q_fieldAddr rfl fo_92_0_SqF rfl ?_
    refine q_ldb rfl ag_3_SqF rfl (by rintro _ rfl; exact H.drew) (by first | exact at0 | exact at1 | exact at2 | exact at3 | exact at4 | exact at5 | exact at6 | exact at7 | exact at8 | exact at9) rfl ?_
    refine q_fieldAddr rfl fo_92_3_SqF rfl ?_
    refine q_ldb rfl ag_2_SqF rfl (by rintro _ rfl; exact H.drew) (by first | exact at0 | exact at1 | exact at2 | exact at3 | exact at4 | exact at5 | exact at6 | exact at7 | exact at8 | exact at9) rfl ?_
    refine q_neg_i64 rfl rfl (by omega) (by omega) ?_
    refine q_assign rfl (.int _ _) rfl ?_
    refine q_assign rfl (.int _ _) rfl ?_
    refine q_assign rfl (.int _ _) rfl ?_
    refine q_nil ?_
    rintro _ rfl
    replace H := H.drew
    refine W_ret (leave3 (v1 := (.int _ _)) (v2 := (.int _ _)) (v3 := (.int _ _)) rfl rfl rfl rfl rfl ?_)
    exact ⟨by unfold arcE; rw [if_pos (by omega)], H.ext⟩
set_option maxRecDepth 20000 in
set_option maxHeartbeats 2000000 in
theorem r12room_ok (N : Int) (a b : Option Addr) (n c m d : Nat) (es : List Ed) (fl : List Int) (w : World) (R : Rd w a 4 encE es) (hn : es.length = n) (hb : n ≤ 1000000) (Rf : Rd w b 1 I1 fl) (hm : fl.length = m) (k : Nat) {e : Ed} {x : Int} (he : es[k / 2]? = some e) (hx : fl[k / 2]? = some x) (hw : withinN N es fl = true) :
    Ret Tryz.prog 127 #[netV N a n c, .slice b m d, .int .i64 (k : Int)] w fun v w' => v = .int .i64 (roomE e x k) ∧ Ext [] w w' := by
  subst hn hm
  obtain ⟨w0, rfl⟩ : ∃ w0, w0 = w := ⟨_, rfl⟩
  have H := Ctx.start w0 []
  have hk := get_lt he
  obtain ⟨hl, hr, hin⟩ := within_of hw
  have hco := edge_of ((right_of hr).2.2.2.1 e (List.mem_of_getElem? he))
  have hxx := hin _ e x he hx
  refine ret_of_W (fn := Tryz.f127) Tryz.func127 rfl [netV N a es.length c, .slice b fl.length d, .int .i64 (k : Int)] rfl (by kernel_rfl) ?_
  refine W_rseq ?_
  refine op_box rfl [.int .i64 N, .slice a es.length c] (.agg _) rfl rfl H ?_
  rintro b3 w - H
  refine op_assign rfl (.int _ _) rfl ?_
  refine op_nil (at_then ?_)
  refine W_seq ?_
  refine W_rseq (Wops_join (α := Unit) 130944 (fun _ => [(16, .bool (false))]) (fun _ w' => Ctx w0 [] w' [(b3, Bl 28 [.int .i64 N, .slice a es.length c])]) rfl ?_ ?_)
  · refine op_ldbN rfl ag_28_SqF sz_28_SqF rfl H (by first | exact at0 | exact at1 | exact at2 | exact at3 | exact at4 | exact at5 | exact at6 | exact at7 | exact at8 | exact at9) rfl ?_
    refine op_move rfl (.slice _ _ _) rfl ?_
    refine op_call rfl ca_125_SqF (r11within_ok N a b es.length c fl.length d es fl _ (R.ext0 H.ext) rfl hb (Rf.ext0 H.ext) rfl (by omega)) rfl ?_
    rintro v w ⟨rfl, hx9⟩
    replace H := H.call hx9
    rw [hw]
    refine op_not rfl rfl ?_
    refine op_move rfl (.bool _) rfl ?_
    refine Wops_split 11 rfl ?_ ?_
    · intro h1
      replace h1 := nvar_t h1
      refine op_skip rfl ?_
      refine op_skip rfl ?_
      refine op_skip rfl ?_
      refine op_skip rfl ?_
      refine op_pick1 rfl rfl (.bool _) rfl ?_
      refine op_nil ?_
      exact ⟨rfl, (), rfl, ⟨congrArg Value.bool (by first | rfl | simp_all), trivial⟩, H⟩
    · intro h2
      replace h2 := nvar_f h2
      refine op_ldbN rfl ag_28_SqF sz_28_SqF rfl H (by first | exact at0 | exact at1 | exact at2 | exact at3 | exact at4 | exact at5 | exact at6 | exact at7 | exact at8 | exact at9) rfl ?_
      refine op_move rfl (.int _ _) rfl ?_
      refine op_call rfl ca_176_SqF (r12has_ok N a es.length c es rfl hb (k : Int) _) rfl ?_
      rintro v w ⟨rfl, hx14⟩
      replace H := H.call hx14
      rw [has_in (by omega)]
      refine op_not rfl rfl ?_
      refine op_pick0 rfl rfl (.bool _) rfl ?_
      refine op_nil ?_
      exact ⟨rfl, (), rfl, ⟨congrArg Value.bool (by first | rfl | simp_all), trivial⟩, H⟩
  rintro - j16 w H
  refine W_cond0 rfl ?_
  refine W_skip (at_then ?_)
  refine W_seq ?_
  refine W_rseq ?_
  refine op_move rfl (.int _ _) rfl ?_
  refine op_rem rfl rfl rfl (by omega) (by omega) ?_
  rw [show (k : Int) % 2 = ((k % 2 : Nat) : Int) by omega]
  refine op_eql rfl rfl rfl ?_
  refine op_nil (at_then ?_)
  refine W_cond _ rfl ?_ ?_
  · intro h1
    replace h1 := dec_t h1
    refine W_qseq (fun x => x = _) mixed_SqF (by kernel_rfl) rfl ?_
    refine q_fieldAddr rfl fo_28_1_SqF rfl ?_
    first | refine q_ldb rfl ag_26_SqF rfl (by rintro _ rfl; exact H.drew) (by first | exact at0 | exact at1 | exact at2 | exact at3 | exact at4 | exact at5 | exact at6 | exact at7 | exact at8 | exact at9) rfl ?_ | refine q_ld rfl ag_26_SqF rfl (by rintro _ rfl; exact (((R.ext0 H.drew.ext).fld he rfl (j := 2) rfl))) ?_ | refine q_ld rfl ag_26_SqF rfl (by rintro _ rfl; exact (((Rf.ext0 H.drew.ext).fld hx rfl (j := 0) rfl))) ?_
    refine q_move rfl (.int _ _) rfl ?_
    refine q_quo rfl rfl rfl (by omega) (by omega) (show _ ≤ (9223372036854775807 : Int) by omega) ?_
    rw [show (k : Int) / 2 = ((k / 2 : Nat) : Int) by omega]
    first | refine q_indexRd R rfl el_26_SqF sz_92_SqF rfl rfl (by omega) (by omega) (by first | rfl | omega) ?_ | refine q_indexRd Rf rfl el_26_SqF sz_92_SqF rfl rfl (by omega) (by omega) (by first | rfl | omega) ?_ | refine q_indexAddr rfl el_26_SqF sz_92_SqF rfl rfl (by omega) (by omega) ?_
    refine q_fieldAddr rfl fo_92_2_SqF rfl ?_
    first | refine q_ldb rfl ag_2_SqF rfl (by rintro _ rfl; exact H.drew) (by first | exact at0 | exact at1 | exact at2 | exact at3 | exact at4 | exact at5 | exact at6 | exact at7 | exact at8 | exact at9) rfl ?_ | refine q_ld rfl ag_2_SqF rfl (by rintro _ rfl; exact (((R.ext0 H.drew.ext).fld he rfl (j := 2) rfl))) ?_ | refine q_ld rfl ag_2_SqF rfl (by rintro _ rfl; exact (((Rf.ext0 H.drew.ext).fld hx rfl (j := 0) rfl))) ?_
    refine q_move rfl (.slice _ _ _) rfl ?_
    refine q_move rfl (.int _ _) rfl ?_
    refine q_quo rfl rfl rfl (by omega) (by omega) (show _ ≤ (9223372036854775807 : Int) by omega) ?_
    rw [show (k : Int) / 2 = ((k / 2 : Nat) : Int) by omega]
    first | refine q_indexRd R rfl el_29_SqF sz_2_SqF rfl rfl (by omega) (by omega) (by first | rfl | omega) ?_ | refine q_indexRd Rf rfl el_29_SqF sz_2_SqF rfl rfl (by omega) (by omega) (by first | rfl | omega) ?_ | refine q_indexAddr rfl el_29_SqF sz_2_SqF rfl rfl (by omega) (by omega) ?_
    first | refine q_ldb rfl ag_2_SqF rfl (by rintro _ rfl; exact H.drew) (by first | exact at0 | exact at1 | exact at2 | exact at3 | exact at4 | exact at5 | exact at6 | exact at7 | exact at8 | exact at9) rfl ?_ | refine q_ld rfl ag_2_SqF rfl (by rintro _ rfl; exact (((R.ext0 H.drew.ext).fld he rfl (j := 2) rfl))) ?_ | refine q_ld rfl ag_2_SqF rfl (by rintro _ rfl; exact (((Rf.ext0 H.drew.ext).fld hx rfl (j := 0) rfl))) ?_
    refine q_sub_i64 rfl rfl rfl (by omega) (by omega) ?_
    refine q_assign rfl (.int _ _) rfl ?_
    refine q_nil ?_
    rintro _ rfl
    replace H := H.drew
    refine W_ret (ret_then (leave1 (v := (.int _ _)) rfl rfl rfl ?_))
    exact ⟨by unfold roomE; rw [if_neg (by omega)], H.ext⟩
  · intro h1
    replace h1 := dec_f h1
    refine W_skip (at_then ?_)
    refine W_rseq ?_
    refine op_move rfl (.slice _ _ _) rfl ?_
    refine op_move rfl (.int _ _) rfl ?_
    refine op_quo rfl rfl rfl (by omega) (by omega) (show _ ≤ (9223372036854775807 : Int) by omega) ?_
    rw [show (k : Int) / 2 = ((k / 2 : Nat) : Int) by omega]
    first | refine op_indexRd R rfl el_29_SqF sz_2_SqF rfl rfl (by omega) (by omega) (by first | rfl | omega) ?_ | refine op_indexRd Rf rfl el_29_SqF sz_2_SqF rfl rfl (by omega) (by omega) (by first | rfl | omega) ?_ | refine op_indexAddr rfl el_29_SqF sz_2_SqF rfl rfl (by omega) (by omega) ?_
    first | refine op_ldb rfl ag_2_SqF rfl H (by first | exact at0 | exact at1 | exact at2 | exact at3 | exact at4 | exact at5 | exact at6 | exact at7 | exact at8 | exact at9) rfl ?_ | refine op_ld rfl ag_2_SqF rfl (((R.ext0 H.drew.ext).fld he rfl (j := 2) rfl)) ?_ | refine op_ld rfl ag_2_SqF rfl (((Rf.ext0 H.drew.ext).fld hx rfl (j := 0) rfl)) ?_ | refine op_ld rfl ag_2_SqF rfl (((Rf.ext0 H.ext).fld hx rfl (j := 0) rfl)) ?_
    refine op_assign rfl (.int _ _) rfl ?_
    refine op_nil (at_then ?_)
    refine W_ret (leave1 (v := (.int _ _)) rfl rfl rfl ?_)
    exact ⟨by unfold roomE; rw [if_pos (by omega)], H.ext⟩
set_option maxRecDepth 20000 in
set_option maxHeartbeats 2000000 in
theorem r13len_ok (N : Int) (a p : Option Addr) (n c q r : Nat) (es : List Ed) (pot : List Int) (w : World) (R : Rd w a 4 encE es) (hn : es.length = n) (hb : n ≤ 1000000) (Rp : Rd w p 1 I1 pot) (hq : pot.length = q) (k : Nat) (hk : k < 2 * es.length) (hr : rightN N es = true) (hp : potN N pot = true) :
    Ret Tryz.prog 128 #[netV N a n c, .slice p q r, .int .i64 (k : Int)] w fun v w' => v = .int .i64 (lenI N es pot (k : Int)) ∧ Ext [] w w' := by
  subst hn hq
  obtain ⟨w0, rfl⟩ : ∃ w0, w0 = w := ⟨_, rfl⟩
  have H := Ctx.start w0 []
  obtain ⟨hN1, hN40, hn200, -⟩ := right_of hr
  obtain ⟨hpl, hpb⟩ := pot_in hp
  obtain ⟨e, he, hE, q1, q2, q3, q4, q5, q6⟩ := ends_in hr hk
  obtain ⟨un, hun⟩ : ∃ un : Nat, (arcE e k).1 = un := ⟨(arcE e k).1.toNat, by omega⟩
  obtain ⟨vn, hvn⟩ : ∃ vn : Nat, (arcE e k).2.1 = vn := ⟨(arcE e k).2.1.toNat, by omega⟩
  obtain ⟨pu, hpu⟩ := get_some (l := pot) (i := un) (by omega)
  obtain ⟨pv, hpv⟩ := get_some (l := pot) (i := vn) (by omega)
  have hbu := hpb _ _ hpu
  have hbv := hpb _ _ hpv
  have hli : lenI N es pot (k : Int) = (arcE e k).2.2 + pu - pv := by
    unfold lenI
    rw [hE, hun, hvn, Int.toNat_natCast, Int.toNat_natCast, getD_of hpu, getD_of hpv]
  rw [hli]
  refine ret_of_W (fn := Tryz.f128) Tryz.func128 rfl [netV N a es.length c, .slice p pot.length r, .int .i64 (k : Int)] rfl (by kernel_rfl) ?_
  refine W_rseq ?_
  refine op_box rfl [.int .i64 N, .slice a es.length c] (.agg _) rfl rfl H ?_
  rintro b3 w - H
  refine op_assign rfl (.int _ _) rfl ?_
  refine op_nil (at_then ?_)
  refine W_rseq ?_
  refine op_ldbN rfl ag_28_SqF sz_28_SqF rfl H (by first | exact at0 | exact at1 | exact at2 | exact at3 | exact at4 | exact at5 | exact at6 | exact at7 | exact at8 | exact at9) rfl ?_
  refine op_move rfl (.int _ _) rfl ?_
  refine op_call rfl ca_177_SqF (r12ends_ok N a es.length c es _ (R.ext0 H.ext) rfl hb k he hr) rfl ?_
  rintro v w ⟨rfl, hx13⟩
  replace H := H.call hx13
  rw [hun, hvn]
  refine op_move rfl (.tuple _) rfl ?_
  refine op_extract rfl rfl rfl ?_
  refine op_extract rfl rfl rfl ?_
  refine op_extract rfl rfl rfl ?_
  refine op_assign rfl (.int _ _) rfl ?_
  refine op_assign rfl (.int _ _) rfl ?_
  refine op_assign rfl (.int _ _) rfl ?_
  refine op_nil (at_then ?_)
  refine W_qseq (fun x => x = _) mixed_SqF (by kernel_rfl) rfl ?_
  refine q_move rfl (.int _ _) rfl ?_
  refine q_move rfl (.slice _ _ _) rfl ?_
  refine q_move rfl (.int _ _) rfl ?_
  first | refine q_indexRd Rp rfl el_29_SqF sz_2_SqF rfl rfl (by omega) (by omega) (by first | rfl | omega) ?_ | refine q_indexAddr rfl el_29_SqF sz_2_SqF rfl rfl (by omega) (by omega) ?_
  first | refine q_ldb rfl ag_2_SqF rfl (by rintro _ rfl; exact H.drew) (by first | exact at0 | exact at1 | exact at2 | exact at3 | exact at4 | exact at5 | exact at6 | exact at7 | exact at8 | exact at9) rfl ?_ | refine q_ld rfl ag_2_SqF rfl (by rintro _ rfl; exact (((Rp.ext0 H.drew.ext).fld hpu rfl (j := 0) rfl))) ?_ | refine q_ld rfl ag_2_SqF rfl (by rintro _ rfl; exact (((Rp.ext0 H.drew.ext).fld hpv rfl (j := 0) rfl))) ?_
  refine q_add_i64 rfl rfl rfl (by omega) (by omega) ?_
  refine q_move rfl (.slice _ _ _) rfl ?_
  refine q_move rfl (.int _ _) rfl ?_
  first | refine q_indexRd Rp rfl el_29_SqF sz_2_SqF rfl rfl (by omega) (by omega) (by first | rfl | omega) ?_ | refine q_indexAddr rfl el_29_SqF sz_2_SqF rfl rfl (by omega) (by omega) ?_
  first | refine q_ldb rfl ag_2_SqF rfl (by rintro _ rfl; exact H.drew) (by first | exact at0 | exact at1 | exact at2 | exact at3 | exact at4 | exact at5 | exact at6 | exact at7 | exact at8 | exact at9) rfl ?_ | refine q_ld rfl ag_2_SqF rfl (by rintro _ rfl; exact (((Rp.ext0 H.drew.ext).fld hpu rfl (j := 0) rfl))) ?_ | refine q_ld rfl ag_2_SqF rfl (by rintro _ rfl; exact (((Rp.ext0 H.drew.ext).fld hpv rfl (j := 0) rfl))) ?_
  refine q_sub_i64 rfl rfl rfl (by omega) (by omega) ?_
  refine q_assign rfl (.int _ _) rfl ?_
  refine q_nil ?_
  rintro _ rfl
  replace H := H.drew
  refine W_ret (leave1 (v := (.int _ _)) rfl rfl rfl ?_)
  exact ⟨rfl, H.ext⟩
set_option maxRecDepth 20000 in
set_option maxHeartbeats 4000000 in
theorem r13fits_ok (N : Int) (a b p : Option Addr) (n c m d q r : Nat) (es : List Ed) (fl pot : List Int) (w : World) (R : Rd w a 4 encE es) (hn : es.length = n) (hn2 : n ≤ 1000000) (Rf : Rd w b 1 I1 fl) (hm : fl.length = m) (Rp : Rd w p 1 I1 pot) (hq : pot.length = q) (hq2 : q ≤ 1000000) (hw : withinN N es fl = true) :
    Ret Tryz.prog 65 #[netV N a n c, .slice b m d, .slice p q r] w fun v w' => v = .bool (potN N pot && tightN N es fl pot) ∧ Ext [] w w' := by
  subst hn hm hq
  obtain ⟨w0, rfl⟩ : ∃ w0, w0 = w := ⟨_, rfl⟩
  have H := Ctx.start w0 []
  obtain ⟨hfl, hr, hin⟩ := within_of hw
  obtain ⟨hN1, hN40, hn200, -⟩ := right_of hr
  refine ret_of_W (fn := Tryz.f65) Tryz.func65 rfl [netV N a es.length c, .slice b fl.length d, .slice p pot.length r] rfl (by kernel_rfl) ?_
  refine W_rseq ?_
  refine op_box rfl [.int .i64 N, .slice a es.length c] (.agg _) rfl rfl H ?_
  rintro b3 w - H
  refine op_assign rfl (.bool _) rfl ?_
  refine op_nil (at_then ?_)
  refine W_seq ?_
  refine W_rseq (Wops_join (α := Unit) 268434432 (fun _ => [(27, .bool (!decide ((pot.length : Int) = N)))]) (fun _ w' => Ctx w0 [] w' [(b3, Bl 28 [.int .i64 N, .slice a es.length c])]) rfl ?_ ?_)
  · refine op_ldbN rfl ag_28_SqF sz_28_SqF rfl H (by first | exact at0 | exact at1 | exact at2 | exact at3 | exact at4 | exact at5 | exact at6 | exact at7 | exact at8 | exact at9) rfl ?_
    refine op_call rfl ca_63_SqF (r11right_ok N a es.length c es _ (R.ext0 H.ext) rfl hn2) rfl ?_
    rintro v w ⟨rfl, hx11⟩
    replace H := H.call hx11
    rw [hr]
    refine op_not rfl rfl ?_
    refine op_move rfl (.bool _) rfl ?_
    refine Wops_split 13 rfl ?_ ?_
    · intro h1
      replace h1 := nvar_t h1
      refine op_skip rfl ?_
      refine op_skip rfl ?_
      refine op_skip rfl ?_
      refine op_skip rfl ?_
      refine op_skip rfl ?_
      refine op_skip rfl ?_
      refine op_pick1 rfl rfl (.bool _) rfl ?_
      refine op_move rfl (.bool _) rfl ?_
      refine op_skip rfl ?_
      refine op_skip rfl ?_
      refine op_skip rfl ?_
      refine op_skip rfl ?_
      refine op_skip rfl ?_
      refine op_pick1 rfl rfl (.bool _) rfl ?_
      refine op_nil ?_
      exact ⟨rfl, (), rfl, ⟨congrArg Value.bool (by rw [Bool.eq_iff_iff] <;> simp_all <;> try omega), trivial⟩, H⟩
    · intro h2
      replace h2 := nvar_f h2
      refine op_move rfl (.slice _ _ _) rfl ?_
      refine op_len rfl el_29_SqF rfl ?_
      refine op_fieldAddr rfl fo_28_1_SqF rfl ?_
      refine op_ldb rfl ag_26_SqF rfl H (by first | exact at0 | exact at1 | exact at2 | exact at3 | exact at4 | exact at5 | exact at6 | exact at7 | exact at8 | exact at9) rfl ?_
      refine op_len rfl el_26_SqF rfl ?_
      refine op_neq rfl rfl rfl ?_
      refine op_pick0 rfl rfl (.bool _) rfl ?_
      refine op_move rfl (.bool _) rfl ?_
      refine Wops_split 21 rfl ?_ ?_
      · intro h3
        replace h3 := ndec_t h3
        refine op_skip rfl ?_
        refine op_skip rfl ?_
        refine op_skip rfl ?_
        refine op_skip rfl ?_
        refine op_skip rfl ?_
        refine op_pick1 rfl rfl (.bool _) rfl ?_
        refine op_nil ?_
        exact ⟨rfl, (), rfl, ⟨congrArg Value.bool (by rw [Bool.eq_iff_iff] <;> simp_all <;> try omega), trivial⟩, H⟩
      · intro h4
        replace h4 := ndec_f h4
        refine op_move rfl (.slice _ _ _) rfl ?_
        refine op_len rfl el_29_SqF rfl ?_
        refine op_fieldAddr rfl fo_28_0_SqF rfl ?_
        refine op_ldb rfl ag_3_SqF rfl H (by first | exact at0 | exact at1 | exact at2 | exact at3 | exact at4 | exact at5 | exact at6 | exact at7 | exact at8 | exact at9) rfl ?_
        refine op_neq rfl rfl rfl ?_
        refine op_pick0 rfl rfl (.bool _) rfl ?_
        refine op_nil ?_
        exact ⟨rfl, (), rfl, ⟨congrArg Value.bool (by rw [Bool.eq_iff_iff] <;> simp_all <;> try omega), trivial⟩, H⟩
  rintro - j27 w H
  refine W_cond _ rfl ?_ ?_
  · intro h1
    replace h1 := nvar_t h1
    refine W_rseq ?_
    refine op_assign rfl (.bool _) rfl ?_
    refine op_nil (at_then ?_)
    refine W_ret (ret_then (leave1 (v := (.bool _)) rfl rfl rfl ?_))
    exact ⟨congrArg Value.bool (by unfold potN; rw [show decide ((pot.length : Int) = N) = false by simpa using h1]; simp), H.ext⟩
  · intro h1
    replace h1 := nvar_f h1
    have h1' : (pot.length : Int) = N := by simpa using h1
    refine W_skip (at_then ?_)
    refine W_seq ?_
    refine W_rseq ?_
    refine op_assign rfl (.int _ _) rfl ?_
    refine op_nil (at_then ?_)
    refine W_block ?_
    refine W_loop 4503599358935232 (α := Nat) (fun i => [(7, .int .i64 (i : Int))]) (fun i w' => i ≤ fl.length ∧ Ctx w0 [] w' [(b3, Bl 28 [.int .i64 N, .slice a es.length c])]) (fun i => fl.length - i) 0 rfl ?_ ?_ ?_
    · exact ⟨rfl, trivial⟩
    · exact ⟨Nat.zero_le _, H⟩
    · clear H
      rintro i j w ⟨hi, H⟩
      refine W_seq ?_
      refine W_rseq ?_
      refine op_move rfl (.int _ _) rfl ?_
      refine op_move rfl (.slice _ _ _) rfl ?_
      refine op_len rfl el_29_SqF rfl ?_
      refine op_lss rfl rfl rfl ?_
      refine op_nil (at_then ?_)
      refine W_cond _ rfl ?_ ?_
      · intro h2
        replace h2 := dec_t h2
        obtain ⟨e, he⟩ := get_some (l := es) (i := i) (by omega)
        obtain ⟨x, hxf⟩ := get_some (l := fl) (i := i) (by omega)
        have hxx := hin _ e x he hxf
        refine W_skip (at_then ?_)
        refine W_seq ?_
        refine W_block ?_
        refine W_sseqz [([0, 1, 2, 3, 4, 5, 6, 7, 8, 9, 10, 11, 12, 13, 14, 15, 16], 17)] (fun z => Ext [] w0 z ∧ z.heap[b3]? = some (Bl 28 [.int .i64 N, .slice a es.length c])) [] mixed_SqF (by kernel_rfl) (⟨H.drew.ext, H.drew.get at0⟩) ?_
        refine seg_cons rfl rfl ?_
        refine t_move rfl (.slice _ _ _) rfl ?_
        refine t_move rfl (.int _ _) rfl ?_
        first | refine t_indexRd R rfl el_29_SqF sz_2_SqF rfl rfl (by omega) (by omega) (by first | rfl | omega) ?_ | refine t_indexRd Rf rfl el_29_SqF sz_2_SqF rfl rfl (by omega) (by omega) (by first | rfl | omega) ?_ | refine t_indexAddr rfl el_29_SqF sz_2_SqF rfl rfl (by omega) (by omega) ?_
        first | refine t_ldb rfl ag_2_SqF rfl True.intro (by first | exact at0 | exact at1 | exact at2 | exact at3 | exact at4 | exact at5 | exact at6 | exact at7 | exact at8 | exact at9) rfl ?_ | refine t_ld rfl ag_2_SqF rfl (fun _ hx => (by rw [cell_bl (hx.2)]; rfl)) ?_ | refine t_ld rfl ag_2_SqF rfl (fun _ hx => ((R.ext0 hx.1).fld he rfl (j := 2) rfl)) ?_ | refine t_ld rfl ag_2_SqF rfl (fun _ hx => ((Rf.ext0 hx.1).fld hxf rfl (j := 0) rfl)) ?_
        refine t_lss rfl rfl rfl ?_
        refine t_move rfl (.bool _) rfl ?_
        refine Wt_split 39 rfl ?_ ?_
        · intro g1
          replace g1 := dec_t g1
          omega
        · intro g1
          replace g1 := dec_f g1
          refine t_move rfl (.slice _ _ _) rfl ?_
          refine t_move rfl (.int _ _) rfl ?_
          first | refine t_indexRd R rfl el_29_SqF sz_2_SqF rfl rfl (by omega) (by omega) (by first | rfl | omega) ?_ | refine t_indexRd Rf rfl el_29_SqF sz_2_SqF rfl rfl (by omega) (by omega) (by first | rfl | omega) ?_ | refine t_indexAddr rfl el_29_SqF sz_2_SqF rfl rfl (by omega) (by omega) ?_
          first | refine t_ldb rfl ag_2_SqF rfl True.intro (by first | exact at0 | exact at1 | exact at2 | exact at3 | exact at4 | exact at5 | exact at6 | exact at7 | exact at8 | exact at9) rfl ?_ | refine t_ld rfl ag_2_SqF rfl (fun _ hx => (by rw [cell_bl (hx.2)]; rfl)) ?_ | refine t_ld rfl ag_2_SqF rfl (fun _ hx => ((R.ext0 hx.1).fld he rfl (j := 2) rfl)) ?_ | refine t_ld rfl ag_2_SqF rfl (fun _ hx => ((Rf.ext0 hx.1).fld hxf rfl (j := 0) rfl)) ?_
          refine t_fieldAddr rfl fo_28_1_SqF rfl ?_
          first | refine t_ldb rfl ag_26_SqF rfl True.intro (by first | exact at0 | exact at1 | exact at2 | exact at3 | exact at4 | exact at5 | exact at6 | exact at7 | exact at8 | exact at9) rfl ?_ | refine t_ld rfl ag_26_SqF rfl (fun _ hx => (by rw [cell_bl (hx.2)]; rfl)) ?_ | refine t_ld rfl ag_26_SqF rfl (fun _ hx => ((R.ext0 hx.1).fld he rfl (j := 2) rfl)) ?_ | refine t_ld rfl ag_26_SqF rfl (fun _ hx => ((Rf.ext0 hx.1).fld hxf rfl (j := 0) rfl)) ?_
          refine t_move rfl (.int _ _) rfl ?_
          first | refine t_indexRd R rfl el_26_SqF sz_92_SqF rfl rfl (by omega) (by omega) (by first | rfl | omega) ?_ | refine t_indexRd Rf rfl el_26_SqF sz_92_SqF rfl rfl (by omega) (by omega) (by first | rfl | omega) ?_ | refine t_indexAddr rfl el_26_SqF sz_92_SqF rfl rfl (by omega) (by omega) ?_
          refine t_fieldAddr rfl fo_92_2_SqF rfl ?_
          first | refine t_ldb rfl ag_2_SqF rfl True.intro (by first | exact at0 | exact at1 | exact at2 | exact at3 | exact at4 | exact at5 | exact at6 | exact at7 | exact at8 | exact at9) rfl ?_ | refine t_ld rfl ag_2_SqF rfl (fun _ hx => (by rw [cell_bl (hx.2)]; rfl)) ?_ | refine t_ld rfl ag_2_SqF rfl (fun _ hx => ((R.ext0 hx.1).fld he rfl (j := 2) rfl)) ?_ | refine t_ld rfl ag_2_SqF rfl (fun _ hx => ((Rf.ext0 hx.1).fld hxf rfl (j := 0) rfl)) ?_
          refine t_gtr rfl rfl rfl ?_
          refine t_nil ?_
          replace H := H.drew
          refine op_pick0 rfl rfl (.bool _) rfl ?_
          refine op_nil (at_seg (⟨H.ext, H.get at0⟩) ?_)
          refine seg_nil ?_
          refine W_cond _ rfl ?_ ?_
          · intro g2
            replace g2 := dec_t g2
            omega
          · intro g2
            replace g2 := dec_f g2
            refine W_skip (at_block (at_then ?_))
            refine W_region ?_
            refine op_move rfl (.int _ _) rfl ?_
            refine op_add_i64 rfl rfl rfl (by omega) (by omega) ?_
            refine op_assign rfl (.int _ _) rfl ?_
            refine op_nil (at_then ?_)
            exact ⟨i + 1, rfl, ⟨rfl, trivial⟩, ⟨by omega, H⟩, by omega⟩
      · intro h2
        replace h2 := dec_f h2
        refine W_exit (exit_then (exit_then (exit_here (at_then ?_))))
        refine W_seq ?_
        refine W_rseq ?_
        refine op_assign rfl (.int _ _) rfl ?_
        refine op_nil (at_then ?_)
        refine W_block ?_
        refine W_loop 1180587117117783933248 (α := Nat) (fun i => [(8, .int .i64 (i : Int))]) (fun i w' => i ≤ pot.length ∧ Ctx w0 [] w' [(b3, Bl 28 [.int .i64 N, .slice a es.length c])] ∧ ∀ (k : Nat) (x : Int), k < i → pot[k]? = some x → farB x = true) (fun i => pot.length - i) 0 rfl ?_ ?_ ?_
        · exact ⟨rfl, trivial⟩
        · exact ⟨Nat.zero_le _, H, fun k x h => absurd h (Nat.not_lt_zero _)⟩
        · clear H
          rintro i8 j8 w ⟨hi8, H, hb⟩
          refine W_seq ?_
          refine W_rseq ?_
          refine op_move rfl (.int _ _) rfl ?_
          refine op_move rfl (.slice _ _ _) rfl ?_
          refine op_len rfl el_29_SqF rfl ?_
          refine op_lss rfl rfl rfl ?_
          refine op_nil (at_then ?_)
          refine W_cond _ rfl ?_ ?_
          · intro h3
            replace h3 := dec_t h3
            obtain ⟨x, hx⟩ := get_some (l := pot) (i := i8) (by omega)
            refine W_skip (at_then ?_)
            refine W_seq ?_
            refine W_block ?_
            refine W_rseq (Wops_join (α := Unit) 1180303390341259591680 (fun _ => [(69, .bool (!farB x))]) (fun _ w' => Ctx w0 [] w' [(b3, Bl 28 [.int .i64 N, .slice a es.length c])]) rfl ?_ ?_)
            · refine op_move rfl (.slice _ _ _) rfl ?_
              refine op_move rfl (.int _ _) rfl ?_
              first | refine op_indexRd R rfl el_29_SqF sz_2_SqF rfl rfl (by omega) (by omega) (by first | rfl | omega) ?_ | refine op_indexRd Rf rfl el_29_SqF sz_2_SqF rfl rfl (by omega) (by omega) (by first | rfl | omega) ?_ | refine op_indexRd Rp rfl el_29_SqF sz_2_SqF rfl rfl (by omega) (by omega) (by first | rfl | omega) ?_ | refine op_indexAddr rfl el_29_SqF sz_2_SqF rfl rfl (by omega) (by omega) ?_
              first | refine op_ldb rfl ag_2_SqF rfl H (by first | exact at0 | exact at1 | exact at2 | exact at3 | exact at4 | exact at5 | exact at6 | exact at7 | exact at8 | exact at9) rfl ?_ | refine op_ld rfl ag_2_SqF rfl (((Rp.ext0 H.ext).fld hx rfl (j := 0) rfl)) ?_
              refine op_gtr rfl rfl rfl ?_
              refine op_move rfl (.bool _) rfl ?_
              refine Wops_split 63 rfl ?_ ?_
              · intro h5
                replace h5 := dec_t h5
                refine op_skip rfl ?_
                refine op_skip rfl ?_
                refine op_skip rfl ?_
                refine op_skip rfl ?_
                refine op_skip rfl ?_
                refine op_pick1 rfl rfl (.bool _) rfl ?_
                refine op_nil ?_
                exact ⟨rfl, (), rfl, ⟨congrArg Value.bool (by unfold farB; rw [Bool.eq_iff_iff]; simp_all; try omega), trivial⟩, H⟩
              · intro h6
                replace h6 := dec_f h6
                refine op_move rfl (.slice _ _ _) rfl ?_
                refine op_move rfl (.int _ _) rfl ?_
                first | refine op_indexRd R rfl el_29_SqF sz_2_SqF rfl rfl (by omega) (by omega) (by first | rfl | omega) ?_ | refine op_indexRd Rf rfl el_29_SqF sz_2_SqF rfl rfl (by omega) (by omega) (by first | rfl | omega) ?_ | refine op_indexRd Rp rfl el_29_SqF sz_2_SqF rfl rfl (by omega) (by omega) (by first | rfl | omega) ?_ | refine op_indexAddr rfl el_29_SqF sz_2_SqF rfl rfl (by omega) (by omega) ?_
                first | refine op_ldb rfl ag_2_SqF rfl H (by first | exact at0 | exact at1 | exact at2 | exact at3 | exact at4 | exact at5 | exact at6 | exact at7 | exact at8 | exact at9) rfl ?_ | refine op_ld rfl ag_2_SqF rfl (((Rp.ext0 H.ext).fld hx rfl (j := 0) rfl)) ?_
                refine op_lss rfl rfl rfl ?_
                refine op_pick0 rfl rfl (.bool _) rfl ?_
                refine op_nil ?_
                exact ⟨rfl, (), rfl, ⟨congrArg Value.bool (by unfold farB; rw [Bool.eq_iff_iff]; simp_all; try omega), trivial⟩, H⟩
            rintro - j69 w H
            refine W_cond _ rfl ?_ ?_
            · intro g1
              replace g1 := nvar_t g1
              refine W_rseq ?_
              refine op_assign rfl (.bool _) rfl ?_
              refine op_nil (at_then ?_)
              refine W_ret (ret_block (ret_then (ret_then (ret_block (ret_then (leave1 (v := (.bool _)) rfl rfl rfl ?_))))))
              exact ⟨congrArg Value.bool (by unfold potN; rw [all_false hx (by simpa using g1)]; rfl), H.ext⟩
            · intro g1
              replace g1 := nvar_f g1
              refine W_skip (at_block (at_then ?_))
              refine W_region ?_
              refine op_move rfl (.int _ _) rfl ?_
              refine op_add_i64 rfl rfl rfl (by omega) (by omega) ?_
              refine op_assign rfl (.int _ _) rfl ?_
              refine op_nil (at_then ?_)
              exact ⟨i8 + 1, rfl, ⟨rfl, trivial⟩, ⟨by omega, H, all_snoc hx hb (by simpa using g1)⟩, by omega⟩
          · intro h3
            replace h3 := dec_f h3
            have hp : potN N pot = true := by
              unfold potN
              rw [all_true fun k x hk hx => hb k x (by omega) hx, decide_eq_true h1']; rfl
            rw [hp, Bool.true_and]
            refine W_exit (exit_then (exit_then (exit_here (at_then ?_))))
            refine W_seq ?_
            refine W_rseq ?_
            refine op_assign rfl (.int _ _) rfl ?_
            refine op_nil (at_then ?_)
            refine W_block ?_
            refine W_loop 618968839051069420038259264 (α := Nat) (fun i => [(9, .int .i64 (i : Int))]) (fun i w' => i ≤ 2 * es.length ∧ Ctx w0 [] w' [(b3, Bl 28 [.int .i64 N, .slice a es.length c])] ∧ ∀ k, k < i → tightB N es fl pot k = true) (fun i => 2 * es.length - i) 0 rfl ?_ ?_ ?_
            · exact ⟨rfl, trivial⟩
            · exact ⟨Nat.zero_le _, H, fun k h => absurd h (Nat.not_lt_zero _)⟩
            · clear H
              rintro i9 j9 w ⟨hi9, H, hb9⟩
              refine W_seq ?_
              refine W_rseq ?_
              refine op_move rfl (.int _ _) rfl ?_
              refine op_move rfl (.slice _ _ _) rfl ?_
              refine op_len rfl el_29_SqF rfl ?_
              refine op_mul_i64 rfl rfl rfl (by omega) (by omega) ?_
              refine op_lss rfl rfl rfl ?_
              refine op_nil (at_then ?_)
              refine W_cond _ rfl ?_ ?_
              · intro h4
                replace h4 := dec_t h4
                have hi2 : i9 < 2 * es.length := by omega
                obtain ⟨e, x, he, hx, hro, r1, r2, r3⟩ := room_in hw hi2
                have hgo : tightB N es fl pot i9 = true → ∀ k, k < i9 + 1 → tightB N es fl pot k = true := fun h3 k hk => by
                  rcases Nat.lt_or_ge k i9 with h7 | h7
                  · exact hb9 k h7
                  · obtain rfl : k = i9 := by omega
                    exact h3
                refine W_skip (at_then ?_)
                refine W_seq ?_
                refine W_block ?_
                refine W_rseq (Wops_join (α := Unit) 618818903915238308802723840 (fun _ => [(88, .bool (!tightB N es fl pot i9))]) (fun _ w' => Ctx w0 [] w' [(b3, Bl 28 [.int .i64 N, .slice a es.length c])]) rfl ?_ ?_)
                · refine op_ldbN rfl ag_28_SqF sz_28_SqF rfl H (by first | exact at0 | exact at1 | exact at2 | exact at3 | exact at4 | exact at5 | exact at6 | exact at7 | exact at8 | exact at9) rfl ?_
                  refine op_move rfl (.slice _ _ _) rfl ?_
                  refine op_move rfl (.int _ _) rfl ?_
                  refine op_call rfl ca_127_SqF (r12room_ok N a b es.length c fl.length d es fl _ (R.ext0 H.ext) rfl hn2 (Rf.ext0 H.ext) rfl i9 he hx hw) rfl ?_
                  rintro v w ⟨rfl, hx80⟩
                  replace H := H.call hx80
                  rw [← hro]
                  refine op_gtr rfl rfl rfl ?_
                  refine op_move rfl (.bool _) rfl ?_
                  refine Wops_split 82 rfl ?_ ?_
                  · intro h7
                    replace h7 := dec_t h7
                    refine op_ldbN rfl ag_28_SqF sz_28_SqF rfl H (by first | exact at0 | exact at1 | exact at2 | exact at3 | exact at4 | exact at5 | exact at6 | exact at7 | exact at8 | exact at9) rfl ?_
                    refine op_move rfl (.slice _ _ _) rfl ?_
                    refine op_move rfl (.int _ _) rfl ?_
                    refine op_call rfl ca_128_SqF (r13len_ok N a p es.length c pot.length r es pot _ (R.ext0 H.ext) rfl hn2 (Rp.ext0 H.ext) rfl i9 hi2 hr hp) rfl ?_
                    rintro v w ⟨rfl, hx86⟩
                    replace H := H.call hx86
                    refine op_lss rfl rfl rfl ?_
                    refine op_pick1 rfl rfl (.bool _) rfl ?_
                    refine op_nil ?_
                    exact ⟨rfl, (), rfl, ⟨congrArg Value.bool (by unfold tightB; rw [Bool.eq_iff_iff]; simp_all; try omega), trivial⟩, H⟩
                  · intro h8
                    replace h8 := dec_f h8
                    refine op_skip rfl ?_
                    refine op_skip rfl ?_
                    refine op_skip rfl ?_
                    refine op_skip rfl ?_
                    refine op_skip rfl ?_
                    refine op_pick0 rfl rfl (.bool _) rfl ?_
                    refine op_nil ?_
                    exact ⟨rfl, (), rfl, ⟨congrArg Value.bool (by unfold tightB; rw [Bool.eq_iff_iff]; simp_all; try omega), trivial⟩, H⟩
                rintro - j88 w H
                refine W_cond _ rfl ?_ ?_
                · intro g1
                  replace g1 := nvar_t g1
                  refine W_rseq ?_
                  refine op_assign rfl (.bool _) rfl ?_
                  refine op_nil (at_then ?_)
                  refine W_ret (ret_block (ret_then (ret_then (ret_block (ret_then (leave1 (v := (.bool _)) rfl rfl rfl ?_))))))
                  exact ⟨congrArg Value.bool (by unfold tightN; rw [all_false (List.getElem?_range hi2) (by simpa using g1)]), H.ext⟩
                · intro g1
                  replace g1 := nvar_f g1
                  refine W_skip (at_block (at_then ?_))
                  refine W_region ?_
                  refine op_move rfl (.int _ _) rfl ?_
                  refine op_add_i64 rfl rfl rfl (by omega) (by omega) ?_
                  refine op_assign rfl (.int _ _) rfl ?_
                  refine op_nil (at_then ?_)
                  exact ⟨i9 + 1, rfl, ⟨rfl, trivial⟩, ⟨by omega, H, hgo (by simpa using g1)⟩, by omega⟩
              · intro h4
                replace h4 := dec_f h4
                refine W_exit (exit_then (exit_then (exit_here (at_then ?_))))
                refine W_rseq ?_
                refine op_assign rfl (.bool _) rfl ?_
                refine op_nil (at_then ?_)
                refine W_ret (leave1 (v := (.bool _)) rfl rfl rfl ?_)
                exact ⟨congrArg Value.bool (by unfold tightN; rw [List.all_eq_true.2 fun k hk => hb9 k (by have := List.mem_range.1 hk; omega)]), H.ext⟩
set_option maxRecDepth 20000 in
set_option maxHeartbeats 2000000 in
theorem r14check_ok (N : Int) (a b p : Option Addr) (n c m d q r : Nat) (es : List Ed) (fl pot : List Int) (w : World) (R : Rd w a 4 encE es) (hn : es.length = n) (hn2 : n ≤ 1000000) (Rf : Rd w b 1 I1 fl) (hm : fl.length = m) (hm2 : m ≤ 1000000) (Rp : Rd w p 1 I1 pot) (hq : pot.length = q) (hq2 : q ≤ 1000000) :
    Ret Tryz.prog 20 #[netV N a n c, certV b p m d q r] w fun v w' => v = .bool (checkN N es fl pot) ∧ Ext [] w w' := by
  subst hn hm hq
  obtain ⟨w0, rfl⟩ : ∃ w0, w0 = w := ⟨_, rfl⟩
  have H := Ctx.start w0 []
  obtain ⟨br, hbr⟩ : ∃ x, x = rightN N es := ⟨_, rfl⟩
  obtain ⟨bf, hbf⟩ : ∃ x, x = flowsN N es fl := ⟨_, rfl⟩
  obtain ⟨bp, hbp⟩ : ∃ x, x = (potN N pot && tightN N es fl pot) := ⟨_, rfl⟩
  have hC : checkN N es fl pot = (br && (bf && bp)) := by rw [hbr, hbf, hbp]; rfl
  rw [hC]
  refine ret_of_W (fn := Tryz.f20) Tryz.func20 rfl [netV N a es.length c, certV b p fl.length d pot.length r] rfl (by kernel_rfl) ?_
  refine W_rseq ?_
  refine op_box rfl [.int .i64 N, .slice a es.length c] (.agg _) rfl rfl H ?_
  rintro b2 w - H
  refine op_box rfl [.slice b fl.length d, .slice p pot.length r] (.agg _) rfl rfl H ?_
  rintro b3 w - H
  refine op_assign rfl (.bool _) rfl ?_
  refine op_nil (at_then ?_)
  refine W_rseq ?_
  refine op_ldbN rfl ag_28_SqF sz_28_SqF rfl H (by first | exact at0 | exact at1 | exact at2 | exact at3 | exact at4 | exact at5 | exact at6 | exact at7 | exact at8 | exact at9) rfl ?_
  refine op_call rfl ca_63_SqF (r11right_ok N a es.length c es _ (R.ext0 H.ext) rfl hn2) rfl ?_
  rintro v w ⟨rfl, hx6⟩
  replace H := H.call hx6
  rw [← hbr]
  refine op_move rfl (.bool _) rfl ?_
  refine Wops_split 7 rfl ?_ ?_
  · intro h1
    refine op_ldbN rfl ag_28_SqF sz_28_SqF rfl H (by first | exact at0 | exact at1 | exact at2 | exact at3 | exact at4 | exact at5 | exact at6 | exact at7 | exact at8 | exact at9) rfl ?_
    refine op_fieldAddr rfl fo_31_0_SqF rfl ?_
    refine op_ldb rfl ag_29_SqF rfl H (by first | exact at0 | exact at1 | exact at2 | exact at3 | exact at4 | exact at5 | exact at6 | exact at7 | exact at8 | exact at9) rfl ?_
    refine op_call rfl ca_64_SqF (r11flows_ok N a b es.length c fl.length d es fl _ (R.ext0 H.ext) rfl hn2 (Rf.ext0 H.ext) rfl hm2) rfl ?_
    rintro v w ⟨rfl, hx11⟩
    replace H := H.call hx11
    rw [← hbf]
    refine op_pick1 rfl rfl (.bool _) rfl ?_
    refine op_move rfl (.bool _) rfl ?_
    refine Wops_split 13 rfl ?_ ?_
    · intro h2
      refine op_ldbN rfl ag_28_SqF sz_28_SqF rfl H (by first | exact at0 | exact at1 | exact at2 | exact at3 | exact at4 | exact at5 | exact at6 | exact at7 | exact at8 | exact at9) rfl ?_
      refine op_fieldAddr rfl fo_31_0_SqF rfl ?_
      refine op_ldb rfl ag_29_SqF rfl H (by first | exact at0 | exact at1 | exact at2 | exact at3 | exact at4 | exact at5 | exact at6 | exact at7 | exact at8 | exact at9) rfl ?_
      refine op_fieldAddr rfl fo_31_1_SqF rfl ?_
      refine op_ldb rfl ag_29_SqF rfl H (by first | exact at0 | exact at1 | exact at2 | exact at3 | exact at4 | exact at5 | exact at6 | exact at7 | exact at8 | exact at9) rfl ?_
      have hwi : withinN N es fl = true := (flows_of (by rw [← hbf]; simp_all)).1
      refine op_call rfl ca_65_SqF (r13fits_ok N a b p es.length c fl.length d pot.length r es fl pot _ (R.ext0 H.ext) rfl hn2 (Rf.ext0 H.ext) rfl (Rp.ext0 H.ext) rfl hq2 hwi) rfl ?_
      rintro v w ⟨rfl, hx19⟩
      replace H := H.call hx19
      rw [← hbp]
      refine op_pick1 rfl rfl (.bool _) rfl ?_
      refine op_assign rfl (.bool _) rfl ?_
      refine op_nil (at_then ?_)
      refine W_ret (leave1 (v := (.bool _)) rfl rfl rfl ?_)
      exact ⟨congrArg Value.bool (by simp_all), H.ext⟩
    · intro h3
      refine op_skip rfl ?_
      refine op_skip rfl ?_
      refine op_skip rfl ?_
      refine op_skip rfl ?_
      refine op_skip rfl ?_
      refine op_skip rfl ?_
      refine op_pick0 rfl rfl (.bool _) rfl ?_
      refine op_assign rfl (.bool _) rfl ?_
      refine op_nil (at_then ?_)
      refine W_ret (leave1 (v := (.bool _)) rfl rfl rfl ?_)
      exact ⟨congrArg Value.bool (by simp_all), H.ext⟩
  · intro h4
    refine op_skip rfl ?_
    refine op_skip rfl ?_
    refine op_skip rfl ?_
    refine op_skip rfl ?_
    refine op_pick0 rfl rfl (.bool _) rfl ?_
    refine op_move rfl (.bool _) rfl ?_
    refine op_skip rfl ?_
    refine op_skip rfl ?_
    refine op_skip rfl ?_
    refine op_skip rfl ?_
    refine op_skip rfl ?_
    refine op_skip rfl ?_
    refine op_pick0 rfl rfl (.bool _) rfl ?_
    refine op_assign rfl (.bool _) rfl ?_
    refine op_nil (at_then ?_)
    refine W_ret (leave1 (v := (.bool _)) rfl rfl rfl ?_)
    exact ⟨congrArg Value.bool (by simp_all), H.ext⟩
end Go.Proofs.YtapphbmlkdhnmaaGreat

/- A round's net, as the reference has it. -/
namespace Go.Proofs.YtapphbmlkdhnmaaGreat
open Go.GV
theorem ag_24_SqG : aggB Tryz.prog 24 = some false := by kernel_rfl
theorem ag_26_SqG : aggB Tryz.prog 26 = some false := by kernel_rfl
theorem ag_28_SqG : aggB Tryz.prog 28 = some true := by kernel_rfl
theorem ag_2_SqG : aggB Tryz.prog 2 = some false := by kernel_rfl
theorem ag_3_SqG : aggB Tryz.prog 3 = some false := by kernel_rfl
theorem by_24_SqG : tbytes Tryz.prog 24 = some 8 := by kernel_rfl
theorem by_92_SqG : tbytes Tryz.prog 92 = some 32 := by kernel_rfl
theorem ca_25_SqG : callable Tryz.prog 25 = true := by kernel_rfl
theorem ca_49_SqG : callable Tryz.prog 49 = true := by kernel_rfl
theorem el_23_SqG : elemT Tryz.prog 23 = some 62 := by kernel_rfl
theorem el_25_SqG : elemT Tryz.prog 25 = some 24 := by kernel_rfl
theorem el_26_SqG : elemT Tryz.prog 26 = some 92 := by kernel_rfl
theorem el_29_SqG : elemT Tryz.prog 29 = some 2 := by kernel_rfl
theorem fo_28_1_SqG : fieldO Tryz.prog 28 1 = some 1 := by kernel_rfl
theorem fo_62_0_SqG : fieldO Tryz.prog 62 0 = some 0 := by kernel_rfl
theorem fo_62_1_SqG : fieldO Tryz.prog 62 1 = some 1 := by kernel_rfl
theorem fo_62_2_SqG : fieldO Tryz.prog 62 2 = some 2 := by kernel_rfl
theorem fo_62_3_SqG : fieldO Tryz.prog 62 3 = some 3 := by kernel_rfl
theorem fo_62_4_SqG : fieldO Tryz.prog 62 4 = some 4 := by kernel_rfl
theorem mixed_SqG : Tryz.prog.follows .mixedOrders = true := by kernel_rfl
theorem pl_28_SqG : placesB Tryz.prog 28 = some [(0, 1), (1, 1)] := by kernel_rfl
theorem pl_92_SqG : placesB Tryz.prog 92 = some [(0, 1), (1, 1), (2, 1), (3, 1)] := by kernel_rfl
theorem sz_24_SqG : tsize Tryz.prog 24 = some 1 := by kernel_rfl
theorem sz_26_SqG : tsize Tryz.prog 26 = some 1 := by kernel_rfl
theorem sz_28_SqG : tsize Tryz.prog 28 = some 2 := by kernel_rfl
theorem sz_2_SqG : tsize Tryz.prog 2 = some 1 := by kernel_rfl
theorem sz_62_SqG : tsize Tryz.prog 62 = some 7 := by kernel_rfl
theorem sz_92_SqG : tsize Tryz.prog 92 = some 4 := by kernel_rfl
theorem zc_24_SqG : zcells Tryz.prog 24 = some ([.int .u64 0]) := by kernel_rfl
theorem zc_28_SqG : zcells Tryz.prog 28 = some ([.int .i64 0, .slice none 0 0]) := by kernel_rfl
theorem zc_92_SqG : zcells Tryz.prog 92 = some ([.int .i64 0, .int .i64 0, .int .i64 0, .int .i64 0]) := by kernel_rfl
attribute [local irreducible] Wops W Wq Wt

/-- Two slices that grow. -/
structure LS2 where
  i : Nat
  a : Option Addr
  c : Nat
  f : List Value
  a2 : Option Addr
  c2 : Nat
  f2 : List Value
theorem hub_take {rs : List Int} {i : Nat} {x : Int} (h : rs[i]? = some x) : (hubE rs).take (2 * (i + 1)) = (hubE rs).take (2 * i) ++ [⟨rs.length, i, x, 0⟩, ⟨i, rs.length, 4503599627370496, 0⟩] := by
  rw [show 2 * (i + 1) = 2 * i + 1 + 1 by omega, List.take_succ, List.take_succ, hub_even h, hub_odd (get_lt h), List.append_assoc]; rfl
theorem ref_round (rs : List Int) (os : List Du) (net : Bool) (i : Nat) (h1 : net = true → i = 0) (h2 : ¬ net = true → i = rs.length) : os.map dueE ++ (hubE rs).take (2 * i) = roundE rs os net := by
  unfold roundE
  congr 1
  split
  · rename_i h; rw [h1 h]; rfl
  · rename_i h; rw [h2 h, List.take_of_length_le (by rw [hub_len]; omega)]
set_option maxRecDepth 20000 in
set_option maxHeartbeats 8000000 in
theorem r19round_ok (a b : Option Addr) (n c m e : Nat) (rs : List Int) (ds : List Du) (net : Bool) (w : World) (R : Rd w a 1 I1 rs) (hn : rs.length = n) (hn2 : n ≤ 1000000) (Rd' : Rd w b 7 encD ds) (hm : ds.length = m) (hm2 : m ≤ 1000000) :
    Ret Tryz.prog 13 #[.slice a n c, .slice b m e, .bool net] w (RoundRes w rs ds net) := by
  subst hn hm
  obtain ⟨w0, rfl⟩ : ∃ w0, w0 = w := ⟨_, rfl⟩
  have H := Ctx.start w0 []
  obtain ⟨bb, hbb⟩ : ∃ bb, bb = brightB rs ds := ⟨_, rfl⟩
  obtain ⟨os, hos⟩ : ∃ os, os = opn ds := ⟨_, rfl⟩
  have hol : os.length ≤ ds.length := by rw [hos]; exact opn_len ds
  refine ret_of_W (fn := Tryz.f13) Tryz.func13 rfl [.slice a rs.length c, .slice b ds.length e, .bool net] rfl (by kernel_rfl) ?_
  refine W_rseq ?_
  refine op_alloc rfl zc_28_SqG H ?_
  rintro b6 w - H
  refine op_assign rfl (.slice _ _ _) rfl ?_
  refine op_assign rfl (.int _ _) rfl ?_
  refine op_nil (at_then ?_)
  refine W_seq ?_
  refine W_rseq ?_
  refine op_move rfl (.slice _ _ _) rfl ?_
  refine op_move rfl (.slice _ _ _) rfl ?_
  refine op_call rfl ca_25_SqG (r19right_ok a b _ c _ e rs ds _ (R.ext0 H.ext) rfl hn2 (Rd'.ext0 H.ext) rfl hm2) rfl ?_
  rintro v w ⟨rfl, hx17⟩
  replace H := H.call hx17
  rw [← hbb]
  refine op_not rfl rfl ?_
  refine op_nil (at_then ?_)
  refine W_cond _ rfl ?_ ?_
  · intro h1
    replace h1 := nvar_t h1
    refine W_rseq ?_
    refine op_buildS [.int .i64 0, .slice none 0 0] rfl pl_28_SqG zc_28_SqG (by kernel_rfl) ?_
    refine op_stb0 rfl sz_28_SqG rfl rfl rfl (by simp [oneCell]) H (by first | exact at0 | exact at1 | exact at2 | exact at3 | exact at4 | exact at5 | exact at6 | exact at7 | exact at8 | exact at9) rfl ?_
    rintro w H
    refine op_assign rfl (.slice _ _ _) rfl ?_
    refine op_assign rfl (.int _ _) rfl ?_
    refine op_nil (at_then ?_)
    refine W_ret (ret_then (leave3b rfl rfl rfl ag_28_SqG sz_28_SqG H (by first | exact at0 | exact at1 | exact at2 | exact at3 | exact at4 | exact at5 | exact at6 | exact at7 | exact at8 | exact at9) rfl (show _ = (.slice _ _ _) from rfl) (show _ = (.int _ _) from rfl) ?_))
    exact ⟨H.ext, .inl ⟨by rw [← hbb]; exact h1, rfl⟩⟩
  · intro h1
    replace h1 := nvar_f h1
    refine W_skip (at_then ?_)
    refine W_rseq ?_
    refine op_move rfl (.slice _ _ _) rfl ?_
    refine op_len rfl el_29_SqG rfl ?_
    refine op_assign rfl (.int _ _) rfl ?_
    refine op_nil (at_then ?_)
    refine W_rseq ?_
    refine op_move rfl (.int _ _) rfl ?_
    refine op_add_i64 rfl rfl rfl (by omega) (by omega) ?_
    refine op_buildS [.int .i64 ((rs.length : Int) + 1), .slice none 0 0] rfl pl_28_SqG zc_28_SqG (by kernel_rfl) ?_
    refine op_alloc rfl zc_28_SqG H ?_
    rintro b10 w - H
    refine op_stb0 rfl sz_28_SqG rfl rfl rfl (by simp [oneCell]) H (by first | exact at0 | exact at1 | exact at2 | exact at3 | exact at4 | exact at5 | exact at6 | exact at7 | exact at8 | exact at9) rfl ?_
    rintro w H
    refine op_nil (at_then ?_)
    refine W_rseq ?_
    refine op_assign rfl (.slice _ _ _) rfl ?_
    refine op_nil (at_then ?_)
    refine W_rseq ?_
    refine op_move rfl (.slice _ _ _) rfl ?_
    refine op_call rfl ca_49_SqG (r19open_ok b _ e ds _ (Rd'.ext0 H.ext) rfl hm2) rfl ?_
    rintro v w F
    rw [← hos] at F
    obtain ⟨a4, n4, c4, f4, rfl, O4, hb4⟩ := F.ex
    have hl4 := O4.llen
    rw [encD_len] at hl4
    obtain rfl : os.length = n4 := by omega
    refine op_assign rfl (.slice _ _ _) rfl ?_
    refine op_nil (at_then ?_)
    refine W_seq ?_
    have hb6 := H.lt at1
    have hb10 := H.lt at0
    have RO : Rd w a4 7 encD os := OS.rd O4 (fun y hy => (hb4 y hy).1) (fun _ _ => rfl) (by omega)
    have hROn : os ≠ [] → (adr a4).block ∉ [b10, b6] := fun hne => by
      obtain ⟨q, rfl⟩ := O4.form (List.length_pos_iff.2 hne)
      have := (hb4 (q, Bl 62 f4) (List.mem_singleton.2 rfl)).2
      simp only [List.mem_cons, List.not_mem_nil, or_false]
      show ¬ (q = b10 ∨ q = b6)
      dsimp only at this
      omega
    have H4 := H.call F.ext
    have hs4 := H4.size
    have hb60 : w0.heap.size ≤ b6 := (H4.own _ (List.mem_of_getElem? at1)).elim (fun h => by cases h) id
    have hb100 : w0.heap.size ≤ b10 := (H4.own _ (List.mem_of_getElem? at0)).elim (fun h => by cases h) id
    have hl6 := H4.lt at1
    have hl10 := H4.lt at0
    have hx4 := H4.ext
    have hnR : rs ≠ [] → (adr a).block ∉ [b10, b6] := fun hne => by
      have := R.lt' (fun _ _ => rfl) (by decide) hne
      simp only [List.mem_cons, List.not_mem_nil, or_false]; omega
    have RR := R.ext0 hx4
    obtain ⟨w4, rfl⟩ : ∃ z, z = w := ⟨_, rfl⟩
    have H := Ctx.lend (L1 := [_, _]) (L2 := []) H4
    dsimp only [List.map] at H
    have hwe : ∀ d ∈ os, -1000000000 ≤ d.we ∧ d.we ≤ 1000000000 := fun d hd => by
      rw [hbb] at h1
      have hB := (bright_iff (by omega)).1 (show brightB rs ds = true by simpa using h1)
      rw [hos] at hd
      have := (mayD_am (hB.due d (opn_mem hd).1).1).2.2.2.2.1
      omega
    refine W_rseq ?_
    refine op_assign rfl (.int _ _) rfl ?_
    refine op_nil (at_then ?_)
    refine W_block ?_
    refine W_loop 295147905179218618368 (α := LS2) (fun t => [(11, .slice t.a2 t.i t.c2), (13, .int .i64 (t.i : Int))]) (fun t w' => t.i ≤ os.length ∧ OS t.a t.i t.c 4 t.f (((os.take t.i).map dueE).flatMap encE) ∧ OS t.a2 t.i t.c2 1 t.f2 (((os.take t.i).map Du.id).map u64v) ∧ Ctx w4 [b10, b6] w' ((b10, Bl 28 [.int .i64 ((rs.length : Int) + 1), .slice t.a t.i t.c]) :: (b6, Bl 28 [.int .i64 0, .slice none 0 0]) :: (ent t.a2 24 t.f2 ++ ent t.a 92 t.f))) (fun t => os.length - t.i) ⟨0, none, 0, [], none, 0, []⟩ rfl ?_ ?_ ?_
    · exact ⟨rfl, rfl, trivial⟩
    · exact ⟨Nat.zero_le _, OS.nil, OS.nil, H⟩
    · clear H
      rintro ⟨i, aE, cE, fE, aI, cI, fI⟩ jj w ⟨hi, O, OI, H⟩; dsimp only at hi O OI H; dsimp only
      refine W_seq ?_
      refine W_rseq ?_
      refine op_move rfl (.int _ _) rfl ?_
      refine op_move rfl (.slice _ _ _) rfl ?_
      refine op_len rfl el_23_SqG rfl ?_
      refine op_lss rfl rfl rfl ?_
      refine op_nil (at_then ?_)
      refine W_cond _ rfl ?_ ?_
      · intro h3
        replace h3 := dec_t h3
        obtain ⟨d, hd⟩ := get_some (l := os) (i := i) (by omega)
        have hwd := hwe d (List.mem_of_getElem? hd)
        refine W_skip (at_then ?_)
        refine W_seq ?_
        refine W_block ?_
        refine W_sseqz [([0, 1, 2, 3, 4, 5, 6, 7, 8, 9, 10, 11, 12, 13, 14, 15, 16, 17, 18, 19, 20, 21, 22, 23], 24), ([], 25), ([26], 27)] (fun z => Ext [b10, b6] w4 z ∧ z.heap[b10]? = some (Bl 28 [.int .i64 ((rs.length : Int) + 1), .slice aE i cE])) [27] mixed_SqG (by kernel_rfl) (⟨H.drew.ext, H.drew.get at0⟩) ?_
        refine seg_cons rfl rfl ?_
        refine t_fieldAddr rfl fo_28_1_SqG rfl ?_
        first | refine t_ldb rfl ag_26_SqG rfl True.intro (by first | exact at0 | exact at1 | exact at2 | exact at3 | exact at4 | exact at5 | exact at6 | exact at7 | exact at8 | exact at9) rfl ?_ | refine t_ld rfl ag_26_SqG rfl (fun _ hx => (by rw [cell_bl hx.2]; rfl)) ?_ | refine t_ld rfl ag_26_SqG rfl (fun _ hx => ((RO.ext' hx.1 hROn).fld hd rfl (j := 1) rfl)) ?_ | refine t_ld rfl ag_26_SqG rfl (fun _ hx => ((RO.ext' hx.1 hROn).fld hd rfl (j := 2) rfl)) ?_ | refine t_ld rfl ag_26_SqG rfl (fun _ hx => ((RO.ext' hx.1 hROn).fld hd rfl (j := 3) rfl)) ?_ | refine t_ld rfl ag_26_SqG rfl (fun _ hx => ((RO.ext' hx.1 hROn).fld hd rfl (j := 4) rfl)) ?_
        refine t_move rfl (.slice _ _ _) rfl ?_
        refine t_move rfl (.int _ _) rfl ?_
        first | refine t_indexRd RO rfl el_23_SqG sz_62_SqG rfl rfl (by omega) (by omega) (by first | rfl | omega) ?_ | refine t_indexAddr rfl el_23_SqG sz_62_SqG rfl rfl (by omega) (by omega) ?_
        refine t_fieldAddr rfl fo_62_1_SqG rfl ?_
        first | refine t_ldb rfl ag_3_SqG rfl True.intro (by first | exact at0 | exact at1 | exact at2 | exact at3 | exact at4 | exact at5 | exact at6 | exact at7 | exact at8 | exact at9) rfl ?_ | refine t_ld rfl ag_3_SqG rfl (fun _ hx => (by rw [cell_bl hx.2]; rfl)) ?_ | refine t_ld rfl ag_3_SqG rfl (fun _ hx => ((RO.ext' hx.1 hROn).fld hd rfl (j := 1) rfl)) ?_ | refine t_ld rfl ag_3_SqG rfl (fun _ hx => ((RO.ext' hx.1 hROn).fld hd rfl (j := 2) rfl)) ?_ | refine t_ld rfl ag_3_SqG rfl (fun _ hx => ((RO.ext' hx.1 hROn).fld hd rfl (j := 3) rfl)) ?_ | refine t_ld rfl ag_3_SqG rfl (fun _ hx => ((RO.ext' hx.1 hROn).fld hd rfl (j := 4) rfl)) ?_
        refine t_move rfl (.slice _ _ _) rfl ?_
        refine t_move rfl (.int _ _) rfl ?_
        first | refine t_indexRd RO rfl el_23_SqG sz_62_SqG rfl rfl (by omega) (by omega) (by first | rfl | omega) ?_ | refine t_indexAddr rfl el_23_SqG sz_62_SqG rfl rfl (by omega) (by omega) ?_
        refine t_fieldAddr rfl fo_62_2_SqG rfl ?_
        first | refine t_ldb rfl ag_3_SqG rfl True.intro (by first | exact at0 | exact at1 | exact at2 | exact at3 | exact at4 | exact at5 | exact at6 | exact at7 | exact at8 | exact at9) rfl ?_ | refine t_ld rfl ag_3_SqG rfl (fun _ hx => (by rw [cell_bl hx.2]; rfl)) ?_ | refine t_ld rfl ag_3_SqG rfl (fun _ hx => ((RO.ext' hx.1 hROn).fld hd rfl (j := 1) rfl)) ?_ | refine t_ld rfl ag_3_SqG rfl (fun _ hx => ((RO.ext' hx.1 hROn).fld hd rfl (j := 2) rfl)) ?_ | refine t_ld rfl ag_3_SqG rfl (fun _ hx => ((RO.ext' hx.1 hROn).fld hd rfl (j := 3) rfl)) ?_ | refine t_ld rfl ag_3_SqG rfl (fun _ hx => ((RO.ext' hx.1 hROn).fld hd rfl (j := 4) rfl)) ?_
        refine t_move rfl (.slice _ _ _) rfl ?_
        refine t_move rfl (.int _ _) rfl ?_
        first | refine t_indexRd RO rfl el_23_SqG sz_62_SqG rfl rfl (by omega) (by omega) (by first | rfl | omega) ?_ | refine t_indexAddr rfl el_23_SqG sz_62_SqG rfl rfl (by omega) (by omega) ?_
        refine t_fieldAddr rfl fo_62_3_SqG rfl ?_
        first | refine t_ldb rfl ag_2_SqG rfl True.intro (by first | exact at0 | exact at1 | exact at2 | exact at3 | exact at4 | exact at5 | exact at6 | exact at7 | exact at8 | exact at9) rfl ?_ | refine t_ld rfl ag_2_SqG rfl (fun _ hx => (by rw [cell_bl hx.2]; rfl)) ?_ | refine t_ld rfl ag_2_SqG rfl (fun _ hx => ((RO.ext' hx.1 hROn).fld hd rfl (j := 1) rfl)) ?_ | refine t_ld rfl ag_2_SqG rfl (fun _ hx => ((RO.ext' hx.1 hROn).fld hd rfl (j := 2) rfl)) ?_ | refine t_ld rfl ag_2_SqG rfl (fun _ hx => ((RO.ext' hx.1 hROn).fld hd rfl (j := 3) rfl)) ?_ | refine t_ld rfl ag_2_SqG rfl (fun _ hx => ((RO.ext' hx.1 hROn).fld hd rfl (j := 4) rfl)) ?_
        refine t_move rfl (.slice _ _ _) rfl ?_
        refine t_move rfl (.int _ _) rfl ?_
        first | refine t_indexRd RO rfl el_23_SqG sz_62_SqG rfl rfl (by omega) (by omega) (by first | rfl | omega) ?_ | refine t_indexAddr rfl el_23_SqG sz_62_SqG rfl rfl (by omega) (by omega) ?_
        refine t_fieldAddr rfl fo_62_4_SqG rfl ?_
        first | refine t_ldb rfl ag_2_SqG rfl True.intro (by first | exact at0 | exact at1 | exact at2 | exact at3 | exact at4 | exact at5 | exact at6 | exact at7 | exact at8 | exact at9) rfl ?_ | refine t_ld rfl ag_2_SqG rfl (fun _ hx => (by rw [cell_bl hx.2]; rfl)) ?_ | refine t_ld rfl ag_2_SqG rfl (fun _ hx => ((RO.ext' hx.1 hROn).fld hd rfl (j := 1) rfl)) ?_ | refine t_ld rfl ag_2_SqG rfl (fun _ hx => ((RO.ext' hx.1 hROn).fld hd rfl (j := 2) rfl)) ?_ | refine t_ld rfl ag_2_SqG rfl (fun _ hx => ((RO.ext' hx.1 hROn).fld hd rfl (j := 3) rfl)) ?_ | refine t_ld rfl ag_2_SqG rfl (fun _ hx => ((RO.ext' hx.1 hROn).fld hd rfl (j := 4) rfl)) ?_
        refine t_neg_i64 rfl rfl (by omega) (by omega) ?_
        refine t_buildS (encE (dueE d)) rfl pl_92_SqG zc_92_SqG (by kernel_rfl) ?_
        refine t_nil ?_
        replace H := H.drew
        refine op_build1 _ (.agg _) rfl el_26_SqG sz_92_SqG zc_92_SqG rfl (by decide) (by decide) rfl rfl rfl H ?_
        rintro b57 w - H
        refine op_nil (at_seg (⟨H.ext, H.get at1⟩) ?_)
        refine seg_cons rfl rfl ?_
        refine t_nil ?_
        refine op_appendb (L := _ :: _ :: ent aI 24 fI) rfl el_26_SqG el_26_SqG sz_92_SqG by_92_SqG zc_92_SqG rfl (by decide) rfl rfl H O rfl (encE_one _) (by omega) ?_
        rintro aE' cE' fE' w H O
        refine op_nil (at_seg (⟨H.ext, H.get at0⟩) ?_)
        refine seg_cons rfl rfl ?_
        refine t_fieldAddr rfl fo_28_1_SqG rfl ?_
        refine t_nil ?_
        refine op_stb (.slice _ _ _) rfl sz_26_SqG rfl rfl rfl H (by first | exact at0 | exact at1 | exact at2 | exact at3 | exact at4 | exact at5 | exact at6 | exact at7 | exact at8 | exact at9) (by first | decide | (simp; done) | (simp; omega)) ?_
        rintro w H
        refine op_nil (at_segz rfl ?_)
        refine seg_nil ?_
        replace H := H.perm (List.Perm.append_left [_, _] (List.perm_append_comm (l₁ := ent aI 24 fI) (l₂ := ent aE' 92 fE')))
        refine W_region ?_
        refine op_move rfl (.slice _ _ _) rfl ?_
        refine op_move rfl (.slice _ _ _) rfl ?_
        refine op_move rfl (.int _ _) rfl ?_
        first | refine op_indexRd RO rfl el_23_SqG sz_62_SqG rfl rfl (by omega) (by omega) (by first | rfl | omega) ?_ | refine op_indexAddr rfl el_23_SqG sz_62_SqG rfl rfl (by omega) (by omega) ?_
        refine op_fieldAddr rfl fo_62_0_SqG rfl ?_
        first | refine op_ldb rfl ag_24_SqG rfl H (by first | exact at0 | exact at1 | exact at2 | exact at3 | exact at4 | exact at5 | exact at6 | exact at7 | exact at8 | exact at9) rfl ?_ | refine op_ld rfl ag_24_SqG rfl (((RO.ext' H.ext hROn).fld hd rfl (j := 0) rfl)) ?_
        refine op_build1 _ (.int _ _) rfl el_25_SqG sz_24_SqG zc_24_SqG rfl (by decide) (by decide) rfl rfl rfl H ?_
        rintro b66 w - H
        refine op_appendb (L := _ :: _ :: ent aE' 92 fE') rfl el_25_SqG el_25_SqG sz_24_SqG by_24_SqG zc_24_SqG rfl (by decide) rfl rfl H OI rfl (by simp [oneCell]) (by omega) ?_
        rintro aI' cI' fI' w H OI
        refine op_assign rfl (.slice _ _ _) rfl ?_
        refine op_nil (at_block (at_then ?_))
        refine W_region ?_
        refine op_move rfl (.int _ _) rfl ?_
        refine op_add_i64 rfl rfl rfl (by omega) (by omega) ?_
        refine op_assign rfl (.int _ _) rfl ?_
        refine op_nil (at_then ?_)
        exact ⟨⟨i + 1, aE', cE', fE', aI', cI', fI'⟩, rfl, ⟨rfl, rfl, trivial⟩, ⟨by dsimp only; omega, by dsimp only; rw [take_map hd, List.flatMap_append]; exact O, by dsimp only; rw [take_map hd, List.map_append]; exact OI, H.perm (List.Perm.append_left [_, _] (List.perm_append_comm (l₁ := ent aE' 92 fE') (l₂ := ent aI' 24 fI')))⟩, by dsimp only; omega⟩
      · intro h3
        replace h3 := dec_f h3
        obtain rfl : i = os.length := by omega
        rw [List.take_length] at O OI
        obtain ⟨wq, rfl⟩ : ∃ z, z = w := ⟨_, rfl⟩
        have H7 := H
        refine W_exit (exit_then (exit_then (exit_here (at_then ?_))))
        refine W_seq ?_
        refine W_rseq ?_
        refine op_assign rfl (.int _ _) rfl ?_
        refine op_nil (at_then ?_)
        refine W_block ?_
        refine W_loop 9903520019135137019840184320 (α := LSt) (fun t => [(14, .int .i64 (t.i : Int))]) (fun t w' => (t.i ≤ rs.length ∧ (net = true → t.i = 0)) ∧ OS t.a (os.length + 2 * t.i) t.c 4 t.full ((os.map dueE ++ (hubE rs).take (2 * t.i)).flatMap encE) ∧ Ctx w4 [b10, b6] w' ((b10, Bl 28 [.int .i64 ((rs.length : Int) + 1), .slice t.a (os.length + 2 * t.i) t.c]) :: (b6, Bl 28 [.int .i64 0, .slice none 0 0]) :: (ent aI 24 fI ++ ent t.a 92 t.full))) (fun t => rs.length - t.i) ⟨0, aE, cE, fE⟩ rfl ?_ ?_ ?_
        · exact ⟨rfl, trivial⟩
        · exact ⟨⟨Nat.zero_le _, fun _ => rfl⟩, by dsimp only; rw [Nat.mul_zero, List.take_zero, List.append_nil]; exact O, H⟩
        · clear H H7 O
          rintro ⟨i, aE2, cE2, fE2⟩ jj2 w ⟨⟨hi, hnet⟩, O, H⟩; dsimp only at hi hnet O H; dsimp only
          refine W_seq ?_
          refine W_rseq (Wops_join (α := Unit) 75262715820734970593280 (fun _ => [(75, .bool ((decide (i < rs.length) && !net)))]) (fun _ w' => Ctx w4 [b10, b6] w' ((b10, Bl 28 [.int .i64 ((rs.length : Int) + 1), .slice aE2 (os.length + 2 * i) cE2]) :: (b6, Bl 28 [.int .i64 0, .slice none 0 0]) :: (ent aI 24 fI ++ ent aE2 92 fE2))) rfl ?_ ?_)
          · refine op_move rfl (.int _ _) rfl ?_
            refine op_move rfl (.slice _ _ _) rfl ?_
            refine op_len rfl el_29_SqG rfl ?_
            refine op_lss rfl rfl rfl ?_
            refine op_move rfl (.bool _) rfl ?_
            refine Wops_split 72 rfl ?_ ?_
            · intro h1
              replace h1 := dec_t h1
              refine op_move rfl (.bool _) rfl ?_
              refine op_not rfl rfl ?_
              refine op_pick1 rfl rfl (.bool _) rfl ?_
              refine op_nil ?_
              exact ⟨rfl, (), rfl, ⟨congrArg Value.bool (by rw [Bool.eq_iff_iff]; simp_all; try omega), trivial⟩, H⟩
            · intro h2
              replace h2 := dec_f h2
              refine op_skip rfl ?_
              refine op_skip rfl ?_
              refine op_pick0 rfl rfl (.bool _) rfl ?_
              refine op_nil ?_
              exact ⟨rfl, (), rfl, ⟨congrArg Value.bool (by rw [Bool.eq_iff_iff]; simp_all; try omega), trivial⟩, H⟩
          rintro - j75 w H
          refine W_cond _ rfl ?_ ?_
          · intro h4
            rw [Bool.and_eq_true, decide_eq_true_eq, Bool.not_eq_true'] at h4
            obtain ⟨x, hx7⟩ := get_some (l := rs) (i := i) h4.1
            refine W_skip (at_then ?_)
            refine W_seq ?_
            refine W_block ?_
            refine W_segz [([0, 1, 2, 3, 4, 5, 6, 7, 8, 9, 10, 11], 12), ([], 13), ([14], 15)] (fun z => Ext [b10, b6] w4 z ∧ z.heap[b10]? = some (Bl 28 [.int .i64 ((rs.length : Int) + 1), .slice aE2 (os.length + 2 * i) cE2])) [15] mixed_SqG (by kernel_rfl) (⟨H.drew.ext, H.drew.get at0⟩) ?_
            refine seg_cons rfl rfl ?_
            refine t_fieldAddr rfl fo_28_1_SqG rfl ?_
            first | refine t_ldb rfl ag_26_SqG rfl True.intro (by first | exact at0 | exact at1 | exact at2 | exact at3 | exact at4 | exact at5 | exact at6 | exact at7 | exact at8 | exact at9) rfl ?_ | refine t_ld rfl ag_26_SqG rfl (fun _ hx => (by rw [cell_bl hx.2]; rfl)) ?_ | refine t_ld rfl ag_26_SqG rfl (fun _ hx => ((RR.ext' hx.1 hnR).fld hx7 rfl (j := 0) rfl)) ?_
            refine t_move rfl (.int _ _) rfl ?_
            refine t_move rfl (.int _ _) rfl ?_
            refine t_move rfl (.slice _ _ _) rfl ?_
            refine t_move rfl (.int _ _) rfl ?_
            first | refine t_indexRd RO rfl el_29_SqG sz_2_SqG rfl rfl (by omega) (by omega) (by first | rfl | omega) ?_ | refine t_indexRd R rfl el_29_SqG sz_2_SqG rfl rfl (by omega) (by omega) (by first | rfl | omega) ?_ | refine t_indexAddr rfl el_29_SqG sz_2_SqG rfl rfl (by omega) (by omega) ?_
            first | refine t_ldb rfl ag_2_SqG rfl True.intro (by first | exact at0 | exact at1 | exact at2 | exact at3 | exact at4 | exact at5 | exact at6 | exact at7 | exact at8 | exact at9) rfl ?_ | refine t_ld rfl ag_2_SqG rfl (fun _ hx => (by rw [cell_bl hx.2]; rfl)) ?_ | refine t_ld rfl ag_2_SqG rfl (fun _ hx => ((RR.ext' hx.1 hnR).fld hx7 rfl (j := 0) rfl)) ?_
            refine t_buildS (encE ⟨rs.length, i, x, 0⟩) rfl pl_92_SqG zc_92_SqG (by kernel_rfl) ?_
            refine t_move rfl (.int _ _) rfl ?_
            refine t_move rfl (.int _ _) rfl ?_
            refine t_buildS (encE ⟨i, rs.length, 4503599627370496, 0⟩) rfl pl_92_SqG zc_92_SqG (by kernel_rfl) ?_
            refine t_nil ?_
            replace H := H.drew
            refine op_buildL (encE ⟨rs.length, i, x, 0⟩ ++ encE ⟨i, rs.length, 4503599627370496, 0⟩) rfl el_26_SqG sz_92_SqG zc_92_SqG (by decide) (by decide) (by kernel_rfl) H ?_
            rintro b90 w - H
            refine op_nil (at_seg (⟨H.ext, H.get at1⟩) ?_)
            refine seg_cons rfl rfl ?_
            refine t_nil ?_
            refine op_appendb (L := _ :: _ :: ent aI 24 fI) rfl el_26_SqG el_26_SqG sz_92_SqG by_92_SqG zc_92_SqG rfl (by decide) rfl rfl H O rfl (fun v hv => (List.mem_append.1 hv).elim (encE_one _ v) (encE_one _ v)) (by omega) ?_
            rintro aE' cE' fE' w H O
            refine op_nil (at_seg (⟨H.ext, H.get at0⟩) ?_)
            refine seg_cons rfl rfl ?_
            refine t_fieldAddr rfl fo_28_1_SqG rfl ?_
            refine t_nil ?_
            refine op_stb (.slice _ _ _) rfl sz_26_SqG rfl rfl rfl H (by first | exact at0 | exact at1 | exact at2 | exact at3 | exact at4 | exact at5 | exact at6 | exact at7 | exact at8 | exact at9) (by first | decide | (simp; done) | (simp; omega)) ?_
            rintro w H
            refine op_nil (at_segz rfl ?_)
            refine seg_nil ?_
            refine at_block (at_then ?_)
            refine W_region ?_
            refine op_move rfl (.int _ _) rfl ?_
            refine op_add_i64 rfl rfl rfl (by omega) (by omega) ?_
            refine op_assign rfl (.int _ _) rfl ?_
            refine op_nil (at_then ?_)
            refine ⟨⟨i + 1, aE', cE', fE'⟩, rfl, ⟨rfl, trivial⟩, ⟨⟨by dsimp only; omega, fun h => by rw [h4.2] at h; cases h⟩, ?_, ?_⟩, by dsimp only; omega⟩
            · dsimp only
              rw [hub_take hx7, ← List.append_assoc, List.flatMap_append, show os.length + 2 * (i + 1) = os.length + 2 * i + 2 by omega]
              exact O
            · dsimp only
              rw [show os.length + 2 * (i + 1) = os.length + 2 * i + 2 by omega]
              exact H
          · intro h4
            have h4' : ¬ (i < rs.length ∧ net = false) := fun h => by rw [decide_eq_true h.1, h.2] at h4; cases h4
            have hre := ref_round rs os net i hnet (fun h => by
              have hf : net = false := by simpa using h
              rcases Nat.lt_or_ge i rs.length with h7 | h7
              · exact absurd ⟨h7, hf⟩ h4'
              · omega)
            rw [hre] at O
            have hlen : os.length + 2 * i = (roundE rs os net).length := by
              rw [← hre, List.length_append, List.length_map, List.length_take, hub_len]; omega
            rw [hlen] at O H
            refine W_exit (exit_then (exit_then (exit_here (at_then ?_))))
            refine W_rseq ?_
            refine op_ldbN rfl ag_28_SqG sz_28_SqG rfl H (by first | exact at0 | exact at1 | exact at2 | exact at3 | exact at4 | exact at5 | exact at6 | exact at7 | exact at8 | exact at9) rfl ?_
            refine op_move rfl (.slice _ _ _) rfl ?_
            refine op_stb0 rfl sz_28_SqG rfl rfl rfl (by simp [oneCell]) H (by first | exact at0 | exact at1 | exact at2 | exact at3 | exact at4 | exact at5 | exact at6 | exact at7 | exact at8 | exact at9) rfl ?_
            rintro w H
            refine op_assign rfl (.slice _ _ _) rfl ?_
            refine op_assign rfl (.int _ _) rfl ?_
            refine op_nil (at_then ?_)
            refine W_ret (leave3b rfl rfl rfl ag_28_SqG sz_28_SqG H (by first | exact at0 | exact at1 | exact at2 | exact at3 | exact at4 | exact at5 | exact at6 | exact at7 | exact at8 | exact at9) rfl (show _ = (.slice _ _ _) from rfl) (show _ = (.int _ _) from rfl) ?_)
            have hxx := hx4.then H.ext fun x hx => .inr (by simp only [List.mem_cons, List.not_mem_nil, or_false] at hx; omega)
            have hown : ∀ y ∈ ((b10, Bl 28 [.int .i64 ((rs.length : Int) + 1), .slice aE2 (roundE rs os net).length cE2]) :: (b6, Bl 28 [.int .i64 ((rs.length : Int) + 1), .slice aE2 (roundE rs os net).length cE2]) :: (ent aI 24 fI ++ ent aE2 92 fE2)), w0.heap.size ≤ y.1 := fun y hy => by
              rcases H.own y hy with h | h
              · simp only [List.mem_cons, List.not_mem_nil, or_false] at h; omega
              · omega
            refine ⟨hxx, .inr ⟨by rw [← hbb]; simpa using h1, aE2, (roundE rs os net).length, cE2, .slice aI os.length cI, rfl, ?_, ?_⟩⟩
            · rw [← hos]
              refine ⟨aE2, cE2, rfl, O.le, OS.rd O (fun x hx => H.blk x (List.mem_cons_of_mem _ (List.mem_cons_of_mem _ (List.mem_append_right _ hx)))) (fun _ _ => rfl) (by decide), fun hne' => ?_⟩
              obtain ⟨q, rfl⟩ := O.form (List.length_pos_iff.2 hne')
              exact hown (q, Bl 92 fE2) (List.mem_cons_of_mem _ (List.mem_cons_of_mem _ (List.mem_append_right _ (List.mem_singleton.2 rfl))))
            · rw [← hos]
              refine ⟨aI, cI, by rw [List.length_map], by rw [List.length_map]; exact OI.le, OI.rd1 (fun x hx => H.blk x (List.mem_cons_of_mem _ (List.mem_cons_of_mem _ (List.mem_append_left _ hx)))), fun hne' => ?_⟩
              obtain ⟨q, rfl⟩ := OI.form (by have := List.length_pos_iff.2 hne'; rw [List.length_map] at this; exact this)
              exact hown (q, Bl 24 fI) (List.mem_cons_of_mem _ (List.mem_cons_of_mem _ (List.mem_append_left _ (List.mem_singleton.2 rfl))))
end Go.Proofs.YtapphbmlkdhnmaaGreat

/- The best flow: the walk. -/
namespace Go.Proofs.YtapphbmlkdhnmaaGreat
open Go.GV
theorem ag_26_SeY : aggB Tryz.prog 26 = some false := by kernel_rfl
theorem ag_28_SeY : aggB Tryz.prog 28 = some true := by kernel_rfl
theorem ag_29_SeY : aggB Tryz.prog 29 = some false := by kernel_rfl
theorem ag_2_SeY : aggB Tryz.prog 2 = some false := by kernel_rfl
theorem ag_31_SeY : aggB Tryz.prog 31 = some true := by kernel_rfl
theorem ag_3_SeY : aggB Tryz.prog 3 = some false := by kernel_rfl
theorem ag_92_SeY : aggB Tryz.prog 92 = some true := by kernel_rfl
theorem by_2_SeY : tbytes Tryz.prog 2 = some 8 := by kernel_rfl
theorem by_92_SeY : tbytes Tryz.prog 92 = some 32 := by kernel_rfl
theorem ca_117_SeY : callable Tryz.prog 117 = true := by kernel_rfl
theorem ca_118_SeY : callable Tryz.prog 118 = true := by kernel_rfl
theorem ca_119_SeY : callable Tryz.prog 119 = true := by kernel_rfl
theorem ca_120_SeY : callable Tryz.prog 120 = true := by kernel_rfl
theorem el_26_SeY : elemT Tryz.prog 26 = some 92 := by kernel_rfl
theorem el_29_SeY : elemT Tryz.prog 29 = some 2 := by kernel_rfl
theorem fo_170_0_SeY : fieldO Tryz.prog 170 0 = some 0 := by kernel_rfl
theorem fo_170_1_SeY : fieldO Tryz.prog 170 1 = some 2 := by kernel_rfl
theorem fo_170_2_SeY : fieldO Tryz.prog 170 2 = some 3 := by kernel_rfl
theorem fo_170_4_SeY : fieldO Tryz.prog 170 4 = some 5 := by kernel_rfl
theorem fo_28_1_SeY : fieldO Tryz.prog 28 1 = some 1 := by kernel_rfl
theorem fo_92_2_SeY : fieldO Tryz.prog 92 2 = some 2 := by kernel_rfl
theorem mixed_SeY : Tryz.prog.follows .mixedOrders = true := by kernel_rfl
theorem pl_170_SeY : placesB Tryz.prog 170 = some [(0, 2), (2, 1), (3, 1), (4, 1), (5, 1)] := by kernel_rfl
theorem pl_28_SeY : placesB Tryz.prog 28 = some [(0, 1), (1, 1)] := by kernel_rfl
theorem pl_31_SeY : placesB Tryz.prog 31 = some [(0, 1), (1, 1)] := by kernel_rfl
theorem sz_28_SeY : tsize Tryz.prog 28 = some 2 := by kernel_rfl
theorem sz_2_SeY : tsize Tryz.prog 2 = some 1 := by kernel_rfl
theorem sz_31_SeY : tsize Tryz.prog 31 = some 2 := by kernel_rfl
theorem sz_92_SeY : tsize Tryz.prog 92 = some 4 := by kernel_rfl
theorem un_24_SeY : Tryz.prog.underlying 24 = some (.int .u64) := by kernel_rfl
theorem un_2_SeY : Tryz.prog.underlying 2 = some (.int .i64) := by kernel_rfl
theorem zc_170_SeY : zcells Tryz.prog 170 = some ([.int .i64 0, .slice none 0 0, .slice none 0 0, .slice none 0 0, .slice none 0 0, .int .i64 0]) := by kernel_rfl
theorem zc_28_SeY : zcells Tryz.prog 28 = some ([.int .i64 0, .slice none 0 0]) := by kernel_rfl
theorem zc_2_SeY : zcells Tryz.prog 2 = some ([.int .i64 0]) := by kernel_rfl
theorem zc_31_SeY : zcells Tryz.prog 31 = some ([.slice none 0 0, .slice none 0 0]) := by kernel_rfl
theorem zc_92_SeY : zcells Tryz.prog 92 = some ([.int .i64 0, .int .i64 0, .int .i64 0, .int .i64 0]) := by kernel_rfl
attribute [local irreducible] Wops W Wq Wt

theorem perm5 {α : Type} {a b c d e : α} {r : List α} : (a :: b :: c :: d :: e :: r).Perm (d :: a :: e :: b :: c :: r) :=
  (List.perm_middle (l₁ := [a, b, c]) (l₂ := e :: r)).trans (((List.perm_middle (l₁ := [b, c]) (l₂ := r)).cons _).cons _)
/-- Numbers that are 0 beyond the table. -/
theorem norm_tab (f : Nat → Int) (n : Nat) : ∃ f1 : Nat → Int, tabV f n = tabV f1 n ∧ flE (tab f1 n) = f1 ∧ potE (tab f1 n) = f1 ∧ ∀ i, i < n → f1 i = f i := by
  refine ⟨fun i => if i < n then f i else 0, List.map_congr_left fun i hi => by dsimp only; rw [if_pos (List.mem_range.1 hi)], ?_, ?_, fun i hi => if_pos hi⟩
  all_goals
    funext i
    first | unfold flE | unfold potE
    rcases Nat.lt_or_ge i n with h | h
    · rw [getD_of (tab_get h)]
    · rw [List.getD_eq_getElem?_getD, List.getElem?_eq_none (by rw [tab_len]; exact h)]
      exact (if_neg (by omega)).symm
theorem fine_x {g : Gr} {cap x y p : Nat → Int} (h : Fine g cap x p) (hy : ∀ i, i < g.E → y i = x i) : Fine g cap y p := by
  refine ⟨fun i hi => by rw [hy i hi]; exact h.in' i hi, fun a ha hr => h.fit a ha ?_⟩
  unfold roomA at hr ⊢
  rw [hy _ (by omega)] at hr
  exact hr

theorem fill_w {w : World} {bs bf bp bo : Nat} {N n : Nat} {ae : Option Addr} {ce : Nat} {kk : Int} {es : List Ed} {x p ov : Nat → Int} {full : List Value} {g : Gr} {cap : Nat → Int} (hn : es.length = n) (hg : grE (N : Int) es = g) (hcap : ∀ i, i < n → capE es i = cap i) (H0 : Ctx w ((SL bs bf bp bo N ae n ce kk x p ov full).map (·.1)) w (SL bs bf bp bo N ae n ce kk x p ov full)) (O : OS ae n ce 4 full (es.flatMap encE))
    (hr : rightN (N : Int) es = true) (hF : Fine g cap x p) (hov : ∀ v, v < N → ov v = over7 g x v) (hpb : ∀ v, v < N → -1073741824 ≤ p v ∧ p v ≤ 1073741824) :
    Ret Tryz.prog 120 #[ptr bs] w fun v w' => ∃ (b : Bool) (x' p' ov' : Nat → Int) (kk' : Int), v = .bool b ∧ Ctx w ((SL bs bf bp bo N ae n ce kk x p ov full).map (·.1)) w' (SL bs bf bp bo N ae n ce kk' x' p' ov' full) ∧ Fine g cap x' p' ∧ (∀ v, v < N → ov' v = over7 g x' v) ∧ (∀ v, v < N → -1073741824 ≤ p' v ∧ p' v ≤ 1073741824) ∧
      (b = false → ∀ v, v < N → over7 g x' v ≤ 0) ∧ (b = true → excess g x' + 1 ≤ excess g x) := by
  subst hn hg
  obtain ⟨x1, hx1, hxn, -, hxe⟩ := norm_tab x es.length
  obtain ⟨p1, hp1, -, hpn, hpe⟩ := norm_tab p N
  have hgo := grE_ok hr
  have hsl : SL bs bf bp bo N ae es.length ce kk x p ov full = SL bs bf bp bo N ae es.length ce kk x1 p1 ov full := by unfold SL; rw [hx1, hp1]
  have hF1 : Fine (grE (N : Int) es) (capE es) x1 p1 := fine_congr hgo (fine_x (fine_caps hF hcap) hxe) hpe
  have hov1 : ∀ v, over7 (grE (N : Int) es) x1 v = over7 (grE (N : Int) es) x v := fun v => over_congr hxe v
  have hex : excess (grE (N : Int) es) x1 = excess (grE (N : Int) es) x := sum_congr fun v _ => by rw [hov1]
  rw [hsl] at H0 ⊢
  refine Ret.mono (fill_ok H0 O hr hF1 (fun v hv => by rw [hov1]; exact hov v hv) (fun v hv => by rw [hpe v hv]; exact hpb v hv) hxn hpn) ?_
  rintro v w' ⟨b, x', p', ov', kk', h1, h2, h3, h4, h5, h6, h7⟩
  exact ⟨b, x', p', ov', kk', h1, h2, fine_caps h3 fun i hi => (hcap i hi).symm, h4, h5, h6, fun h => by rw [← hex]; exact h7 h⟩
theorem over_nil (g : Gr) (v : Nat) : over7 g (fun _ => 0) v = 0 := by
  have : over7 g (fun _ => 0) v = sumTo (fun _ => 0) g.E := sum_congr fun i _ => by rw [Int.mul_zero]
  rw [this, sum_zero]
structure PSt where
  j : Nat
  full : List Value
  x : Nat → Int
  p : Nat → Int
  ov : Nat → Int
  kk : Int
structure FSt where
  x : Nat → Int
  p : Nat → Int
  ov : Nat → Int
  kk : Int

set_option maxRecDepth 20000 in
set_option maxHeartbeats 8000000 in
theorem best_ok (N : Nat) (a : Option Addr) (c : Nat) (es : List Ed) (w : World) (R : Rd w a 4 encE es) (hr : rightN (N : Int) es = true) :
    Ret Tryz.prog 59 #[netV (N : Int) a es.length c] w fun v w' => ∃ (bf bp : Nat) (x p : Nat → Int) (k : Int), v = .tuple #[certV (some ⟨bf, 0, none⟩) (some ⟨bp, 0, none⟩) es.length es.length N N, .int .i64 k, .int .i64 0] ∧ Fine (grE (N : Int) es) (capE es) x p ∧ (∀ v, v < N → over7 (grE (N : Int) es) x v = 0) ∧ (∀ v, v < N → -1073741824 ≤ p v ∧ p v ≤ 1073741824) ∧ Ctx w [] w' [(bf, Bl 2 (tabV x es.length)), (bp, Bl 2 (tabV p N))] := by
  obtain ⟨w0, rfl⟩ : ∃ w0, w0 = w := ⟨_, rfl⟩
  have H := Ctx.start w0 []
  obtain ⟨hN1, hN40, hn200, hall, -⟩ := right_of hr
  have hI : I64 (N : Int) := by unfold I64; omega
  refine ret_of_W (fn := Tryz.f59) Tryz.func59 rfl [netV (N : Int) a es.length c] rfl (by kernel_rfl) ?_
  refine W_rseq ?_
  refine op_box rfl [.int .i64 (N : Int), .slice a es.length c] (.agg _) rfl rfl H ?_
  rintro b1 w - H
  refine op_alloc rfl zc_31_SeY H ?_
  rintro b2 w - H
  refine op_assign rfl (.int _ _) rfl ?_
  refine op_assign rfl (.int _ _) rfl ?_
  refine op_nil (at_then ?_)
  refine W_scope ?_
  refine W_seq ?_
  refine W_rseq ?_
  refine op_ldbN rfl ag_28_SeY sz_28_SeY rfl H (by first | exact at0 | exact at1 | exact at2 | exact at3 | exact at4 | exact at5 | exact at6 | exact at7 | exact at8 | exact at9) rfl ?_
  refine op_call rfl ca_117_SeY (right_ok (N : Int) a es.length c es _ (R.ext0 H.ext) rfl hI) rfl ?_
  rintro v w ⟨rfl, hx11⟩
  replace H := H.call hx11
  refine op_not rfl rfl ?_
  refine op_nil (at_then ?_)
  refine W_cond _ rfl ?_ ?_
  · intro h1
    replace h1 := nvar_t h1
    rw [hr] at h1
    cases h1
  · intro h1
    replace h1 := nvar_f h1
    refine W_skip (at_then ?_)
    refine W_join 8589918240 (α := Nat × Nat × Nat × Nat × Nat × Nat × List Value) (fun z => [(5, ptr z.1)]) (fun z w' => OS (some ⟨z.2.2.2.2.1, 0, none⟩) es.length z.2.2.2.2.2.1 4 z.2.2.2.2.2.2 (es.flatMap encE) ∧ Ctx w0 [] w' [(z.2.1, Bl 2 (tabV (fun _ => 0) es.length)), (z.2.2.2.1, Bl 2 (tabV (fun _ => 0) N)), (z.2.2.2.2.1, Bl 92 z.2.2.2.2.2.2), (z.1, Bl 170 (SC N (some ⟨z.2.2.2.2.1, 0, none⟩) es.length z.2.2.2.2.2.1 z.2.1 z.2.2.1 z.2.2.2.1 0)), (z.2.2.1, Bl 2 (tabV (fun _ => 0) N)), (b2, Bl 31 [.slice none 0 0, .slice none 0 0]), (b1, Bl 28 [.int .i64 (N : Int), .slice a es.length c])]) rfl ?_ ?_
    · skip
      have hb1 := H.get at1
      refine W_allocsB (n := 19) (anc := sAnc) Bk.b (sGood es.length es) (fun i => 14 + i) (sVal b1 N es.length a c) (sObj N es.length) (show Tryz.prog.follows .mixedOrders = true by kernel_rfl) rfl (by kernel_rfl) ?_ (fun i j _ _ h => by have h : 14 + i = 14 + j := h; omega) (fun i k b B => sStab b1 N es.length a c i k b B) ?_ ?_
      · intro k hk
        have : k = 0 ∨ k = 1 ∨ k = 2 ∨ k = 3 ∨ k = 4 ∨ k = 5 ∨ k = 6 ∨ k = 7 ∨ k = 8 ∨ k = 9 ∨ k = 10 ∨ k = 11 ∨ k = 12 ∨ k = 13 ∨ k = 14 ∨ k = 15 ∨ k = 16 ∨ k = 17 ∨ k = 18 := by omega
        simp [sAnc]
        omega
      · intro i o e' w' B hi ho hold hsl hx hbl hgd
        have h4 : e'.g 1 = ptr b1 := (hold 1 fun j hj h => by have h : 1 = 14 + j := h; omega).trans rfl
        have hc4 : w'.heap[b1]? = some (Bl 28 [.int .i64 (N : Int), .slice a es.length c]) := hx.to (by exact hb1) (by simp)
        have hcs : i = 0 ∨ i = 1 ∨ i = 2 ∨ i = 3 ∨ i = 4 ∨ i = 5 ∨ i = 6 ∨ i = 7 ∨ i = 8 ∨ i = 9 ∨ i = 10 ∨ i = 11 ∨ i = 12 ∨ i = 13 ∨ i = 14 ∨ i = 15 ∨ i = 16 ∨ i = 17 ∨ i = 18 := by omega
        have hpure : ∀ {v : Value}, sObj N es.length i = none → i ≠ 5 → sVal b1 N es.length a c i (updB B i default) = v → AQB Bk.b (sGood es.length es) (fun i => 14 + i) (sVal b1 N es.length a c) (sObj N es.length) i e' w' B (put e' (some (14 + i)) v) w' := fun h1 h5 h2 => ⟨default, fun h => absurd h h5, fun ob h => (by rw [h1] at h; cases h), .refl _ _, by rw [h2]⟩
        rcases hcs with rfl | rfl | rfl | rfl | rfl | rfl | rfl | rfl | rfl | rfl | rfl | rfl | rfl | rfl | rfl | rfl | rfl | rfl | rfl
        · cases Option.some.inj ho
          exact op_fieldAddr rfl (by kernel_rfl) h4 (op_nil (hpure rfl (by decide) rfl))
        · cases Option.some.inj ho
          exact op_ld rfl ag_3_SeY (hsl 0 (by simp [sAnc])) (by rw [cell_bl hc4]; rfl) (op_nil (hpure rfl (by decide) rfl))
        · cases Option.some.inj ho
          refine op_build0 rfl el_26_SeY sz_92_SeY (Ctx.start w' []) fun b w2 H O => ?_
          have hbb := H.blk (b, _) (List.mem_cons_self ..)
          exact op_nil ⟨⟨b, 0, []⟩, (fun h => by cases h), fun ob h => (by obtain rfl := Option.some.inj h; exact ⟨(H.own _ (List.mem_cons_self ..)).elim (fun h => by cases h) id, hbb⟩), H.ext, rfl⟩
        · cases Option.some.inj ho
          exact op_fieldAddr rfl (by kernel_rfl) h4 (op_nil (hpure rfl (by decide) rfl))
        · cases Option.some.inj ho
          exact op_ld rfl ag_26_SeY (hsl 3 (by simp [sAnc])) (by rw [cell_bl hc4]; rfl) (op_nil (hpure rfl (by decide) rfl))
        · cases Option.some.inj ho
          have h16 : e'.g 16 = .slice (some ⟨(B 2).b, 0, none⟩) 0 0 := hsl 2 (by simp [sAnc])
          have h18 : e'.g 18 = .slice a es.length c := hsl 4 (by simp [sAnc])
          by_cases hn : es.length = 0
          · rw [hn] at h18
            exact op_append00 rfl el_26_SeY el_26_SeY sz_92_SeY h16 h18 (op_nil ⟨default, fun _ => .inl hn, fun ob h => (by simp [sObj, hn] at h), .refl _ _, by simp [sVal, sQ, hn, updB]⟩)
          · refine op_append0 rfl el_26_SeY el_26_SeY sz_92_SeY by_92_SeY zc_92_SeY rfl (by decide) (es.flatMap encE) h16 h18 (by omega) (flat_len fun _ _ => rfl) (Rd.app (R.ext0 ((H.ext.trans (Ext.drew [] _)).trans hx)) (fun _ _ => rfl) (by decide)) (by omega) fun b c' full' w2 hb hx2 hbl2 O2 => ?_
            exact op_nil ⟨⟨b, c', full'⟩, fun _ => .inr O2, fun ob h => (by simp only [sObj, hn] at h; simp at h; subst h; exact ⟨by dsimp only; omega, by dsimp only; rw [updB_same]; exact hbl2⟩), hx2, by simp [sVal, sQ, hn, updB]⟩
        · cases Option.some.inj ho
          refine op_buildS [.int .i64 (N : Int), .slice (some ⟨(sQ es.length B).b, 0, none⟩) es.length (sQ es.length B).c] rfl pl_28_SeY zc_28_SeY ?_ (op_nil (hpure rfl (by decide) rfl))
          show Instr.fill _ _ [(0, e'.g 15), (1, e'.g 19)] = _
          rw [show e'.g 15 = .int .i64 (N : Int) from hsl 1 (by simp [sAnc]), show e'.g 19 = .slice (some ⟨(sQ es.length B).b, 0, none⟩) es.length (sQ es.length B).c from hsl 5 (by simp [sAnc])]
          rfl
        · cases Option.some.inj ho
          exact op_fieldAddr rfl (by kernel_rfl) h4 (op_nil (hpure rfl (by decide) rfl))
        · cases Option.some.inj ho
          exact op_ld rfl ag_26_SeY (hsl 7 (by simp [sAnc])) (by rw [cell_bl hc4]; rfl) (op_nil (hpure rfl (by decide) rfl))
        · cases Option.some.inj ho
          exact op_len rfl el_26_SeY (hsl 8 (by simp [sAnc])) (op_nil (hpure rfl (by decide) rfl))
        · cases Option.some.inj ho
          refine op_make rfl el_29_SeY sz_2_SeY by_2_SeY zc_2_SeY (hsl 9 (by simp [sAnc])) (hsl 9 (by simp [sAnc])) (by omega) (by omega) (by omega) (by omega) (Ctx.start w' []) fun b w2 hb H => ?_
          have hbb := H.get at0
          rw [show ((es.length : Nat) : Int).toNat = es.length from rfl, rep_range] at hbb
          exact op_nil ⟨⟨b, 0, []⟩, (fun h => by cases h), fun ob h => (by obtain rfl := Option.some.inj h; exact ⟨by dsimp only; omega, hbb⟩), H.ext, rfl⟩
        · cases Option.some.inj ho
          exact op_fieldAddr rfl (by kernel_rfl) h4 (op_nil (hpure rfl (by decide) rfl))
        · cases Option.some.inj ho
          exact op_ld rfl ag_3_SeY (hsl 11 (by simp [sAnc])) (by rw [cell_bl hc4]; rfl) (op_nil (hpure rfl (by decide) rfl))
        · cases Option.some.inj ho
          refine op_make rfl el_29_SeY sz_2_SeY by_2_SeY zc_2_SeY (hsl 12 (by simp [sAnc])) (hsl 12 (by simp [sAnc])) (by omega) (by omega) (by omega) (by omega) (Ctx.start w' []) fun b w2 hb H => ?_
          have hbb := H.get at0
          rw [show ((N : Nat) : Int).toNat = N from rfl, rep_range] at hbb
          exact op_nil ⟨⟨b, 0, []⟩, (fun h => by cases h), fun ob h => (by obtain rfl := Option.some.inj h; exact ⟨by dsimp only; omega, hbb⟩), H.ext, rfl⟩
        · cases Option.some.inj ho
          exact op_fieldAddr rfl (by kernel_rfl) h4 (op_nil (hpure rfl (by decide) rfl))
        · cases Option.some.inj ho
          exact op_ld rfl ag_3_SeY (hsl 14 (by simp [sAnc])) (by rw [cell_bl hc4]; rfl) (op_nil (hpure rfl (by decide) rfl))
        · cases Option.some.inj ho
          refine op_make rfl el_29_SeY sz_2_SeY by_2_SeY zc_2_SeY (hsl 15 (by simp [sAnc])) (hsl 15 (by simp [sAnc])) (by omega) (by omega) (by omega) (by omega) (Ctx.start w' []) fun b w2 hb H => ?_
          have hbb := H.get at0
          rw [show ((N : Nat) : Int).toNat = N from rfl, rep_range] at hbb
          exact op_nil ⟨⟨b, 0, []⟩, (fun h => by cases h), fun ob h => (by obtain rfl := Option.some.inj h; exact ⟨by dsimp only; omega, hbb⟩), H.ext, rfl⟩
        · cases Option.some.inj ho
          refine op_buildS (sSC N es.length B) rfl pl_170_SeY zc_170_SeY ?_ (op_nil (hpure rfl (by decide) rfl))
          show Instr.fill _ _ [(0, e'.g 20), (1, e'.g 24), (2, e'.g 27), (3, e'.g 30)] = _
          rw [show e'.g 20 = .agg #[.int .i64 (N : Int), .slice (some ⟨(sQ es.length B).b, 0, none⟩) es.length (sQ es.length B).c] from hsl 6 (by simp [sAnc]), show e'.g 24 = .slice (some ⟨(B 10).b, 0, none⟩) es.length es.length from hsl 10 (by simp [sAnc]), show e'.g 27 = .slice (some ⟨(B 13).b, 0, none⟩) N N from hsl 13 (by simp [sAnc]), show e'.g 30 = .slice (some ⟨(B 16).b, 0, none⟩) N N from hsl 16 (by simp [sAnc])]
          rfl
        · cases Option.some.inj ho
          refine op_box rfl (sSC N es.length B) (.agg _) (hsl 17 (by simp [sAnc])) rfl (Ctx.start w' []) fun b w2 hb H => ?_
          exact op_nil ⟨⟨b, 0, []⟩, (fun h => by cases h), fun ob h => (by obtain rfl := Option.some.inj h; exact ⟨by dsimp only; omega, H.get at0⟩), H.ext, rfl⟩
      · intro o e' w' B ho A
        have hl1 := heap_lt hb1
        have hl2 := heap_lt (H.get at0)
        have h9 : w.drew.heap.size = w.heap.size := rfl
        obtain ⟨iq, hiq, hqb, hqh, hqo, O5⟩ : ∃ iq, (iq = 2 ∨ iq = 5) ∧ (sQ es.length B).b = (B iq).b ∧ w'.heap[(B iq).b]? = some (Bl 92 (sQ es.length B).f) ∧ (sObj N es.length iq ≠ none) ∧ OS (some ⟨(sQ es.length B).b, 0, none⟩) es.length (sQ es.length B).c 4 (sQ es.length B).f (es.flatMap encE) := by
          by_cases hn : es.length = 0
          · have he : es = [] := List.eq_nil_of_length_eq_zero hn
            have hsq : sQ es.length B = ⟨(B 2).b, 0, []⟩ := if_pos hn
            rw [hsq]
            refine ⟨2, .inl rfl, rfl, (A.blk 2 _ (by omega) trivial (show sObj N es.length 2 = some _ from rfl)).1, by simp [sObj], ?_⟩
            subst he
            exact ⟨(fun q hq => by injection hq with hq; subst hq; rfl), (fun h => by cases h), rfl, Nat.le_refl _, rfl⟩
          · have hsq : sQ es.length B = B 5 := if_neg hn
            have ho5 : sObj N es.length 5 = some fun B => Bl 92 (B 5).f := by simp [sObj, hn]
            rw [hsq]
            exact ⟨5, .inr rfl, rfl, (A.blk 5 _ (by omega) trivial ho5).1, by rw [ho5]; simp, (A.good 5 (by omega) trivial rfl).resolve_left hn⟩
        have hiq19 : iq < 19 := by omega
        have ob10 : sObj N es.length 10 ≠ none := by simp [sObj]
        have ob13 : sObj N es.length 13 ≠ none := by simp [sObj]
        have ob16 : sObj N es.length 16 ≠ none := by simp [sObj]
        have ob18 : sObj N es.length 18 ≠ none := by simp [sObj]
        have hne := fun i j hi hj hij oi oj => A.ne i j hi hj hij trivial trivial oi oj
        have k10 := A.blk 10 _ (by omega) trivial (show sObj N es.length 10 = some _ from rfl)
        have k13 := A.blk 13 _ (by omega) trivial (show sObj N es.length 13 = some _ from rfl)
        have k16 := A.blk 16 _ (by omega) trivial (show sObj N es.length 16 = some _ from rfl)
        have k18 := A.blk 18 _ (by omega) trivial (show sObj N es.length 18 = some _ from rfl)
        have kq : w.heap.size ≤ (B iq).b := by
          cases hoq : sObj N es.length iq with
          | none => exact absurd hoq hqo
          | some ob => exact (A.blk iq ob hiq19 trivial hoq).2
        have hs0 := H.size
        have n10_16 := hne 10 16 (by omega) (by omega) (by omega) ob10 ob16
        have n10_q := hne 10 iq (by omega) hiq19 (by omega) ob10 hqo
        have n10_18 := hne 10 18 (by omega) (by omega) (by omega) ob10 ob18
        have n10_13 := hne 10 13 (by omega) (by omega) (by omega) ob10 ob13
        have n16_q := hne 16 iq (by omega) hiq19 (by omega) ob16 hqo
        have n16_18 := hne 16 18 (by omega) (by omega) (by omega) ob16 ob18
        have n16_13 := hne 16 13 (by omega) (by omega) (by omega) ob16 ob13
        have nq_18 := hne iq 18 hiq19 (by omega) (by omega) hqo ob18
        have nq_13 := hne iq 13 hiq19 (by omega) (by omega) hqo ob13
        have n18_13 := hne 18 13 (by omega) (by omega) (by omega) ob18 ob13
        have n12 := H.ne at0 at1 (by decide)
        have hb20 := (H.own _ (List.mem_cons_self ..)).elim (fun h => by cases h) id
        have hb10 := (H.own _ (List.mem_cons_of_mem _ (List.mem_cons_self ..))).elim (fun h => by cases h) id
        have Hc : Ctx w0 [] w' [((B 10).b, Bl 2 (tabV (fun _ => 0) es.length)), ((B 16).b, Bl 2 (tabV (fun _ => 0) N)), ((B iq).b, Bl 92 (sQ es.length B).f), ((B 18).b, Bl 170 (sSC N es.length B)), ((B 13).b, Bl 2 (tabV (fun _ => 0) N)), (b2, Bl 31 [.slice none 0 0, .slice none 0 0]), (b1, Bl 28 [.int .i64 (N : Int), .slice a es.length c])] := by
          refine ⟨(H.ext.trans (Ext.drew [] _)).trans A.ext, fun x hx => ?_, ?_, fun x hx => .inr ?_⟩
          · simp only [List.mem_cons, List.not_mem_nil, or_false] at hx
            rcases hx with rfl | rfl | rfl | rfl | rfl | rfl | rfl
            · exact k10.1
            · exact k16.1
            · exact hqh
            · exact k18.1
            · exact k13.1
            · exact A.ext.to (H.get at0) (by simp)
            · exact A.ext.to hb1 (by simp)
          · simp only [List.pairwise_cons, List.mem_cons, List.not_mem_nil, or_false, forall_eq_or_imp, forall_eq, List.Pairwise.nil, false_imp_iff, implies_true, and_true]
            refine ⟨⟨n10_16, n10_q, n10_18, n10_13, ?_, ?_⟩, ⟨n16_q, n16_18, n16_13, ?_, ?_⟩, ⟨nq_18, nq_13, ?_, ?_⟩, ⟨n18_13, ?_, ?_⟩, ⟨?_, ?_⟩, n12⟩ <;> omega
          · simp only [List.mem_cons, List.not_mem_nil, or_false] at hx
            rcases hx with rfl | rfl | rfl | rfl | rfl | rfl | rfl <;> (dsimp only; omega)
        cases Option.some.inj ho
        refine op_assign rfl (ptr (B 18).b) (A.slot 18 (by omega) trivial) (op_nil ⟨((B 18).b, (B 10).b, (B 13).b, (B 16).b, (sQ es.length B).b, (sQ es.length B).c, (sQ es.length B).f), A.ds, ⟨rfl, trivial⟩, O5, ?_⟩)
        dsimp only
        rw [hqb]
        have hsc : sSC N es.length B = SC N (some ⟨(B iq).b, 0, none⟩) es.length (sQ es.length B).c (B 10).b (B 13).b (B 16).b 0 := by unfold sSC; rw [hqb]
        rw [hsc] at Hc
        exact Hc
    · rintro ⟨bs, bf, bp, bo, q, ce, full⟩ j w ⟨O, H⟩; dsimp only at O H; dsimp only
      obtain ⟨g, hg⟩ : ∃ g, g = grE (N : Int) es := ⟨_, rfl⟩
      have hgE : g.E = es.length := by rw [hg]; rfl
      have hgN : g.N = N := by rw [hg]; rfl
      have hgo : g.Ok := by rw [hg]; exact grE_ok hr
      have hcb := cap_bnd hr
      rw [← hg]
      refine W_rseq ?_
      refine op_assign rfl (.int _ _) rfl ?_
      refine op_nil (at_then ?_)
      refine W_seq ?_
      refine W_rseq ?_
      refine op_fieldAddr rfl fo_28_1_SeY rfl ?_
      refine op_ldb rfl ag_26_SeY rfl H (by first | exact at0 | exact at1 | exact at2 | exact at3 | exact at4 | exact at5 | exact at6 | exact at7 | exact at8 | exact at9) rfl ?_
      refine op_len rfl el_26_SeY rfl ?_
      refine op_move rfl (.int _ _) rfl ?_
      refine op_nil (at_then ?_)
      refine W_block ?_
      refine W_loop 72057525318451648 (α := Nat × Nat × List Value) (fun t => [(36, .int .i64 (t.1 : Int)), (6, .int .i64 (t.2.1 : Int))]) (fun t w' => t.1 ≤ es.length ∧ OS (some ⟨q, 0, none⟩) es.length ce 4 t.2.2 ((esC es (capW (capE es) (fun _ => 0) t.1)).flatMap encE) ∧ (∀ j, j < t.1 → (capE es j).toNat < 2 ^ t.2.1) ∧ t.2.1 ≤ 64 ∧ Ctx w0 [] w' [(bf, Bl 2 (tabV (fun _ => 0) es.length)), (bo, Bl 2 (tabV (fun _ => 0) N)), (q, Bl 92 t.2.2), (bs, Bl 170 (SC N (some ⟨q, 0, none⟩) es.length ce bf bp bo 0)), (bp, Bl 2 (tabV (fun _ => 0) N)), (b2, Bl 31 [.slice none 0 0, .slice none 0 0]), (b1, Bl 28 [.int .i64 (N : Int), .slice a es.length c])]) (fun t => es.length - t.1) (0, 0, full) rfl ?_ ?_ ?_
      · exact ⟨rfl, rfl, trivial⟩
      · refine ⟨Nat.zero_le _, ?_, fun j h => absurd h (Nat.not_lt_zero _), by dsimp only; omega, H⟩
        rw [esC_congr (d := capE es) fun i _ => by unfold capW; rw [if_neg (Nat.not_lt_zero _)], esC_self]
        exact O
      · rintro ⟨i, m, full⟩ j w ⟨hi, O, hm, hm6, H⟩; dsimp only at hi O hm hm6 H; dsimp only
        refine W_rseq ?_
        refine op_lss rfl rfl rfl ?_
        refine op_nil (at_then ?_)
        refine W_seq ?_
        refine W_cond _ rfl ?_ ?_
        · intro h2
          replace h2 := dec_t h2
          have hil : i < es.length := by omega
          obtain ⟨e, he⟩ := get_some hil
          have hee := edge_of (hall e (List.mem_of_getElem? he))
          obtain ⟨cc, hcc⟩ : ∃ cc : Nat, e.cap = cc := ⟨e.cap.toNat, by omega⟩
          have henc : encE e = [.int .i64 e.f, .int .i64 e.t, .int .i64 (cc : Int), .int .i64 e.cost] := by unfold encE; rw [hcc]
          have hOl := O.len
          have hOe := O.le
          refine W_skip (at_then ?_)
          refine W_seq ?_
          refine W_block ?_
          refine W_rseq ?_
          refine op_move rfl (.int _ _) rfl ?_
          first | refine op_indexRd R rfl el_26_SeY sz_92_SeY rfl rfl (by omega) (by omega) (by first | rfl | omega) ?_ | refine op_indexAddr rfl el_26_SeY sz_92_SeY rfl rfl (by omega) (by omega) ?_
          first | refine op_ldN _ rfl ag_92_SeY sz_92_SeY rfl rfl (Rd.rowE (R.ext0 H.ext) he henc rfl) ?_ | refine op_ldbN rfl ag_92_SeY sz_92_SeY rfl H (by first | exact at0 | exact at1 | exact at2 | exact at3 | exact at4 | exact at5 | exact at6 | exact at7 | exact at8 | exact at9) rfl ?_
          refine op_alloc rfl zc_92_SeY H ?_
          rintro b8 w - H
          refine op_assign rfl (.int _ _) rfl ?_
          refine op_stb0 rfl sz_92_SeY rfl rfl rfl (by simp [oneCell]) H (by first | exact at0 | exact at1 | exact at2 | exact at3 | exact at4 | exact at5 | exact at6 | exact at7 | exact at8 | exact at9) rfl ?_
          rintro w H
          refine op_nil (at_then ?_)
          refine W_rseq ?_
          refine op_move rfl (.pointer _) rfl ?_
          refine op_nilCheck rfl rfl ?_
          refine op_fieldAddr rfl fo_170_0_SeY rfl ?_
          refine op_fieldAddr rfl fo_28_1_SeY rfl ?_
          refine op_ldb rfl ag_26_SeY rfl H (by first | exact at0 | exact at1 | exact at2 | exact at3 | exact at4 | exact at5 | exact at6 | exact at7 | exact at8 | exact at9) rfl ?_
          refine op_move rfl (.int _ _) rfl ?_
          first | refine op_indexRd R rfl el_26_SeY sz_92_SeY rfl rfl (by omega) (by omega) (by first | rfl | omega) ?_ | refine op_indexAddr rfl el_26_SeY sz_92_SeY rfl rfl (by omega) (by omega) ?_
          refine op_fieldAddr rfl fo_92_2_SeY rfl ?_
          refine op_stb (.int _ _) rfl sz_2_SeY rfl rfl rfl H at3 (by omega) ?_
          rintro w H
          refine op_nil (at_then ?_)
          refine W_region ?_
          refine op_move rfl (.int _ _) rfl ?_
          refine op_fieldAddr rfl fo_92_2_SeY rfl ?_
          refine op_ldb rfl ag_2_SeY rfl H (by first | exact at0 | exact at1 | exact at2 | exact at3 | exact at4 | exact at5 | exact at6 | exact at7 | exact at8 | exact at9) rfl ?_
          refine op_conv_u64 rfl rfl un_2_SeY un_24_SeY (by omega) (by omega) ?_
          refine op_call rfl ca_118_SeY (len64_ok cc (by omega) _) rfl ?_
          rintro v w ⟨r, rfl, hr1, hr2, -, rfl⟩
          refine op_max2 rfl rfl rfl ?_
          refine op_assign rfl (.int _ _) rfl ?_
          refine op_nil (at_block (at_then ?_))
          refine W_region ?_
          refine op_add_i64 rfl rfl rfl (by omega) (by omega) ?_
          refine op_move rfl (.int _ _) rfl ?_
          refine op_nil (at_then ?_)
          rw [show 0 + ((i : Int)).toNat * 4 + 2 = i * 4 + 2 by omega] at H
          have O1 := OS.setf O (y := edC es (capW (capE es) (fun _ => 0) (i + 1)) i) (j := 2) (v := .int .i64 0) (fun _ => rfl) (esC_get (c := capW (capE es) (fun _ => 0) i) hil) (by decide) (by unfold edC encE capW; dsimp only; rw [if_pos (by omega)]; rfl)
          rw [esC_set rfl (fun j _ hj => capW_ne hj)] at O1
          have hce : capE es i = (cc : Int) := by unfold capE; rw [getD_of he, hcc]
          refine ⟨(i + 1, max m r, full.set (i * 4 + 2) (.int .i64 0)), rfl, ⟨rfl, congrArg (Value.int .i64) (by dsimp only; omega), trivial⟩, ⟨by dsimp only; omega, O1, fun j hj => ?_, by dsimp only; omega, H.tail⟩, by dsimp only; omega⟩
          dsimp only at hj ⊢
          by_cases ej : j = i
          · subst ej
            rw [hce]
            exact Nat.lt_of_lt_of_le (by omega) (Nat.pow_le_pow_right (by decide) (Nat.le_max_right m r))
          · exact Nat.lt_of_lt_of_le (hm j (by omega)) (Nat.pow_le_pow_right (by decide) (Nat.le_max_left m r))
        · intro h2
          replace h2 := dec_f h2
          obtain rfl : i = es.length := by omega
          rw [esC_congr (d := capK es m) fun i hi => by unfold capW capK; rw [if_pos hi, Nat.div_eq_of_lt (hm i hi)]; rfl] at O
          refine W_exit (exit_then (exit_then (exit_here (at_then ?_))))
          refine W_rseq ?_
          refine op_move rfl (.int _ _) rfl ?_
          refine op_assign rfl (.int _ _) rfl ?_
          refine op_nil (at_then ?_)
          refine W_seq ?_
          refine W_label (at_then ?_)
          refine W_seq ?_
          refine W_block ?_
          refine W_loop 147429837401600557568 (α := PSt) (fun t => [(9, .int .i64 (t.j : Int))]) (fun t w' => t.j ≤ 64 ∧ OS (some ⟨q, 0, none⟩) es.length ce 4 t.full ((esC es (capK es t.j)).flatMap encE) ∧ Fine g (capK es t.j) t.x t.p ∧ (∀ v, v < N → over7 g t.x v = 0) ∧ (∀ v, v < N → t.ov v = 0) ∧ (∀ v, v < N → -1073741824 ≤ t.p v ∧ t.p v ≤ 1073741824) ∧ Ctx w0 [] w' [(bf, Bl 2 (tabV (t.x) es.length)), (bo, Bl 2 (tabV (t.ov) N)), (q, Bl 92 t.full), (bs, Bl 170 (SC N (some ⟨q, 0, none⟩) es.length ce bf bp bo t.kk)), (bp, Bl 2 (tabV (t.p) N)), (b2, Bl 31 [.slice none 0 0, .slice none 0 0]), (b1, Bl 28 [.int .i64 (N : Int), .slice a es.length c])]) (fun t => t.j) ⟨m, full, fun _ => 0, fun _ => 0, fun _ => 0, 0⟩ rfl ?_ ?_ ?_
          · exact ⟨rfl, trivial⟩
          · refine ⟨hm6, O, ⟨fun i hi => ⟨Int.le_refl _, (capK_in hr m i (by omega)).1⟩, fun a ha hra => ?_⟩, fun v _ => over_nil g v, fun _ _ => rfl, fun _ _ => ⟨by dsimp only; omega, by dsimp only; omega⟩, H⟩
            exfalso
            unfold roomA at hra
            have hai : a / 2 < es.length := by omega
            have hk0 : capK es m (a / 2) = 0 := by unfold capK; rw [Nat.div_eq_of_lt (hm _ hai)]; rfl
            dsimp only at hra
            rw [hk0] at hra
            split at hra <;> omega
          · rintro ⟨j, full, x, p, ov, kk⟩ jj w ⟨hj6, O, hF, hx0, hov, hpb, H⟩; dsimp only at hj6 O hF hx0 hov hpb H; dsimp only
            rcases j with _ | j
            · skip
              refine W_block ?_
              refine W_seq ?_
              refine W_rseq ?_
              refine op_move rfl (.int _ _) rfl ?_
              refine op_sub_i64 rfl rfl rfl (by omega) (by omega) ?_
              refine op_assign rfl (.int _ _) rfl ?_
              refine op_nil (at_then ?_)
              refine W_rseq ?_
              refine op_move rfl (.int _ _) rfl ?_
              refine op_lss rfl rfl rfl ?_
              refine op_nil (at_then ?_)
              refine W_cond _ rfl ?_ ?_
              · intro h3
                replace h3 := dec_t h3
                refine W_exit (exit_then (exit_pass rfl (exit_then (exit_here (at_then ?_)))))
                refine W_sseqz [([0, 1, 2, 3, 4, 5, 6, 7, 8, 9, 10, 11, 12], 13), ([14], 15)] (fun z => z.heap[bs]? = some (Bl 170 (SC N (some ⟨q, 0, none⟩) es.length ce bf bp bo kk))) [] mixed_SeY (by kernel_rfl) (H.drew.get at3) ?_
                refine seg_cons rfl rfl ?_
                refine t_move rfl (.pointer _) rfl ?_
                refine t_nilCheck rfl rfl ?_
                refine t_fieldAddr rfl fo_170_1_SeY rfl ?_
                first | refine t_ldb rfl ag_29_SeY rfl True.intro (by first | exact at0 | exact at1 | exact at2 | exact at3 | exact at4 | exact at5 | exact at6 | exact at7 | exact at8 | exact at9) rfl ?_ | refine t_ld rfl ag_29_SeY rfl (fun _ hx => (by rw [cell_bl hx]; rfl)) ?_
                refine t_move rfl (.pointer _) rfl ?_
                refine t_nilCheck rfl rfl ?_
                refine t_fieldAddr rfl fo_170_2_SeY rfl ?_
                first | refine t_ldb rfl ag_29_SeY rfl True.intro (by first | exact at0 | exact at1 | exact at2 | exact at3 | exact at4 | exact at5 | exact at6 | exact at7 | exact at8 | exact at9) rfl ?_ | refine t_ld rfl ag_29_SeY rfl (fun _ hx => (by rw [cell_bl hx]; rfl)) ?_
                refine t_buildS [.slice (some ⟨bf, 0, none⟩) es.length es.length, .slice (some ⟨bp, 0, none⟩) N N] rfl pl_31_SeY zc_31_SeY rfl ?_
                refine t_move rfl (.pointer _) rfl ?_
                refine t_nilCheck rfl rfl ?_
                refine t_fieldAddr rfl fo_170_4_SeY rfl ?_
                first | refine t_ldb rfl ag_3_SeY rfl True.intro (by first | exact at0 | exact at1 | exact at2 | exact at3 | exact at4 | exact at5 | exact at6 | exact at7 | exact at8 | exact at9) rfl ?_ | refine t_ld rfl ag_3_SeY rfl (fun _ hx => (by rw [cell_bl hx]; rfl)) ?_
                refine t_nil ?_
                replace H := H.drew
                refine op_stb0 rfl sz_31_SeY rfl rfl rfl (by simp [oneCell]) H (by first | exact at0 | exact at1 | exact at2 | exact at3 | exact at4 | exact at5 | exact at6 | exact at7 | exact at8 | exact at9) rfl ?_
                rintro w H
                refine op_nil (at_seg (H.get at3) ?_)
                refine seg_cons rfl rfl ?_
                refine t_assign rfl (.int _ _) rfl ?_
                refine t_nil ?_
                refine op_assign rfl (.int _ _) rfl ?_
                refine op_nil (at_seg (H.get at3) ?_)
                refine seg_nil ?_
                refine W_ret (ret_scope (leave3b rfl rfl rfl ag_31_SeY sz_31_SeY H (by first | exact at0 | exact at1 | exact at2 | exact at3 | exact at4 | exact at5 | exact at6 | exact at7 | exact at8 | exact at9) rfl (show _ = (.int _ _) from rfl) (show _ = (.int _ _) from rfl) ?_))
                refine ⟨bf, bp, x, p, kk, rfl, fine_caps hF fun i hi => (capK_zero hr i (by omega)).symm, hx0, hpb, H.sub (fun y hy => ?_) ?_⟩
                · simp only [List.mem_cons, List.not_mem_nil, or_false] at hy
                  rcases hy with rfl | rfl
                  · exact List.mem_of_getElem? (i := 0) rfl
                  · exact List.mem_of_getElem? (i := 4) rfl
                · simp only [List.pairwise_cons, List.mem_singleton, forall_eq, List.not_mem_nil, false_imp_iff, implies_true, List.Pairwise.nil, and_true]
                  exact H.ne at0 at4 (by decide)
              · intro h3
                replace h3 := dec_f h3
                omega
            · skip
              refine W_block ?_
              refine W_seq ?_
              refine W_rseq ?_
              refine op_move rfl (.int _ _) rfl ?_
              refine op_sub_i64 rfl rfl rfl (by omega) (by omega) ?_
              rw [show ((j + 1 : Nat) : Int) - 1 = (j : Int) by omega]
              refine op_assign rfl (.int _ _) rfl ?_
              refine op_nil (at_then ?_)
              refine W_rseq ?_
              refine op_move rfl (.int _ _) rfl ?_
              refine op_lss rfl rfl rfl ?_
              refine op_nil (at_then ?_)
              refine W_cond _ rfl ?_ ?_
              · intro h3
                replace h3 := dec_t h3
                omega
              · intro h3
                replace h3 := dec_f h3
                have hF1 := finer_fine hF (cap' := capK es j) fun i _ => capK_half es j i
                obtain ⟨x1, hx1⟩ : ∃ x1, x1 = finX g (capK es j) x p := ⟨_, rfl⟩
                refine W_skip (at_then ?_)
                refine W_rseq ?_
                refine op_move rfl (.pointer _) rfl ?_
                first | refine op_ldN _ rfl ag_28_SeY sz_28_SeY rfl rfl (Rd.rowE (R.ext0 H.ext) he henc rfl) ?_ | refine op_ldbN rfl ag_28_SeY sz_28_SeY rfl H (by first | exact at0 | exact at1 | exact at2 | exact at3 | exact at4 | exact at5 | exact at6 | exact at7 | exact at8 | exact at9) rfl ?_
                refine op_move rfl (.int _ _) rfl ?_
                refine op_call rfl ca_119_SeY (finer_ok (bf := bf) (bo := bo) (ae := some ⟨q, 0, none⟩) (Ctx.lend (L1 := [_, _, _]) (L2 := [_, _, _, _]) H) O (H.get at3) (nd_app2 (L := [_, _, _]) H.nd (x := (bs, _)) (List.mem_of_getElem? (i := 0) rfl)) (H.get at4) (nd_app2 (L := [_, _, _]) H.nd (x := (bp, _)) (List.mem_of_getElem? (i := 1) rfl)) (R.ext0 H.ext) (fun hne hm => by have h7 := Rd.lt R hne (fun x _ => ⟨_, rfl⟩) (by decide); have h8 := (Ctx.left (L := [_, _, _]) (L' := [_, _, _, _]) H).own; obtain ⟨y, hy, he⟩ := List.mem_map.1 hm; rcases h8 y hy with h | h; cases h; omega) hr (by omega) (fun i _ => capK_half es j i) (by rw [← hg]; exact hF) (by rw [← hg]; exact hx0) hov hpb) rfl ?_
                rintro rv w ⟨rfl, full', O', H2⟩
                rw [← hg] at H2
                replace H := Ctx.back (L1 := [_, _, _]) (L2 := [_, _, _, _]) H H2
                refine op_nil (at_then ?_)
                refine W_block ?_
                rw [← hx1] at hF1 H
                refine W_loop 110680464442257309696 (α := FSt) (fun _ => []) (fun t w' => Fine g (capK es j) t.x t.p ∧ (∀ v, v < N → t.ov v = over7 g t.x v) ∧ (∀ v, v < N → -1073741824 ≤ t.p v ∧ t.p v ≤ 1073741824) ∧ Ctx w0 [] w' [(bf, Bl 2 (tabV (t.x) es.length)), (bo, Bl 2 (tabV (t.ov) N)), (q, Bl 92 full'), (bs, Bl 170 (SC N (some ⟨q, 0, none⟩) es.length ce bf bp bo t.kk)), (bp, Bl 2 (tabV (t.p) N)), (b2, Bl 31 [.slice none 0 0, .slice none 0 0]), (b1, Bl 28 [.int .i64 (N : Int), .slice a es.length c])]) (fun t => (excess g t.x).toNat) ⟨x1, p, over7 g x1, kk⟩ rfl ?_ ?_ ?_
                · exact trivial
                · exact ⟨hF1, fun _ _ => rfl, hpb, H⟩
                · rintro ⟨x, p, ov, kk⟩ jj2 w ⟨hF, hov, hpb, H⟩; dsimp only at hF hov hpb H; dsimp only
                  refine W_seq ?_
                  refine W_rseq ?_
                  refine op_move rfl (.pointer _) rfl ?_
                  have Hq := H.perm perm5
                  refine op_call rfl ca_120_SeY (fill_w (bs := bs) (bf := bf) (bp := bp) (bo := bo) (N := N) (n := es.length) (ae := some ⟨q, 0, none⟩) (ce := ce) (es := esC es (capK es j)) (g := g) (cap := capK es j) (esC_len es _) (by rw [grE_C, ← hg]) (fun i hi => capE_C hi) (Ctx.lend (L1 := [_, _, _, _, _]) (L2 := [_, _]) Hq) O' (right_C hr (capK_in hr j)) hF hov hpb) rfl ?_
                  rintro rv w ⟨b, x', p', ov', kk', rfl, H2, hF', hov', hpb', hb0, hb1⟩
                  replace H := (Ctx.back (L1 := [_, _, _, _, _]) (L2 := [_, _]) Hq H2).perm perm5.symm
                  refine op_nil (at_then ?_)
                  refine W_cond _ rfl ?_ ?_
                  · intro h4
                    refine W_skip (at_then ?_)
                    refine W_block ?_
                    refine W_skip (at_block (at_then ?_))
                    have h5 := hb1 h4
                    have h6 := excess_nn g x'
                    exact ⟨⟨x', p', ov', kk'⟩, rfl, trivial, ⟨hF', hov', hpb', H⟩, by dsimp only; omega⟩
                  · intro h4
                    refine W_exit (exit_then (exit_then (exit_here (at_block (at_then ?_)))))
                    have hz : ∀ v, v < N → over7 g x' v = 0 := fun v hv => excess_zero hgo (fun u hu => hb0 h4 u (by omega)) v (by omega)
                    exact ⟨⟨j, full', x', p', ov', kk'⟩, rfl, ⟨rfl, trivial⟩, ⟨by dsimp only; omega, O', hF', hz, fun v hv => (hov' v hv).trans (hz v hv), hpb', H⟩, by dsimp only; omega⟩

end Go.Proofs.YtapphbmlkdhnmaaGreat
