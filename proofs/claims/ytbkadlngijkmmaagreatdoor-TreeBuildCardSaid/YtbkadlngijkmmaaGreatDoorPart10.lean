/- Part 10 of the proof. -/
import Derived.Test.YtbkadlngijkmmaaGreatDoorPart9
import Derived.Test.YtbkadlngijkmmaaGreatDoorPart7
import Derived.Test.YtbkadlngijkmmaaGreatDoorPart4
/- The document's pairs: the same, got: the walks. -/
namespace Go.Proofs.YtbkadlngijkmmaaGreatDoor
open Go.GV
theorem el_28_TrFa : elemT Tryz.prog 28 = some 70 := by kernel_rfl
theorem fo_70_0_TrFa : fieldO Tryz.prog 70 0 = some 0 := by kernel_rfl
theorem fo_70_1_TrFa : fieldO Tryz.prog 70 1 = some 1 := by kernel_rfl
theorem sz_70_TrFa : tsize Tryz.prog 70 = some 2 := by kernel_rfl
attribute [local irreducible] Wops W Wq Wt

theorem Prs.turn {w w' : World} {M M' : Mut} {a : Option Addr} {n c : Nat} {L : List Pr} (h : Prs w M a n c L) (t : Grown M M' w w') : Prs w' M' a n c L := by
  obtain ⟨ps, R, hs, hl, hm⟩ := h.ex
  obtain ⟨R', hs'⟩ := Rd.turnM R hs (by decide) (fun _ _ => rfl) t
  exact ⟨⟨ps, R', hs', hl, fun m hx => (hm m hx).turn t⟩, h.num, h.le⟩
theorem Prs.weak {w : World} {M M' : Mut} {a : Option Addr} {n c : Nat} {L : List Pr} (h : Prs w M a n c L) (hM : ∀ x, M' x → M x) : Prs w M' a n c L := by
  obtain ⟨ps, R, hs, hl, hm⟩ := h.ex
  exact ⟨⟨ps, R, hs.imp id fun h h2 => h (hM _ h2), hl, fun m hx => (hm m hx).weak hM⟩, h.num, h.le⟩
theorem Prs.nil {w : World} {M : Mut} : Prs w M none 0 0 [] := ⟨⟨[], Rd.nil, .inl rfl, rfl, fun m h => by cases h⟩, rfl, Nat.le_refl _⟩
theorem mayKey_ok (a : Option Addr) (n c : Nat) (w : World) : Ret Tryz.prog 19 #[.slice a n c] w fun v w' => v = .bool (decide (1 ≤ n) && decide (n ≤ 32)) ∧ w = w' := by
  obtain ⟨w0, rfl⟩ : ∃ w0, w0 = w := ⟨_, rfl⟩
  refine ret_of_W (fn := Tryz.f19) Tryz.func19 rfl [.slice a n c] rfl (by kernel_rfl) ?_
  refine W_rseq ?_
  refine op_assign rfl (.bool _) rfl ?_
  refine op_nil (at_then ?_)
  refine W_rseq ?_
  refine op_move rfl (.slice _ _ _) rfl ?_
  refine op_len rfl el_23 rfl ?_
  refine op_geq rfl rfl rfl ?_
  refine op_move rfl (.bool _) rfl ?_
  refine Wops_split 6 rfl ?_ ?_
  · intro h1
    replace h1 := dec_t h1
    refine op_move rfl (.slice _ _ _) rfl ?_
    refine op_len rfl el_23 rfl ?_
    refine op_leq rfl rfl rfl ?_
    refine op_pick1 rfl rfl (.bool _) rfl ?_
    refine op_assign rfl (.bool _) rfl ?_
    refine op_nil (at_then ?_)
    refine W_ret (leave1 (v := (.bool _)) rfl rfl rfl ?_)
    exact ⟨congrArg Value.bool (by rw [Bool.eq_iff_iff]; simp; omega), rfl⟩
  · intro h2
    replace h2 := dec_f h2
    refine op_skip rfl ?_
    refine op_skip rfl ?_
    refine op_skip rfl ?_
    refine op_pick0 rfl rfl (.bool _) rfl ?_
    refine op_assign rfl (.bool _) rfl ?_
    refine op_nil (at_then ?_)
    refine W_ret (leave1 (v := (.bool _)) rfl rfl rfl ?_)
    exact ⟨congrArg Value.bool (by rw [Bool.eq_iff_iff]; simp; omega), rfl⟩
theorem mayVal_ok (a : Option Addr) (n c : Nat) (w : World) : Ret Tryz.prog 37 #[.slice a n c] w fun v w' => v = .bool (decide (n ≤ 128)) ∧ w = w' := by
  obtain ⟨w0, rfl⟩ : ∃ w0, w0 = w := ⟨_, rfl⟩
  refine ret_of_W (fn := Tryz.f37) Tryz.func37 rfl [.slice a n c] rfl (by kernel_rfl) ?_
  refine W_rseq ?_
  refine op_assign rfl (.bool _) rfl ?_
  refine op_nil (at_then ?_)
  refine W_rseq ?_
  refine op_move rfl (.slice _ _ _) rfl ?_
  refine op_len rfl el_23 rfl ?_
  refine op_leq rfl rfl rfl ?_
  refine op_assign rfl (.bool _) rfl ?_
  refine op_nil (at_then ?_)
  refine W_ret (leave1 (v := (.bool _)) rfl rfl rfl ?_)
  exact ⟨congrArg Value.bool (by rw [Bool.eq_iff_iff]; simp; omega), rfl⟩

set_option maxRecDepth 20000 in
set_option maxHeartbeats 4000000 in
theorem same7_ok {w : World} {M M2 : Mut} {a b : Option Addr} {n c m d : Nat} {L K : List Pr} (PL : Prs w M a n c L) (PK : Prs w M2 b m d K) (hn : n ≤ 100000000) (hm : m ≤ 100000000) :
    Ret Tryz.prog 24 #[.slice a n c, .slice b m d] w fun v w' => v = .bool (decide (L = K)) ∧ Ext [] w w' := by
  obtain ⟨w0, rfl⟩ : ∃ w0, w0 = w := ⟨_, rfl⟩
  obtain ⟨ps, Rp, -, hl, hp⟩ := PL.ex
  obtain ⟨qs, Rq, -, hk, hq⟩ := PK.ex
  have hnL := PL.num
  have hmK := PK.num
  have hpn : ps.length = n := by rw [hnL, ← hl, List.length_map]
  have hqm : qs.length = m := by rw [hmK, ← hk, List.length_map]
  refine ret_of_W (fn := Tryz.f24) Tryz.func24 rfl [.slice a n c, .slice b m d] rfl (by kernel_rfl) ?_
  refine W_rseq ?_
  refine op_assign rfl (.bool _) rfl ?_
  refine op_nil (at_then ?_)
  refine W_seq ?_
  refine W_rseq ?_
  refine op_move rfl (.slice _ _ _) rfl ?_
  refine op_len rfl el_28_TrFa rfl ?_
  refine op_move rfl (.slice _ _ _) rfl ?_
  refine op_len rfl el_28_TrFa rfl ?_
  refine op_neq rfl rfl rfl ?_
  refine op_nil (at_then ?_)
  refine W_cond _ rfl ?_ ?_
  · intro hA
    replace hA := ndec_t hA
    refine W_rseq ?_
    refine op_assign rfl (.bool _) rfl ?_
    refine op_nil (at_then ?_)
    refine W_ret (ret_then (leave1 (v := (.bool _)) rfl rfl rfl ?_))
    exact ⟨congrArg Value.bool (decide_eq_false fun h => hA (by rw [h] at hnL; omega)).symm, .refl _ _⟩
  · intro hA
    replace hA := ndec_f hA
    have hnm : n = m := by omega
    refine W_skip (at_then ?_)
    refine W_seq ?_
    refine W_rseq ?_
    refine op_assign rfl (.int _ _) rfl ?_
    refine op_nil (at_then ?_)
    refine W_block ?_
    refine W_loop 35184372086832 (α := Nat) (fun i => [(5, .int .i64 (i : Int))]) (fun i w' => i ≤ n ∧ Ext [] w0 w' ∧ L.take i = K.take i) (fun i => n - i) 0 rfl ?_ ?_ ?_
    · exact ⟨rfl, trivial⟩
    · exact ⟨Nat.zero_le _, .refl _ _, rfl⟩
    · rintro i j w ⟨hi, hx, he⟩
      have H := (Ctx.start w [])
      refine W_seq ?_
      refine W_rseq ?_
      refine op_move rfl (.int _ _) rfl ?_
      refine op_move rfl (.slice _ _ _) rfl ?_
      refine op_len rfl el_28_TrFa rfl ?_
      refine op_lss rfl rfl rfl ?_
      refine op_nil (at_then ?_)
      refine W_cond _ rfl ?_ ?_
      · intro hB
        replace hB := dec_t hB
        obtain ⟨x, hx1⟩ := get_some (l := ps) (i := i) (by omega)
        obtain ⟨y, hy1⟩ := get_some (l := qs) (i := i) (by omega)
        have hxo := hp x (List.mem_of_getElem? hx1)
        have hyo := hq y (List.mem_of_getElem? hy1)
        have hxL : L[i]? = some (prI x.it) := by rw [← hl, List.getElem?_map, hx1]; rfl
        have hyK : K[i]? = some (prI y.it) := by rw [← hk, List.getElem?_map, hy1]; rfl
        have hxd := hx.trans (Ext.drew [] w)
        refine W_skip (at_then ?_)
        refine W_seq ?_
        refine W_block ?_
        refine W_qseq (fun x => x = _) mixed (by kernel_rfl) rfl ?_
        refine q_move rfl (.slice _ _ _) rfl ?_
        refine q_move rfl (.int _ _) rfl ?_
        first | refine q_indexRd Rp rfl el_28_TrFa sz_70_TrFa rfl rfl (by omega) (by omega) (by first | rfl | omega) ?_ | refine q_indexRd Rq rfl el_28_TrFa sz_70_TrFa rfl rfl (by omega) (by omega) (by first | rfl | omega) ?_ | refine q_indexAddr rfl el_28_TrFa sz_70_TrFa rfl rfl (by omega) (by omega) ?_
        refine q_fieldAddr rfl fo_70_0_TrFa rfl ?_
        first | refine q_ldb rfl ag_23 rfl (by rintro _ rfl; exact H.drew) (by first | exact at0 | exact at1 | exact at2 | exact at3 | exact at4 | exact at5 | exact at6 | exact at7 | exact at8 | exact at9) rfl ?_ | refine q_ld rfl ag_23 rfl (by rintro _ rfl; exact ((Rp.ext0 hxd).fld hx1 rfl (j := 0) rfl)) ?_ | refine q_ld rfl ag_23 rfl (by rintro _ rfl; exact ((Rq.ext0 hxd).fld hy1 rfl (j := 0) rfl)) ?_ | refine q_ld rfl ag_23 rfl (by rintro _ rfl; exact ((Rp.ext0 hxd).fld hx1 rfl (j := 1) rfl)) ?_ | refine q_ld rfl ag_23 rfl (by rintro _ rfl; exact ((Rq.ext0 hxd).fld hy1 rfl (j := 1) rfl)) ?_
        refine q_back (l := x.it.key) rfl el_23 un_5 un_9 rfl (by rintro _ rfl; exact hxo.k.1.ext0 hxd) ?_
        refine q_move rfl (.slice _ _ _) rfl ?_
        refine q_move rfl (.int _ _) rfl ?_
        first | refine q_indexRd Rp rfl el_28_TrFa sz_70_TrFa rfl rfl (by omega) (by omega) (by first | rfl | omega) ?_ | refine q_indexRd Rq rfl el_28_TrFa sz_70_TrFa rfl rfl (by omega) (by omega) (by first | rfl | omega) ?_ | refine q_indexAddr rfl el_28_TrFa sz_70_TrFa rfl rfl (by omega) (by omega) ?_
        refine q_fieldAddr rfl fo_70_0_TrFa rfl ?_
        first | refine q_ldb rfl ag_23 rfl (by rintro _ rfl; exact H.drew) (by first | exact at0 | exact at1 | exact at2 | exact at3 | exact at4 | exact at5 | exact at6 | exact at7 | exact at8 | exact at9) rfl ?_ | refine q_ld rfl ag_23 rfl (by rintro _ rfl; exact ((Rp.ext0 hxd).fld hx1 rfl (j := 0) rfl)) ?_ | refine q_ld rfl ag_23 rfl (by rintro _ rfl; exact ((Rq.ext0 hxd).fld hy1 rfl (j := 0) rfl)) ?_ | refine q_ld rfl ag_23 rfl (by rintro _ rfl; exact ((Rp.ext0 hxd).fld hx1 rfl (j := 1) rfl)) ?_ | refine q_ld rfl ag_23 rfl (by rintro _ rfl; exact ((Rq.ext0 hxd).fld hy1 rfl (j := 1) rfl)) ?_
        refine q_back (l := y.it.key) rfl el_23 un_5 un_9 rfl (by rintro _ rfl; exact hyo.k.1.ext0 hxd) ?_
        refine q_strne rfl rfl rfl ?_
        refine q_move rfl (.bool _) rfl ?_
        refine Wq_split 30 rfl ?_ ?_
        · intro hC
          refine q_skip rfl ?_
          refine q_skip rfl ?_
          refine q_skip rfl ?_
          refine q_skip rfl ?_
          refine q_skip rfl ?_
          refine q_skip rfl ?_
          refine q_skip rfl ?_
          refine q_skip rfl ?_
          refine q_skip rfl ?_
          refine q_skip rfl ?_
          refine q_skip rfl ?_
          refine q_skip rfl ?_
          refine q_skip rfl ?_
          refine q_pick1 rfl rfl (.bool _) rfl ?_
          refine q_nil ?_
          rintro _ rfl
          replace H := H.drew
          refine W_cond1 rfl ?_
          refine W_rseq ?_
          refine op_assign rfl (.bool _) rfl ?_
          refine op_nil (at_then ?_)
          refine W_ret (ret_block (ret_then (ret_then (ret_block (ret_then (leave1 (v := (.bool _)) rfl rfl rfl ?_))))))
          refine ⟨congrArg Value.bool (decide_eq_false fun h => (show x.it.key ≠ y.it.key by simpa using hC) ?_).symm, hx.trans H.ext⟩
          rw [h, hyK] at hxL
          exact (congrArg (fun z : Option Pr => (z.map (·.1)).getD []) hxL).symm
        · intro hC
          refine q_move rfl (.slice _ _ _) rfl ?_
          refine q_move rfl (.int _ _) rfl ?_
          first | refine q_indexRd Rp rfl el_28_TrFa sz_70_TrFa rfl rfl (by omega) (by omega) (by first | rfl | omega) ?_ | refine q_indexRd Rq rfl el_28_TrFa sz_70_TrFa rfl rfl (by omega) (by omega) (by first | rfl | omega) ?_ | refine q_indexAddr rfl el_28_TrFa sz_70_TrFa rfl rfl (by omega) (by omega) ?_
          refine q_fieldAddr rfl fo_70_1_TrFa rfl ?_
          first | refine q_ldb rfl ag_23 rfl (by rintro _ rfl; exact H.drew) (by first | exact at0 | exact at1 | exact at2 | exact at3 | exact at4 | exact at5 | exact at6 | exact at7 | exact at8 | exact at9) rfl ?_ | refine q_ld rfl ag_23 rfl (by rintro _ rfl; exact ((Rp.ext0 hxd).fld hx1 rfl (j := 0) rfl)) ?_ | refine q_ld rfl ag_23 rfl (by rintro _ rfl; exact ((Rq.ext0 hxd).fld hy1 rfl (j := 0) rfl)) ?_ | refine q_ld rfl ag_23 rfl (by rintro _ rfl; exact ((Rp.ext0 hxd).fld hx1 rfl (j := 1) rfl)) ?_ | refine q_ld rfl ag_23 rfl (by rintro _ rfl; exact ((Rq.ext0 hxd).fld hy1 rfl (j := 1) rfl)) ?_
          refine q_back (l := x.it.val) rfl el_23 un_5 un_9 rfl (by rintro _ rfl; exact hxo.v.1.ext0 hxd) ?_
          refine q_move rfl (.slice _ _ _) rfl ?_
          refine q_move rfl (.int _ _) rfl ?_
          first | refine q_indexRd Rp rfl el_28_TrFa sz_70_TrFa rfl rfl (by omega) (by omega) (by first | rfl | omega) ?_ | refine q_indexRd Rq rfl el_28_TrFa sz_70_TrFa rfl rfl (by omega) (by omega) (by first | rfl | omega) ?_ | refine q_indexAddr rfl el_28_TrFa sz_70_TrFa rfl rfl (by omega) (by omega) ?_
          refine q_fieldAddr rfl fo_70_1_TrFa rfl ?_
          first | refine q_ldb rfl ag_23 rfl (by rintro _ rfl; exact H.drew) (by first | exact at0 | exact at1 | exact at2 | exact at3 | exact at4 | exact at5 | exact at6 | exact at7 | exact at8 | exact at9) rfl ?_ | refine q_ld rfl ag_23 rfl (by rintro _ rfl; exact ((Rp.ext0 hxd).fld hx1 rfl (j := 0) rfl)) ?_ | refine q_ld rfl ag_23 rfl (by rintro _ rfl; exact ((Rq.ext0 hxd).fld hy1 rfl (j := 0) rfl)) ?_ | refine q_ld rfl ag_23 rfl (by rintro _ rfl; exact ((Rp.ext0 hxd).fld hx1 rfl (j := 1) rfl)) ?_ | refine q_ld rfl ag_23 rfl (by rintro _ rfl; exact ((Rq.ext0 hxd).fld hy1 rfl (j := 1) rfl)) ?_
          refine q_back (l := y.it.val) rfl el_23 un_5 un_9 rfl (by rintro _ rfl; exact hyo.v.1.ext0 hxd) ?_
          refine q_strne rfl rfl rfl ?_
          refine q_pick0 rfl rfl (.bool _) rfl ?_
          refine q_nil ?_
          rintro _ rfl
          replace H := H.drew
          refine W_cond _ rfl ?_ ?_
          · intro hD
            refine W_rseq ?_
            refine op_assign rfl (.bool _) rfl ?_
            refine op_nil (at_then ?_)
            refine W_ret (ret_block (ret_then (ret_then (ret_block (ret_then (leave1 (v := (.bool _)) rfl rfl rfl ?_))))))
            refine ⟨congrArg Value.bool (decide_eq_false fun h => (show x.it.val ≠ y.it.val by simpa using hD) ?_).symm, hx.trans H.ext⟩
            rw [h, hyK] at hxL
            exact (congrArg (fun z : Option Pr => (z.map (·.2)).getD []) hxL).symm
          · intro hD
            refine W_skip (at_block (at_then ?_))
            refine W_region ?_
            refine op_move rfl (.int _ _) rfl ?_
            refine op_add_i64 rfl rfl rfl (by omega) (by omega) ?_
            refine op_assign rfl (.int _ _) rfl ?_
            refine op_nil (at_then ?_)
            refine ⟨i + 1, rfl, ⟨rfl, trivial⟩, ⟨by omega, hx.trans H.ext, ?_⟩, by omega⟩
            rw [take_snoc hxL, take_snoc hyK, he]
            congr 2
            exact Prod.ext (show x.it.key = y.it.key by simpa using hC) (show x.it.val = y.it.val by simpa using hD)
      · intro hB
        replace hB := dec_f hB
        have hii : i = n := by omega
        refine W_exit (exit_then (exit_then (exit_here (at_then ?_))))
        refine W_rseq ?_
        refine op_assign rfl (.bool _) rfl ?_
        refine op_nil (at_then ?_)
        refine W_ret (leave1 (v := (.bool _)) rfl rfl rfl ?_)
        refine ⟨congrArg Value.bool (decide_eq_true ?_).symm, hx⟩
        rw [List.take_of_length_le (by omega), List.take_of_length_le (by omega)] at he
        exact he

set_option maxRecDepth 20000 in
set_option maxHeartbeats 4000000 in
theorem rget7_ok {w : World} {M M2 : Mut} {a ka : Option Addr} {n c kn kc : Nat} {L : List Pr} {key : Byt} (PL : Prs w M a n c L) (hn : n ≤ 100000000) (Rk : Rd w ka 1 B8 key) (hk : key.length = kn) (hL : Rising L) :
    Ret Tryz.prog 18 #[.slice a n c, .slice ka kn kc] w fun v w' => ∃ va vc u, v = .tuple #[.slice va (List.length u) vc, .bool (getP L key).isSome] ∧ Ext [] w w' ∧ Rdx w' M va u ∧ u.length ≤ vc ∧ u = (getP L key).getD [] := by
  subst hk
  obtain ⟨w0, rfl⟩ : ∃ w0, w0 = w := ⟨_, rfl⟩
  obtain ⟨ps, Rp, -, hl, hp⟩ := PL.ex
  have hnL := PL.num
  have hpn : ps.length = n := by rw [hnL, ← hl, List.length_map]
  refine ret_of_W (fn := Tryz.f18) Tryz.func18 rfl [.slice a n c, .slice ka key.length kc] rfl (by kernel_rfl) ?_
  refine W_rseq ?_
  refine op_assign rfl (.slice _ _ _) rfl ?_
  refine op_assign rfl (.bool _) rfl ?_
  refine op_nil (at_then ?_)
  refine W_seq ?_
  refine W_rseq ?_
  refine op_assign rfl (.int _ _) rfl ?_
  refine op_nil (at_then ?_)
  refine W_block ?_
  refine W_loop 134217712 (α := Nat) (fun i => [(6, .int .i64 (i : Int))]) (fun i w' => i ≤ n ∧ Ext [] w0 w' ∧ ∀ p ∈ L.take i, p.1 ≠ key) (fun i => n - i) 0 rfl ?_ ?_ ?_
  · exact ⟨rfl, trivial⟩
  · exact ⟨Nat.zero_le _, .refl _ _, fun p h => by cases h⟩
  · rintro i j w ⟨hi, hx, he⟩
    have H := (Ctx.start w [])
    refine W_seq ?_
    refine W_rseq ?_
    refine op_move rfl (.int _ _) rfl ?_
    refine op_move rfl (.slice _ _ _) rfl ?_
    refine op_len rfl el_28_TrFa rfl ?_
    refine op_lss rfl rfl rfl ?_
    refine op_nil (at_then ?_)
    refine W_cond _ rfl ?_ ?_
    · intro hB
      replace hB := dec_t hB
      obtain ⟨x, hx1⟩ := get_some (l := ps) (i := i) (by omega)
      have hxo := hp x (List.mem_of_getElem? hx1)
      have hxL : L[i]? = some (prI x.it) := by rw [← hl, List.getElem?_map, hx1]; rfl
      have hxd := hx.trans (Ext.drew [] w)
      refine W_skip (at_then ?_)
      refine W_seq ?_
      refine W_block ?_
      refine W_qseq (fun x => x = _) mixed (by kernel_rfl) rfl ?_
      refine q_move rfl (.slice _ _ _) rfl ?_
      refine q_move rfl (.int _ _) rfl ?_
      first | refine q_indexRd Rp rfl el_28_TrFa sz_70_TrFa rfl rfl (by omega) (by omega) (by first | rfl | omega) ?_ | refine q_indexAddr rfl el_28_TrFa sz_70_TrFa rfl rfl (by omega) (by omega) ?_
      refine q_fieldAddr rfl fo_70_0_TrFa rfl ?_
      first | refine q_ldb rfl ag_23 rfl (by rintro _ rfl; exact H.drew) (by first | exact at0 | exact at1 | exact at2 | exact at3 | exact at4 | exact at5 | exact at6 | exact at7 | exact at8 | exact at9) rfl ?_ | refine q_ld rfl ag_23 rfl (by rintro _ rfl; exact ((Rp.ext0 hxd).fld hx1 rfl (j := 0) rfl)) ?_ | refine q_ld rfl ag_23 rfl (by rintro _ rfl; exact ((Rp.ext0 hxd).fld hx1 rfl (j := 1) rfl)) ?_
      refine q_back (l := x.it.key) rfl el_23 un_5 un_9 rfl (by rintro _ rfl; exact hxo.k.1.ext0 hxd) ?_
      refine q_move rfl (.slice _ _ _) rfl ?_
      refine q_back (l := key) rfl el_23 un_5 un_9 rfl (by rintro _ rfl; exact Rk.ext0 hxd) ?_
      refine q_streq rfl rfl rfl ?_
      refine q_nil ?_
      rintro _ rfl
      replace H := H.drew
      refine W_cond _ rfl ?_ ?_
      · intro hC
        have hg : getP L key = some x.it.val := (getP_some hL).2 (by
          have := List.mem_of_getElem? hxL
          rw [← of_decide_eq_true hC]; exact this)
        refine W_rseq ?_
        refine op_move rfl (.slice _ _ _) rfl ?_
        refine op_move rfl (.int _ _) rfl ?_
        first | refine op_indexRd Rp rfl el_28_TrFa sz_70_TrFa rfl rfl (by omega) (by omega) (by first | rfl | omega) ?_ | refine op_indexAddr rfl el_28_TrFa sz_70_TrFa rfl rfl (by omega) (by omega) ?_
        refine op_fieldAddr rfl fo_70_1_TrFa rfl ?_
        first | refine op_ldb rfl ag_23 rfl H (by first | exact at0 | exact at1 | exact at2 | exact at3 | exact at4 | exact at5 | exact at6 | exact at7 | exact at8 | exact at9) rfl ?_ | refine op_ld rfl ag_23 rfl ((Rp.ext0 hxd).fld hx1 rfl (j := 0) rfl) ?_ | refine op_ld rfl ag_23 rfl ((Rp.ext0 hxd).fld hx1 rfl (j := 1) rfl) ?_
        refine op_assign rfl (.slice _ _ _) rfl ?_
        refine op_assign rfl (.bool _) rfl ?_
        refine op_nil (at_then ?_)
        refine W_ret (ret_block (ret_then (ret_then (ret_block (ret_then (leave2 (v1 := (.slice _ _ _)) (v2 := (.bool _)) rfl rfl rfl rfl ?_))))))
        have hxw := hx.trans H.ext
        exact ⟨x.va, x.vc, x.it.val, by rw [hg]; rfl, hxw, hxo.v.call hxw, hxo.vc, by rw [hg]; rfl⟩
      · intro hC
        refine W_skip (at_block (at_then ?_))
        refine W_region ?_
        refine op_move rfl (.int _ _) rfl ?_
        refine op_add_i64 rfl rfl rfl (by omega) (by omega) ?_
        refine op_assign rfl (.int _ _) rfl ?_
        refine op_nil (at_then ?_)
        refine ⟨i + 1, rfl, ⟨rfl, trivial⟩, ⟨by omega, hx.trans H.ext, fun p hp => ?_⟩, by omega⟩
        rw [take_snoc hxL] at hp
        rcases List.mem_append.1 hp with hp | hp
        · exact he p hp
        · rw [List.mem_singleton.1 hp]; exact of_decide_eq_false hC
    · intro hB
      replace hB := dec_f hB
      rw [List.take_of_length_le (by omega)] at he
      have hg : getP L key = none := by
        unfold getP
        rw [List.find?_eq_none.2 fun p hp => by simpa using he p hp]; rfl
      refine W_exit (exit_then (exit_then (exit_here (at_then ?_))))
      refine W_rseq ?_
      refine op_assign rfl (.slice _ _ _) rfl ?_
      refine op_assign rfl (.bool _) rfl ?_
      refine op_nil (at_then ?_)
      refine W_ret (leave2 (v1 := (.slice _ _ _)) (v2 := (.bool _)) rfl rfl rfl rfl ?_)
      exact ⟨none, 0, [], by rw [hg]; rfl, hx, Rdx.nil, Nat.le_refl _, by rw [hg]; rfl⟩

end Go.Proofs.YtbkadlngijkmmaaGreatDoor

/- Plain law of the tree: what is done to a leaf, done below a page. -/
namespace Go.Proofs.YtbkadlngijkmmaaGreatDoor
open Go.GV

theorem tw_get {α : Type} {p : α → Bool} : ∀ (T : List α), (∀ j x, j < (T.takeWhile p).length → T[j]? = some x → p x = true) ∧ (∀ x, T[(T.takeWhile p).length]? = some x → p x = false)
  | [] => ⟨fun j x h => absurd h (Nat.not_lt_zero _), fun x h => by cases h⟩
  | y :: T => by
    obtain ⟨h1, h2⟩ := tw_get (p := p) T
    by_cases hy : p y = true
    · rw [List.takeWhile_cons, hy]
      simp only [if_true, List.length_cons]
      refine ⟨fun j x hj hx => ?_, fun x hx => h2 x (by simpa using hx)⟩
      cases j with
      | zero => simp only [List.getElem?_cons_zero, Option.some.injEq] at hx; rw [← hx]; exact hy
      | succ j => exact h1 j x (by omega) (by simpa using hx)
    · have hy : p y = false := by simpa using hy
      rw [List.takeWhile_cons, hy]
      refine ⟨fun j x h => absurd h (Nat.not_lt_zero _), fun x hx => ?_⟩
      have : y = x := by simpa using hx
      rw [← this]; exact hy
theorem first_le {L : List Pr} (hr : Rising L) {k : Byt} (hk : L[0]?.map (·.1) = some k) : ∀ p ∈ L, ¬ ltB p.1 k := by
  cases L with
  | nil => cases hk
  | cons q L =>
    have hq : q.1 = k := by simpa using hk
    intro p hp
    rcases List.mem_cons.1 hp with rfl | hp
    · rw [hq]; exact ltB_irrefl _
    · rw [← hq]; exact ltB_asymm ((List.pairwise_cons.1 hr).1 p hp)
theorem Kids.first {Q : Nat → List Pr → List Nat → Prop} {x : It} {l : List It} {L : List Pr} {S : List Nat} (h : Kids Q (x :: l) L S) : L[0]?.map (·.1) = some x.key := by
  obtain ⟨L1, L2, S1, S2, rfl, rfl, h1, h2, h3, h4⟩ := h
  cases L1 with
  | nil => cases h2
  | cons y L1 => exact h2
/-- The child below which a key lies. -/
theorem below_split {Q : Nat → List Pr → List Nat → Prop} {l : List It} {L : List Pr} {S : List Nat} (hk : Kids Q l L S) (hr : Rising L) (hl : l ≠ []) (key : Byt) :
    ∃ a x b La Lx Lb Sa Sx Sb, l = a ++ x :: b ∧ a.length = belowN l key ∧ L = La ++ (Lx ++ Lb) ∧ S = Sa ++ (Sx ++ Sb) ∧ Kids Q a La Sa ∧ Q x.page Lx Sx ∧ Lx[0]?.map (·.1) = some x.key ∧ x.val = [] ∧ Kids Q b Lb Sb ∧ (∀ p ∈ La, ltB p.1 key) ∧ (∀ p ∈ Lb, ltB key p.1) := by
  have hi := belowN_lt hl key
  obtain ⟨t1, t2⟩ := tw_get (p := fun x : It => decide (cmpB x.key key ≤ 0)) l.tail
  obtain ⟨x, hx⟩ := get_some (l := l) (i := belowN l key) hi
  have hsp : l = l.take (belowN l key) ++ x :: l.drop (belowN l key + 1) := by
    rw [← drop_cons hx, List.take_append_drop]
  have hk' := hk
  rw [hsp] at hk'
  obtain ⟨La, Lr, Sa, Sr, rfl, rfl, ka, kr⟩ := Kids_append.1 hk'
  obtain ⟨Lx, Lb, Sx, Sb, rfl, rfl, q1, q2, q3, kb⟩ := kr
  obtain ⟨r1, r2, r3⟩ := Rising.append.1 hr
  obtain ⟨r4, r5, r6⟩ := Rising.append.1 r2
  refine ⟨_, x, _, La, Lx, Lb, Sa, Sx, Sb, hsp, by rw [List.length_take]; omega, rfl, rfl, ka, q1, q2, q3, kb, fun p hp => ?_, fun p hp => ?_⟩
  · rcases Nat.eq_zero_or_pos (belowN l key) with h0 | h0
    · rw [h0, List.take_zero] at ka
      rw [ka.1] at hp; cases hp
    · have h5 := t1 (belowN l key - 1) x (by show _ < belowN l key; omega) (by rw [List.getElem?_tail, Nat.sub_add_cancel h0]; exact hx)
      have h6 := cmpB_le.1 (of_decide_eq_true h5)
      cases Lx with
      | nil => cases q2
      | cons y Lx =>
        have hy : y.1 = x.key := by simpa using q2
        exact lt_leB (hy ▸ r3 p hp y (by simp)) h6
  · cases hb : l.drop (belowN l key + 1) with
    | nil =>
      rw [hb] at kb
      rw [kb.1] at hp; cases hp
    | cons y b =>
      rw [hb] at kb
      have h5 := t2 y (by
        show l.tail[belowN l key]? = some y
        rw [List.getElem?_tail]
        have : (l.drop (belowN l key + 1))[0]? = some y := by rw [hb]; rfl
        rw [List.getElem?_drop] at this; exact this)
      have h6 : ltB key y.key := by
        have := of_decide_eq_false h5
        rcases ltB_tri key y.key with h7 | h7 | h7
        · exact h7
        · exact absurd (cmpB_le.2 (by rw [h7]; exact ltB_irrefl _)) this
        · exact absurd (cmpB_le.2 (ltB_asymm h7)) this
      exact lt_leB h6 (first_le r5 kb.first p hp)
/-- What a key's leaf has, and all pairs, once something is done. -/
structure Acts (key : Byt) (G : List It → List It) (g : List Pr → List Pr) : Prop where
  leaf : ∀ L, Rising L → OkP L → G (L.map leafI) = (g L).map leafI
  mid : ∀ A L B, (∀ p ∈ A, ltB p.1 key) → (∀ p ∈ B, ltB key p.1) → g (A ++ (L ++ B)) = A ++ (g L ++ B)
  ok : ∀ L, OkP L → OkP (g L)
  size : ∀ L, Rising L → OkP L → totalI false ((g L).map leafI) ≤ totalI false (L.map leafI) + 164
structure Eds (fr h : Nat) (L : List Pr) (S t g' : List Nat) (r : Int × Ch × Bool × List It) : Prop where
  ok : r.1 = 0
  on : On fr r.2.1
  part : ∃ S', Part (RD r.2.1.A fr) h r.2.2.1 r.2.2.2 L S' ∧ (S' ++ g').Perm (S ++ t) ∧ Held r.2.1.P S'
  ne : 0 < h → r.2.2.2 ≠ []
  sz : totalI r.2.2.1 r.2.2.2 ≤ 667
theorem OkP.sub {L L' : List Pr} (h : OkP L) (hs : ∀ p ∈ L', p ∈ L) : OkP L' := fun p hp => h p (hs p hp)
theorem OkP.app {L L' : List Pr} (h : OkP L) (h' : OkP L') : OkP (L ++ L') := fun p hp => (List.mem_append.1 hp).elim (h p) (h' p)
theorem rdC_of {fr : Nat} {c : Ch} {p d : Nat} (h : (readT c.A fr c.P.length (p : Int) (d : Int)).1 = 0) : rdC fr c p d = { c with gn := c.gn ++ [p] } := by
  unfold rdC; rw [if_pos h]
theorem pageAt_mid {a b : List It} {x : It} {i : Nat} (h : a.length = i) : pageAt (a ++ x :: b) i = x.page := by
  subst h; unfold pageAt; simp
theorem Lies.read {fr h p d : Nat} {c : Ch} {L : List Pr} {S : List Nat} (hL : Lies (RD c.A fr) h p L S) (hh : Held c.P S) (hn : On fr c) (hd : d ≤ 16) :
    ∃ i M S', readT c.A fr c.P.length (p : Int) (d : Int) = (0, some (i, M)) ∧ Part (RD c.A fr) h i M L S' ∧ S = p :: S' ∧ Many i M ∧ totalI i M ≤ 503 := by
  have hp := hh.lt hL.page
  obtain ⟨i, M, S', h1, h2, h3, h4, h5⟩ := hL
  exact ⟨i, M, S', readT_of hn.on hp hn.has hd h2, h1, h3, h4, h5⟩
theorem Part.inner0 {R : Nat → Option (Bool × List It)} {i : Bool} {M : List It} {L : List Pr} {S : List Nat} (h : Part R 0 i M L S) : i = false := h.1
theorem Kids.total {R : Nat → Option (Bool × List It)} {h : Nat} {l : List It} {L : List Pr} {S : List Nat} (hk : Kids (Lies R h) l L S) (ho : OkP L) : totalI true l ≤ 38 * l.length :=
  total_max fun x hx => by have := (hk.items ho x hx).2.1; show 6 + x.key.length ≤ 38; omega

/-- The child that was edited, with a neighbour if it has too few: what is put. -/
structure Sides (fr h : Nat) (c : Ch) (l : List It) (La Lx' Lb : List Pr) (Sa Sx' Sb g' : List Nat) (i : Bool) (s : Int × Ch × List It × Nat × Nat) : Prop where
  ok : s.1 = 0
  ci : CI fr c s.2.1 [] g'
  on : On fr s.2.1
  many : (s.2.2.1 = [] ∧ h = 0) ∨ Many i s.2.2.1
  sz : totalI i s.2.2.1 ≤ 667
  part : ∃ (a b : List It) (L1 L2 L3 : List Pr) (S1 S2 S3 : List Nat), l.take s.2.2.2.1 = a ∧ l.drop s.2.2.2.2 = b ∧ totalI true a + totalI true b ≤ 503 ∧ 1 ≤ a.length + b.length + (if s.2.2.1 = [] then 0 else 1) ∧ Kids (Lies (RD c.A fr) h) a L1 S1 ∧ Part (RD c.A fr) h i s.2.2.1 L2 S2 ∧ Kids (Lies (RD c.A fr) h) b L3 S3 ∧
    L1 ++ (L2 ++ L3) = La ++ (Lx' ++ Lb) ∧ (S1 ++ (S2 ++ (S3 ++ g'))).Perm (Sa ++ (Sx' ++ Sb))
theorem side_spec {fr h d : Nat} {c : Ch} {l a b : List It} {x : It} {i : Bool} {M : List It} {La Lx Lb : List Pr} {Sa Sx Sb : List Nat}
    (hl : l = a ++ x :: b) (h2 : 2 ≤ l.length) (hT : totalI true l ≤ 503) (ka : Kids (Lies (RD c.A fr) h) a La Sa) (kb : Kids (Lies (RD c.A fr) h) b Lb Sb) (hp : Part (RD c.A fr) h i M Lx Sx)
    (hoa : OkP La) (hox : OkP Lx) (hob : OkP Lb) (hha : Held c.P Sa) (_ : Held c.P Sx) (hhb : Held c.P Sb) (hn : On fr c) (hd : d + 1 ≤ 16) (hne : 0 < h → M ≠ []) (hz : totalI i M ≤ 667) :
    ∃ g', Sides fr h c l La Lx Lb Sa Sx Sb g' i (sideC fr c l a.length d i M) := by
  have hta := totalI_append true a (x :: b)
  have htb := totalI_cons true x b
  by_cases hf : few1 i M = true
  · have hi : i = true := by unfold few1 at hf; simp at hf; exact hf.1
    have hM : M.length = 1 := by unfold few1 at hf; simp at hf; exact hf.2
    cases h with
    | zero => rw [hp.inner0] at hi; cases hi
    | succ h =>
      obtain ⟨_, kx⟩ := hp
      have hxt := Kids.total kx hox
      rw [hM] at hxt
      subst hi
      have key : ∀ (pre post : List It) (y : It) (Ly : List Pr) (Sy : List Nat), Lies (RD c.A fr) (h + 1) y.page Ly Sy → OkP Ly → Held c.P Sy → pageAt l (sideK a.length) = y.page →
          sideK a.length < l.length → ∃ o So, Kids (Lies (RD c.A fr) h) o Ly So ∧ Sy = y.page :: So ∧ 2 ≤ o.length ∧ totalI true o ≤ 503 ∧ CI fr c (rdC fr c y.page (d + 1)) [] [y.page] ∧ On fr (rdC fr c y.page (d + 1)) ∧
          sideC fr c l a.length d true M = (0, rdC fr c y.page (d + 1), if a.length = 0 then M ++ o else o ++ M, a.length - 1, if a.length = 0 then 2 else a.length + 1) := by
        intro pre post y Ly Sy hy hoy hhy hpy hlt
        obtain ⟨i2, o, So, r1, r2, r3, r4, r5⟩ := hy.read hhy hn (d := d + 1) hd
        obtain ⟨rfl, ko⟩ := r2
        have r1' : (readT c.A fr c.P.length ((y.page : Nat) : Int) ((d + 1 : Nat) : Int)).1 = 0 := by rw [r1]
        have hrd := rdC_of r1'
        refine ⟨o, So, ko, r3, r4, r5, by rw [hrd]; exact CI.gone _ _ _, by rw [hrd]; exact ⟨hn.on, hn.has, hn.few⟩, ?_⟩
        unfold sideC
        rw [if_pos hf, if_neg (by omega), hpy, r1]
      by_cases ha0 : a = []
      · subst ha0
        cases b with
        | nil => rw [hl] at h2; simp at h2
        | cons y b =>
          obtain ⟨Ly, L2, Sy, S2, rfl, rfl, y1, y2, y3, y4⟩ := kb
          have hty := totalI_cons true y b
          obtain ⟨o, So, ko, rfl, o2, o3, ci, on', hs⟩ := key [] b y Ly Sy y1 (hob.sub fun p hp => List.mem_append_left _ hp) (hhb.sub fun p hp => List.mem_append_left _ hp) (by rw [hl]; rfl) (by rw [hl]; simp [sideK])
          obtain ⟨rfl, rfl⟩ := ka
          rw [hs]
          refine ⟨[y.page], rfl, ci, on', .inr ?_, ?_, [], b, [], Lx ++ Ly, L2, [], Sx ++ So, S2, rfl, by rw [hl]; rfl, ?_, ?_, ⟨rfl, rfl⟩, ?_, y4, by simp, ?_⟩
          · show 2 ≤ (M ++ o).length
            rw [List.length_append]; omega
          · show totalI true (M ++ o) ≤ 667
            rw [totalI_append]; omega
          · have e0 : totalI true ([] : List It) = 0 := rfl
            rw [hl] at hT; omega
          · have : (if (List.length ([] : List It) = 0) then M ++ o else o ++ M) ≠ [] := by
              intro e; have h9 : (M ++ o).length = 0 := congrArg List.length e
              rw [List.length_append] at h9; omega
            show 1 ≤ _ + (if _ = [] then 0 else 1)
            rw [if_neg this]; omega
          · exact ⟨rfl, Kids_append.2 ⟨Lx, Ly, Sx, So, rfl, rfl, kx, ko⟩⟩
          · rw [List.perm_iff_count]
            intro z
            simp only [List.count_append, List.count_cons, List.count_nil]
            omega
      · obtain ⟨a', y, rfl⟩ : ∃ a' y, a = a' ++ [y] := ⟨a.dropLast, a.getLast ha0, (List.dropLast_concat_getLast ha0).symm⟩
        obtain ⟨La', Lr, Sa', Sr, rfl, rfl, ka', kr⟩ := Kids_append.1 ka
        obtain ⟨Ly, L0, Sy, S0, rfl, rfl, y1, y2, y3, y4⟩ := kr
        obtain ⟨rfl, rfl⟩ := y4
        have hal : (a' ++ [y]).length = a'.length + 1 := by simp
        have hll : l = a' ++ y :: x :: b := by rw [hl]; simp
        have hty := totalI_append true a' [y]
        have htb2 : totalI true [y] = sizeI true y := by simp [totalI]
        obtain ⟨o, So, ko, rfl, o2, o3, ci, on', hs⟩ := key a' b y Ly Sy y1 (hoa.sub fun p hp => by simp [hp]) (hha.sub fun p hp => by simp [hp]) (by rw [hll, hal]; exact pageAt_mid (by simp [sideK])) (by rw [hll, hal]; simp [sideK])
        rw [hs]
        refine ⟨[y.page], rfl, ci, on', .inr ?_, ?_, a', b, La', Ly ++ Lx, Lb, Sa', So ++ Sx, Sb, ?_, ?_, ?_, ?_, ka', ?_, kb, by simp, ?_⟩
        · show 2 ≤ (if (a' ++ [y]).length = 0 then M ++ o else o ++ M).length
          rw [if_neg (by omega), List.length_append]; omega
        · show totalI true (if (a' ++ [y]).length = 0 then M ++ o else o ++ M) ≤ 667
          rw [if_neg (by omega), totalI_append]; omega
        · show l.take ((a' ++ [y]).length - 1) = a'
          rw [hll, hal]; simp
        · show l.drop (if (a' ++ [y]).length = 0 then 2 else (a' ++ [y]).length + 1) = b
          rw [if_neg (by omega), hl]
          rw [List.drop_append, List.drop_of_length_le (by omega)]
          simp
        · rw [hl, hta, htb, hty] at hT; omega
        · show 1 ≤ _ + (if (if (a' ++ [y]).length = 0 then M ++ o else o ++ M) = [] then 0 else 1)
          rw [if_neg (c := (a' ++ [y]).length = 0) (by omega), if_neg]
          · omega
          · intro e; have h9 : (o ++ M).length = 0 := congrArg List.length e
            rw [List.length_append] at h9; omega
        · show Part _ _ _ (if (a' ++ [y]).length = 0 then M ++ o else o ++ M) _ _
          rw [if_neg (by omega)]
          exact ⟨rfl, Kids_append.2 ⟨Ly, Lx, So, Sx, rfl, rfl, ko, kx⟩⟩
        · rw [List.perm_iff_count]
          intro z
          simp only [List.count_append, List.count_cons, List.count_nil]
          omega
  · have hs : sideC fr c l a.length d i M = (0, c, M, a.length, a.length + 1) := by unfold sideC; rw [if_neg hf]
    rw [hs]
    refine ⟨[], rfl, CI.refl _ _, hn, ?_, hz, a, b, La, Lx, Lb, Sa, Sx, Sb, by rw [hl]; simp, ?_, ?_, ?_, ka, hp, kb, rfl, by simp⟩
    · show (M = [] ∧ h = 0) ∨ Many i M
      cases h with
      | zero =>
        by_cases hM : M = []
        · exact .inl ⟨hM, rfl⟩
        · right; rw [hp.inner0]; exact hM
      | succ h =>
        right
        have hM := hne (by omega)
        obtain ⟨rfl, _⟩ := hp
        show 2 ≤ M.length
        have : ¬ M.length = 1 := fun h => hf (by unfold few1; rw [decide_eq_true h]; rfl)
        have := List.length_pos_iff.2 hM
        omega
    · show l.drop (a.length + 1) = b
      rw [hl, List.drop_append, List.drop_of_length_le (by omega)]; simp
    · rw [hl, hta, htb] at hT; omega
    · have : l.length = a.length + b.length + 1 := by rw [hl]; simp; omega
      omega

theorem edit_spec {fr : Nat} {key : Byt} {G : List It → List It} {g : List Pr → List Pr} (act : Acts key G g) : ∀ (h n : Nat) (c : Ch) (p d : Nat) (L : List Pr) (S : List Nat), Lies (RD c.A fr) h p L S → Rising L → OkP L → Held c.P S → On fr c → d + h ≤ 16 → h < n →
    ∃ t g', CI fr c (editC fr G key n c p d).2.1 t g' ∧ t.length ≤ 2 * h ∧ (Eds fr h (g L) S t g' (editC fr G key n c p d) ∨ Bad c (editC fr G key n c p d).1 (2 * h))
  | 0, n + 1, c, p, d, L, S, hL, hr, ho, hh, hn, hd, hf => by
    obtain ⟨i, M, S', r1, r2, r3, r4, r5⟩ := hL.read hh hn (d := d) (by omega)
    obtain ⟨rfl, rfl, rfl⟩ := r2
    subst r3
    have hrd := rdC_of (fr := fr) (c := c) (p := p) (d := d) (by rw [r1])
    have he : editC fr G key (n + 1) c p d = (0, { c with gn := c.gn ++ [p] }, false, G (L.map leafI)) := by
      rw [editC, r1]; dsimp only; rw [hrd]
    rw [he, act.leaf L hr ho]
    refine ⟨[], [p], CI.gone _ _ _, by simp, .inl ⟨rfl, ⟨hn.on, hn.has, hn.few⟩, ⟨[], ⟨rfl, rfl, rfl⟩, by simp, fun x hx => by cases hx⟩, fun h => absurd h (Nat.lt_irrefl 0), ?_⟩⟩
    have := act.size L hr ho
    show totalI false (List.map leafI (g L)) ≤ 667
    omega
  | h + 1, n + 1, c, p, d, L, S, hL, hr, ho, hh, hn, hd, hf => by
    obtain ⟨i, l, S0, r1, r2, r3, r4, r5⟩ := hL.read hh hn (d := d) (by omega)
    obtain ⟨rfl, hk'⟩ := r2
    have hk : Kids (Lies (RD c.A fr) h) l L S0 := hk'
    subst r3
    have hrd := rdC_of (fr := fr) (c := c) (p := p) (d := d) (by rw [r1])
    have hci := CI.gone fr c p
    rw [← hrd] at hci
    have hn1 : On fr (rdC fr c p d) := by rw [hrd]; exact ⟨hn.on, hn.has, hn.few⟩
    obtain ⟨a, x, b, La, Lx, Lb, Sa, Sx, Sb, rfl, hal, rfl, rfl, ka, q1, q2, q3, kb, hlo, hhi⟩ := below_split hk hr r4.ne key
    have hh0 : Held c.P (Sa ++ (Sx ++ Sb)) := hh.sub fun x hx => List.mem_cons_of_mem _ hx
    have hha : Held c.P Sa := hh0.sub fun x hx => by simp [hx]
    have hhx : Held c.P Sx := hh0.sub fun x hx => by simp [hx]
    have hhb : Held c.P Sb := hh0.sub fun x hx => by simp [hx]
    have hoa : OkP La := ho.sub fun x hx => by simp [hx]
    have hox : OkP Lx := ho.sub fun x hx => by simp [hx]
    have hob : OkP Lb := ho.sub fun x hx => by simp [hx]
    have hrx : Rising Lx := (Rising.append.1 (Rising.append.1 hr).2.1).1
    obtain ⟨t1, g1, e1, e2, e3⟩ := edit_spec act h n (rdC fr c p d) x.page (d + 1) Lx Sx (q1.frame (hci.rd hhx)) hrx hox (hhx.keep hci) hn1 (by omega) (by omega)
    have hpg : pageAt (a ++ x :: b) (belowN (a ++ x :: b) key) = x.page := pageAt_mid hal
    obtain ⟨r, hrr⟩ : ∃ r, r = editC fr G key n (rdC fr c p d) x.page (d + 1) := ⟨_, rfl⟩
    rw [← hrr] at e1 e3
    have he : editC fr G key (n + 1) c p d = if r.1 ≠ 0 then (r.1, r.2.1, true, []) else
        if (sideC fr r.2.1 (a ++ x :: b) a.length d r.2.2.1 r.2.2.2).1 ≠ 0 then ((sideC fr r.2.1 (a ++ x :: b) a.length d r.2.2.1 r.2.2.2).1, (sideC fr r.2.1 (a ++ x :: b) a.length d r.2.2.1 r.2.2.2).2.1, true, []) else
        ((putS fr (sideC fr r.2.1 (a ++ x :: b) a.length d r.2.2.1 r.2.2.2).2.1 r.2.2.1 (sideC fr r.2.1 (a ++ x :: b) a.length d r.2.2.1 r.2.2.2).2.2.1).1,
         (putS fr (sideC fr r.2.1 (a ++ x :: b) a.length d r.2.2.1 r.2.2.2).2.1 r.2.2.1 (sideC fr r.2.1 (a ++ x :: b) a.length d r.2.2.1 r.2.2.2).2.2.1).2.1, true,
         (a ++ x :: b).take (sideC fr r.2.1 (a ++ x :: b) a.length d r.2.2.1 r.2.2.2).2.2.2.1 ++ ((putS fr (sideC fr r.2.1 (a ++ x :: b) a.length d r.2.2.1 r.2.2.2).2.1 r.2.2.1 (sideC fr r.2.1 (a ++ x :: b) a.length d r.2.2.1 r.2.2.2).2.2.1).2.2 ++ (a ++ x :: b).drop (sideC fr r.2.1 (a ++ x :: b) a.length d r.2.2.1 r.2.2.2).2.2.2.2)) := by
      rw [editC, r1]; dsimp only; rw [hpg, ← hrr, ← hal]
    rw [he]
    have hci1 := hci.trans e1
    rw [List.nil_append] at hci1
    rcases e3 with e3 | e3
    · obtain ⟨S1, p1, p2, p3⟩ := e3.part
      rw [if_neg (by rw [e3.ok]; simp)]
      have hn2 := e3.on
      have h4 : 2 ≤ (a ++ x :: b).length := r4
      obtain ⟨g2, sd⟩ := side_spec (fr := fr) (c := r.2.1) (d := d) rfl h4 r5 (ka.frame (hci1.rd hha)) (kb.frame (hci1.rd hhb)) p1 hoa (act.ok _ hox) hob (hha.keep hci1) p3 (hhb.keep hci1) hn2 (by omega) e3.ne e3.sz
      obtain ⟨s, hss⟩ : ∃ s, s = sideC fr r.2.1 (a ++ x :: b) a.length d r.2.2.1 r.2.2.2 := ⟨_, rfl⟩
      rw [← hss] at sd ⊢
      rw [if_neg (by rw [sd.ok]; simp)]
      obtain ⟨a', b', L1, L2, L3, S1', S2', S3', s1, s2, s3, s4, s5, s6, s7, s8, s9⟩ := sd.part
      have hci2 := hci1.trans sd.ci
      rw [List.append_nil] at hci2
      have hall : Held r.2.1.P (S1' ++ (S2' ++ (S3' ++ g2))) := by
        intro z hz
        have := s9.mem_iff.1 hz
        rcases List.mem_append.1 this with h5 | h5
        · exact (hha.keep hci1) z h5
        · rcases List.mem_append.1 h5 with h5 | h5
          · exact p3 z h5
          · exact (hhb.keep hci1) z h5
      have hO : OkP (L1 ++ (L2 ++ L3)) := by rw [s8]; exact hoa.app ((act.ok _ hox).app hob)
      have hO2 : OkP L2 := hO.sub fun p hp => by simp [hp]
      have hH2 : Held r.2.1.P S2' := hall.sub fun p hp => by simp [hp]
      have hH1 : Held r.2.1.P S1' := hall.sub fun p hp => by simp [hp]
      have hH3 : Held r.2.1.P S3' := hall.sub fun p hp => by simp [hp]
      obtain ⟨t2, u1, u2, u3⟩ := put_spec (s6.frame (sd.ci.rd hH2)) hO2 (hH2.keep sd.ci) sd.on sd.many sd.sz
      have hci3 := hci2.trans u1
      rw [List.append_nil] at hci3
      refine ⟨_, _, hci3, by rw [List.length_append]; omega, ?_⟩
      rcases u3 with u3 | u3
      · obtain ⟨S4, k1, k2, k3⟩ := u3.kids
        left
        have hfin := sd.ci.trans u1
        have hk1 := s5.frame (hfin.rd hH1)
        have hk3 := s7.frame (hfin.rd hH3)
        have ht1 := Kids.total k1 hO2
        have hnum := u3.num
        refine ⟨u3.ok, u3.on, ⟨S1' ++ (S4 ++ S3'), ⟨rfl, ?_⟩, ?_, ?_⟩, fun _ => ?_, ?_⟩
        · rw [act.mid La Lx Lb hlo hhi, ← s8, s1, s2]
          exact Kids_append.2 ⟨_, _, _, _, rfl, rfl, hk1, Kids_append.2 ⟨_, _, _, _, rfl, rfl, k1, hk3⟩⟩
        · rw [List.perm_iff_count] at *
          intro z
          have e1 := p2 z; have e2 := s9 z; have e3 := k2 z
          simp only [List.count_append, List.count_cons, List.count_nil] at *
          omega
        · exact (hH1.keep hfin).app (k3.app (hH3.keep hfin))
        · show (a ++ x :: b).take s.2.2.2.1 ++ (_ ++ (a ++ x :: b).drop s.2.2.2.2) ≠ []
          rw [s1, s2]
          intro e
          have e' := congrArg List.length e
          simp only [List.length_append, List.length_nil] at e'
          by_cases h9 : s.2.2.1 = []
          · rw [if_pos h9] at s4; omega
          · have := List.length_pos_iff.2 (u3.ne h9); omega
        · show totalI true ((a ++ x :: b).take s.2.2.2.1 ++ (_ ++ (a ++ x :: b).drop s.2.2.2.2)) ≤ 667
          rw [s1, s2, totalI_append, totalI_append]
          have : 38 * (putS fr s.2.1 r.2.2.1 s.2.2.1).2.2.length ≤ 38 * 2 := Nat.mul_le_mul_left _ hnum
          omega
      · right
        exact u3.back hci2 (by omega)
    · rw [if_pos e3.ne]
      refine ⟨t1, _, hci1, by omega, .inr ?_⟩
      exact (e3.back hci (m' := 2 * h) (by simp)).mono (by omega)

end Go.Proofs.YtbkadlngijkmmaaGreatDoor

/- Plain law of the tree: a root, something done to it. -/
namespace Go.Proofs.YtbkadlngijkmmaaGreatDoor
open Go.GV

theorem pow_split (h : Nat) : 2 ^ (h + 1) = 2 ^ h + 2 ^ h := by rw [Nat.pow_succ]; omega
theorem Kids.count {R : Nat → Option (Bool × List It)} {h : Nat} (ih : ∀ p L S, Lies R h p L S → 2 ^ (h + 1) ≤ S.length + 1 ∧ S.length + 1 ≤ 2 * L.length) : ∀ {l : List It} {L : List Pr} {S : List Nat}, Kids (Lies R h) l L S → l.length * 2 ^ (h + 1) ≤ S.length + l.length ∧ S.length + l.length ≤ 2 * L.length
  | [], _, _, ⟨rfl, rfl⟩ => by simp
  | x :: l, _, _, ⟨L1, L2, S1, S2, rfl, rfl, h1, _, _, h4⟩ => by
    have a := ih _ _ _ h1
    have b := Kids.count ih h4
    simp only [List.length_cons, List.length_append, Nat.succ_mul, Nat.mul_add]
    omega
/-- How high, how many. -/
theorem Lies.count {R : Nat → Option (Bool × List It)} : ∀ {h p : Nat} {L : List Pr} {S : List Nat}, Lies R h p L S → 2 ^ (h + 1) ≤ S.length + 1 ∧ S.length + 1 ≤ 2 * L.length
  | 0, p, L, S, hL => by
    have hne := List.length_pos_iff.2 hL.ne
    obtain ⟨i, M, S', ⟨_, _, rfl⟩, h2, rfl, h4, h5⟩ := hL
    simp; omega
  | h + 1, p, L, S, ⟨i, M, S', h1, h2, h3, h4, h5⟩ => by
    obtain ⟨rfl, hk⟩ := h1
    subst h3
    have hm : 2 ≤ M.length := h4
    obtain ⟨a, b⟩ := Kids.count (fun p L S h => Lies.count h) hk
    have hp := pow_split (h + 1)
    have h1 : 0 < 2 ^ (h + 1) := Nat.pow_pos (by omega)
    have h6 : (M.length - 2) * 1 ≤ (M.length - 2) * 2 ^ (h + 1) := Nat.mul_le_mul_left _ h1
    have h7 : M.length * 2 ^ (h + 1) = (M.length - 2) * 2 ^ (h + 1) + 2 * 2 ^ (h + 1) := by rw [← Nat.add_mul]; congr 1; omega
    rw [List.length_cons]
    omega
/-- A root: what lies below it. -/
def Root (R : Nat → Option (Bool × List It)) (root : Int) (L : List Pr) (S : List Nat) : Prop := (root = -1 ∧ L = [] ∧ S = []) ∨ ∃ (h p : Nat), root = (p : Int) ∧ Lies R h p L S
theorem Root.frame {R R' : Nat → Option (Bool × List It)} {root : Int} {L : List Pr} {S : List Nat} (hr : Root R root L S) (he : ∀ x ∈ S, R' x = R x) : Root R' root L S :=
  hr.imp id fun ⟨h, p, h1, h2⟩ => ⟨h, p, h1, h2.frame he⟩
structure TreeAt (fr : Nat) (A : Dev) (P : List Nat) (root : Int) (L : List Pr) : Prop where
  lies : ∃ S, Root (RD A fr) root L S ∧ S.Nodup ∧ ∀ x : Nat, (x ∈ S ↔ P[x]? = some 1 ∨ P[x]? = some 2)
  rise : Rising L
  ok : OkP L
/-! ### Pages are dropped -/
def dropS (s : Nat) : Nat := if s = 1 then 3 else if s = 2 then 0 else s
theorem dropP_get (P : List Nat) (k x : Nat) : (dropP P k)[x]? = if x = k then P[x]?.map dropS else P[x]? := by
  unfold dropP
  by_cases hx : x = k
  · subst hx
    rw [if_pos rfl]
    by_cases h1 : P[x]? = some 1
    · rw [if_pos h1, List.getElem?_set_self (List.getElem?_eq_some_iff.1 h1).1, h1]; rfl
    · rw [if_neg h1]
      by_cases h2 : P[x]? = some 2
      · rw [if_pos h2, List.getElem?_set_self (List.getElem?_eq_some_iff.1 h2).1, h2]; rfl
      · rw [if_neg h2]
        cases h3 : P[x]? with
        | none => rfl
        | some s =>
          have hs1 : s ≠ 1 := fun e => h1 (by rw [h3, e])
          have hs2 : s ≠ 2 := fun e => h2 (by rw [h3, e])
          rw [Option.map_some, dropS, if_neg hs1, if_neg hs2]
  · rw [if_neg hx]
    split
    · rw [List.getElem?_set_ne (fun e => hx e.symm)]
    · split
      · rw [List.getElem?_set_ne (fun e => hx e.symm)]
      · rfl
theorem drop_get : ∀ (g : List Nat) (P : List Nat), g.Nodup → ∀ x : Nat, (g.foldl dropP P)[x]? = if x ∈ g then P[x]?.map dropS else P[x]?
  | [], P, _, x => by simp
  | k :: g, P, hd, x => by
    obtain ⟨h1, h2⟩ := List.nodup_cons.1 hd
    rw [List.foldl_cons, drop_get g _ h2 x, dropP_get]
    by_cases hx : x = k
    · subst hx
      rw [if_neg h1, if_pos rfl, if_pos (List.mem_cons_self ..)]
    · rw [if_neg hx]
      by_cases hg : x ∈ g
      · rw [if_pos hg, if_pos (List.mem_cons_of_mem _ hg)]
      · rw [if_neg hg, if_neg (by simp [hx, hg])]
theorem foldl_len : ∀ (g : List Nat) (P : List Nat), (g.foldl dropP P).length = P.length
  | [], P => rfl
  | k :: g, P => by
    rw [List.foldl_cons, foldl_len g]
    unfold dropP
    split
    · simp
    · split <;> simp
theorem dropS_not (s : Nat) : dropS s ≠ 1 ∧ dropS s ≠ 2 := by
  unfold dropS
  split
  · decide
  · split
    · decide
    · omega
theorem back_drop (s : Nat) : backS (dropS s) = backS s := by
  unfold dropS
  split
  · rename_i h; rw [h]; rfl
  · split
    · rename_i h; rw [h]; rfl
    · rfl

/-! ### The uppermost node -/
structure Tops (fr : Nat) (L : List Pr) (S t : List Nat) (r : Int × Ch × Int) : Prop where
  ok : r.1 = 0
  on : On fr r.2.1
  root : ∃ S', Root (RD r.2.1.A fr) r.2.2 L S' ∧ S'.Perm (S ++ t) ∧ Held r.2.1.P S'
theorem top_spec {fr h : Nat} {c : Ch} {i : Bool} {M : List It} {L : List Pr} {S : List Nat} (hp : Part (RD c.A fr) h i M L S) (ho : OkP L) (hh : Held c.P S) (hn : On fr c) (hne : 0 < h → M ≠ []) (hz : totalI i M ≤ 667) :
    ∃ t, CI fr c (topC fr c i M).2.1 t [] ∧ t.length ≤ 3 ∧ (Tops fr L S t (topC fr c i M) ∨ Bad c (topC fr c i M).1 3) := by
  by_cases hf : few1 i M = true
  · have hi : i = true := by unfold few1 at hf; simp at hf; exact hf.1
    have hM : M.length = 1 := by unfold few1 at hf; simp at hf; exact hf.2
    subst hi
    have ht : topC fr c true M = (0, c, (pageAt M 0 : Int)) := by unfold topC; rw [if_pos hf]
    rw [ht]
    refine ⟨[], CI.refl _ _, by simp, .inl ⟨rfl, hn, S, ?_, by simp, hh⟩⟩
    cases h with
    | zero => exact absurd hp.inner0 (by simp)
    | succ h =>
      obtain ⟨_, hk⟩ := hp
      match M, hM with
      | [z], _ =>
        obtain ⟨L1, L2, S1, S2, rfl, rfl, h1, h2, h3, rfl, rfl⟩ := hk
        rw [List.append_nil, List.append_nil]
        exact .inr ⟨h, z.page, rfl, h1⟩
  · have hm : (M = [] ∧ h = 0) ∨ Many i M := by
      cases h with
      | zero =>
        by_cases hM : M = []
        · exact .inl ⟨hM, rfl⟩
        · right; rw [hp.inner0]; exact hM
      | succ h =>
        right
        have hM := hne (by omega)
        obtain ⟨rfl, _⟩ := hp
        show 2 ≤ M.length
        have : ¬ M.length = 1 := fun h => hf (by unfold few1; rw [decide_eq_true h]; rfl)
        have := List.length_pos_iff.2 hM
        omega
    obtain ⟨t, u1, u2, u3⟩ := put_spec hp ho hh hn hm hz
    obtain ⟨q, hq⟩ : ∃ q, q = putS fr c i M := ⟨_, rfl⟩
    have ht : topC fr c i M = if q.1 ≠ 0 then (q.1, q.2.1, -1) else if q.2.2 = [] then (0, q.2.1, -1) else if 1 < q.2.2.length then ((wrC fr q.2.1 true q.2.2).1, (wrC fr q.2.1 true q.2.2).2, (takeK q.2.1.P : Int)) else (0, q.2.1, (pageAt q.2.2 0 : Int)) := by
      unfold topC; rw [if_neg hf, hq]
    rw [← hq] at u1 u3
    rw [ht]
    rcases u3 with u3 | u3
    · obtain ⟨S', k1, k2, k3⟩ := u3.kids
      have hnum := u3.num
      rw [if_neg (by rw [u3.ok]; simp)]
      by_cases h0 : q.2.2 = []
      · rw [if_pos h0]
        rw [h0] at k1
        obtain ⟨rfl, rfl⟩ := k1
        exact ⟨t, u1, by omega, .inl ⟨rfl, u3.on, [], .inl ⟨rfl, rfl, rfl⟩, k2, k3⟩⟩
      · rw [if_neg h0]
        have hpos := List.length_pos_iff.2 h0
        by_cases h1 : 1 < q.2.2.length
        · rw [if_pos h1]
          have hk38 := k1.total ho
          have : 38 * q.2.2.length ≤ 38 * 2 := Nat.mul_le_mul_left _ hnum
          obtain ⟨t2, v1, v2, v3⟩ := part_wr (h := h + 1) (i := true) ⟨rfl, k1⟩ ho k3 u3.on (show Many true q.2.2 from h1) (by omega)
          have hci := u1.trans v1
          rw [List.append_nil] at hci
          refine ⟨_, hci, by rw [List.length_append]; omega, ?_⟩
          rcases v3 with ⟨v3, rfl, v4, v5, v6⟩ | v3
          · refine .inl ⟨v3, v4, takeK q.2.1.P :: S', .inr ⟨h + 1, _, rfl, v5⟩, ?_, v1.held.app (k3.keep v1)⟩
            rw [List.perm_iff_count] at *
            intro z
            have e1 := k2 z
            simp only [List.count_append, List.count_cons, List.count_nil] at *
            omega
          · exact .inr (v3.back u1 (by omega))
        · rw [if_neg h1]
          refine ⟨t, u1, by omega, .inl ⟨rfl, u3.on, S', .inr ?_, k2, k3⟩⟩
          have h2 : q.2.2.length = 1 := by omega
          match hq2 : q.2.2, h2 with
          | [z], _ =>
            rw [hq2] at k1
            obtain ⟨L1, L2, S1, S2, rfl, rfl, h1, h2, h3, rfl, rfl⟩ := k1
            rw [List.append_nil, List.append_nil]
            exact ⟨h, z.page, rfl, h1⟩
    · rw [if_pos u3.ne]
      exact ⟨t, u1, by omega, .inr (u3.mono (by omega))⟩

/-! ### Something is done to a root -/
/-- What stands behind it, whatever came of it. -/
structure After (fr : Nat) (A : Dev) (P : List Nat) (A' : Dev) (P' : List Nat) : Prop where
  blk : ∀ q, (∀ x : Nat, P[x]? = some 0 → q ≠ fr + x) → A'.B.getD q (zeros, []) = A.B.getD q (zeros, [])
  blen : A'.B.length = A.B.length
  left : A.left = -1 → A'.left = -1
  len : P'.length = P.length
  back : P'.map backS = P.map backS
def Worse (A : Dev) (P : List Nat) (e : Int) (m : Nat) : Prop := (e = 8 ∧ A.left ≠ -1) ∨ (e = 7 ∧ freeP P < m)
theorem over_ok {fr : Nat} {c0 c : Ch} {t g : List Nat} {S S' : List Nat} (h : CI fr c0 c t g) (h0 : c0.tk = [] ∧ c0.gn = []) (hS : ∀ x : Nat, (x ∈ S ↔ c0.P[x]? = some 1 ∨ c0.P[x]? = some 2)) (hd : S.Nodup) (hp : (S' ++ g).Perm (S ++ t)) :
    After fr c0.A c0.P (overC c 0).A (overC c 0).P ∧ S'.Nodup ∧ ∀ x : Nat, (x ∈ S' ↔ (overC c 0).P[x]? = some 1 ∨ (overC c 0).P[x]? = some 2) := by
  have hgn : c.gn = g := by rw [h.gn, h0.2]; rfl
  have hH : Held c0.P S := fun x hx => ((hS x).1 hx).elim (fun h => ⟨1, h, by decide⟩) fun h => ⟨2, h, by decide⟩
  have hnd : (S ++ t).Nodup := by
    rw [List.nodup_append]
    exact ⟨hd, h.nd, fun a ha b hb e => h.apart hH a ha (e ▸ hb)⟩
  have hnd2 := hp.nodup_iff.2 hnd
  rw [List.nodup_append] at hnd2
  obtain ⟨n1, n2, n3⟩ := hnd2
  have hget : ∀ x : Nat, (overC c 0).P[x]? = if x ∈ g then c.P[x]?.map dropS else c.P[x]? := fun x => by
    show (List.foldl dropP c.P (if (0 : Int) ≠ 0 then c.tk else c.gn))[x]? = _
    rw [if_neg (by simp), hgn, drop_get g _ n2 x]
  have hlen : (overC c 0).P.length = c0.P.length := by
    show (List.foldl dropP c.P _).length = _
    rw [foldl_len, h.len]
  refine ⟨⟨fun q hq => h.blk q fun x hx => hq x (h.was x hx), h.blen, h.left, hlen, ?_⟩, n1, fun x => ?_⟩
  · refine List.ext_getElem? fun x => ?_
    rw [List.getElem?_map, List.getElem?_map, hget x, h.now x]
    by_cases ht : x ∈ t
    · rw [if_pos ht, h.was x ht]
      split <;> rfl
    · rw [if_neg ht]
      split
      · cases c0.P[x]? with
        | none => rfl
        | some s => simp only [Option.map_some, back_drop]
      · rfl
  · rw [hget x]
    have hm := hp.mem_iff (a := x)
    simp only [List.mem_append] at hm
    constructor
    · intro hx
      have hxg : x ∉ g := fun h2 => n3 x hx x h2 rfl
      rw [if_neg hxg, h.now x]
      rcases hm.1 (.inl hx) with h2 | h2
      · rw [if_neg (h.apart hH x h2)]; exact (hS x).1 h2
      · rw [if_pos h2]; exact .inr rfl
    · intro hx
      by_cases hxg : x ∈ g
      · rw [if_pos hxg] at hx
        exfalso
        cases hc : c.P[x]? with
        | none => rw [hc] at hx; simp at hx
        | some s =>
          rw [hc] at hx
          simp only [Option.map_some, Option.some.injEq] at hx
          exact hx.elim (dropS_not s).1 (dropS_not s).2
      · rw [if_neg hxg, h.now x] at hx
        have : x ∈ S ∨ x ∈ t := by
          by_cases ht : x ∈ t
          · exact .inr ht
          · rw [if_neg ht] at hx; exact .inl ((hS x).2 hx)
        exact (hm.2 this).elim id fun h2 => absurd h2 hxg
theorem over_bad {fr : Nat} {c0 c : Ch} {t g : List Nat} {e : Int} (h : CI fr c0 c t g) (h0 : c0.tk = [] ∧ c0.gn = []) (he : e ≠ 0) : After fr c0.A c0.P (overC c e).A (overC c e).P ∧ (overC c e).P = c0.P := by
  have htk : c.tk = t := by rw [h.tk, h0.1]; rfl
  have hP : (overC c e).P = c0.P := by
    refine List.ext_getElem? fun x => ?_
    show (List.foldl dropP c.P (if e ≠ 0 then c.tk else c.gn))[x]? = _
    rw [if_pos he, htk, drop_get t _ h.nd x, h.now x]
    by_cases ht : x ∈ t
    · rw [if_pos ht, if_pos ht, h.was x ht]; rfl
    · rw [if_neg ht, if_neg ht]
  exact ⟨⟨fun q hq => h.blk q fun x hx => hq x (h.was x hx), h.blen, h.left, by rw [hP], by rw [hP]⟩, hP⟩
structure Turned (fr : Nat) (A : Dev) (P : List Nat) (root : Int) (L : List Pr) (m : Nat) (r : Int × Int × Ch) : Prop where
  aft : After fr A P r.2.2.A r.2.2.P
  out : (r.1 = 0 ∧ r.2.2.A.on = true ∧ TreeAt fr r.2.2.A r.2.2.P r.2.1 L) ∨ (r.2.1 = root ∧ r.2.2.P = P ∧ Worse A P r.1 m)
theorem height {R : Nat → Option (Bool × List It)} {h p n : Nat} {L : List Pr} {S : List Nat} (hL : Lies R h p L S) (hd : S.Nodup) (hlt : ∀ x ∈ S, x < n) (hn : n ≤ 2000) : h ≤ 9 := by
  have h1 := hL.count.1
  have h2 := pigeon n S hd hlt
  rcases Nat.lt_or_ge h 10 with h3 | h3
  · omega
  · have : 2 ^ 11 ≤ 2 ^ (h + 1) := Nat.pow_le_pow_right (by omega) (by omega)
    omega
theorem turn_spec {fr : Nat} {A : Dev} {P : List Nat} {root : Int} {L : List Pr} {key : Byt} {G : List It → List It} {g : List Pr → List Pr} (act : Acts key G g) (hr : ∀ L, Rising L → Rising (g L)) (T : TreeAt fr A P root L) (hon : A.on = true) (hl : fr + P.length ≤ A.B.length) (hP : P.length ≤ 2000) {m : Nat} (hm : ∀ h, h = 0 ∨ 2 ^ (h + 1) ≤ P.length + 1 → 2 * h + 3 ≤ m) :
    Turned fr A P root (g L) m (turnC fr A P root key G) := by
  obtain ⟨S, hroot, hnd, hS⟩ := T.lies
  have hH : Held P S := fun x hx => ((hS x).1 hx).elim (fun h => ⟨1, h, by decide⟩) fun h => ⟨2, h, by decide⟩
  obtain ⟨ed, hed⟩ : ∃ ed, ed = (if root = -1 then (0, ⟨A, P, [], []⟩, false, G []) else editC fr G key 18 ⟨A, P, [], []⟩ root.toNat 0 : Int × Ch × Bool × List It) := ⟨_, rfl⟩
  have hn : On fr (⟨A, P, [], []⟩ : Ch) := ⟨hon, hl, by show P.length ≤ 4096; omega⟩
  have he : ∃ (h : Nat) (t g' : List Nat), 2 * h + 3 ≤ m ∧ CI fr ⟨A, P, [], []⟩ ed.2.1 t g' ∧ t.length ≤ 2 * h ∧ (Eds fr h (g L) S t g' ed ∨ Bad ⟨A, P, [], []⟩ ed.1 (2 * h)) := by
    rcases hroot with ⟨rfl, rfl, rfl⟩ | ⟨h, p, rfl, hLies⟩
    · rw [if_pos rfl] at hed
      have h0 := act.leaf [] List.Pairwise.nil (fun p hp => by cases hp)
      rw [List.map_nil] at h0
      have hsz := act.size [] List.Pairwise.nil (fun p hp => by cases hp)
      rw [hed, h0]
      exact ⟨0, [], [], hm 0 (.inl rfl), CI.refl _ _, by simp, .inl ⟨rfl, hn, ⟨[], ⟨rfl, rfl, rfl⟩, by simp, fun x hx => by cases hx⟩, fun h => absurd h (Nat.lt_irrefl 0), by show totalI false (List.map leafI (g [])) ≤ 667; have : totalI false (List.map leafI []) = 0 := rfl; omega⟩⟩
    · rw [if_neg (by omega), Int.toNat_natCast] at hed
      have hh := height hLies hnd (fun x hx => hH.lt hx) hP
      obtain ⟨t, g', e1, e2, e3⟩ := edit_spec act h 18 ⟨A, P, [], []⟩ p 0 L S hLies T.rise T.ok hH hn (by omega) (by omega)
      rw [hed]
      have h1 := hLies.count.1
      have h2 := pigeon P.length S hnd fun x hx => hH.lt hx
      exact ⟨h, t, g', hm h (.inr (by omega)), e1, e2, e3⟩
  obtain ⟨h, t, g', hh, e1, e2, e3⟩ := he
  have hturn : turnC fr A P root key G = if ed.1 ≠ 0 then (ed.1, root, overC ed.2.1 ed.1) else if (topC fr ed.2.1 ed.2.2.1 ed.2.2.2).1 ≠ 0 then ((topC fr ed.2.1 ed.2.2.1 ed.2.2.2).1, root, overC (topC fr ed.2.1 ed.2.2.1 ed.2.2.2).2.1 (topC fr ed.2.1 ed.2.2.1 ed.2.2.2).1) else (0, (topC fr ed.2.1 ed.2.2.1 ed.2.2.2).2.2, overC (topC fr ed.2.1 ed.2.2.1 ed.2.2.2).2.1 0) := by
    unfold turnC; rw [hed]
  rw [hturn]
  rcases e3 with e3 | e3
  · obtain ⟨S1, p1, p2, p3⟩ := e3.part
    rw [if_neg (by rw [e3.ok]; simp)]
    obtain ⟨t2, v1, v2, v3⟩ := top_spec p1 (act.ok _ T.ok) p3 e3.on e3.ne e3.sz
    have hci := e1.trans v1
    rw [List.append_nil] at hci
    rcases v3 with v3 | v3
    · obtain ⟨S2, k1, k2, k3⟩ := v3.root
      rw [if_neg (by rw [v3.ok]; simp)]
      obtain ⟨o1, o2, o3⟩ := over_ok (S := S) (S' := S2) hci ⟨rfl, rfl⟩ hS hnd (by
        rw [List.perm_iff_count] at *
        intro z
        have e1 := p2 z; have e2 := k2 z
        simp only [List.count_append] at *
        omega)
      exact ⟨o1, .inl ⟨rfl, v3.on.on, ⟨⟨S2, k1, o2, o3⟩, hr _ T.rise, act.ok _ T.ok⟩⟩⟩
    · rw [if_pos v3.ne]
      obtain ⟨o1, o2⟩ := over_bad (e := (topC fr ed.2.1 ed.2.2.1 ed.2.2.2).1) hci ⟨rfl, rfl⟩ v3.ne
      exact ⟨o1, .inr ⟨rfl, o2, (v3.back e1 (show 3 + t.length ≤ m by omega))⟩⟩
  · rw [if_pos e3.ne]
    obtain ⟨o1, o2⟩ := over_bad (e := ed.1) e1 ⟨rfl, rfl⟩ e3.ne
    exact ⟨o1, .inr ⟨rfl, o2, e3.mono (by omega)⟩⟩

end Go.Proofs.YtbkadlngijkmmaaGreatDoor

/- Plain law of the tree: where a leaf has a key; a pair is put, or cut; what is got. -/
namespace Go.Proofs.YtbkadlngijkmmaaGreatDoor
open Go.GV

def RiseI (M : List It) : Prop := M.Pairwise fun x y => ltB x.key y.key
theorem rise_at {M : List It} (hr : RiseI M) {i j : Nat} {x y : It} (hx : M[i]? = some x) (hy : M[j]? = some y) (h : i < j) : ltB x.key y.key := by
  obtain ⟨h1, h2⟩ := List.getElem?_eq_some_iff.1 hx
  obtain ⟨h3, h4⟩ := List.getElem?_eq_some_iff.1 hy
  have := List.pairwise_iff_getElem.1 hr i j h1 h3 h
  rwa [h2, h4] at this
theorem bs_spec {M : List It} (hr : RiseI M) (key : Byt) : ∀ (n i j : Nat), j - i ≤ n → i ≤ j → j ≤ M.length → (∀ (k : Nat) (x : It), k < i → M[k]? = some x → ltB x.key key) → (∀ (k : Nat) (x : It), j ≤ k → M[k]? = some x → ¬ ltB x.key key) →
    (∀ (k : Nat) (x : It), k < bsN M key i j → M[k]? = some x → ltB x.key key) ∧ (∀ (k : Nat) (x : It), bsN M key i j ≤ k → M[k]? = some x → ¬ ltB x.key key)
  | 0, i, j, h, hij, hj, h1, h2 => by
    rw [bsN_end (by omega)]
    exact ⟨h1, fun k x hk => h2 k x (by omega)⟩
  | n + 1, i, j, h, hij, hj, h1, h2 => by
    by_cases hlt : i < j
    · rw [bsN_lt hlt]
      obtain ⟨x, hx⟩ := get_some (l := M) (i := (i + j) / 2) (by omega)
      rw [hx]
      simp only [Option.map_some, Option.getD_some]
      by_cases hc : cmpB x.key key < 0
      · rw [if_pos hc]
        have hlx := cmpB_lt.1 hc
        refine bs_spec hr key n _ j (by omega) (by omega) hj (fun k y hk hy => ?_) h2
        rcases Nat.lt_or_ge k ((i + j) / 2) with h3 | h3
        · exact ltB_trans (rise_at hr hy hx h3) hlx
        · obtain rfl : k = (i + j) / 2 := by omega
          rw [hx] at hy; cases hy; exact hlx
      · rw [if_neg hc]
        have hlx : ¬ ltB x.key key := fun h => hc (cmpB_lt.2 h)
        refine bs_spec hr key n i _ (by omega) (by omega) (by omega) h1 fun k y hk hy => ?_
        rcases Nat.eq_or_lt_of_le hk with h3 | h3
        · subst h3
          rw [hx] at hy; cases hy; exact hlx
        · exact fun h4 => hlx (ltB_trans (rise_at hr hx hy h3) h4)
    · rw [bsN_end (by omega)]
      exact ⟨h1, fun k x hk => h2 k x (by omega)⟩
theorem place_spec {M : List It} (hr : RiseI M) (key : Byt) : (∀ x ∈ M.take (placeN M key), ltB x.key key) ∧ (∀ x ∈ M.drop (placeN M key), ¬ ltB x.key key) := by
  obtain ⟨h1, h2⟩ := bs_spec hr key _ 0 M.length (Nat.le_refl _) (Nat.zero_le _) (Nat.le_refl _) (fun k x hk => absurd hk (Nat.not_lt_zero _)) (fun k x hk hx => by have := (List.getElem?_eq_some_iff.1 hx).1; omega)
  constructor
  · intro x hx
    obtain ⟨k, hk⟩ := List.getElem?_of_mem hx
    have := (List.getElem?_eq_some_iff.1 hk).1
    rw [List.length_take] at this
    rw [List.getElem?_take_of_lt (by omega)] at hk
    exact h1 k x (by show k < placeN M key; omega) hk
  · intro x hx
    obtain ⟨k, hk⟩ := List.getElem?_of_mem hx
    rw [List.getElem?_drop] at hk
    exact h2 _ x (by show placeN M key ≤ _; omega) hk
theorem rise_leaf {L : List Pr} (h : Rising L) : RiseI (L.map leafI) := List.pairwise_map.2 h
/-- A rising list at a key: what is below, what is above, whether it is there. -/
theorem place_split {L : List Pr} (hr : Rising L) (key : Byt) : ∃ A B : List Pr, (∀ p ∈ A, ltB p.1 key) ∧ (∀ p ∈ B, ltB key p.1) ∧ (L.map leafI).take (placeN (L.map leafI) key) = A.map leafI ∧
    ((placeB (L.map leafI) key = true ∧ ∃ v, L = A ++ (key, v) :: B ∧ (L.map leafI).drop (placeN (L.map leafI) key + 1) = B.map leafI ∧ (L.map leafI)[placeN (L.map leafI) key]? = some (leafI (key, v))) ∨
     (placeB (L.map leafI) key = false ∧ L = A ++ B ∧ (L.map leafI).drop (placeN (L.map leafI) key) = B.map leafI)) := by
  obtain ⟨h1, h2⟩ := place_spec (rise_leaf hr) key
  obtain ⟨k, hk⟩ : ∃ k, k = placeN (L.map leafI) key := ⟨_, rfl⟩
  have hle : k ≤ L.length := by have := placeN_le (L.map leafI) key; rw [List.length_map] at this; omega
  rw [← hk] at h1 h2 ⊢
  rw [← List.map_take] at h1 ⊢
  rw [← List.map_drop] at h2
  have hA : ∀ p ∈ L.take k, ltB p.1 key := fun p hp => h1 _ (List.mem_map.2 ⟨p, hp, rfl⟩)
  have hB : ∀ p ∈ L.drop k, ¬ ltB p.1 key := fun p hp => h2 _ (List.mem_map.2 ⟨p, hp, rfl⟩)
  have hsp := (List.take_append_drop k L).symm
  cases hd : L.drop k with
  | nil =>
    rw [hd] at hsp
    have hlen : L.length ≤ k := by have := congrArg List.length hd; simp at this; omega
    refine ⟨L.take k, [], hA, (fun p hp => by cases hp), rfl, .inr ⟨?_, hsp, ?_⟩⟩
    · unfold placeB
      rw [← hk, List.getElem?_eq_none (by rw [List.length_map]; exact hlen)]
    · rw [← List.map_drop, hd]
  | cons q B =>
    rw [hd] at hsp hB
    have hq0 : L[k]? = some q := by
      have : (L.drop k)[0]? = some q := by rw [hd]; rfl
      rw [List.getElem?_drop] at this; exact this
    have hg : (L.map leafI)[k]? = some (leafI q) := by rw [List.getElem?_map, hq0]; rfl
    have hrB : Rising (q :: B) := by rw [hsp] at hr; exact (Rising.append.1 hr).2.1
    have hqB := (List.pairwise_cons.1 hrB).1
    have hdr : L.drop (k + 1) = B := by rw [← List.drop_drop, hd]; rfl
    rcases ltB_tri q.1 key with h3 | h3 | h3
    · exact absurd h3 (hB q (List.mem_cons_self ..))
    · refine ⟨L.take k, B, hA, fun p hp => h3 ▸ hqB p hp, rfl, .inl ⟨?_, q.2, ?_, ?_, ?_⟩⟩
      · unfold placeB
        rw [← hk, hg]
        exact decide_eq_true (by show cmpB q.1 key = 0; rw [h3]; exact cmpB_self _)
      · rw [← h3]; exact hsp
      · rw [← List.map_drop, hdr]
      · rw [hg, ← h3]
    · refine ⟨L.take k, q :: B, hA, fun p hp => ?_, rfl, .inr ⟨?_, hsp, ?_⟩⟩
      · rcases List.mem_cons.1 hp with rfl | hp
        · exact h3
        · exact ltB_trans h3 (hqB p hp)
      · unfold placeB
        rw [← hk, hg]
        exact decide_eq_false fun h => ltB_ne h3 (cmpB_eq h).symm
      · rw [← List.map_drop, hd]
theorem putP_at {A B : List Pr} {k v : Byt} {L : List Pr} (hA : ∀ p ∈ A, ltB p.1 k) (hB : ∀ p ∈ B, ltB k p.1) (hL : L = A ++ B ∨ ∃ u, L = A ++ (k, u) :: B) : putP L k v = A ++ ((k, v) :: B) := by
  have f1 : A.filter (fun p => decide (ltB p.1 k)) = A := filter_all fun p hp => decide_eq_true (hA p hp)
  have f2 : B.filter (fun p => decide (ltB p.1 k)) = [] := filter_none fun p hp => decide_eq_false (ltB_asymm (hB p hp))
  have f3 : A.filter (fun p => decide (ltB k p.1)) = [] := filter_none fun p hp => decide_eq_false (ltB_asymm (hA p hp))
  have f4 : B.filter (fun p => decide (ltB k p.1)) = B := filter_all fun p hp => decide_eq_true (hB p hp)
  unfold putP
  rcases hL with rfl | ⟨u, rfl⟩
  · rw [List.filter_append, List.filter_append, f1, f2, f3, f4]; simp
  · have hkk : decide (ltB k k) = false := decide_eq_false (ltB_irrefl k)
    rw [List.filter_append, List.filter_append, List.filter_cons, List.filter_cons, f1, f2, f3, f4]
    simp [hkk]
theorem cutP_at {A B : List Pr} {k : Byt} {L : List Pr} (hA : ∀ p ∈ A, ltB p.1 k) (hB : ∀ p ∈ B, ltB k p.1) (hL : L = A ++ B ∨ ∃ u, L = A ++ (k, u) :: B) : cutP L k = A ++ B := by
  have f1 : A.filter (fun p => !decide (p.1 = k)) = A := filter_all fun p hp => by rw [decide_eq_false (ltB_ne (hA p hp))]; rfl
  have f2 : B.filter (fun p => !decide (p.1 = k)) = B := filter_all fun p hp => by rw [decide_eq_false (fun e => ltB_ne (hB p hp) e.symm)]; rfl
  unfold cutP
  rcases hL with rfl | ⟨u, rfl⟩
  · rw [List.filter_append, f1, f2]
  · rw [List.filter_append, List.filter_cons, f1, f2]; simp
theorem getP_at {A B : List Pr} {k : Byt} (hA : ∀ p ∈ A, ltB p.1 k) (hB : ∀ p ∈ B, ltB k p.1) : getP (A ++ B) k = none ∧ ∀ u, getP (A ++ (k, u) :: B) k = some u := by
  have f1 : A.find? (fun p => decide (p.1 = k)) = none := List.find?_eq_none.2 fun p hp => by simpa using ltB_ne (hA p hp)
  have f2 : B.find? (fun p => decide (p.1 = k)) = none := List.find?_eq_none.2 fun p hp => by simpa using fun e => ltB_ne (hB p hp) e.symm
  unfold getP
  refine ⟨by rw [List.find?_append, f1, f2]; rfl, fun u => ?_⟩
  rw [List.find?_append, f1, List.find?_cons, decide_eq_true rfl]; rfl
theorem ins_leaf {L : List Pr} (hr : Rising L) (key val : Byt) : insI key val (L.map leafI) = (putP L key val).map leafI := by
  obtain ⟨A, B, hA, hB, ht, h | h⟩ := place_split hr key
  · obtain ⟨h1, v, h2, h3, _⟩ := h
    unfold insI
    rw [if_pos h1, ht, h3, putP_at hA hB (.inr ⟨v, h2⟩), List.map_append, List.map_cons]; rfl
  · obtain ⟨h1, h2, h3⟩ := h
    unfold insI
    rw [if_neg (by rw [h1]; simp), ht, h3, putP_at hA hB (.inl h2), List.map_append, List.map_cons]; rfl
theorem del_leaf {L : List Pr} (hr : Rising L) (key : Byt) : delI key (L.map leafI) = (cutP L key).map leafI := by
  obtain ⟨A, B, hA, hB, ht, h | h⟩ := place_split hr key
  · obtain ⟨h1, v, h2, h3, _⟩ := h
    unfold delI
    rw [if_pos h1, ht, h3, cutP_at hA hB (.inr ⟨v, h2⟩), List.map_append]
  · obtain ⟨h1, h2, h3⟩ := h
    unfold delI
    rw [if_neg (by rw [h1]; simp), cutP_at hA hB (.inl h2), ← h2]
theorem total_cut (i : Bool) (l : List It) (k m : Nat) (hk : k ≤ m) : totalI i (l.take k) + totalI i (l.drop m) ≤ totalI i l := by
  have h1 := totalI_append i (l.take k) (l.drop k)
  rw [List.take_append_drop] at h1
  have h2 := totalI_append i ((l.drop k).take (m - k)) ((l.drop k).drop (m - k))
  rw [List.take_append_drop, List.drop_drop, show k + (m - k) = m by omega] at h2
  omega
theorem acts_put {key val : Byt} (hk : 1 ≤ key.length) (hk2 : key.length ≤ 32) (hv : val.length ≤ 128) : Acts key (insI key val) (fun L => putP L key val) := by
  refine ⟨fun L hr _ => ins_leaf hr key val, fun A L B hA hB => putP_mid hA hB, fun L ho p hp => ?_, fun L hr ho => ?_⟩
  · rcases putP_mem hp with rfl | h
    · exact ⟨hk, hk2, hv⟩
    · exact ho p h
  · rw [← ins_leaf hr key val]
    have h5 : totalI false [(⟨key, val, 0⟩ : It)] ≤ 164 := by show 4 + key.length + val.length + 0 ≤ 164; omega
    unfold insI
    split
    · have := total_cut false (L.map leafI) (placeN (L.map leafI) key) (placeN (L.map leafI) key + 1) (by omega)
      rw [totalI_append, totalI_append]; omega
    · have := total_cut false (L.map leafI) (placeN (L.map leafI) key) (placeN (L.map leafI) key) (by omega)
      rw [totalI_append, totalI_append]; omega
theorem acts_cut (key : Byt) : Acts key (delI key) (fun L => cutP L key) := by
  refine ⟨fun L hr _ => del_leaf hr key, fun A L B hA hB => cutP_mid hA hB, fun L ho p hp => ho p (cutP_mem hp), fun L hr ho => ?_⟩
  rw [← del_leaf hr key]
  unfold delI
  split
  · have := total_cut false (L.map leafI) (placeN (L.map leafI) key) (placeN (L.map leafI) key + 1) (by omega)
    rw [totalI_append]; omega
  · omega
/-! ### What is got -/
theorem get_spec {fr sz : Nat} {A : Dev} (key : Byt) (hon : A.on = true) (hl : fr + sz ≤ A.B.length) : ∀ (h n p d : Nat) (L : List Pr) (S : List Nat), Lies (RD A fr) h p L S → Rising L → (∀ x ∈ S, x < sz) → d + h ≤ 16 → h < n →
    getG A fr sz key n (p : Int) (d : Int) = (0, getP L key)
  | 0, n + 1, p, d, L, S, hL, hr, hs, hd, hn => by
    have hp := hs p hL.page
    obtain ⟨i, M, S', ⟨rfl, rfl, rfl⟩, h2, rfl, h4, h5⟩ := hL
    have hrd := readT_of hon hp hl (show d ≤ 16 by omega) h2
    rw [getG_1, if_neg (by omega), hrd]
    dsimp only
    obtain ⟨A', B', hA, hB, ht, h | h⟩ := place_split hr key
    · obtain ⟨h1, v, h2, h3, h6⟩ := h
      rw [if_pos h1, h6, h2, (getP_at hA hB).2 v]; rfl
    · obtain ⟨h1, h2, h3⟩ := h
      rw [if_neg (by rw [h1]; simp), h2, (getP_at hA hB).1]
  | h + 1, n + 1, p, d, L, S, hL, hr, hs, hd, hn => by
    have hp := hs p hL.page
    obtain ⟨i, l, S', ⟨rfl, hk⟩, h2, rfl, h4, h5⟩ := hL
    have hrd := readT_of hon hp hl (show d ≤ 16 by omega) h2
    rw [getG_1, if_neg (by omega), hrd]
    dsimp only
    obtain ⟨a, x, b, La, Lx, Lb, Sa, Sx, Sb, rfl, hal, rfl, rfl, ka, q1, q2, q3, kb, hlo, hhi⟩ := below_split hk hr h4.ne key
    have hpg : ((a ++ x :: b)[belowN (a ++ x :: b) key]?.map (·.page)).getD 0 = x.page := pageAt_mid hal
    rw [hpg, getP_mid hlo hhi]
    exact get_spec key hon hl h n x.page (d + 1) Lx Sx q1 (Rising.append.1 (Rising.append.1 hr).2.1).1 (fun x hx => hs x (by simp [hx])) (by omega) (by omega)

end Go.Proofs.YtbkadlngijkmmaaGreatDoor

/- The document's pairs: cut, put, scanned: the walks. -/
namespace Go.Proofs.YtbkadlngijkmmaaGreatDoor
open Go.GV
theorem ag_70_TrFb : aggB Tryz.prog 70 = some true := by kernel_rfl
theorem by_70_TrFb : tbytes Tryz.prog 70 = some 48 := by kernel_rfl
theorem el_28_TrFb : elemT Tryz.prog 28 = some 70 := by kernel_rfl
theorem fo_70_0_TrFb : fieldO Tryz.prog 70 0 = some 0 := by kernel_rfl
theorem pl_70_TrFb : placesB Tryz.prog 70 = some [(0, 1), (1, 1)] := by kernel_rfl
theorem sz_70_TrFb : tsize Tryz.prog 70 = some 2 := by kernel_rfl
theorem zc_70_TrFb : zcells Tryz.prog 70 = some ([.slice none 0 0, .slice none 0 0]) := by kernel_rfl
attribute [local irreducible] Wops W Wq Wt

theorem Prs.of {w0 w : World} {M : Mut} (hM : ∀ x, M x → x < w0.heap.size) {a : Option Addr} {n c : Nat} {full : List Value} {ps : List Im} (H : Ctx w0 [] w (ent a 70 full)) (O : OS a n c 2 full (ps.flatMap encP)) (hok : ∀ m ∈ ps, m.Ok w0 M) {L : List Pr} (hl : ps.map (fun m => prI m.it) = L) : Prs w M a L.length c L := by
  have hn : n = ps.length := O.numN (fun _ _ => rfl) (by decide)
  have hL : L.length = n := by rw [← hl, List.length_map, hn]
  refine ⟨⟨ps, OS.rd O H.blk (fun _ _ => rfl) (by decide), ?_, hl, fun m hm => (hok m hm).call H.ext⟩, rfl, by rw [hL]; exact O.le⟩
  cases ha : a with
  | none =>
    left
    have h8 := O.none' ha; have h9 := O.le
    exact List.eq_nil_of_length_eq_zero (by omega)
  | some q =>
    right
    have h8 := (H.own (q.block, Bl 70 full) (by rw [ha]; exact List.mem_singleton.2 rfl)).elim (fun h => by cases h) id
    obtain ⟨qb, qo, qs⟩ := q
    exact fun h => by have := hM _ h; dsimp only [adr] at this h8; omega
theorem cutP_snoc {A : List Pr} {p : Pr} {k : Byt} : cutP (A ++ [p]) k = cutP A k ++ if p.1 = k then [] else [p] := by
  unfold cutP
  rw [List.filter_append]
  congr 1
  by_cases h : p.1 = k
  · rw [if_pos h, List.filter_cons, decide_eq_true h]; rfl
  · rw [if_neg h, List.filter_cons, decide_eq_false h]; rfl
theorem putP_snoc {A : List Pr} {p : Pr} {k v : Byt} (h : ltB k p.1) : putP (A ++ [p]) k v = putP A k v ++ [p] := by
  unfold putP
  rw [List.filter_append, List.filter_append, List.filter_cons, List.filter_cons, decide_eq_false (ltB_asymm h), decide_eq_true h]
  simp

set_option maxRecDepth 20000 in
set_option maxHeartbeats 4000000 in
theorem rcut7_ok {w : World} {M : Mut} (hM : ∀ x, M x → x < w.heap.size) {a ka : Option Addr} {n c kn kc : Nat} {L : List Pr} {key : Byt} (PL : Prs w M a n c L) (hn : n ≤ 100000000) (Rk : Rd w ka 1 B8 key) (hk : key.length = kn) :
    Ret Tryz.prog 40 #[.slice a n c, .slice ka kn kc] w fun v w' => ∃ a' c', v = .slice a' (cutP L key).length c' ∧ Prs w' M a' (cutP L key).length c' (cutP L key) ∧ Ext [] w w' := by
  subst hk
  obtain ⟨w0, rfl⟩ : ∃ w0, w0 = w := ⟨_, rfl⟩
  obtain ⟨ps, Rp, -, hl, hp⟩ := PL.ex
  have hnL := PL.num
  have hpn : ps.length = n := by rw [hnL, ← hl, List.length_map]
  refine ret_of_W (fn := Tryz.f40) Tryz.func40 rfl [.slice a n c, .slice ka key.length kc] rfl (by kernel_rfl) ?_
  refine W_rseq ?_
  refine op_assign rfl (.slice _ _ _) rfl ?_
  refine op_nil (at_then ?_)
  refine W_rseq ?_
  refine op_assign rfl (.slice _ _ _) rfl ?_
  refine op_nil (at_then ?_)
  refine W_seq ?_
  refine W_rseq ?_
  refine op_assign rfl (.int _ _) rfl ?_
  refine op_nil (at_then ?_)
  refine W_block ?_
  refine W_loop 536870880 (α := Nat × Option Addr × Nat × Nat × List Value × List Im) (fun s => [(6, .int .i64 (s.1 : Int)), (5, .slice s.2.1 s.2.2.1 s.2.2.2.1)]) (fun s w' => s.1 ≤ n ∧ s.2.2.1 ≤ s.1 ∧ Ctx w0 [] w' (ent s.2.1 70 s.2.2.2.2.1) ∧ OS s.2.1 s.2.2.1 s.2.2.2.1 2 s.2.2.2.2.1 (s.2.2.2.2.2.flatMap encP) ∧ s.2.2.2.2.2.map (fun m => prI m.it) = cutP (L.take s.1) key ∧ ∀ m ∈ s.2.2.2.2.2, m.Ok w0 M) (fun s => n - s.1) (0, none, 0, 0, [], []) rfl ?_ ?_ ?_
  · exact ⟨rfl, rfl, trivial⟩
  · exact ⟨Nat.zero_le _, Nat.le_refl _, Ctx.start w0 [], OS.nil, rfl, fun m h => by cases h⟩
  · rintro ⟨i, a5, n5, c5, f5, qs⟩ j w ⟨hi, hn5, H, O, hq, hok⟩; dsimp only at hi hn5 H O hq hok; dsimp only
    refine W_seq ?_
    refine W_rseq ?_
    refine op_move rfl (.int _ _) rfl ?_
    refine op_move rfl (.slice _ _ _) rfl ?_
    refine op_len rfl el_28_TrFb rfl ?_
    refine op_lss rfl rfl rfl ?_
    refine op_nil (at_then ?_)
    refine W_cond _ rfl ?_ ?_
    · intro hB
      replace hB := dec_t hB
      obtain ⟨x, hx1⟩ := get_some (l := ps) (i := i) (by omega)
      have hxo := hp x (List.mem_of_getElem? hx1)
      have hxL : L[i]? = some (prI x.it) := by rw [← hl, List.getElem?_map, hx1]; rfl
      have hxd := H.ext.trans (Ext.drew [] w)
      have hsn := cutP_snoc (A := L.take i) (p := prI x.it) (k := key)
      rw [← take_snoc hxL] at hsn
      refine W_skip (at_then ?_)
      refine W_seq ?_
      refine W_block ?_
      refine W_qseq (fun x => x = _) mixed (by kernel_rfl) rfl ?_
      refine q_move rfl (.slice _ _ _) rfl ?_
      refine q_move rfl (.int _ _) rfl ?_
      first | refine q_indexRd Rp rfl el_28_TrFb sz_70_TrFb rfl rfl (by omega) (by omega) (by first | rfl | omega) ?_ | refine q_indexAddr rfl el_28_TrFb sz_70_TrFb rfl rfl (by omega) (by omega) ?_
      refine q_fieldAddr rfl fo_70_0_TrFb rfl ?_
      first | refine q_ldb rfl ag_23 rfl (by rintro _ rfl; exact H.drew) (by first | exact at0 | exact at1 | exact at2 | exact at3 | exact at4 | exact at5 | exact at6 | exact at7 | exact at8 | exact at9) rfl ?_ | refine q_ld rfl ag_23 rfl (by rintro _ rfl; exact ((Rp.ext0 hxd).fld hx1 rfl (j := 0) rfl)) ?_
      refine q_back (l := x.it.key) rfl el_23 un_5 un_9 rfl (by rintro _ rfl; exact hxo.k.1.ext0 hxd) ?_
      refine q_move rfl (.slice _ _ _) rfl ?_
      refine q_back (l := key) rfl el_23 un_5 un_9 rfl (by rintro _ rfl; exact Rk.ext0 hxd) ?_
      refine q_strne rfl rfl rfl ?_
      refine q_nil ?_
      rintro _ rfl
      replace H := H.drew
      refine W_cond _ rfl ?_ ?_
      · intro hC
        have hC' : x.it.key ≠ key := by simpa using hC
        rw [if_neg (show ¬ (prI x.it).1 = key from hC')] at hsn
        refine W_region ?_
        refine op_move rfl (.slice _ _ _) rfl ?_
        refine op_move rfl (.slice _ _ _) rfl ?_
        refine op_move rfl (.int _ _) rfl ?_
        first | refine op_indexRd Rp rfl el_28_TrFb sz_70_TrFb rfl rfl (by omega) (by omega) (by first | rfl | omega) ?_ | refine op_indexAddr rfl el_28_TrFb sz_70_TrFb rfl rfl (by omega) (by omega) ?_
        first | refine op_ldN _ rfl ag_70_TrFb sz_70_TrFb rfl rfl ((Rp.ext0 H.ext).row hx1 rfl) ?_ | refine op_ldbN rfl ag_70_TrFb sz_70_TrFb rfl H (by first | exact at0 | exact at1 | exact at2 | exact at3 | exact at4 | exact at5 | exact at6 | exact at7 | exact at8 | exact at9) rfl ?_
        refine op_build1 (encP x) (.agg _) rfl el_28_TrFb sz_70_TrFb zc_70_TrFb rfl (by decide) (by decide) rfl rfl rfl H ?_
        rintro b27 w - H
        refine op_appendb (L := []) rfl el_28_TrFb el_28_TrFb sz_70_TrFb by_70_TrFb zc_70_TrFb rfl (by decide) rfl rfl H O rfl (encP_one x) (by omega) ?_
        rintro a28 c28 f28 w H O28
        refine op_assign rfl (.slice _ _ _) rfl ?_
        refine op_nil (at_block (at_then ?_))
        refine W_region ?_
        refine op_move rfl (.int _ _) rfl ?_
        refine op_add_i64 rfl rfl rfl (by omega) (by omega) ?_
        refine op_assign rfl (.int _ _) rfl ?_
        refine op_nil (at_then ?_)
        refine ⟨(i + 1, a28, n5 + 1, c28, f28, qs ++ [x]), rfl, ⟨rfl, rfl, trivial⟩, ⟨by dsimp only; omega, by dsimp only; omega, H, by dsimp only; rw [List.flatMap_append, List.flatMap_singleton]; exact O28, by dsimp only; rw [List.map_append, hq, hsn]; rfl, fun m hm => ?_⟩, by dsimp only; omega⟩
        dsimp only at hm
        rcases List.mem_append.1 hm with hm | hm
        · exact hok m hm
        · rw [List.mem_singleton.1 hm]; exact hxo
      · intro hC
        have hC' : x.it.key = key := by simpa using hC
        rw [if_pos (show (prI x.it).1 = key from hC'), List.append_nil] at hsn
        refine W_skip (at_block (at_then ?_))
        refine W_region ?_
        refine op_move rfl (.int _ _) rfl ?_
        refine op_add_i64 rfl rfl rfl (by omega) (by omega) ?_
        refine op_assign rfl (.int _ _) rfl ?_
        refine op_nil (at_then ?_)
        exact ⟨(i + 1, a5, n5, c5, f5, qs), rfl, ⟨rfl, rfl, trivial⟩, ⟨by dsimp only; omega, by dsimp only; omega, H, O, by dsimp only; rw [hsn]; exact hq, hok⟩, by dsimp only; omega⟩
    · intro hB
      replace hB := dec_f hB
      rw [List.take_of_length_le (by omega)] at hq
      have hl5 : (cutP L key).length = n5 := by rw [← hq, List.length_map]; exact (O.numN (fun _ _ => rfl) (by decide)).symm
      refine W_exit (exit_then (exit_then (exit_here (at_then ?_))))
      refine W_rseq ?_
      refine op_move rfl (.slice _ _ _) rfl ?_
      refine op_assign rfl (.slice _ _ _) rfl ?_
      refine op_nil (at_then ?_)
      refine W_ret (leave1 (v := (.slice _ _ _)) rfl rfl rfl ?_)
      exact ⟨a5, c5, by rw [hl5], Prs.of hM H O hok hq, H.ext⟩

theorem put_step {A : List Pr} {key val : Byt} {p : Pr} {dn : Bool} {out : List Pr} (hrt : Rising (A ++ [p])) (hq0 : dn = false → (∀ q ∈ A, ltB q.1 key) ∧ out = A) (hq1 : dn = true → (∃ q ∈ A, ¬ ltB q.1 key) ∧ out = putP A key val) :
    ((dn || decide (¬ ltB p.1 key)) = false → (∀ q ∈ A ++ [p], ltB q.1 key) ∧ (out ++ if (!dn && decide (¬ ltB p.1 key)) = true then [(key, val)] else []) ++ (if p.1 = key then [] else [p]) = A ++ [p]) ∧
    ((dn || decide (¬ ltB p.1 key)) = true → (∃ q ∈ A ++ [p], ¬ ltB q.1 key) ∧ (out ++ if (!dn && decide (¬ ltB p.1 key)) = true then [(key, val)] else []) ++ (if p.1 = key then [] else [p]) = putP (A ++ [p]) key val) := by
  have hlast := (Rising.append.1 hrt).2.2
  cases dn with
  | true =>
    obtain ⟨⟨q, hq, hqk⟩, rfl⟩ := hq1 rfl
    have hpk : ltB key p.1 := by
      rcases ltB_tri key q.1 with h | h | h
      · exact ltB_trans h (hlast q hq p (by simp))
      · exact h ▸ hlast q hq p (by simp)
      · exact absurd h hqk
    refine ⟨(fun h => by cases h), fun _ => ⟨⟨q, by simp [hq], hqk⟩, ?_⟩⟩
    rw [putP_snoc hpk, if_neg (show ¬ p.1 = key from fun e => ltB_ne hpk e.symm)]
    simp
  | false =>
    obtain ⟨hA, rfl⟩ := hq0 rfl
    by_cases hlt : ltB p.1 key
    · refine ⟨fun _ => ⟨fun q hq => ?_, ?_⟩, (fun h => by simp [hlt] at h)⟩
      · rcases List.mem_append.1 hq with hq | hq
        · exact hA q hq
        · rw [List.mem_singleton.1 hq]; exact hlt
      · rw [if_neg (show ¬ p.1 = key from ltB_ne hlt)]; simp [hlt]
    · refine ⟨(fun h => by simp [hlt] at h), fun _ => ⟨⟨p, by simp, hlt⟩, ?_⟩⟩
      by_cases hpk : p.1 = key
      · obtain ⟨k, u⟩ := p
        dsimp only at hpk
        subst hpk
        rw [putP_at (A := out) (B := []) hA (fun q h => by cases h) (.inr ⟨u, rfl⟩), if_pos rfl]
        simp [hlt]
      · have hgt : ltB key p.1 := by
          rcases ltB_tri key p.1 with h | h | h
          · exact h
          · exact absurd h.symm hpk
          · exact absurd h hlt
        rw [putP_at (A := out) (B := [p]) hA (fun q h => by rw [List.mem_singleton.1 h]; exact hgt) (.inl rfl), if_neg hpk]
        simp [hlt]

set_option maxRecDepth 20000 in
set_option maxHeartbeats 4000000 in
theorem rput7_ok {w : World} {M : Mut} (hM : ∀ x, M x → x < w.heap.size) {a ka va : Option Addr} {n c kn kc vn vc : Nat} {L : List Pr} {key val : Byt} (PL : Prs w M a n c L) (hn : n ≤ 100000000) (Rk : Rdx w M ka key) (hk : key.length = kn) (hkc : kn ≤ kc) (Rv : Rdx w M va val) (hv : val.length = vn) (hvc : vn ≤ vc) (hL : Rising L) :
    Ret Tryz.prog 41 #[.slice a n c, .slice ka kn kc, .slice va vn vc] w fun v w' => ∃ a' c', v = .slice a' (putP L key val).length c' ∧ Prs w' M a' (putP L key val).length c' (putP L key val) ∧ Ext [] w w' := by
  subst hk hv
  obtain ⟨w0, rfl⟩ : ∃ w0, w0 = w := ⟨_, rfl⟩
  obtain ⟨ps, Rp, -, hl, hp⟩ := PL.ex
  have hnL := PL.num
  have hpn : ps.length = n := by rw [hnL, ← hl, List.length_map]
  obtain ⟨z, hz⟩ : ∃ z : Im, z = ⟨ka, kc, va, vc, ⟨key, val, 0⟩⟩ := ⟨_, rfl⟩
  have hzo : z.Ok w0 M := by rw [hz]; exact ⟨Rk, Rv, hkc, hvc⟩
  have hzp : prI z.it = (key, val) := by rw [hz]; rfl
  have hze : encP z = [.slice ka key.length kc, .slice va val.length vc] := by rw [hz]; rfl
  refine ret_of_W (fn := Tryz.f41) Tryz.func41 rfl [.slice a n c, .slice ka key.length kc, .slice va val.length vc] rfl (by kernel_rfl) ?_
  refine W_rseq ?_
  refine op_assign rfl (.slice _ _ _) rfl ?_
  refine op_nil (at_then ?_)
  refine W_rseq ?_
  refine op_assign rfl (.slice _ _ _) rfl ?_
  refine op_nil (at_then ?_)
  refine W_rseq ?_
  refine op_assign rfl (.bool _) rfl ?_
  refine op_nil (at_then ?_)
  refine W_seq ?_
  refine W_rseq ?_
  refine op_assign rfl (.int _ _) rfl ?_
  refine op_nil (at_then ?_)
  refine W_block ?_
  refine W_loop 2251799813685120 (α := Nat × Option Addr × Nat × Nat × List Value × List Im × Bool) (fun s => [(9, .int .i64 (s.1 : Int)), (7, .slice s.2.1 s.2.2.1 s.2.2.2.1), (8, .bool s.2.2.2.2.2.2)]) (fun s w' => s.1 ≤ n ∧ s.2.2.1 ≤ s.1 + 1 ∧ Ctx w0 [] w' (ent s.2.1 70 s.2.2.2.2.1) ∧ OS s.2.1 s.2.2.1 s.2.2.2.1 2 s.2.2.2.2.1 (s.2.2.2.2.2.1.flatMap encP) ∧ (s.2.2.2.2.2.2 = false → (∀ p ∈ L.take s.1, ltB p.1 key) ∧ s.2.2.2.2.2.1.map (fun m => prI m.it) = L.take s.1) ∧ (s.2.2.2.2.2.2 = true → (∃ p ∈ L.take s.1, ¬ ltB p.1 key) ∧ s.2.2.2.2.2.1.map (fun m => prI m.it) = putP (L.take s.1) key val) ∧ ∀ m ∈ s.2.2.2.2.2.1, m.Ok w0 M) (fun s => n - s.1) (0, none, 0, 0, [], [], false) rfl ?_ ?_ ?_
  · exact ⟨rfl, rfl, rfl, trivial⟩
  · exact ⟨Nat.zero_le _, Nat.zero_le _, Ctx.start w0 [], OS.nil, fun _ => ⟨(fun p h => by cases h), rfl⟩, (fun h => by cases h), fun m h => by cases h⟩
  · rintro ⟨i, a5, n5, c5, f5, qs, dn⟩ j w ⟨hi, hn5, H, O, hq0, hq1, hok⟩; dsimp only at hi hn5 H O hq0 hq1 hok; dsimp only
    refine W_seq ?_
    refine W_rseq ?_
    refine op_move rfl (.int _ _) rfl ?_
    refine op_move rfl (.slice _ _ _) rfl ?_
    refine op_len rfl el_28_TrFb rfl ?_
    refine op_lss rfl rfl rfl ?_
    refine op_nil (at_then ?_)
    refine W_cond _ rfl ?_ ?_
    · intro hB
      replace hB := dec_t hB
      obtain ⟨x, hx1⟩ := get_some (l := ps) (i := i) (by omega)
      have hxo := hp x (List.mem_of_getElem? hx1)
      have hxL : L[i]? = some (prI x.it) := by rw [← hl, List.getElem?_map, hx1]; rfl
      have hts := take_snoc hxL
      have hrt : Rising (L.take (i + 1)) := hL.sublist (List.take_sublist _ _)
      rw [hts] at hrt
      have hxd := H.ext.trans (Ext.drew [] w)
      have hcmp : (!decide (cmpB x.it.key key = -1)) = decide (¬ ltB x.it.key key) := by
        by_cases h : cmpB x.it.key key = -1
        · rw [decide_eq_true h, decide_eq_false (fun h2 => h2 h)]; rfl
        · rw [decide_eq_false h, decide_eq_true (show ¬ ltB x.it.key key from h)]; rfl
      refine W_skip (at_then ?_)
      refine W_seq ?_
      refine W_block ?_
      refine W_seq ?_
      refine W_join 536805376 (α := Unit) (fun _ => [(28, .bool (!dn && decide (¬ ltB x.it.key key)))]) (fun _ w' => Ctx w0 [] w' (ent a5 70 f5)) rfl ?_ ?_
      · skip
        refine W_quiet (fun x => x = _) mixed (by kernel_rfl) rfl ?_
        refine q_move rfl (.bool _) rfl ?_
        refine q_not rfl rfl ?_
        refine q_move rfl (.bool _) rfl ?_
        refine Wq_split 18 rfl ?_ ?_
        · intro hC
          replace hC := nvar_t hC
          refine q_move rfl (.slice _ _ _) rfl ?_
          refine q_move rfl (.int _ _) rfl ?_
          first | refine q_indexRd Rp rfl el_28_TrFb sz_70_TrFb rfl rfl (by omega) (by omega) (by first | rfl | omega) ?_ | refine q_indexAddr rfl el_28_TrFb sz_70_TrFb rfl rfl (by omega) (by omega) ?_
          refine q_fieldAddr rfl fo_70_0_TrFb rfl ?_
          first | refine q_ldb rfl ag_23 rfl (by rintro _ rfl; exact H.drew) (by first | exact at0 | exact at1 | exact at2 | exact at3 | exact at4 | exact at5 | exact at6 | exact at7 | exact at8 | exact at9) rfl ?_ | refine q_ld rfl ag_23 rfl (by rintro _ rfl; exact ((Rp.ext0 hxd).fld hx1 rfl (j := 0) rfl)) ?_
          refine q_back (l := x.it.key) rfl el_23 un_5 un_9 rfl (by rintro _ rfl; exact hxo.k.1.ext0 hxd) ?_
          refine q_move rfl (.slice _ _ _) rfl ?_
          refine q_back (l := key) rfl el_23 un_5 un_9 rfl (by rintro _ rfl; exact Rk.1.ext0 hxd) ?_
          refine q_strge rfl rfl rfl ?_
          refine q_pick1 rfl rfl (.bool _) rfl ?_
          refine q_nil ?_
          rintro _ rfl
          replace H := H.drew
          refine at_then ?_
          exact ⟨(), rfl, ⟨congrArg Value.bool (by rw [hC, ← hcmp]; rfl), trivial⟩, H⟩
        · intro hC
          replace hC := nvar_f hC
          refine q_skip rfl ?_
          refine q_skip rfl ?_
          refine q_skip rfl ?_
          refine q_skip rfl ?_
          refine q_skip rfl ?_
          refine q_skip rfl ?_
          refine q_skip rfl ?_
          refine q_skip rfl ?_
          refine q_skip rfl ?_
          refine q_pick0 rfl rfl (.bool _) rfl ?_
          refine q_nil ?_
          rintro _ rfl
          replace H := H.drew
          refine at_then ?_
          exact ⟨(), rfl, ⟨congrArg Value.bool (by rw [hC]; rfl), trivial⟩, H⟩
      · rintro - j28 w H
        refine W_joinK 33822867840 (α := Option Addr × Nat × Nat × List Value × List Im) (fun s => [(7, .slice s.1 s.2.1 s.2.2.1), (8, .bool (dn || decide (¬ ltB x.it.key key)))]) (fun s w' => s.2.1 ≤ i + 1 ∧ Ctx w0 [] w' (ent s.1 70 s.2.2.2.1) ∧ OS s.1 s.2.1 s.2.2.1 2 s.2.2.2.1 (s.2.2.2.2.flatMap encP) ∧ s.2.2.2.2.map (fun m => prI m.it) = (qs.map fun m => prI m.it) ++ (if (!dn && decide (¬ ltB x.it.key key)) = true then [(key, val)] else []) ∧ ∀ m ∈ s.2.2.2.2, m.Ok w0 M) rfl ?_ ?_
        · skip
          refine W_cond _ rfl ?_ ?_
          · intro hD
            have hD2 : dn = false ∧ ¬ ltB x.it.key key := by
              rw [Bool.and_eq_true, decide_eq_true_eq] at hD
              exact ⟨by simpa using hD.1, hD.2⟩
            have hqn : n5 = i := by
              have h1 := O.numN (fun _ _ => rfl) (by decide)
              have h2 := congrArg List.length (hq0 hD2.1).2
              rw [List.length_map, List.length_take] at h2
              omega
            refine W_rseq ?_
            refine op_move rfl (.slice _ _ _) rfl ?_
            refine op_move rfl (.slice _ _ _) rfl ?_
            refine op_move rfl (.slice _ _ _) rfl ?_
            refine op_buildS [.slice ka key.length kc, .slice va val.length vc] rfl pl_70_TrFb zc_70_TrFb (by kernel_rfl) ?_
            refine op_build1 [.slice ka key.length kc, .slice va val.length vc] (.agg _) rfl el_28_TrFb sz_70_TrFb zc_70_TrFb rfl (by decide) (by decide) rfl rfl rfl H ?_
            rintro b33 w - H
            refine op_appendb (L := []) rfl el_28_TrFb el_28_TrFb sz_70_TrFb by_70_TrFb zc_70_TrFb rfl (by decide) rfl rfl H O rfl (by rw [← hze]; exact encP_one z) (by omega) ?_
            rintro a34 c34 f34 w H O34
            refine op_assign rfl (.slice _ _ _) rfl ?_
            refine op_nil (at_then ?_)
            refine W_region ?_
            refine op_assign rfl (.bool _) rfl ?_
            refine op_nil (at_then ?_)
            refine ⟨(a34, n5 + 1, c34, f34, qs ++ [z]), rfl, ⟨rfl, congrArg Value.bool (by rw [hD2.1, decide_eq_true hD2.2]; rfl), trivial⟩, by dsimp only; omega, H, by dsimp only; rw [List.flatMap_append, List.flatMap_singleton, hze]; exact O34, by dsimp only; rw [if_pos hD, List.map_append, List.map_singleton, hzp], fun m hm => ?_⟩
            dsimp only at hm
            rcases List.mem_append.1 hm with hm | hm
            · exact hok m hm
            · rw [List.mem_singleton.1 hm]; exact hzo
          · intro hD
            refine W_skip (at_then ?_)
            exact ⟨(a5, n5, c5, f5, qs), rfl, ⟨rfl, congrArg Value.bool (by cases hdn : dn <;> rw [hdn] at hD <;> simp at hD ⊢; exact hD), trivial⟩, hn5, H, O, by dsimp only; rw [if_neg (by rw [hD]; simp), List.append_nil], hok⟩
        · rintro ⟨a7, n7, c7, f7, q7⟩ j7 w ⟨hn7, H, O7, hq7, hok7⟩; dsimp only at hn7 H O7 hq7 hok7; dsimp only
          have hxd := H.ext.trans (Ext.drew [] w)
          obtain ⟨st0, st1⟩ := put_step (val := val) hrt hq0 hq1
          simp only [show (prI x.it).1 = x.it.key from rfl] at st0 st1
          rw [← hts, ← hq7] at st0 st1
          refine W_qseq (fun x => x = _) mixed (by kernel_rfl) rfl ?_
          refine q_move rfl (.slice _ _ _) rfl ?_
          refine q_move rfl (.int _ _) rfl ?_
          first | refine q_indexRd Rp rfl el_28_TrFb sz_70_TrFb rfl rfl (by omega) (by omega) (by first | rfl | omega) ?_ | refine q_indexAddr rfl el_28_TrFb sz_70_TrFb rfl rfl (by omega) (by omega) ?_
          refine q_fieldAddr rfl fo_70_0_TrFb rfl ?_
          first | refine q_ldb rfl ag_23 rfl (by rintro _ rfl; exact H.drew) (by first | exact at0 | exact at1 | exact at2 | exact at3 | exact at4 | exact at5 | exact at6 | exact at7 | exact at8 | exact at9) rfl ?_ | refine q_ld rfl ag_23 rfl (by rintro _ rfl; exact ((Rp.ext0 hxd).fld hx1 rfl (j := 0) rfl)) ?_
          refine q_back (l := x.it.key) rfl el_23 un_5 un_9 rfl (by rintro _ rfl; exact hxo.k.1.ext0 hxd) ?_
          refine q_move rfl (.slice _ _ _) rfl ?_
          refine q_back (l := key) rfl el_23 un_5 un_9 rfl (by rintro _ rfl; exact Rk.1.ext0 hxd) ?_
          refine q_strne rfl rfl rfl ?_
          refine q_nil ?_
          rintro _ rfl
          replace H := H.drew
          refine W_cond _ rfl ?_ ?_
          · intro hE
            have hE' : x.it.key ≠ key := by simpa using hE
            rw [if_neg hE'] at st0 st1
            refine W_region ?_
            refine op_move rfl (.slice _ _ _) rfl ?_
            refine op_move rfl (.slice _ _ _) rfl ?_
            refine op_move rfl (.int _ _) rfl ?_
            first | refine op_indexRd Rp rfl el_28_TrFb sz_70_TrFb rfl rfl (by omega) (by omega) (by first | rfl | omega) ?_ | refine op_indexAddr rfl el_28_TrFb sz_70_TrFb rfl rfl (by omega) (by omega) ?_
            first | refine op_ldN _ rfl ag_70_TrFb sz_70_TrFb rfl rfl ((Rp.ext0 H.ext).row hx1 rfl) ?_ | refine op_ldbN rfl ag_70_TrFb sz_70_TrFb rfl H (by first | exact at0 | exact at1 | exact at2 | exact at3 | exact at4 | exact at5 | exact at6 | exact at7 | exact at8 | exact at9) rfl ?_
            refine op_build1 (encP x) (.agg _) rfl el_28_TrFb sz_70_TrFb zc_70_TrFb rfl (by decide) (by decide) rfl rfl rfl H ?_
            rintro b49 w - H
            refine op_appendb (L := []) rfl el_28_TrFb el_28_TrFb sz_70_TrFb by_70_TrFb zc_70_TrFb rfl (by decide) rfl rfl H O7 rfl (encP_one x) (by omega) ?_
            rintro a50 c50 f50 w H O50
            refine op_assign rfl (.slice _ _ _) rfl ?_
            refine op_nil (at_block (at_then ?_))
            refine W_region ?_
            refine op_move rfl (.int _ _) rfl ?_
            refine op_add_i64 rfl rfl rfl (by omega) (by omega) ?_
            refine op_assign rfl (.int _ _) rfl ?_
            refine op_nil (at_then ?_)
            refine ⟨(i + 1, a50, n7 + 1, c50, f50, q7 ++ [x], _), rfl, ⟨rfl, rfl, rfl, trivial⟩, ⟨by dsimp only; omega, by dsimp only; omega, H, by dsimp only; rw [List.flatMap_append, List.flatMap_singleton]; exact O50, by dsimp only; rw [List.map_append]; exact st0, by dsimp only; rw [List.map_append]; exact st1, fun m hm => ?_⟩, by dsimp only; omega⟩
            dsimp only at hm
            rcases List.mem_append.1 hm with hm | hm
            · exact hok7 m hm
            · rw [List.mem_singleton.1 hm]; exact hxo
          · intro hE
            have hE' : x.it.key = key := by simpa using hE
            rw [if_pos hE', List.append_nil] at st0 st1
            refine W_skip (at_block (at_then ?_))
            refine W_region ?_
            refine op_move rfl (.int _ _) rfl ?_
            refine op_add_i64 rfl rfl rfl (by omega) (by omega) ?_
            refine op_assign rfl (.int _ _) rfl ?_
            refine op_nil (at_then ?_)
            exact ⟨(i + 1, a7, n7, c7, f7, q7, _), rfl, ⟨rfl, rfl, rfl, trivial⟩, ⟨by dsimp only; omega, by dsimp only; omega, H, O7, st0, st1, hok7⟩, by dsimp only; omega⟩
    · intro hB
      replace hB := dec_f hB
      rw [List.take_of_length_le (show L.length ≤ i by omega)] at hq0 hq1
      refine W_exit (exit_then (exit_then (exit_here (at_then ?_))))
      refine W_seq ?_
      refine W_rseq ?_
      refine op_move rfl (.bool _) rfl ?_
      refine op_not rfl rfl ?_
      refine op_nil (at_then ?_)
      refine W_cond _ rfl ?_ ?_
      · intro hC
        replace hC := nvar_t hC
        have hC' : dn = false := by simpa using hC
        obtain ⟨hlow, hqL⟩ := hq0 hC'
        have hput : putP L key val = L ++ [(key, val)] := putP_at (B := []) hlow (fun q h => by cases h) (.inl (by simp))
        have hq9 : (qs ++ [z]).map (fun m => prI m.it) = putP L key val := by rw [List.map_append, hqL, hput, List.map_singleton, hzp]
        refine W_region ?_
        refine op_move rfl (.slice _ _ _) rfl ?_
        refine op_move rfl (.slice _ _ _) rfl ?_
        refine op_move rfl (.slice _ _ _) rfl ?_
        refine op_buildS [.slice ka key.length kc, .slice va val.length vc] rfl pl_70_TrFb zc_70_TrFb (by kernel_rfl) ?_
        refine op_build1 [.slice ka key.length kc, .slice va val.length vc] (.agg _) rfl el_28_TrFb sz_70_TrFb zc_70_TrFb rfl (by decide) (by decide) rfl rfl rfl H ?_
        rintro b57 w - H
        refine op_appendb (L := []) rfl el_28_TrFb el_28_TrFb sz_70_TrFb by_70_TrFb zc_70_TrFb rfl (by decide) rfl rfl H O rfl (by rw [← hze]; exact encP_one z) (by omega) ?_
        rintro a58 c58 f58 w H O58
        refine op_assign rfl (.slice _ _ _) rfl ?_
        refine op_nil (at_then ?_)
        refine W_rseq ?_
        refine op_move rfl (.slice _ _ _) rfl ?_
        refine op_assign rfl (.slice _ _ _) rfl ?_
        refine op_nil (at_then ?_)
        refine W_ret (leave1 (v := (.slice _ _ _)) rfl rfl rfl ?_)
        have hl5 : (putP L key val).length = n5 + 1 := by
          have h1 := O.numN (fun _ _ => rfl) (by decide)
          rw [← hq9, List.length_map, List.length_append, ← h1]; rfl
        refine ⟨a58, c58, by rw [hl5], Prs.of (ps := qs ++ [z]) hM H (by rw [List.flatMap_append, List.flatMap_singleton, hze]; exact O58) (fun m hm => ?_) hq9, H.ext⟩
        rcases List.mem_append.1 hm with hm | hm
        · exact hok m hm
        · rw [List.mem_singleton.1 hm]; exact hzo
      · intro hC
        replace hC := nvar_f hC
        have hC' : dn = true := by simpa using hC
        obtain ⟨-, hqL⟩ := hq1 hC'
        have hl5 : (putP L key val).length = n5 := by rw [← hqL, List.length_map]; exact (O.numN (fun _ _ => rfl) (by decide)).symm
        refine W_skip (at_then ?_)
        refine W_rseq ?_
        refine op_move rfl (.slice _ _ _) rfl ?_
        refine op_assign rfl (.slice _ _ _) rfl ?_
        refine op_nil (at_then ?_)
        refine W_ret (leave1 (v := (.slice _ _ _)) rfl rfl rfl ?_)
        exact ⟨a5, c5, by rw [hl5], Prs.of hM H O hok hqL, H.ext⟩

end Go.Proofs.YtbkadlngijkmmaaGreatDoor

/- The document's pairs, scanned: the walk. -/
namespace Go.Proofs.YtbkadlngijkmmaaGreatDoor
open Go.GV
attribute [local irreducible] Wops W Wq Wt

def inR (kf kt : Byt) (k : Byt) : Bool := !decide (ltB k kf) && (decide (kt.length = 0) || decide (ltB k kt))
def filtP (kf kt : Byt) (L : List Pr) : List Pr := L.filter fun p => inR kf kt p.1
end Go.Proofs.YtbkadlngijkmmaaGreatDoor

/- A tree is made; a desk is opened: the walks. -/
namespace Go.Proofs.YtbkadlngijkmmaaGreatDoor
open Go.GV
theorem ca_30_TrG1 : callable Tryz.prog 30 = true := by kernel_rfl
theorem ca_31_TrG1 : callable Tryz.prog 31 = true := by kernel_rfl
theorem ca_32_TrG1 : callable Tryz.prog 32 = true := by kernel_rfl
theorem ca_69_TrG1 : callable Tryz.prog 69 = true := by kernel_rfl
theorem ca_81_TrG1 : callable Tryz.prog 81 = true := by kernel_rfl
theorem pl_146_TrG1 : placesB Tryz.prog 146 = some [(0, 1), (1, 1), (2, 1)] := by kernel_rfl
theorem pl_36_TrG1 : placesB Tryz.prog 36 = some [(0, 1), (1, 1), (2, 1)] := by kernel_rfl
theorem un_33_TrG1 : Tryz.prog.underlying 33 = some (.pointer 111) := by kernel_rfl
theorem un_34_TrG1 : Tryz.prog.underlying 34 = some (.pointer 146) := by kernel_rfl
theorem zc_146_TrG1 : zcells Tryz.prog 146 = some ([.pointer none, .pointer none, .int .i64 0]) := by kernel_rfl
theorem zc_36_TrG1 : zcells Tryz.prog 36 = some ([.pointer none, .pointer none, .pointer none]) := by kernel_rfl
attribute [local irreducible] Wops W Wq Wt

set_option maxRecDepth 20000 in
set_option maxHeartbeats 4000000 in
theorem tnew_ok {w : World} {bd bp ba : Nat} {A : Dev} {F : Nat → Prop} {P : List Nat} (hD : DevAt w bd A F) (hP : PgAt w bp ba P) (frm : Int) (_ : -9223372036854775808 ≤ frm) (_ : frm ≤ 9223372036854775807) :
    Ret Tryz.prog 32 #[ptr bd, ptr bp, .int .i64 frm] w fun v w' => Ext [] w w' ∧ ((frm < 0 ∨ (A.B.length : Int) - (P.length : Int) < frm) ∧ v = .tuple #[.pointer none, .int .i64 1] ∨ (¬ (frm < 0 ∨ (A.B.length : Int) - (P.length : Int) < frm) ∧ ∃ bt, v = .tuple #[ptr bt, .int .i64 0] ∧ w'.heap[bt]? = some (Bl TT [ptr bd, ptr bp, .int .i64 frm]) ∧ w.heap.size ≤ bt)) := by
  obtain ⟨w0, rfl⟩ : ∃ w0, w0 = w := ⟨_, rfl⟩
  have hlen := hP.len
  obtain ⟨role, bs, bm, sv, m, o, D, hF⟩ := hD
  have hwf := D.wf.hi
  have H := Ctx.start w0 []
  refine ret_of_W (fn := Tryz.f32) Tryz.func32 rfl [.pointer (some ⟨bd, 0, none⟩), .pointer (some ⟨bp, 0, none⟩), .int .i64 frm] rfl (by kernel_rfl) ?_
  refine W_rseq ?_
  refine op_assign rfl (.pointer _) rfl ?_
  refine op_assign rfl (.int _ _) rfl ?_
  refine op_nil (at_then ?_)
  refine W_seq ?_
  refine W_block ?_
  refine W_rseq ?_
  refine op_move rfl (.pointer _) rfl ?_
  refine op_eqlptr rfl un_32 rfl ?_
  refine op_move rfl (.bool _) rfl ?_
  refine op_move rfl (.pointer _) rfl ?_
  refine op_eqlptr rfl un_33_TrG1 rfl ?_
  refine op_pick0 rfl rfl (.bool _) rfl ?_
  refine op_assign rfl (.bool _) rfl ?_
  refine op_nil (at_then ?_)
  refine W_cond0 rfl ?_
  refine W_rseq (Wops_join (α := Unit) 134184960 (fun _ => [(15, .bool (decide (frm < 0) || decide ((A.B.length : Int) - (P.length : Int) < frm)))]) (fun _ w' => w0 = w') rfl ?_ ?_)
  · refine op_move rfl (.int _ _) rfl ?_
    refine op_lss rfl rfl rfl ?_
    refine op_move rfl (.bool _) rfl ?_
    refine Wops_split 18 rfl ?_ ?_
    · intro h1
      replace h1 := dec_t h1
      refine op_skip rfl ?_
      refine op_skip rfl ?_
      refine op_skip rfl ?_
      refine op_skip rfl ?_
      refine op_skip rfl ?_
      refine op_skip rfl ?_
      refine op_skip rfl ?_
      refine op_pick1 rfl rfl (.bool _) rfl ?_
      refine op_assign rfl (.bool _) rfl ?_
      refine op_nil ?_
      exact ⟨rfl, (), rfl, ⟨congrArg Value.bool (by (first | rw [decide_eq_true h1] | rw [decide_eq_false h2]); rfl), trivial⟩, rfl⟩
    · intro h2
      replace h2 := dec_f h2
      refine op_move rfl (.int _ _) rfl ?_
      refine op_move rfl (.pointer _) rfl ?_
      refine op_call rfl ca_81_TrG1 (dsize_ok D.hd) rfl ?_
      rintro v w ⟨rfl, rfl⟩
      refine op_move rfl (.pointer _) rfl ?_
      refine op_call rfl ca_69_TrG1 (psize_ok hP) rfl ?_
      rintro v w ⟨rfl, rfl⟩
      refine op_sub_i64 rfl rfl rfl (by omega) (by omega) ?_
      refine op_gtr rfl rfl rfl ?_
      refine op_pick0 rfl rfl (.bool _) rfl ?_
      refine op_assign rfl (.bool _) rfl ?_
      refine op_nil ?_
      exact ⟨rfl, (), rfl, ⟨congrArg Value.bool (by (first | rw [decide_eq_true h1] | rw [decide_eq_false h2]); rfl), trivial⟩, rfl⟩
  rintro - j15 w rfl
  refine W_cond _ rfl ?_ ?_
  · intro hA
    refine W_rseq ?_
    refine op_assign rfl (.pointer _) rfl ?_
    refine op_assign rfl (.int _ _) rfl ?_
    refine op_nil (at_then ?_)
    refine W_ret (ret_block (ret_then (leave2 (v1 := (.pointer _)) (v2 := (.int _ _)) rfl rfl rfl rfl ?_)))
    exact ⟨.refl _ _, .inl ⟨by simpa using hA, rfl⟩⟩
  · intro hA
    refine W_skip (at_block (at_then ?_))
    refine W_rseq ?_
    refine op_move rfl (.pointer _) rfl ?_
    refine op_move rfl (.pointer _) rfl ?_
    refine op_move rfl (.int _ _) rfl ?_
    refine op_buildS [ptr bd, ptr bp, .int .i64 frm] rfl pl_146_TrG1 zc_146_TrG1 (by kernel_rfl) ?_
    refine op_box rfl [ptr bd, ptr bp, .int .i64 frm] (.agg _) rfl rfl H ?_
    rintro bt w - H
    refine op_assign rfl (.pointer _) rfl ?_
    refine op_assign rfl (.int _ _) rfl ?_
    refine op_nil (at_then ?_)
    refine W_ret (leave2 (v1 := (.pointer _)) (v2 := (.int _ _)) rfl rfl rfl rfl ?_)
    refine ⟨H.ext, .inr ⟨fun h => ?_, bt, rfl, H.get at0, (H.own _ (List.mem_cons_self ..)).elim (fun h => by cases h) id⟩⟩
    have h6 : (decide (frm < 0) || decide ((A.B.length : Int) - (P.length : Int) < frm)) = true := by simpa using h
    rw [hA] at h6; cases h6
/-- A desk of a tree. -/
structure Dk (w : World) (bx bt bd bp ba : Nat) (A : Dev) (P : List Nat) (F : Mut) : Prop where
  dk : w.heap[bx]? = some (Bl 36 [ptr bd, ptr bp, ptr bt])
  T : Tx w bt bd bp ba 10 A P F []
  nx : ¬ TM F ba bt bp [] bx
theorem newd_of {n : Nat} (h1 : 1 ≤ n) (h2 : n ≤ 2000) {v : Value} {w w1 : World} (h : (newE (10 + (n : Int)) = 1 ∧ v = .tuple #[.pointer none, .int .i64 1]) ∨ (newE (10 + (n : Int)) = 0 ∧ 1 ≤ 10 + (n : Int) ∧ 10 + (n : Int) ≤ 4096 ∧ ∃ bd, v = .tuple #[ptr bd, .int .i64 0] ∧ DevAt w1 bd (newD (10 + (n : Int)).toNat) fun x => w.heap.size ≤ x ∧ x < w1.heap.size)) :
    ∃ bd, v = .tuple #[ptr bd, .int .i64 0] ∧ DevAt w1 bd (newD (10 + n)) fun x => w.heap.size ≤ x ∧ x < w1.heap.size := by
  rcases h with ⟨h, _⟩ | ⟨_, _, _, bd, hv, hD⟩
  · unfold newE at h
    rw [decide_eq_false (by omega), decide_eq_false (by omega)] at h
    cases h
  · rw [show (10 + (n : Int)).toNat = 10 + n by omega] at hD
    exact ⟨bd, hv, hD⟩
theorem tnew_of {a p : Nat} {frm : Int} {v : Value} {w w1 : World} {bd bp : Nat} (hn : ¬ (frm < 0 ∨ (a : Int) - (p : Int) < frm)) (h : ((frm < 0 ∨ (a : Int) - (p : Int) < frm) ∧ v = .tuple #[.pointer none, .int .i64 1]) ∨ (¬ (frm < 0 ∨ (a : Int) - (p : Int) < frm) ∧ ∃ bt, v = .tuple #[ptr bt, .int .i64 0] ∧ w1.heap[bt]? = some (Bl TT [ptr bd, ptr bp, .int .i64 frm]) ∧ w.heap.size ≤ bt)) :
    ∃ bt, v = .tuple #[ptr bt, .int .i64 0] ∧ w1.heap[bt]? = some (Bl TT [ptr bd, ptr bp, .int .i64 frm]) ∧ w.heap.size ≤ bt := h.elim (fun h => absurd h.1 hn) And.right
theorem newD_len (n : Nat) : (newD n).B.length = n := List.length_replicate ..

set_option maxRecDepth 20000 in
set_option maxHeartbeats 4000000 in
theorem opened_ok (n : Nat) (h1 : 1 ≤ n) (h2 : n ≤ 2000) (w : World) : Ret Tryz.prog 14 #[.int .i64 (n : Int)] w fun v w' => ∃ bx bt bd bp ba F, v = ptr bx ∧ Dk w' bx bt bd bp ba (newD (10 + n)) (List.replicate n 0) F ∧ Ext [] w w' ∧ (∀ x, TM F ba bt bp [] x → w.heap.size ≤ x) ∧ w.heap.size ≤ bx := by
  obtain ⟨w0, rfl⟩ : ∃ w0, w0 = w := ⟨_, rfl⟩
  refine ret_of_W (fn := Tryz.f14) Tryz.func14 rfl [.int .i64 (n : Int)] rfl (by kernel_rfl) ?_
  refine W_rseq ?_
  refine op_assign rfl (.pointer _) rfl ?_
  refine op_nil (at_then ?_)
  refine W_rseq ?_
  refine op_move rfl (.int _ _) rfl ?_
  refine op_add_i64 rfl rfl rfl (by omega) (by omega) ?_
  refine op_call rfl ca_30_TrG1 (dnew_ok (10 + (n : Int)) w0) rfl ?_
  rintro v w1 ⟨hx1, hd⟩
  obtain ⟨bd, rfl, DA⟩ := newd_of (n := n) h1 h2 hd
  refine op_move rfl (.tuple _) rfl ?_
  refine op_extract rfl rfl rfl ?_
  refine op_extract rfl rfl rfl ?_
  refine op_assign rfl (.pointer _) rfl ?_
  refine op_assign rfl (.int _ _) rfl ?_
  refine op_nil (at_then ?_)
  refine W_rseq ?_
  refine op_move rfl (.int _ _) rfl ?_
  refine op_call rfl ca_31_TrG1 (pnew_ok n h1 (by omega) w1) rfl ?_
  rintro v w2 ⟨bp, ba, rfl, PA, hx2, hbp, hba⟩
  have DA2 := DA.keep0 hx2
  refine op_move rfl (.tuple _) rfl ?_
  refine op_extract rfl rfl rfl ?_
  refine op_extract rfl rfl rfl ?_
  refine op_assign rfl (.pointer _) rfl ?_
  refine op_assign rfl (.int _ _) rfl ?_
  refine op_nil (at_then ?_)
  refine W_seq ?_
  refine W_rseq ?_
  refine op_move rfl (.int _ _) rfl ?_
  refine op_neq rfl rfl rfl ?_
  refine op_move rfl (.bool _) rfl ?_
  refine op_move rfl (.int _ _) rfl ?_
  refine op_neq rfl rfl rfl ?_
  refine op_pick0 rfl rfl (.bool _) rfl ?_
  refine op_move rfl (.bool _) rfl ?_
  refine op_move rfl (.pointer _) rfl ?_
  refine op_eqlptr rfl un_32 rfl ?_
  refine op_pick0 rfl rfl (.bool _) rfl ?_
  refine op_move rfl (.bool _) rfl ?_
  refine op_move rfl (.pointer _) rfl ?_
  refine op_eqlptr rfl un_33_TrG1 rfl ?_
  refine op_pick0 rfl rfl (.bool _) rfl ?_
  refine op_nil (at_then ?_)
  refine W_cond0 rfl ?_
  refine W_skip (at_then ?_)
  refine W_rseq ?_
  refine op_move rfl (.pointer _) rfl ?_
  refine op_move rfl (.pointer _) rfl ?_
  refine op_call rfl ca_32_TrG1 (tnew_ok DA2 PA 10 (by omega) (by omega)) rfl ?_
  rintro v w3 ⟨hx3, hv⟩
  obtain ⟨bt, rfl, hbt, hbn⟩ := tnew_of (by rw [newD_len, List.length_replicate]; omega) hv
  have H := Ctx.start w3 []
  refine op_move rfl (.tuple _) rfl ?_
  refine op_extract rfl rfl rfl ?_
  refine op_extract rfl rfl rfl ?_
  refine op_assign rfl (.pointer _) rfl ?_
  refine op_assign rfl (.int _ _) rfl ?_
  refine op_nil (at_then ?_)
  refine W_seq ?_
  refine W_rseq ?_
  refine op_move rfl (.int _ _) rfl ?_
  refine op_neq rfl rfl rfl ?_
  refine op_move rfl (.bool _) rfl ?_
  refine op_move rfl (.pointer _) rfl ?_
  refine op_eqlptr rfl un_34_TrG1 rfl ?_
  refine op_pick0 rfl rfl (.bool _) rfl ?_
  refine op_nil (at_then ?_)
  refine W_cond0 rfl ?_
  refine W_skip (at_then ?_)
  refine W_rseq ?_
  refine op_move rfl (.pointer _) rfl ?_
  refine op_move rfl (.pointer _) rfl ?_
  refine op_move rfl (.pointer _) rfl ?_
  refine op_buildS [ptr bd, ptr bp, ptr bt] rfl pl_36_TrG1 zc_36_TrG1 (by kernel_rfl) ?_
  refine op_box rfl [ptr bd, ptr bp, ptr bt] (.agg _) rfl rfl H ?_
  rintro bx w - H
  refine op_assign rfl (.pointer _) rfl ?_
  refine op_nil (at_then ?_)
  refine W_ret (leave1 (v := (.pointer _)) rfl rfl rfl ?_)
  have hxw := H.ext
  have s1 := hx1.size
  have s2 := hx2.size
  have s3 := hx3.size
  have hbp2 := heap_lt PA.hd
  have hba2 := heap_lt PA.st
  have hbt3 := heap_lt hbt
  have hbxn : w3.heap.size ≤ bx := (H.own _ (List.mem_cons_self ..)).elim (fun h => by cases h) id
  have hx2w := hx3.trans hxw
  refine ⟨bx, bt, bd, bp, ba, fun x => w0.heap.size ≤ x ∧ x < w1.heap.size, rfl, ⟨H.get at0, ⟨?_, PA.keep hx2w (by simp) (by simp), DA2.keep0 hx2w, (fun x h => by cases h), List.Pairwise.nil, (fun x h => by cases h), ⟨fun h => by omega, ?_⟩, fun h => by omega, fun h => by omega, fun x h => by have := hxw.size; omega⟩, fun h => ?_⟩, hx1.trans (hx2.trans hx2w), fun x h => ?_, by omega⟩
  · rw [hxw.block bt hbt3 (by simp)]; exact hbt
  · omega
  · rcases h with h | h | h | h | h
    · omega
    · omega
    · omega
    · omega
    · cases h
  · rcases h with h | h | h | h | h
    · omega
    · omega
    · omega
    · omega
    · cases h

end Go.Proofs.YtbkadlngijkmmaaGreatDoor

/- Plain law of the tree: what is scanned, what is walked. -/
namespace Go.Proofs.YtbkadlngijkmmaaGreatDoor
open Go.GV

theorem gathL_leaf (kf : Byt) (L : List Pr) : gathL kf false (L.map leafI) = L.filter fun p => !decide (ltB p.1 kf) := by
  unfold gathL
  rw [if_neg (by simp)]
  induction L with
  | nil => rfl
  | cons p L ih =>
    have hd : decide (0 ≤ cmpB p.1 kf) = !decide (ltB p.1 kf) := by
      by_cases h : ltB p.1 kf
      · rw [decide_eq_true h, decide_eq_false (fun h2 => cmpB_ge.1 h2 h)]; rfl
      · rw [decide_eq_false h, decide_eq_true (cmpB_ge.2 h)]; rfl
    rw [List.map_cons, List.filter_cons, List.filter_cons, show (leafI p).key = p.1 from rfl, hd]
    by_cases h : (!decide (ltB p.1 kf)) = true
    · rw [if_pos h, if_pos h, List.map_cons, ih]; rfl
    · rw [if_neg h, if_neg h, ih]
theorem gathG_app (kf : Byt) (a b : List Nd) : gathG kf (a ++ b) = gathG kf a ++ gathG kf b := List.flatMap_append
theorem each_spec {fr sz : Nat} {A : Dev} (hon : A.on = true) (hl : fr + sz ≤ A.B.length) : ∀ (h n p d : Nat) (L : List Pr) (S : List Nat), Lies (RD A fr) h p L S → (∀ x ∈ S, x < sz) → sz ≤ 4096 → d + h ≤ 16 → h < n →
    (eachG A fr sz n (p : Int) d).1 = 0 ∧ (eachG A fr sz n (p : Int) d).2.map (·.1) = S.map (fun x : Nat => (x : Int)) ∧ ∀ kf, gathG kf (eachG A fr sz n (p : Int) d).2 = L.filter fun p => !decide (ltB p.1 kf)
  | 0, n + 1, p, d, L, S, hL, hs, hz, hd, hn => by
    have hp := hs p hL.page
    obtain ⟨i, M, S', ⟨rfl, rfl, rfl⟩, h2, rfl, h4, h5⟩ := hL
    have hrd := readT_of hon hp hl (show d ≤ 16 by omega) h2
    unfold eachG
    rw [hrd]
    refine ⟨rfl, rfl, fun kf => ?_⟩
    show gathL kf false (L.map leafI) ++ [] = _
    rw [List.append_nil, gathL_leaf]
  | h + 1, n + 1, p, d, L, S, hL, hs, hz, hd, hn => by
    have hp := hs p hL.page
    obtain ⟨i, l, S', ⟨rfl, hk'⟩, h2, rfl, h4, h5⟩ := hL
    have hk : Kids (Lies (RD A fr) h) l L S' := hk'
    have hrd := readT_of hon hp hl (show d ≤ 16 by omega) h2
    have hs' : ∀ x ∈ S', x < sz := fun x hx => hs x (List.mem_cons_of_mem _ hx)
    have hkid : Kids (fun p L S => Lies (RD A fr) h p L S ∧ ∀ x ∈ S, x < sz) l L S' := hk.mono fun p L S hsub hq => ⟨hq, fun x hx => hs' x (hsub x hx)⟩
    obtain ⟨b1, b2, b3⟩ : (kidsG (fun p => eachG A fr sz n p (d + 1)) l).1 = 0 ∧ (kidsG (fun p => eachG A fr sz n p (d + 1)) l).2.map (·.1) = S'.map (fun x : Nat => (x : Int)) ∧ ∀ kf, gathG kf (kidsG (fun p => eachG A fr sz n p (d + 1)) l).2 = L.filter fun p => !decide (ltB p.1 kf) := by
      clear h2 h4 h5 hrd hp hs hk hk'
      induction l generalizing L S' with
      | nil => obtain ⟨rfl, rfl⟩ := hkid; exact ⟨rfl, rfl, fun _ => rfl⟩
      | cons x l ih =>
        obtain ⟨L1, L2, S1, S2, rfl, rfl, ⟨h3, h3s⟩, _, _, h6⟩ := hkid
        obtain ⟨a1, a2, a3⟩ := each_spec hon hl h n x.page (d + 1) L1 S1 h3 h3s hz (by omega) (by omega)
        obtain ⟨b1, b2, b3⟩ := ih L2 S2 (fun x hx => hs' x (List.mem_append_right _ hx)) h6
        unfold kidsG
        rw [if_neg (by rw [a1]; simp)]
        exact ⟨b1, by rw [List.map_append, List.map_append, a2, b2], fun kf => by rw [gathG_app, a3, b3, List.filter_append]⟩
    unfold eachG
    rw [hrd]
    dsimp only
    refine ⟨b1, by rw [List.map_cons, List.map_cons, b2], fun kf => ?_⟩
    show gathL kf true l ++ gathG kf _ = _
    rw [b3]; rfl
theorem rise_take {L : List Pr} (hr : Rising L) (kt : Byt) : L.takeWhile (fun p => decide (cmpB p.1 kt < 0)) = L.filter fun p => decide (ltB p.1 kt) := by
  induction L with
  | nil => rfl
  | cons p L ih =>
    obtain ⟨h1, h2⟩ := List.pairwise_cons.1 hr
    have hd : decide (cmpB p.1 kt < 0) = decide (ltB p.1 kt) := by
      by_cases h : ltB p.1 kt
      · rw [decide_eq_true h, decide_eq_true (cmpB_lt.2 h)]
      · rw [decide_eq_false h, decide_eq_false (fun h2 => h (cmpB_lt.1 h2))]
    rw [List.takeWhile_cons, List.filter_cons, hd]
    by_cases h : ltB p.1 kt
    · rw [decide_eq_true h]
      simp only [if_true]
      rw [ih h2]
    · rw [decide_eq_false h]
      simp only [Bool.false_eq_true, if_false]
      refine (filter_none fun q hq => decide_eq_false fun h3 => h (ltB_trans (h1 q hq) h3)).symm
theorem upTo_spec {L : List Pr} (hr : Rising L) (kf kt : Byt) : upTo kt (L.filter fun p => !decide (ltB p.1 kf)) = filtP kf kt L := by
  unfold upTo filtP inR
  by_cases hk : kt = []
  · rw [if_pos hk, hk]
    simp
  · rw [if_neg hk, rise_take (hr.sublist List.filter_sublist), List.filter_filter]
    congr 1
    funext p
    rw [decide_eq_false (show ¬ kt.length = 0 from fun h => hk (List.eq_nil_of_length_eq_zero h)), Bool.false_or, Bool.and_comm]
/-- What is told of a root that stands. -/
structure Told (fr : Nat) (A : Dev) (P : List Nat) (root : Int) (L : List Pr) (S : List Nat) : Prop where
  may : mayE P.length root = 0
  rlo : -1 ≤ root
  rhi : root < P.length
  none : root = -1 ↔ L = []
  scan : ∀ kf kt, scanT A fr P.length root kf kt = (0, filtP kf kt L)
  walk : walkT A fr P.length root = (0, sortZ (S.map fun x : Nat => (x : Int)))
  num : (nodesG A fr P.length root).2.length = S.length
  get : ∀ key, getG A fr P.length key 18 root 0 = (0, getP L key)
  len : S.length ≤ 2 * L.length
theorem told {fr : Nat} {A : Dev} {P : List Nat} {root : Int} {L : List Pr} {S : List Nat} (hR : Root (RD A fr) root L S) (hon : A.on = true) (hl : fr + P.length ≤ A.B.length) (hP : P.length ≤ 2000) (hnd : S.Nodup) (hS : ∀ x ∈ S, x < P.length) (hr : Rising L) : Told fr A P root L S := by
  rcases hR with ⟨rfl, rfl, rfl⟩ | ⟨h, p, rfl, hL⟩
  · have hm : mayE P.length (-1) = 0 := by unfold mayE; rw [if_neg (by omega)]
    have hn : nodesG A fr P.length (-1) = (0, []) := by unfold nodesG; rw [if_pos rfl]
    refine ⟨hm, by omega, by omega, by simp, fun kf kt => ?_, ?_, by rw [hn]; rfl, fun key => ?_, Nat.zero_le _⟩
    · unfold scanT
      rw [if_neg (by rw [hm]; simp), hn, if_neg (by simp)]
      unfold upTo gathG filtP
      split <;> rfl
    · unfold walkT
      rw [if_neg (by rw [hm]; simp), hn, if_neg (by simp)]
      rfl
    · rw [getG_1, if_pos rfl]; rfl
  · have hp := hS p hL.page
    have hm : mayE P.length (p : Int) = 0 := by unfold mayE; rw [if_neg (by omega)]
    have hh := height hL hnd hS hP
    obtain ⟨e1, e2, e3⟩ := each_spec hon hl h 18 p 0 L S hL hS (by omega) (by omega) (by omega)
    have hn : nodesG A fr P.length (p : Int) = eachG A fr P.length 18 (p : Int) 0 := by unfold nodesG; rw [if_neg (by omega)]
    rw [← hn] at e1 e2 e3
    refine ⟨hm, by omega, by omega, ⟨fun h => by omega, fun h => absurd h hL.ne⟩, fun kf kt => ?_, ?_, ?_, fun key => ?_, ?_⟩
    · unfold scanT
      rw [if_neg (by rw [hm]; simp), if_neg (by rw [e1]; simp), e3, upTo_spec hr]
    · unfold walkT
      rw [if_neg (by rw [hm]; simp), if_neg (by rw [e1]; simp), e2]
    · have := congrArg List.length e2
      rwa [List.length_map, List.length_map] at this
    · exact get_spec key hon hl h 18 p 0 L S hL hr hS (by omega) (by omega)
    · have := hL.count.2; omega
theorem filtP_nil (L : List Pr) : filtP [] [] L = L := filter_all fun p _ => by
  unfold inR
  have : ¬ ltB p.1 [] := by
    cases p.1 with
    | nil => exact ltB_irrefl _
    | cons x l => intro h; cases h
  rw [decide_eq_false this]; rfl

end Go.Proofs.YtbkadlngijkmmaaGreatDoor
