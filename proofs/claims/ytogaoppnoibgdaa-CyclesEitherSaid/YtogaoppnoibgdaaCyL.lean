/- The law's own test of an order. -/
import Derived.Test.YtogaoppnoibgdaaCyK
namespace Go.Proofs.Ytogaoppnoibgdaa
open Go.GV
attribute [local irreducible] Wops W Wq

structure Places (l : List Due) (out : List Nat) : Prop where
  len : out.length = 16
  lt : ∀ x ∈ out, x < 16
  all : ∀ q, q < 16 → q ∈ out
  nd : out.Nodup
  ahead : ∀ d ∈ l, d.held = false → out.idxOf d.fr.toNat < out.idxOf d.to.toNat

def posK (out : List Nat) (k b : Nat) : Int := if b ∈ out.take k then ((out.idxOf b : Nat) : Int) + 1 else 0

theorem pos_new {out : List Nat} {k x : Nat} (hd : out.Nodup) (hx : out[k]? = some x) : posK out (k + 1) x = (k : Int) + 1 := by
  have hk := get_lt hx
  rw [List.getElem?_eq_getElem hk] at hx
  injection hx with hx
  have h1 : x ∈ out.take (k + 1) := by
    rw [take_snoc (List.getElem?_eq_getElem hk), hx]; simp
  rw [posK, if_pos h1, ← hx, hd.idxOf_getElem k hk]
theorem pos_old {out : List Nat} {k x q : Nat} (hx : out[k]? = some x) (hq : q ≠ x) : posK out (k + 1) q = posK out k q := by
  unfold posK
  rw [take_snoc hx]
  simp [hq]

set_option maxHeartbeats 2000000 in
theorem placed_ok (a b : Option Addr) (c c' : Nat) (l : List Due) (out : List Nat) (w : World) (R : Rd w a 7 Due.enc l) (R' : Rd w b 1 I64 (out.map fun (x : Nat) => (x : Int))) (hm : l.length ≤ 64) (F : ∀ d ∈ l, 0 ≤ d.fr ∧ d.fr < 16 ∧ 0 ≤ d.to ∧ d.to < 16 ∧ d.fr ≠ d.to) (P : Places l out) :
    Ret Try.prog 18 #[.slice a l.length c, .slice b out.length c'] w fun v w' => v = .bool true ∧ Ext [] w w' := by
  obtain ⟨w0, rfl⟩ : ∃ w0, w0 = w := ⟨_, rfl⟩
  have H := Ctx.start w0 []
  have hlen := P.len
  refine ret_of_W (fn := Try.f18) Try.func18 rfl [.slice a l.length c, .slice b out.length c'] rfl (by kernel_rfl) ?_
  refine W_rseq ?_
  refine op_assign rfl (.bool _) rfl ?_
  refine op_nil (at_then ?_)
  refine W_rseq ?_
  refine op_make rfl el_23 sz_3 by_3 zc_3 rfl rfl (by omega) (by omega) (by omega) (by omega) H ?_
  rintro b9 w - H
  rw [show ((16 : Int)).toNat = 16 from rfl, rep_range] at H
  refine op_assign rfl (.slice _ _ _) rfl ?_
  refine op_nil (at_then ?_)
  refine W_seq ?_
  refine W_rseq ?_
  refine op_move rfl (.slice _ _ _) rfl ?_
  refine op_len rfl el_23 rfl ?_
  refine op_neq rfl rfl rfl ?_
  refine op_nil (at_then ?_)
  refine W_cond _ rfl ?_ ?_
  · intro h1
    replace h1 := ndec_t h1
    omega
  · intro h1
    replace h1 := ndec_f h1
    refine W_skip (at_then ?_)
    refine W_seq ?_
    refine W_rseq ?_
    refine op_assign rfl (.int _ _) rfl ?_
    refine op_nil (at_then ?_)
    refine W_block ?_
    refine W_loop 549755805776 (α := Nat) (fun k => [(6, .int .i64 k)]) (fun k w' => k ≤ 16 ∧ Ctx w0 [] w' [(b9, Bl 3 ((List.range 16).map fun q => .int .i64 (posK out k q)))]) (fun k => 16 - k) 0 rfl ?_ ?_ ?_
    · exact ⟨rfl, trivial⟩
    · exact ⟨Nat.zero_le _, H⟩
    · rintro k j w ⟨hk, H⟩
      refine W_seq ?_
      refine W_rseq ?_
      refine op_move rfl (.int _ _) rfl ?_
      refine op_move rfl (.slice _ _ _) rfl ?_
      refine op_len rfl el_23 rfl ?_
      refine op_lss rfl rfl rfl ?_
      refine op_nil (at_then ?_)
      refine W_cond _ rfl ?_ ?_
      · intro h2
        replace h2 := dec_t h2
        obtain ⟨x, hx⟩ := get_some (l := out) (i := k) (by omega)
        have hx16 := P.lt x (List.mem_of_getElem? hx)
        have hxm : (out.map fun (x : Nat) => (x : Int))[k]? = some (x : Int) := by rw [List.getElem?_map, hx]; rfl
        refine W_skip (at_then ?_)
        refine W_seq ?_
        refine W_block ?_
        refine W_seq ?_
        refine W_rseq ?_
        refine op_move rfl (.slice _ _ _) rfl ?_
        refine op_move rfl (.int _ _) rfl ?_
        refine op_indexRd R' rfl el_23 sz_3 rfl rfl (by omega) (by omega) (by simp) ?_
        first | refine op_ldb rfl ag_3 rfl H (by first | exact at0 | exact at1 | exact at2 | exact at3 | exact at4 | exact at5 | exact at6 | exact at7 | exact at8 | exact at9) rfl ?_ | refine op_ld rfl ag_3 rfl ((R'.ext0 H.ext).one (f := iv) hxm) ?_
        refine op_lss rfl rfl rfl ?_
        refine op_move rfl (.bool _) rfl ?_
        refine Wops_split 24 rfl ?_ ?_
        · intro h3
          replace h3 := dec_t h3
          omega
        · intro h3
          replace h3 := dec_f h3
          refine op_move rfl (.slice _ _ _) rfl ?_
          refine op_move rfl (.int _ _) rfl ?_
          refine op_indexRd R' rfl el_23 sz_3 rfl rfl (by omega) (by omega) (by simp) ?_
          first | refine op_ldb rfl ag_3 rfl H (by first | exact at0 | exact at1 | exact at2 | exact at3 | exact at4 | exact at5 | exact at6 | exact at7 | exact at8 | exact at9) rfl ?_ | refine op_ld rfl ag_3 rfl ((R'.ext0 H.ext).one (f := iv) hxm) ?_
          refine op_geq rfl rfl rfl ?_
          refine op_pick0 rfl rfl (.bool _) rfl ?_
          refine op_nil (at_then ?_)
          refine W_cond _ rfl ?_ ?_
          · intro h4
            replace h4 := dec_t h4
            omega
          · intro h4
            replace h4 := dec_f h4
            refine W_skip (at_then ?_)
            refine W_region ?_
            refine op_move rfl (.slice _ _ _) rfl ?_
            refine op_move rfl (.slice _ _ _) rfl ?_
            refine op_move rfl (.int _ _) rfl ?_
            refine op_indexRd R' rfl el_23 sz_3 rfl rfl (by omega) (by omega) (by simp) ?_
            first | refine op_ldb rfl ag_3 rfl H (by first | exact at0 | exact at1 | exact at2 | exact at3 | exact at4 | exact at5 | exact at6 | exact at7 | exact at8 | exact at9) rfl ?_ | refine op_ld rfl ag_3 rfl ((R'.ext0 H.ext).one (f := iv) hxm) ?_
            refine op_move rfl (.int _ _) rfl ?_
            refine op_add_i64 rfl rfl rfl (by omega) (by omega) ?_
            refine op_indexAddr rfl el_23 sz_3 rfl rfl (by omega) (by omega) ?_
            refine op_str x (fun q => .int .i64 (posK out (k + 1) q)) (.int _ _) rfl sz_3 rfl rfl rfl H at0 (by simp) (by omega) (by rw [pos_new P.nd hx]) (fun q hq hne => by rw [pos_old hx hne]) ?_
            rintro w H
            refine op_nil (at_block (at_then ?_))
            refine W_region ?_
            refine op_move rfl (.int _ _) rfl ?_
            refine op_add_i64 rfl rfl rfl (by omega) (by omega) ?_
            refine op_assign rfl (.int _ _) rfl ?_
            refine op_nil (at_then ?_)
            exact ⟨k + 1, rfl, ⟨rfl, trivial⟩, ⟨by omega, H⟩, by omega⟩
      · intro h2
        replace h2 := dec_f h2
        have hke : k = 16 := by omega
        subst hke
        have hpos : ∀ q, q < 16 → posK out 16 q = ((out.idxOf q : Nat) : Int) + 1 := fun q hq => by
          rw [posK, ← hlen, List.take_length, if_pos (P.all q hq)]
        refine W_exit (exit_then (exit_then (exit_here (at_then ?_))))
        refine W_seq ?_
        refine W_rseq ?_
        refine op_assign rfl (.int _ _) rfl ?_
        refine op_nil (at_then ?_)
        refine W_block ?_
        refine W_loop 1125350151028880 (α := Nat) (fun k => [(7, .int .i64 k)]) (fun k w' => k ≤ 16 ∧ Ctx w0 [] w' [(b9, Bl 3 ((List.range 16).map fun q => .int .i64 (posK out 16 q)))]) (fun k => 16 - k) 0 rfl ?_ ?_ ?_
        · exact ⟨rfl, trivial⟩
        · exact ⟨Nat.zero_le _, H⟩
        · rintro k j w ⟨hk, H⟩
          refine W_seq ?_
          refine W_rseq ?_
          refine op_move rfl (.int _ _) rfl ?_
          refine op_move rfl (.slice _ _ _) rfl ?_
          refine op_len rfl el_23 rfl ?_
          refine op_lss rfl rfl rfl ?_
          refine op_nil (at_then ?_)
          refine W_cond _ rfl ?_ ?_
          · intro h3
            replace h3 := dec_t h3
            have hp := hpos k (by omega)
            refine W_skip (at_then ?_)
            refine W_seq ?_
            refine W_block ?_
            refine W_rseq ?_
            refine op_move rfl (.slice _ _ _) rfl ?_
            refine op_move rfl (.int _ _) rfl ?_
            refine op_indexAddr rfl el_23 sz_3 rfl rfl (by omega) (by omega) ?_
            refine op_ldr k _ rfl ag_3 rfl H at0 (by simp) (by omega) rfl ?_
            refine op_eql rfl rfl rfl ?_
            refine op_nil (at_then ?_)
            refine W_cond _ rfl ?_ ?_
            · intro h4
              replace h4 := dec_t h4
              omega
            · intro h4
              replace h4 := dec_f h4
              refine W_skip (at_block (at_then ?_))
              refine W_region ?_
              refine op_move rfl (.int _ _) rfl ?_
              refine op_add_i64 rfl rfl rfl (by omega) (by omega) ?_
              refine op_assign rfl (.int _ _) rfl ?_
              refine op_nil (at_then ?_)
              exact ⟨k + 1, rfl, ⟨rfl, trivial⟩, ⟨by omega, H⟩, by omega⟩
          · intro h3
            replace h3 := dec_f h3
            refine W_exit (exit_then (exit_then (exit_here (at_then ?_))))
            refine W_seq ?_
            refine W_rseq ?_
            refine op_assign rfl (.int _ _) rfl ?_
            refine op_nil (at_then ?_)
            refine W_block ?_
            refine W_loop 2417851638103358442570000 (α := Nat) (fun k => [(8, .int .i64 k)]) (fun k w' => k ≤ l.length ∧ Ctx w0 [] w' [(b9, Bl 3 ((List.range 16).map fun q => .int .i64 (posK out 16 q)))]) (fun k => l.length - k) 0 rfl ?_ ?_ ?_
            · exact ⟨rfl, trivial⟩
            · exact ⟨Nat.zero_le _, H⟩
            · rintro k j w ⟨hk, H⟩
              refine W_seq ?_
              refine W_rseq ?_
              refine op_move rfl (.int _ _) rfl ?_
              refine op_move rfl (.slice _ _ _) rfl ?_
              refine op_len rfl el_22 rfl ?_
              refine op_lss rfl rfl rfl ?_
              refine op_nil (at_then ?_)
              refine W_cond _ rfl ?_ ?_
              · intro h4
                replace h4 := dec_t h4
                obtain ⟨d, hd⟩ := get_some (l := l) (i := k) (by omega)
                have hdm := List.mem_of_getElem? hd
                obtain ⟨d1, d2, d3, d4, d5⟩ := F d hdm
                obtain ⟨t, ht⟩ : ∃ t : Nat, d.to = t := ⟨d.to.toNat, by omega⟩
                obtain ⟨u, hu⟩ : ∃ u : Nat, d.fr = u := ⟨d.fr.toNat, by omega⟩
                have hah := P.ahead d hdm
                rw [show d.fr.toNat = u by omega, show d.to.toNat = t by omega] at hah
                have hpt := hpos t (by omega)
                have hpu := hpos u (by omega)
                refine W_skip (at_then ?_)
                refine W_seq ?_
                refine W_block ?_
                refine W_qseq (fun x => x = _) mixed (by kernel_rfl) rfl ?_
                refine q_move rfl (.slice _ _ _) rfl ?_
                refine q_move rfl (.int _ _) rfl ?_
                first | refine q_indexRd R rfl el_22 sz_41 rfl rfl (by omega) (by omega) (by first | rfl | omega) ?_ | refine q_indexAddr rfl el_22 sz_41 rfl rfl (by omega) (by omega) ?_
                refine q_fieldAddr rfl fo_41_6 rfl ?_
                first | refine q_ldb rfl ag_4 rfl (by rintro _ rfl; exact H.drew) (by first | exact at0 | exact at1 | exact at2 | exact at3 | exact at4 | exact at5 | exact at6 | exact at7 | exact at8 | exact at9) rfl ?_ | refine q_ld rfl ag_4 rfl (by rintro _ rfl; exact ((R.ext0 H.drew.ext).fld hd rfl (j := 6) rfl)) ?_ | refine q_ld rfl ag_4 rfl (by rintro _ rfl; exact ((R.ext0 H.drew.ext).fld hd rfl (j := 2) rfl)) ?_ | refine q_ld rfl ag_4 rfl (by rintro _ rfl; exact ((R.ext0 H.drew.ext).fld hd rfl (j := 1) rfl)) ?_
                refine q_not rfl rfl ?_
                refine q_move rfl (.bool _) rfl ?_
                refine Wq_split 62 rfl ?_ ?_
                · intro h5
                  replace h5 := nvar_t h5
                  have hlt := hah h5
                  refine q_move rfl (.slice _ _ _) rfl ?_
                  refine q_move rfl (.slice _ _ _) rfl ?_
                  refine q_move rfl (.int _ _) rfl ?_
                  first | refine q_indexRd R rfl el_22 sz_41 rfl rfl (by omega) (by omega) (by first | rfl | omega) ?_ | refine q_indexAddr rfl el_22 sz_41 rfl rfl (by omega) (by omega) ?_
                  refine q_fieldAddr rfl fo_41_1 rfl ?_
                  first | refine q_ldb rfl ag_3 rfl (by rintro _ rfl; exact H.drew) (by first | exact at0 | exact at1 | exact at2 | exact at3 | exact at4 | exact at5 | exact at6 | exact at7 | exact at8 | exact at9) rfl ?_ | refine q_ld rfl ag_3 rfl (by rintro _ rfl; exact ((R.ext0 H.drew.ext).fld hd rfl (j := 6) rfl)) ?_ | refine q_ld rfl ag_3 rfl (by rintro _ rfl; exact ((R.ext0 H.drew.ext).fld hd rfl (j := 2) rfl)) ?_ | refine q_ld rfl ag_3 rfl (by rintro _ rfl; exact ((R.ext0 H.drew.ext).fld hd rfl (j := 1) rfl)) ?_
                  refine q_indexAddr rfl el_23 sz_3 rfl rfl (by omega) (by omega) ?_
                  refine q_ldr u _ rfl ag_3 rfl (by rintro _ rfl; exact H.drew) at0 (by rw [hu]; simp) (by omega) rfl ?_
                  refine q_move rfl (.slice _ _ _) rfl ?_
                  refine q_move rfl (.slice _ _ _) rfl ?_
                  refine q_move rfl (.int _ _) rfl ?_
                  first | refine q_indexRd R rfl el_22 sz_41 rfl rfl (by omega) (by omega) (by first | rfl | omega) ?_ | refine q_indexAddr rfl el_22 sz_41 rfl rfl (by omega) (by omega) ?_
                  refine q_fieldAddr rfl fo_41_2 rfl ?_
                  first | refine q_ldb rfl ag_3 rfl (by rintro _ rfl; exact H.drew) (by first | exact at0 | exact at1 | exact at2 | exact at3 | exact at4 | exact at5 | exact at6 | exact at7 | exact at8 | exact at9) rfl ?_ | refine q_ld rfl ag_3 rfl (by rintro _ rfl; exact ((R.ext0 H.drew.ext).fld hd rfl (j := 6) rfl)) ?_ | refine q_ld rfl ag_3 rfl (by rintro _ rfl; exact ((R.ext0 H.drew.ext).fld hd rfl (j := 2) rfl)) ?_ | refine q_ld rfl ag_3 rfl (by rintro _ rfl; exact ((R.ext0 H.drew.ext).fld hd rfl (j := 1) rfl)) ?_
                  refine q_indexAddr rfl el_23 sz_3 rfl rfl (by omega) (by omega) ?_
                  refine q_ldr t _ rfl ag_3 rfl (by rintro _ rfl; exact H.drew) at0 (by rw [ht]; simp) (by omega) rfl ?_
                  refine q_geq rfl rfl rfl ?_
                  refine q_pick1 rfl rfl (.bool _) rfl ?_
                  refine q_nil ?_
                  rintro _ rfl
                  replace H := H.drew
                  refine W_cond _ rfl ?_ ?_
                  · intro h6
                    replace h6 := dec_t h6
                    omega
                  · intro h6
                    replace h6 := dec_f h6
                    refine W_skip (at_block (at_then ?_))
                    refine W_region ?_
                    refine op_move rfl (.int _ _) rfl ?_
                    refine op_add_i64 rfl rfl rfl (by omega) (by omega) ?_
                    refine op_assign rfl (.int _ _) rfl ?_
                    refine op_nil (at_then ?_)
                    exact ⟨k + 1, rfl, ⟨rfl, trivial⟩, ⟨by omega, H⟩, by omega⟩
                · intro h5
                  replace h5 := nvar_f h5
                  refine q_skip rfl ?_
                  refine q_skip rfl ?_
                  refine q_skip rfl ?_
                  refine q_skip rfl ?_
                  refine q_skip rfl ?_
                  refine q_skip rfl ?_
                  refine q_skip rfl ?_
                  refine q_skip rfl ?_
                  refine q_skip rfl ?_
                  refine q_skip rfl ?_
                  refine q_skip rfl ?_
                  refine q_skip rfl ?_
                  refine q_skip rfl ?_
                  refine q_skip rfl ?_
                  refine q_skip rfl ?_
                  refine q_skip rfl ?_
                  refine q_skip rfl ?_
                  refine q_pick0 rfl rfl (.bool _) rfl ?_
                  refine q_nil ?_
                  rintro _ rfl
                  replace H := H.drew
                  refine W_cond0 rfl ?_
                  refine W_skip (at_block (at_then ?_))
                  refine W_region ?_
                  refine op_move rfl (.int _ _) rfl ?_
                  refine op_add_i64 rfl rfl rfl (by omega) (by omega) ?_
                  refine op_assign rfl (.int _ _) rfl ?_
                  refine op_nil (at_then ?_)
                  exact ⟨k + 1, rfl, ⟨rfl, trivial⟩, ⟨by omega, H⟩, by omega⟩
              · intro h4
                replace h4 := dec_f h4
                refine W_exit (exit_then (exit_then (exit_here (at_then ?_))))
                refine W_rseq ?_
                refine op_assign rfl (.bool _) rfl ?_
                refine op_nil (at_then ?_)
                refine W_ret (leave1 (v := (.bool _)) rfl rfl rfl ?_)
                exact ⟨rfl, H.ext⟩

end Go.Proofs.Ytogaoppnoibgdaa
