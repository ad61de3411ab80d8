/- What the reference's Order does. -/
import Derived.Test.YtogaoppnoibgdaaCyD
namespace Go.Proofs.Ytogaoppnoibgdaa
open Go.GV
attribute [local irreducible] Wops W Wq

/-- The least free bank of k and those above it, or -1. -/
def dnN (l : List Due) (out : List Nat) (nb k : Nat) : Int := match (List.range' k (nb - k)).find? (freeB l out) with | some b => b | none => -1

theorem dn_end (l : List Due) (out : List Nat) (nb : Nat) : dnN l out nb nb = -1 := by simp [dnN]
theorem dn_step {l : List Due} {out : List Nat} {nb k : Nat} (h : k < nb) : dnN l out nb k = bif freeB l out k then (k : Int) else dnN l out nb (k + 1) := by
  unfold dnN
  rw [show nb - k = (nb - (k + 1)) + 1 from by omega, List.range'_succ, List.find?_cons]
  cases freeB l out k <;> rfl
theorem dn_zero (l : List Due) (out : List Nat) (nb : Nat) : dnN l out nb 0 = match nextB l nb out with | some b => (b : Int) | none => -1 := by
  unfold dnN nextB
  rw [Nat.sub_zero, List.range_eq_range']
theorem dn_none {l : List Due} {out : List Nat} {nb : Nat} (h : dnN l out nb 0 < 0) : nextB l nb out = none := by
  rw [dn_zero] at h
  cases hn : nextB l nb out with
  | none => rfl
  | some b => rw [hn] at h; exact absurd h (Int.not_lt.2 (Int.natCast_nonneg b))
theorem dn_some {l : List Due} {out : List Nat} {nb : Nat} (h : ¬ dnN l out nb 0 < 0) : ∃ b, nextB l nb out = some b ∧ dnN l out nb 0 = (b : Int) := by
  rw [dn_zero] at h ⊢
  cases hn : nextB l nb out with
  | none => rw [hn] at h; exact absurd (show (-1 : Int) < 0 by decide) h
  | some b => exact ⟨b, rfl, rfl⟩

set_option maxHeartbeats 2000000 in
theorem order29_ok (banks : Int) (a : Option Addr) (c : Nat) (l : List Due) (w : World) (R : Rd w a 7 Due.enc l) (hm : l.length ≤ 9223372036854775807) :
    Ret Try.prog 8 #[.int .i64 banks, .slice a l.length c] w fun v w' => OrderPost banks l w v w' := by
  obtain ⟨w0, rfl⟩ : ∃ w0, w0 = w := ⟨_, rfl⟩
  have H := Ctx.start w0 []
  refine ret_of_W (fn := Try.f8) Try.func8 rfl [.int .i64 banks, .slice a l.length c] rfl (by kernel_rfl) ?_
  refine W_rseq ?_
  refine op_assign rfl (.slice _ _ _) rfl ?_
  refine op_assign rfl (.bool _) rfl ?_
  refine op_nil (at_then ?_)
  refine W_seq ?_
  refine W_rseq ?_
  refine op_move rfl (.int _ _) rfl ?_
  refine op_move rfl (.slice _ _ _) rfl ?_
  refine op_call rfl ca_16 (may29_ok banks a c l _ (R.ext0 H.ext) hm) rfl ?_
  rintro v w ⟨rfl, hx⟩; replace H := H.call hx
  refine op_not rfl rfl ?_
  refine op_nil (at_then ?_)
  refine W_cond _ rfl ?_ ?_
  · intro h1
    replace h1 := nvar_t h1
    refine W_rseq ?_
    refine op_assign rfl (.slice _ _ _) rfl ?_
    refine op_assign rfl (.bool _) rfl ?_
    refine op_nil (at_then ?_)
    refine W_ret (ret_then (leave2 (v1 := (.slice _ _ _)) (v2 := (.bool _)) rfl rfl rfl rfl ?_))
    exact post_none (by rw [orderD, h1]; rfl) rfl H.ext
  · intro h1
    replace h1 := nvar_f h1
    obtain ⟨nb, rfl, F⟩ := may_facts h1
    have h16 := F.n16
    have h64 := F.len
    refine W_skip (at_then ?_)
    refine W_rseq ?_
    refine op_move rfl (.int _ _) rfl ?_
    refine op_make rfl el_45 sz_4 by_4 zc_4 rfl rfl (by omega) (by omega) (by omega) (by omega) H ?_
    rintro b17 w - H
    rw [show ((nb : Int)).toNat = nb from rfl, rep_range nb (Value.bool false)] at H
    refine op_assign rfl (.slice _ _ _) rfl ?_
    refine op_nil (at_then ?_)
    refine W_rseq ?_
    refine op_assign rfl (.slice _ _ _) rfl ?_
    refine op_nil (at_then ?_)
    refine W_seq ?_
    refine W_block ?_
    refine W_loop 151115727451828646580144 (α := List Nat × Option Addr × Nat × List Value) (fun x => [(7, .slice x.2.1 x.1.length x.2.2.1)]) (fun x w' => Ctx w0 [] w' ((b17, Bl 4 ((List.range nb).map fun b => .bool (x.1.contains b))) :: ent x.2.1 3 x.2.2.2) ∧ OS x.2.1 x.1.length x.2.2.1 1 x.2.2.2 (x.1.map fun (x : Nat) => Value.int .i64 (x : Int)) ∧ orderGo l nb nb [] = orderGo l nb (nb - x.1.length) x.1 ∧ x.1.length ≤ nb) (fun x => nb - x.1.length) ([], none, 0, []) rfl ?_ ?_ ?_
    · exact ⟨rfl, trivial⟩
    · exact ⟨H, OS.nil, rfl, Nat.zero_le _⟩
    · rintro ⟨out, a', c', full⟩ j w ⟨H, O, hgo, hlen⟩
      dsimp only at H O hgo hlen
      dsimp only
      refine W_seq ?_
      refine W_rseq ?_
      refine op_move rfl (.slice _ _ _) rfl ?_
      refine op_len rfl el_23 rfl ?_
      refine op_move rfl (.int _ _) rfl ?_
      refine op_lss rfl rfl rfl ?_
      refine op_nil (at_then ?_)
      refine W_cond _ rfl ?_ ?_
      · intro h2
        replace h2 := dec_t h2
        refine W_skip (at_then ?_)
        refine W_block ?_
        refine W_rseq ?_
        refine op_assign rfl (.int _ _) rfl ?_
        refine op_nil (at_then ?_)
        refine W_seq ?_
        refine W_rseq ?_
        refine op_move rfl (.int _ _) rfl ?_
        refine op_sub_i64 rfl rfl rfl (by omega) (by omega) ?_
        refine op_assign rfl (.int _ _) rfl ?_
        refine op_nil (at_then ?_)
        refine W_block ?_
        refine W_loop 295147905179336052480 (α := Nat) (fun k => [(9, .int .i64 ((k : Int) - 1)), (8, .int .i64 (dnN l out nb k))]) (fun k w' => k ≤ nb ∧ Ctx w0 [] w' ((b17, Bl 4 ((List.range nb).map fun b => .bool (out.contains b))) :: ent a' 3 full)) (fun k => k) nb rfl ?_ ?_ ?_
        · exact ⟨rfl, by rw [dn_end]; rfl, trivial⟩
        · exact ⟨Nat.le_refl _, H⟩
        · rintro k j w ⟨hk, H⟩
          refine W_seq ?_
          refine W_rseq ?_
          refine op_move rfl (.int _ _) rfl ?_
          refine op_geq rfl rfl rfl ?_
          refine op_nil (at_then ?_)
          refine W_cond _ rfl ?_ ?_
          · intro h3
            replace h3 := dec_t h3
            obtain ⟨b, rfl⟩ : ∃ b, k = b + 1 := ⟨k - 1, by omega⟩
            have hb : (((b + 1 : Nat) : Int) - 1) = (b : Int) := by omega
            rw [hb]
            refine W_skip (at_then ?_)
            refine W_seq ?_
            refine W_block ?_
            refine W_rseq ?_
            refine op_move rfl (.slice _ _ _) rfl ?_
            refine op_move rfl (.int _ _) rfl ?_
            first | refine op_indexRd R rfl el_45 sz_4 rfl rfl (by omega) (by omega) (by first | rfl | omega) ?_ | refine op_indexAddr rfl el_45 sz_4 rfl rfl (by omega) (by omega) ?_
            refine op_ldr b _ rfl ag_4 rfl H at0 (by simp) (by omega) rfl ?_
            refine op_not rfl rfl ?_
            refine op_assign rfl (.bool _) rfl ?_
            refine op_nil (at_then ?_)
            refine W_seq ?_
            refine W_rseq ?_
            refine op_assign rfl (.int _ _) rfl ?_
            refine op_nil (at_then ?_)
            refine W_block ?_
            refine W_loop 73786976286248274944 (α := Nat) (fun i => [(11, .int .i64 i), (10, .bool (!out.contains b && !(l.take i).any (waitsB out b)))]) (fun i w' => i ≤ l.length ∧ Ctx w0 [] w' ((b17, Bl 4 ((List.range nb).map fun b => .bool (out.contains b))) :: ent a' 3 full)) (fun i => l.length - i) 0 rfl ?_ ?_ ?_
            · exact ⟨rfl, by rw [List.take_zero, List.any_nil, Bool.not_false, Bool.and_true]; rfl, trivial⟩
            · exact ⟨Nat.zero_le _, H⟩
            · rintro i j w ⟨hi, H⟩
              refine W_seq ?_
              refine W_rseq ?_
              refine op_move rfl (.int _ _) rfl ?_
              refine op_move rfl (.slice _ _ _) rfl ?_
              refine op_len rfl el_22 rfl ?_
              refine op_lss rfl rfl rfl ?_
              refine op_nil (at_then ?_)
              refine W_cond _ rfl ?_ ?_
              · intro h4
                replace h4 := dec_t h4
                obtain ⟨d, hd⟩ := get_some (l := l) (i := i) (by omega)
                obtain ⟨hfine, d1, d2, d3, d4, d5, _⟩ := F.due d (List.mem_of_getElem? hd)
                obtain ⟨t, ht⟩ : ∃ t : Nat, d.fr = t := ⟨d.fr.toNat, by omega⟩
                have htn : d.fr.toNat = t := by omega
                refine W_skip (at_then ?_)
                refine W_seq ?_
                refine W_block ?_
                refine W_region ?_
                refine op_move rfl (.bool _) rfl ?_
                refine op_move rfl (.bool _) rfl ?_
                refine Wops_split 40 rfl ?_ ?_
                · intro h1
                  refine op_move rfl (.slice _ _ _) rfl ?_
                  refine op_move rfl (.int _ _) rfl ?_
                  first | refine op_indexRd R rfl el_22 sz_41 rfl rfl (by omega) (by omega) (by first | rfl | omega) ?_ | refine op_indexAddr rfl el_22 sz_41 rfl rfl (by omega) (by omega) ?_
                  refine op_fieldAddr rfl fo_41_6 rfl ?_
                  first | refine op_ldb rfl ag_4 rfl H (by first | exact at0 | exact at1 | exact at2 | exact at3 | exact at4 | exact at5 | exact at6 | exact at7 | exact at8 | exact at9) rfl ?_ | refine op_ld rfl ag_4 rfl ((R.ext0 H.ext).fld hd rfl (j := 6) rfl) ?_ | refine op_ld rfl ag_4 rfl ((R.ext0 H.ext).fld hd rfl (j := 2) rfl) ?_ | refine op_ld rfl ag_4 rfl ((R.ext0 H.ext).fld hd rfl (j := 1) rfl) ?_
                  refine op_move rfl (.bool _) rfl ?_
                  refine Wops_split 46 rfl ?_ ?_
                  · intro h2
                    refine op_skip rfl ?_
                    refine op_skip rfl ?_
                    refine op_skip rfl ?_
                    refine op_skip rfl ?_
                    refine op_skip rfl ?_
                    refine op_skip rfl ?_
                    refine op_skip rfl ?_
                    refine op_pick1 rfl rfl (.bool _) rfl ?_
                    refine op_move rfl (.bool _) rfl ?_
                    refine op_skip rfl ?_
                    refine op_skip rfl ?_
                    refine op_skip rfl ?_
                    refine op_skip rfl ?_
                    refine op_skip rfl ?_
                    refine op_skip rfl ?_
                    refine op_skip rfl ?_
                    refine op_skip rfl ?_
                    refine op_pick1 rfl rfl (.bool _) rfl ?_
                    refine op_pick1 rfl rfl (.bool _) rfl ?_
                    refine op_assign rfl (.bool _) rfl ?_
                    refine op_nil (at_block (at_then ?_))
                    refine W_region ?_
                    refine op_move rfl (.int _ _) rfl ?_
                    refine op_add_i64 rfl rfl rfl (by omega) (by omega) ?_
                    refine op_assign rfl (.int _ _) rfl ?_
                    refine op_nil (at_then ?_)
                    refine ⟨i + 1, rfl, ⟨rfl, ?_, trivial⟩, ⟨by omega, H⟩, by omega⟩
                    refine congrArg Value.bool ?_
                    rw [take_snoc hd, List.any_append, List.any_cons, List.any_nil, Bool.or_false, waitsB, htn]
                    clear H hgo hlen O
                    generalize (l.take i).any (waitsB out b) = A at *
                    generalize out.contains b = G at *
                    cases A <;> cases G <;> simp_all
                  · intro h3
                    refine op_move rfl (.slice _ _ _) rfl ?_
                    refine op_move rfl (.int _ _) rfl ?_
                    first | refine op_indexRd R rfl el_22 sz_41 rfl rfl (by omega) (by omega) (by first | rfl | omega) ?_ | refine op_indexAddr rfl el_22 sz_41 rfl rfl (by omega) (by omega) ?_
                    refine op_fieldAddr rfl fo_41_2 rfl ?_
                    first | refine op_ldb rfl ag_3 rfl H (by first | exact at0 | exact at1 | exact at2 | exact at3 | exact at4 | exact at5 | exact at6 | exact at7 | exact at8 | exact at9) rfl ?_ | refine op_ld rfl ag_3 rfl ((R.ext0 H.ext).fld hd rfl (j := 6) rfl) ?_ | refine op_ld rfl ag_3 rfl ((R.ext0 H.ext).fld hd rfl (j := 2) rfl) ?_ | refine op_ld rfl ag_3 rfl ((R.ext0 H.ext).fld hd rfl (j := 1) rfl) ?_
                    refine op_move rfl (.int _ _) rfl ?_
                    refine op_neq rfl rfl rfl ?_
                    refine op_pick0 rfl rfl (.bool _) rfl ?_
                    refine op_move rfl (.bool _) rfl ?_
                    refine Wops_split 55 rfl ?_ ?_
                    · intro h4
                      replace h4 := ndec_t h4
                      refine op_skip rfl ?_
                      refine op_skip rfl ?_
                      refine op_skip rfl ?_
                      refine op_skip rfl ?_
                      refine op_skip rfl ?_
                      refine op_skip rfl ?_
                      refine op_skip rfl ?_
                      refine op_skip rfl ?_
                      refine op_pick1 rfl rfl (.bool _) rfl ?_
                      refine op_pick1 rfl rfl (.bool _) rfl ?_
                      refine op_assign rfl (.bool _) rfl ?_
                      refine op_nil (at_block (at_then ?_))
                      refine W_region ?_
                      refine op_move rfl (.int _ _) rfl ?_
                      refine op_add_i64 rfl rfl rfl (by omega) (by omega) ?_
                      refine op_assign rfl (.int _ _) rfl ?_
                      refine op_nil (at_then ?_)
                      refine ⟨i + 1, rfl, ⟨rfl, ?_, trivial⟩, ⟨by omega, H⟩, by omega⟩
                      refine congrArg Value.bool ?_
                      rw [take_snoc hd, List.any_append, List.any_cons, List.any_nil, Bool.or_false, waitsB, htn]
                      clear H hgo hlen O
                      generalize (l.take i).any (waitsB out b) = A at *
                      generalize out.contains b = G at *
                      cases A <;> cases G <;> simp_all
                    · intro h5
                      replace h5 := ndec_f h5
                      refine op_move rfl (.slice _ _ _) rfl ?_
                      refine op_move rfl (.slice _ _ _) rfl ?_
                      refine op_move rfl (.int _ _) rfl ?_
                      first | refine op_indexRd R rfl el_22 sz_41 rfl rfl (by omega) (by omega) (by first | rfl | omega) ?_ | refine op_indexAddr rfl el_22 sz_41 rfl rfl (by omega) (by omega) ?_
                      refine op_fieldAddr rfl fo_41_1 rfl ?_
                      first | refine op_ldb rfl ag_3 rfl H (by first | exact at0 | exact at1 | exact at2 | exact at3 | exact at4 | exact at5 | exact at6 | exact at7 | exact at8 | exact at9) rfl ?_ | refine op_ld rfl ag_3 rfl ((R.ext0 H.ext).fld hd rfl (j := 6) rfl) ?_ | refine op_ld rfl ag_3 rfl ((R.ext0 H.ext).fld hd rfl (j := 2) rfl) ?_ | refine op_ld rfl ag_3 rfl ((R.ext0 H.ext).fld hd rfl (j := 1) rfl) ?_
                      first | refine op_indexRd R rfl el_45 sz_4 rfl rfl (by omega) (by omega) (by first | rfl | omega) ?_ | refine op_indexAddr rfl el_45 sz_4 rfl rfl (by omega) (by omega) ?_
                      refine op_ldr t _ rfl ag_4 rfl H at0 (by rw [ht]; simp) (by omega) rfl ?_
                      refine op_pick0 rfl rfl (.bool _) rfl ?_
                      refine op_pick1 rfl rfl (.bool _) rfl ?_
                      refine op_assign rfl (.bool _) rfl ?_
                      refine op_nil (at_block (at_then ?_))
                      refine W_region ?_
                      refine op_move rfl (.int _ _) rfl ?_
                      refine op_add_i64 rfl rfl rfl (by omega) (by omega) ?_
                      refine op_assign rfl (.int _ _) rfl ?_
                      refine op_nil (at_then ?_)
                      refine ⟨i + 1, rfl, ⟨rfl, ?_, trivial⟩, ⟨by omega, H⟩, by omega⟩
                      refine congrArg Value.bool ?_
                      rw [take_snoc hd, List.any_append, List.any_cons, List.any_nil, Bool.or_false, waitsB, htn]
                      clear H hgo hlen O
                      generalize (l.take i).any (waitsB out b) = A at *
                      generalize out.contains b = G at *
                      cases A <;> cases G <;> simp_all
                · intro h6
                  refine op_skip rfl ?_
                  refine op_skip rfl ?_
                  refine op_skip rfl ?_
                  refine op_skip rfl ?_
                  refine op_skip rfl ?_
                  refine op_skip rfl ?_
                  refine op_skip rfl ?_
                  refine op_skip rfl ?_
                  refine op_skip rfl ?_
                  refine op_skip rfl ?_
                  refine op_skip rfl ?_
                  refine op_skip rfl ?_
                  refine op_skip rfl ?_
                  refine op_skip rfl ?_
                  refine op_skip rfl ?_
                  refine op_skip rfl ?_
                  refine op_skip rfl ?_
                  refine op_skip rfl ?_
                  refine op_skip rfl ?_
                  refine op_skip rfl ?_
                  refine op_skip rfl ?_
                  refine op_skip rfl ?_
                  refine op_skip rfl ?_
                  refine op_skip rfl ?_
                  refine op_pick0 rfl rfl (.bool _) rfl ?_
                  refine op_assign rfl (.bool _) rfl ?_
                  refine op_nil (at_block (at_then ?_))
                  refine W_region ?_
                  refine op_move rfl (.int _ _) rfl ?_
                  refine op_add_i64 rfl rfl rfl (by omega) (by omega) ?_
                  refine op_assign rfl (.int _ _) rfl ?_
                  refine op_nil (at_then ?_)
                  refine ⟨i + 1, rfl, ⟨rfl, ?_, trivial⟩, ⟨by omega, H⟩, by omega⟩
                  refine congrArg Value.bool ?_
                  rw [take_snoc hd, List.any_append, List.any_cons, List.any_nil, Bool.or_false, waitsB, htn]
                  clear H hgo hlen O
                  generalize (l.take i).any (waitsB out b) = A at *
                  generalize out.contains b = G at *
                  cases A <;> cases G <;> simp_all
              · intro h4
                replace h4 := dec_f h4
                have hie : i = l.length := by omega
                subst hie
                rw [List.take_length]
                refine W_exit (exit_then (exit_then (exit_here (at_then ?_))))
                refine W_rseq ?_
                refine op_move rfl (.bool _) rfl ?_
                refine op_nil (at_then ?_)
                refine W_cond _ rfl ?_ ?_
                · intro h5
                  refine W_region ?_
                  refine op_move rfl (.int _ _) rfl ?_
                  refine op_assign rfl (.int _ _) rfl ?_
                  refine op_nil (at_block (at_then ?_))
                  refine W_region ?_
                  refine op_move rfl (.int _ _) rfl ?_
                  refine op_sub_i64 rfl rfl rfl (by omega) (by omega) ?_
                  refine op_assign rfl (.int _ _) rfl ?_
                  refine op_nil (at_then ?_)
                  refine ⟨b, rfl, ⟨rfl, ?_, trivial⟩, ⟨by omega, H⟩, by omega⟩
                  refine congrArg (Value.int .i64) ?_
                  rw [dn_step (k := b) (by omega), freeB, h5]; rfl
                · intro h5
                  refine W_skip (at_block (at_then ?_))
                  refine W_region ?_
                  refine op_move rfl (.int _ _) rfl ?_
                  refine op_sub_i64 rfl rfl rfl (by omega) (by omega) ?_
                  refine op_assign rfl (.int _ _) rfl ?_
                  refine op_nil (at_then ?_)
                  refine ⟨b, rfl, ⟨rfl, ?_, trivial⟩, ⟨by omega, H⟩, by omega⟩
                  refine congrArg (Value.int .i64) ?_
                  rw [dn_step (k := b) (by omega), freeB, h5]; rfl
          · intro h3
            replace h3 := dec_f h3
            have hk0 : k = 0 := by omega
            subst hk0
            refine W_exit (exit_then (exit_then (exit_here (at_then ?_))))
            refine W_seq ?_
            refine W_rseq ?_
            refine op_move rfl (.int _ _) rfl ?_
            refine op_lss rfl rfl rfl ?_
            refine op_nil (at_then ?_)
            refine W_cond _ rfl ?_ ?_
            · intro h4
              replace h4 := dec_t h4
              refine W_rseq ?_
              refine op_assign rfl (.slice _ _ _) rfl ?_
              refine op_assign rfl (.bool _) rfl ?_
              refine op_nil (at_then ?_)
              refine W_ret (ret_then (ret_block (ret_then (ret_block (ret_then (leave2 (v1 := (.slice _ _ _)) (v2 := (.bool _)) rfl rfl rfl rfl ?_))))))
              refine post_none ?_ rfl H.ext
              rw [orderD, h1]
              show orderGo l nb nb [] = none
              rw [hgo, show nb - out.length = (nb - out.length - 1) + 1 from by omega, orderGo, dn_none h4]
            · intro h4
              replace h4 := dec_f h4
              obtain ⟨b, hnx, hbe⟩ := dn_some h4
              have hlt := (next_lt hnx).1
              have hstep : orderGo l nb (nb - out.length) out = orderGo l nb (nb - (out.length + 1)) (out ++ [b]) := by
                rw [show nb - out.length = (nb - (out.length + 1)) + 1 from by omega, orderGo, hnx]
              refine W_skip (at_then ?_)
              refine W_rseq ?_
              refine op_move rfl (.slice _ _ _) rfl ?_
              refine op_move rfl (.int _ _) rfl ?_
              refine op_indexAddr rfl el_45 sz_4 rfl rfl (by omega) (by omega) ?_
              refine op_str b (fun q => .bool ((out ++ [b]).contains q)) (.bool true) rfl sz_4 rfl rfl rfl H at0 (by rw [hbe]; simp) (by omega) (by simp) (fun q hq hne => by simp [hne]) ?_
              rintro w H
              refine op_nil (at_then ?_)
              refine W_region ?_
              refine op_move rfl (.slice _ _ _) rfl ?_
              refine op_move rfl (.int _ _) rfl ?_
              refine op_build1 _ (.int _ _) rfl el_23 sz_3 zc_3 rfl (by decide) (by decide) rfl rfl rfl H ?_
              rintro b75 w - H
              refine op_appendb (L := [_]) rfl el_23 el_23 sz_3 by_3 zc_3 rfl (by decide) rfl rfl H O rfl (by simp [oneCell]) (by omega) ?_
              rintro a9 c9 full9 w H O
              refine op_assign rfl (.slice _ _ _) rfl ?_
              refine op_nil (at_block (at_then ?_))
              refine ⟨(out ++ [b], a9, c9, full9), rfl, ⟨by rw [List.length_append]; rfl, trivial⟩, ⟨H, by simpa [hbe] using O, ?_, by simp; omega⟩, by simp; omega⟩
              rw [hgo, hstep]; simp
      · intro h2
        replace h2 := dec_f h2
        have hle : out.length = nb := by omega
        refine W_exit (exit_then (exit_then (exit_here (at_then ?_))))
        refine W_rseq ?_
        refine op_move rfl (.slice _ _ _) rfl ?_
        refine op_assign rfl (.slice _ _ _) rfl ?_
        refine op_assign rfl (.bool _) rfl ?_
        refine op_nil (at_then ?_)
        refine W_ret (leave2 (v1 := (.slice _ _ _)) (v2 := (.bool _)) rfl rfl rfl rfl ?_)
        refine post_some (out := out) ?_ rfl (H.fresh (L := [_]) O)
        rw [orderD, h1]
        show orderGo l nb nb [] = some out
        rw [hgo, hle, Nat.sub_self, orderGo]

end Go.Proofs.Ytogaoppnoibgdaa
