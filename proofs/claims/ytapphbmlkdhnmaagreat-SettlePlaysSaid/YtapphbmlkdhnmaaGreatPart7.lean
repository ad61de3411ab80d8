/- Part 7 of the proof. -/
import Derived.Test.YtapphbmlkdhnmaaGreatPart6
import Derived.Test.YtapphbmlkdhnmaaGreatPart4
/- The solver: where there is over, what is nearest, numbers raised: the walks. -/
namespace Go.Proofs.YtapphbmlkdhnmaaGreat
open Go.GV
theorem ag_29_SeP : aggB Tryz.prog 29 = some false := by kernel_rfl
theorem ag_2_SeP : aggB Tryz.prog 2 = some false := by kernel_rfl
theorem by_3_SeP : tbytes Tryz.prog 3 = some 8 := by kernel_rfl
theorem el_203_SeP : elemT Tryz.prog 203 = some 3 := by kernel_rfl
theorem el_29_SeP : elemT Tryz.prog 29 = some 2 := by kernel_rfl
theorem fo_170_2_SeP : fieldO Tryz.prog 170 2 = some 3 := by kernel_rfl
theorem fo_170_3_SeP : fieldO Tryz.prog 170 3 = some 4 := by kernel_rfl
theorem sz_2_SeP : tsize Tryz.prog 2 = some 1 := by kernel_rfl
theorem sz_3_SeP : tsize Tryz.prog 3 = some 1 := by kernel_rfl
theorem zc_3_SeP : zcells Tryz.prog 3 = some ([.int .i64 0]) := by kernel_rfl
attribute [local irreducible] Wops W Wq Wt

abbrev SC (N : Nat) (ae : Option Addr) (n ce bf bp bo : Nat) (k : Int) : List Value := [.int .i64 (N : Int), .slice ae n ce, .slice (some ⟨bf, 0, none⟩) n n, .slice (some ⟨bp, 0, none⟩) N N, .slice (some ⟨bo, 0, none⟩) N N, .int .i64 k]
def posL (ov : Nat → Int) (N : Nat) : List Nat := (List.range N).filter fun v => decide (0 < ov v)
theorem posL_succ (ov : Nat → Int) (i : Nat) : posL ov (i + 1) = posL ov i ++ if 0 < ov i then [i] else [] := by
  unfold posL
  rw [List.range_succ, List.filter_append]
  congr 1
  by_cases h : 0 < ov i <;> simp [h]
theorem posL_len (ov : Nat → Int) (i : Nat) : (posL ov i).length ≤ i := by
  have := List.length_filter_le (fun v => decide (0 < ov v)) (List.range i)
  rw [List.length_range] at this
  exact this
abbrev iN (v : Nat) : Value := .int .i64 (v : Int)
structure LSt where
  i : Nat
  a : Option Addr
  c : Nat
  full : List Value

section
variable {w : World} {bs : Nat} {N : Nat} {ae : Option Addr} {n ce bf bp bo : Nat} {k : Int} {ov : Nat → Int}

set_option maxRecDepth 20000 in
theorem sources_ok (hs : w.heap[bs]? = some (Bl 170 (SC N ae n ce bf bp bo k))) (ho : w.heap[bo]? = some (Bl 2 (tabV ov N))) (hN : N ≤ 1000000) :
    Ret Tryz.prog 166 #[ptr bs] w fun v w' => Fresh w w' 3 1 v ((posL ov N).map iN) := by
  obtain ⟨w0, rfl⟩ : ∃ w0, w0 = w := ⟨_, rfl⟩
  have H := Ctx.start w0 []
  have R := tab_rd ho
  refine ret_of_W (fn := Tryz.f166) Tryz.func166 rfl [.pointer (some ⟨bs, 0, none⟩)] rfl (by kernel_rfl) ?_
  refine W_rseq ?_
  refine op_assign rfl (.slice _ _ _) rfl ?_
  refine op_nil (at_then ?_)
  refine W_rseq ?_
  refine op_assign rfl (.slice _ _ _) rfl ?_
  refine op_nil (at_then ?_)
  refine W_seq ?_
  refine W_rseq ?_
  refine op_move rfl (.pointer _) rfl ?_
  refine op_nilCheck rfl rfl ?_
  refine op_fieldAddr rfl fo_170_3_SeP rfl ?_
  first | refine op_ldb rfl ag_29_SeP rfl H (by first | exact at0 | exact at1 | exact at2 | exact at3 | exact at4 | exact at5 | exact at6 | exact at7 | exact at8 | exact at9) rfl ?_ | refine op_ld rfl ag_29_SeP rfl ((by rw [cell_bl hs]; rfl)) ?_
  refine op_len rfl el_29_SeP rfl ?_
  refine op_move rfl (.int _ _) rfl ?_
  refine op_nil (at_then ?_)
  refine W_block ?_
  refine W_loop 8386616 (α := LSt) (fun t => [(11, .int .i64 (t.i : Int)), (3, .slice t.a (posL ov t.i).length t.c)]) (fun t w' => t.i ≤ N ∧ OS t.a (posL ov t.i).length t.c 1 t.full ((posL ov t.i).map iN) ∧ Ctx w0 [] w' (ent t.a 3 t.full)) (fun t => N - t.i) ⟨0, none, 0, []⟩ rfl ?_ ?_ ?_
  · exact ⟨rfl, rfl, trivial⟩
  · exact ⟨Nat.zero_le _, OS.nil, H⟩
  · rintro ⟨i, a, c, full⟩ j w ⟨hi, O, H⟩; dsimp only at hi O H; dsimp only
    have hpl := posL_len ov i
    refine W_rseq ?_
    refine op_lss rfl rfl rfl ?_
    refine op_nil (at_then ?_)
    refine W_seq ?_
    refine W_cond _ rfl ?_ ?_
    · intro h1
      replace h1 := dec_t h1
      have hgd : (tab ov N)[i]? = some (ov i) := tab_get (by omega)
      refine W_skip (at_then ?_)
      refine W_seq ?_
      refine W_block ?_
      refine W_rseq ?_
      refine op_move rfl (.int _ _) rfl ?_
      first | refine op_indexRd R rfl el_29_SeP sz_2_SeP rfl rfl (by omega) (by omega) (by first | rfl | omega) ?_ | refine op_indexAddr rfl el_29_SeP sz_2_SeP rfl rfl (by omega) (by omega) ?_
      first | refine op_ldb rfl ag_2_SeP rfl H (by first | exact at0 | exact at1 | exact at2 | exact at3 | exact at4 | exact at5 | exact at6 | exact at7 | exact at8 | exact at9) rfl ?_ | refine op_ld rfl ag_2_SeP rfl (((R.ext0 H.ext).fld hgd rfl (j := 0) rfl)) ?_
      refine op_assign rfl (.int _ _) rfl ?_
      refine op_assign rfl (.int _ _) rfl ?_
      refine op_nil (at_then ?_)
      refine W_rseq ?_
      refine op_move rfl (.int _ _) rfl ?_
      refine op_gtr rfl rfl rfl ?_
      refine op_nil (at_then ?_)
      refine W_cond _ rfl ?_ ?_
      · intro h2
        replace h2 := dec_t h2
        have hps : posL ov (i + 1) = posL ov i ++ [i] := by rw [posL_succ, if_pos h2]
        refine W_region ?_
        refine op_move rfl (.slice _ _ _) rfl ?_
        refine op_move rfl (.int _ _) rfl ?_
        refine op_build1 _ (.int _ _) rfl el_203_SeP sz_3_SeP zc_3_SeP rfl (by decide) (by decide) rfl rfl rfl H ?_
        rintro b20 w - H
        refine op_appendb (L := []) rfl el_203_SeP el_203_SeP sz_3_SeP by_3_SeP zc_3_SeP rfl (by decide) rfl rfl H O rfl (by simp [oneCell]) (by omega) ?_
        rintro a' c' full' w H O
        refine op_assign rfl (.slice _ _ _) rfl ?_
        refine op_nil (at_block (at_then ?_))
        refine W_region ?_
        refine op_add_i64 rfl rfl rfl (by omega) (by omega) ?_
        refine op_move rfl (.int _ _) rfl ?_
        refine op_nil (at_then ?_)
        exact ⟨⟨i + 1, a', c', full'⟩, rfl, ⟨rfl, by dsimp only; rw [hps, List.length_append]; rfl, trivial⟩, ⟨by dsimp only; omega, by dsimp only; rw [hps, List.length_append, List.map_append]; exact O, H⟩, by dsimp only; omega⟩
      · intro h2
        replace h2 := dec_f h2
        have hps : posL ov (i + 1) = posL ov i := by rw [posL_succ, if_neg (by omega), List.append_nil]
        refine W_skip (at_block (at_then ?_))
        refine W_region ?_
        refine op_add_i64 rfl rfl rfl (by omega) (by omega) ?_
        refine op_move rfl (.int _ _) rfl ?_
        refine op_nil (at_then ?_)
        exact ⟨⟨i + 1, a, c, full⟩, rfl, ⟨rfl, by dsimp only; rw [hps]; rfl, trivial⟩, ⟨by dsimp only; omega, by dsimp only; rw [hps]; exact O, H⟩, by dsimp only; omega⟩
    · intro h1
      replace h1 := dec_f h1
      refine W_exit (exit_then (exit_then (exit_here (at_then ?_))))
      refine W_rseq ?_
      refine op_move rfl (.slice _ _ _) rfl ?_
      refine op_assign rfl (.slice _ _ _) rfl ?_
      refine op_nil (at_then ?_)
      refine W_ret (leave1 (v := (.slice _ _ _)) rfl rfl rfl ?_)
      obtain rfl : i = N := by omega
      exact Ctx.fresh (L := []) H O

set_option maxRecDepth 20000 in
theorem nearest_ok {od : Nat} {d : Nat → Int} (hs : w.heap[bs]? = some (Bl 170 (SC N ae n ce bf bp bo k))) (ho : w.heap[bo]? = some (Bl 2 (tabV ov N))) (hd : w.heap[od]? = some (Bl 2 (tabV d N))) (hN : N ≤ 1000000) :
    Ret Tryz.prog 168 #[ptr bs, .slice (some ⟨od, 0, none⟩) N N] w fun v w' => (∃ to : Int, v = .int .i64 to ∧ ((to = -1 ∧ ∀ u, u < N → ¬ (ov u < 0 ∧ 0 ≤ d u)) ∨ ∃ x : Nat, x < N ∧ to = x ∧ ov x < 0 ∧ 0 ≤ d x)) ∧ w = w' := by
  obtain ⟨w0, rfl⟩ : ∃ w0, w0 = w := ⟨_, rfl⟩
  have RO := tab_rd ho
  have RD := tab_rd hd
  refine ret_of_W (fn := Tryz.f168) Tryz.func168 rfl [.pointer (some ⟨bs, 0, none⟩), .slice (some ⟨od, 0, none⟩) N N] rfl (by kernel_rfl) ?_
  refine W_rseq ?_
  refine op_assign rfl (.int _ _) rfl ?_
  refine op_nil (at_then ?_)
  refine W_rseq ?_
  refine op_assign rfl (.int _ _) rfl ?_
  refine op_nil (at_then ?_)
  refine W_seq ?_
  refine W_rseq ?_
  refine op_move rfl (.slice _ _ _) rfl ?_
  refine op_len rfl el_29_SeP rfl ?_
  refine op_move rfl (.int _ _) rfl ?_
  refine op_nil (at_then ?_)
  refine W_block ?_
  refine W_loop 2199023254752 (α := Nat × Int) (fun t => [(10, .int .i64 (t.1 : Int)), (5, .int .i64 t.2)]) (fun t w' => w0 = w' ∧ t.1 ≤ N ∧ ((t.2 = -1 ∧ ∀ u, u < t.1 → ¬ (ov u < 0 ∧ 0 ≤ d u)) ∨ ∃ x : Nat, x < N ∧ t.2 = x ∧ ov x < 0 ∧ 0 ≤ d x)) (fun t => N - t.1) (0, -1) rfl ?_ ?_ ?_
  · exact ⟨rfl, rfl, trivial⟩
  · exact ⟨rfl, Nat.zero_le _, .inl ⟨rfl, fun u h => absurd h (Nat.not_lt_zero _)⟩⟩
  · rintro ⟨i, to⟩ j w ⟨rfl, hi, hto⟩; dsimp only at hi hto; dsimp only
    refine W_rseq ?_
    refine op_lss rfl rfl rfl ?_
    refine op_nil (at_then ?_)
    refine W_seq ?_
    refine W_cond _ rfl ?_ ?_
    · intro h1
      replace h1 := dec_t h1
      have hgd : (tab d N)[i]? = some (d i) := tab_get (by omega)
      have hgo : (tab ov N)[i]? = some (ov i) := tab_get (by omega)
      have htd := tab_len d N
      obtain ⟨dx, hdx⟩ : ∃ dx : Int, 0 ≤ to → ∃ x : Nat, x < N ∧ to = x ∧ (tab d N)[x]? = some dx := by
        rcases hto with ⟨h, _⟩ | ⟨x, hx, h, _⟩
        · exact ⟨0, fun h7 => by omega⟩
        · exact ⟨d x, fun _ => ⟨x, hx, h, tab_get hx⟩⟩
      refine W_skip (at_then ?_)
      refine W_seq ?_
      refine W_block ?_
      refine W_rseq ?_
      refine op_move rfl (.int _ _) rfl ?_
      first | refine op_indexRd RD rfl el_29_SeP sz_2_SeP rfl rfl (by omega) (by omega) (by first | rfl | omega) ?_ | refine op_indexRd RO rfl el_29_SeP sz_2_SeP rfl rfl (by omega) (by omega) (by first | rfl | omega) ?_ | refine op_indexAddr rfl el_29_SeP sz_2_SeP rfl rfl (by omega) (by omega) ?_
      first | refine op_ldb rfl ag_2_SeP rfl H (by first | exact at0 | exact at1 | exact at2 | exact at3 | exact at4 | exact at5 | exact at6 | exact at7 | exact at8 | exact at9) rfl ?_ | refine op_ld rfl ag_2_SeP rfl ((by rw [cell_bl hs]; rfl)) ?_ | refine op_ld rfl ag_2_SeP rfl ((RD.fld hgd rfl (j := 0) rfl)) ?_ | refine op_ld rfl ag_2_SeP rfl ((RO.fld hgo rfl (j := 0) rfl)) ?_
      refine op_assign rfl (.int _ _) rfl ?_
      refine op_assign rfl (.int _ _) rfl ?_
      refine op_nil (at_then ?_)
      refine W_rseq (Wops_join (α := Unit) 549755781120 (fun _ => [(38, .bool (decide ((ov i < 0 ∧ 0 ≤ d i) ∧ (to < 0 ∨ d i < dx))))]) (fun _ w' => w' = w0) rfl ?_ ?_)
      · refine op_move rfl (.pointer _) rfl ?_
        refine op_nilCheck rfl rfl ?_
        refine op_fieldAddr rfl fo_170_3_SeP rfl ?_
        first | refine op_ldb rfl ag_29_SeP rfl H (by first | exact at0 | exact at1 | exact at2 | exact at3 | exact at4 | exact at5 | exact at6 | exact at7 | exact at8 | exact at9) rfl ?_ | refine op_ld rfl ag_29_SeP rfl ((by rw [cell_bl hs]; rfl)) ?_ | refine op_ld rfl ag_29_SeP rfl ((RD.fld hgd rfl (j := 0) rfl)) ?_ | refine op_ld rfl ag_29_SeP rfl ((RO.fld hgo rfl (j := 0) rfl)) ?_
        refine op_move rfl (.int _ _) rfl ?_
        first | refine op_indexRd RD rfl el_29_SeP sz_2_SeP rfl rfl (by omega) (by omega) (by first | rfl | omega) ?_ | refine op_indexRd RO rfl el_29_SeP sz_2_SeP rfl rfl (by omega) (by omega) (by first | rfl | omega) ?_ | refine op_indexAddr rfl el_29_SeP sz_2_SeP rfl rfl (by omega) (by omega) ?_
        first | refine op_ldb rfl ag_2_SeP rfl H (by first | exact at0 | exact at1 | exact at2 | exact at3 | exact at4 | exact at5 | exact at6 | exact at7 | exact at8 | exact at9) rfl ?_ | refine op_ld rfl ag_2_SeP rfl ((by rw [cell_bl hs]; rfl)) ?_ | refine op_ld rfl ag_2_SeP rfl ((RD.fld hgd rfl (j := 0) rfl)) ?_ | refine op_ld rfl ag_2_SeP rfl ((RO.fld hgo rfl (j := 0) rfl)) ?_
        refine op_lss rfl rfl rfl ?_
        refine op_move rfl (.bool _) rfl ?_
        refine Wops_split 23 rfl ?_ ?_
        · intro h1
          replace h1 := dec_t h1
          refine op_move rfl (.int _ _) rfl ?_
          refine op_geq rfl rfl rfl ?_
          refine op_pick1 rfl rfl (.bool _) rfl ?_
          refine op_move rfl (.bool _) rfl ?_
          refine Wops_split 27 rfl ?_ ?_
          · intro h2
            replace h2 := dec_t h2
            refine op_move rfl (.int _ _) rfl ?_
            refine op_lss rfl rfl rfl ?_
            refine op_move rfl (.bool _) rfl ?_
            refine Wops_split 30 rfl ?_ ?_
            · intro h3
              replace h3 := dec_t h3
              refine op_skip rfl ?_
              refine op_skip rfl ?_
              refine op_skip rfl ?_
              refine op_skip rfl ?_
              refine op_skip rfl ?_
              refine op_skip rfl ?_
              refine op_pick1 rfl rfl (.bool _) rfl ?_
              refine op_pick1 rfl rfl (.bool _) rfl ?_
              refine op_nil ?_
              exact ⟨rfl, (), rfl, ⟨congrArg Value.bool (by clear hgd hgo; rw [Bool.eq_iff_iff]; simp_all; try omega), trivial⟩, rfl⟩
            · intro h4
              replace h4 := dec_f h4
              refine op_move rfl (.int _ _) rfl ?_
              refine op_move rfl (.slice _ _ _) rfl ?_
              refine op_move rfl (.int _ _) rfl ?_
              obtain ⟨x, hx, rfl, hgx⟩ := hdx (by omega)
              refine op_indexRd RD rfl el_29_SeP sz_2_SeP rfl rfl (by omega) (by omega) (by first | rfl | omega) ?_
              refine op_ld rfl ag_2_SeP rfl (RD.fld hgx rfl (j := 0) rfl) ?_
              refine op_lss rfl rfl rfl ?_
              refine op_pick0 rfl rfl (.bool _) rfl ?_
              refine op_pick1 rfl rfl (.bool _) rfl ?_
              refine op_nil ?_
              exact ⟨rfl, (), rfl, ⟨congrArg Value.bool (by clear hgd hgo; rw [Bool.eq_iff_iff]; simp_all; try omega), trivial⟩, rfl⟩
          · intro h5
            replace h5 := dec_f h5
            refine op_skip rfl ?_
            refine op_skip rfl ?_
            refine op_skip rfl ?_
            refine op_skip rfl ?_
            refine op_skip rfl ?_
            refine op_skip rfl ?_
            refine op_skip rfl ?_
            refine op_skip rfl ?_
            refine op_skip rfl ?_
            refine op_skip rfl ?_
            refine op_pick0 rfl rfl (.bool _) rfl ?_
            refine op_nil ?_
            exact ⟨rfl, (), rfl, ⟨congrArg Value.bool (by clear hgd hgo; rw [Bool.eq_iff_iff]; simp_all; try omega), trivial⟩, rfl⟩
        · intro h6
          replace h6 := dec_f h6
          refine op_skip rfl ?_
          refine op_skip rfl ?_
          refine op_pick0 rfl rfl (.bool _) rfl ?_
          refine op_move rfl (.bool _) rfl ?_
          refine op_skip rfl ?_
          refine op_skip rfl ?_
          refine op_skip rfl ?_
          refine op_skip rfl ?_
          refine op_skip rfl ?_
          refine op_skip rfl ?_
          refine op_skip rfl ?_
          refine op_skip rfl ?_
          refine op_skip rfl ?_
          refine op_skip rfl ?_
          refine op_pick0 rfl rfl (.bool _) rfl ?_
          refine op_nil ?_
          exact ⟨rfl, (), rfl, ⟨congrArg Value.bool (by clear hgd hgo; rw [Bool.eq_iff_iff]; simp_all; try omega), trivial⟩, rfl⟩
      rintro - j38 w hw
      subst hw
      refine W_cond _ rfl ?_ ?_
      · intro h2
        have h2 := of_decide_eq_true h2
        refine W_region ?_
        refine op_move rfl (.int _ _) rfl ?_
        refine op_assign rfl (.int _ _) rfl ?_
        refine op_nil (at_block (at_then ?_))
        refine W_region ?_
        refine op_add_i64 rfl rfl rfl (by omega) (by omega) ?_
        refine op_move rfl (.int _ _) rfl ?_
        refine op_nil (at_then ?_)
        exact ⟨(i + 1, (i : Int)), rfl, ⟨rfl, rfl, trivial⟩, ⟨rfl, by dsimp only; omega, .inr ⟨i, by omega, rfl, h2.1⟩⟩, by dsimp only; omega⟩
      · intro h2
        have h2 := of_decide_eq_false h2
        refine W_skip (at_block (at_then ?_))
        refine W_region ?_
        refine op_add_i64 rfl rfl rfl (by omega) (by omega) ?_
        refine op_move rfl (.int _ _) rfl ?_
        refine op_nil (at_then ?_)
        refine ⟨(i + 1, to), rfl, ⟨rfl, rfl, trivial⟩, ⟨rfl, by dsimp only; omega, ?_⟩, by dsimp only; omega⟩
        rcases hto with ⟨h, h7⟩ | h
        · refine .inl ⟨h, fun u hu hh => ?_⟩
          dsimp only at hu
          by_cases e : u = i
          · subst e; exact h2 ⟨hh, .inl (by omega)⟩
          · exact h7 u (by omega) hh
        · exact .inr h
    · intro h1
      replace h1 := dec_f h1
      refine W_exit (exit_then (exit_then (exit_here (at_then ?_))))
      refine W_rseq ?_
      refine op_move rfl (.int _ _) rfl ?_
      refine op_assign rfl (.int _ _) rfl ?_
      refine op_nil (at_then ?_)
      refine W_ret (leave1 (v := (.int _ _)) rfl rfl rfl ?_)
      obtain rfl : i = N := by omega
      exact ⟨⟨to, rfl, hto⟩, rfl⟩

def raisF (d : Nat → Int) (D : Int) (v : Nat) : Int := if d v < 0 ∨ D < d v then D else d v
def raisP (p d : Nat → Int) (D : Int) (i v : Nat) : Int := if v < i then p v + raisF d D v else p v

set_option maxRecDepth 20000 in
theorem raise_ok {od : Nat} {d p : Nat → Int} {D : Int} (hs : w.heap[bs]? = some (Bl 170 (SC N ae n ce bf bp bo k))) (hp : w.heap[bp]? = some (Bl 2 (tabV p N))) (hd : w.heap[od]? = some (Bl 2 (tabV d N))) (n1 : bs ≠ bp) (n2 : od ≠ bp) (hN : N ≤ 1000000)
    (hD : 0 ≤ D ∧ D ≤ 1152921504606846976) (hpb : ∀ v, -1152921504606846976 ≤ p v ∧ p v ≤ 1152921504606846976) :
    Ret Tryz.prog 171 #[ptr bs, .slice (some ⟨od, 0, none⟩) N N, .int .i64 D] w fun v w' => v = .tuple #[] ∧ Ctx w [bp] w' [(bp, Bl 2 (tabV (fun v => p v + raisF d D v) N))] := by
  obtain ⟨w0, rfl⟩ : ∃ w0, w0 = w := ⟨_, rfl⟩
  have H := Ctx.start1 hp
  have n1' : bs ∉ [bp] := by rw [List.mem_singleton]; exact n1
  have n2' : od ∉ [bp] := by rw [List.mem_singleton]; exact n2
  have RD := tab_rd hd
  refine ret_of_W (fn := Tryz.f171) Tryz.func171 rfl [.pointer (some ⟨bs, 0, none⟩), .slice (some ⟨od, 0, none⟩) N N, .int .i64 D] rfl (by kernel_rfl) ?_
  refine W_rseq ?_
  refine op_move rfl (.slice _ _ _) rfl ?_
  refine op_len rfl el_29_SeP rfl ?_
  refine op_move rfl (.int _ _) rfl ?_
  refine op_nil (at_then ?_)
  refine W_block ?_
  have h0 : tabV p N = tabV (raisP p d D 0) N := List.map_congr_left fun v _ => by unfold raisP; rw [if_neg (Nat.not_lt_zero _)]
  rw [h0] at H
  refine W_loop 17179868352 (α := Nat) (fun i => [(10, .int .i64 (i : Int))]) (fun i w' => i ≤ N ∧ Ctx w0 [bp] w' [(bp, Bl 2 (tabV (raisP p d D i) N))]) (fun i => N - i) 0 rfl ?_ ?_ ?_
  · exact ⟨rfl, trivial⟩
  · exact ⟨Nat.zero_le _, H⟩
  · rintro i j w ⟨hi, H⟩
    refine W_rseq ?_
    refine op_lss rfl rfl rfl ?_
    refine op_nil (at_then ?_)
    refine W_seq ?_
    refine W_cond _ rfl ?_ ?_
    · intro h1
      replace h1 := dec_t h1
      have hgd : (tab d N)[i]? = some (d i) := tab_get (by omega)
      have hgp : (tab (raisP p d D i) N)[i]? = some (p i) := by rw [tab_get (by omega)]; unfold raisP; rw [if_neg (Nat.lt_irrefl _)]
      have hbi := hpb i
      have hsucc : ∀ r, r = raisF d D i → Value.int .i64 (p i + r) = Value.int .i64 (raisP p d D (i + 1) i) := fun r hr => by unfold raisP; rw [if_pos (by omega), hr]
      have hoth : ∀ q, q ≠ i → Value.int .i64 (raisP p d D (i + 1) q) = Value.int .i64 (raisP p d D i q) := fun q hq => by
        unfold raisP
        by_cases h : q < i
        · rw [if_pos h, if_pos (by omega)]
        · rw [if_neg h, if_neg (by omega)]
      refine W_skip (at_then ?_)
      refine W_seq ?_
      refine W_block ?_
      refine W_rseq ?_
      refine op_move rfl (.int _ _) rfl ?_
      first | refine op_indexRd RD rfl el_29_SeP sz_2_SeP rfl rfl (by omega) (by omega) (by first | rfl | omega) ?_ | refine op_indexRd (tab_rd (H.get at0)) rfl el_29_SeP sz_2_SeP rfl rfl (by omega) (by omega) (by first | rfl | omega) ?_ | refine op_indexAddr rfl el_29_SeP sz_2_SeP rfl rfl (by omega) (by omega) ?_
      first | refine op_ldb rfl ag_2_SeP rfl H (by first | exact at0 | exact at1 | exact at2 | exact at3 | exact at4 | exact at5 | exact at6 | exact at7 | exact at8 | exact at9) rfl ?_ | refine op_ld rfl ag_2_SeP rfl (((RD.ext H.ext n2').fld hgd rfl (j := 0) rfl)) ?_ | refine op_ld rfl ag_2_SeP rfl ((by rw [cell_bl (H.ext.to hs n1')]; rfl)) ?_ | refine op_ld rfl ag_2_SeP rfl (((tab_rd (H.get at0)).fld hgp rfl (j := 0) rfl)) ?_
      refine op_assign rfl (.int _ _) rfl ?_
      refine op_assign rfl (.int _ _) rfl ?_
      refine op_nil (at_then ?_)
      refine W_seq ?_
      refine W_rseq ?_
      refine op_move rfl (.int _ _) rfl ?_
      refine op_lss rfl rfl rfl ?_
      refine op_move rfl (.bool _) rfl ?_
      refine Wops_split 17 rfl ?_ ?_
      · intro h1
        replace h1 := dec_t h1
        refine op_skip rfl ?_
        refine op_skip rfl ?_
        refine op_skip rfl ?_
        refine op_pick1 rfl rfl (.bool _) rfl ?_
        refine op_nil (at_then ?_)
        refine W_cond1 rfl ?_
        refine W_region ?_
        refine op_move rfl (.int _ _) rfl ?_
        refine op_assign rfl (.int _ _) rfl ?_
        refine op_nil (at_then ?_)
        refine W_region ?_
        refine op_move rfl (.pointer _) rfl ?_
        refine op_nilCheck rfl rfl ?_
        refine op_fieldAddr rfl fo_170_2_SeP rfl ?_
        first | refine op_ldb rfl ag_29_SeP rfl H (by first | exact at0 | exact at1 | exact at2 | exact at3 | exact at4 | exact at5 | exact at6 | exact at7 | exact at8 | exact at9) rfl ?_ | refine op_ld rfl ag_29_SeP rfl (((RD.ext H.ext n2').fld hgd rfl (j := 0) rfl)) ?_ | refine op_ld rfl ag_29_SeP rfl ((by rw [cell_bl (H.ext.to hs n1')]; rfl)) ?_ | refine op_ld rfl ag_29_SeP rfl (((tab_rd (H.get at0)).fld hgp rfl (j := 0) rfl)) ?_
        refine op_move rfl (.int _ _) rfl ?_
        first | refine op_indexRd RD rfl el_29_SeP sz_2_SeP rfl rfl (by omega) (by omega) (by first | rfl | omega) ?_ | refine op_indexRd (tab_rd (H.get at0)) rfl el_29_SeP sz_2_SeP rfl rfl (by omega) (by omega) (by first | rfl | omega) ?_ | refine op_indexAddr rfl el_29_SeP sz_2_SeP rfl rfl (by omega) (by omega) ?_
        first | refine op_ldb rfl ag_2_SeP rfl H (by first | exact at0 | exact at1 | exact at2 | exact at3 | exact at4 | exact at5 | exact at6 | exact at7 | exact at8 | exact at9) rfl ?_ | refine op_ld rfl ag_2_SeP rfl (((RD.ext H.ext n2').fld hgd rfl (j := 0) rfl)) ?_ | refine op_ld rfl ag_2_SeP rfl ((by rw [cell_bl (H.ext.to hs n1')]; rfl)) ?_ | refine op_ld rfl ag_2_SeP rfl (((tab_rd (H.get at0)).fld hgp rfl (j := 0) rfl)) ?_
        refine op_move rfl (.int _ _) rfl ?_
        refine op_add_i64 rfl rfl rfl (by omega) (by omega) ?_
        first | refine op_indexRd RD rfl el_29_SeP sz_2_SeP rfl rfl (by omega) (by omega) (by first | rfl | omega) ?_ | refine op_indexRd (tab_rd (H.get at0)) rfl el_29_SeP sz_2_SeP rfl rfl (by omega) (by omega) (by first | rfl | omega) ?_ | refine op_indexAddr rfl el_29_SeP sz_2_SeP rfl rfl (by omega) (by omega) ?_
        refine op_str i (fun q => .int .i64 (raisP p d D (i + 1) q)) (.int _ _) rfl sz_2_SeP rfl rfl rfl H at0 (by simp) (by omega) (hsucc _ (by unfold raisF; first | (rw [if_pos (by omega)]; done) | (rw [if_neg (by omega)]; done))).symm (fun q _ hq => hoth q hq) ?_
        rintro w H
        refine op_nil (at_block (at_then ?_))
        refine W_region ?_
        refine op_add_i64 rfl rfl rfl (by omega) (by omega) ?_
        refine op_move rfl (.int _ _) rfl ?_
        refine op_nil (at_then ?_)
        exact ⟨i + 1, rfl, ⟨rfl, trivial⟩, ⟨by omega, H⟩, by omega⟩
      · intro h2
        replace h2 := dec_f h2
        refine op_move rfl (.int _ _) rfl ?_
        refine op_move rfl (.int _ _) rfl ?_
        refine op_gtr rfl rfl rfl ?_
        refine op_pick0 rfl rfl (.bool _) rfl ?_
        refine op_nil (at_then ?_)
        refine W_cond _ rfl ?_ ?_
        · intro h3
          replace h3 := dec_t h3
          refine W_region ?_
          refine op_move rfl (.int _ _) rfl ?_
          refine op_assign rfl (.int _ _) rfl ?_
          refine op_nil (at_then ?_)
          refine W_region ?_
          refine op_move rfl (.pointer _) rfl ?_
          refine op_nilCheck rfl rfl ?_
          refine op_fieldAddr rfl fo_170_2_SeP rfl ?_
          first | refine op_ldb rfl ag_29_SeP rfl H (by first | exact at0 | exact at1 | exact at2 | exact at3 | exact at4 | exact at5 | exact at6 | exact at7 | exact at8 | exact at9) rfl ?_ | refine op_ld rfl ag_29_SeP rfl (((RD.ext H.ext n2').fld hgd rfl (j := 0) rfl)) ?_ | refine op_ld rfl ag_29_SeP rfl ((by rw [cell_bl (H.ext.to hs n1')]; rfl)) ?_ | refine op_ld rfl ag_29_SeP rfl (((tab_rd (H.get at0)).fld hgp rfl (j := 0) rfl)) ?_
          refine op_move rfl (.int _ _) rfl ?_
          first | refine op_indexRd RD rfl el_29_SeP sz_2_SeP rfl rfl (by omega) (by omega) (by first | rfl | omega) ?_ | refine op_indexRd (tab_rd (H.get at0)) rfl el_29_SeP sz_2_SeP rfl rfl (by omega) (by omega) (by first | rfl | omega) ?_ | refine op_indexAddr rfl el_29_SeP sz_2_SeP rfl rfl (by omega) (by omega) ?_
          first | refine op_ldb rfl ag_2_SeP rfl H (by first | exact at0 | exact at1 | exact at2 | exact at3 | exact at4 | exact at5 | exact at6 | exact at7 | exact at8 | exact at9) rfl ?_ | refine op_ld rfl ag_2_SeP rfl (((RD.ext H.ext n2').fld hgd rfl (j := 0) rfl)) ?_ | refine op_ld rfl ag_2_SeP rfl ((by rw [cell_bl (H.ext.to hs n1')]; rfl)) ?_ | refine op_ld rfl ag_2_SeP rfl (((tab_rd (H.get at0)).fld hgp rfl (j := 0) rfl)) ?_
          refine op_move rfl (.int _ _) rfl ?_
          refine op_add_i64 rfl rfl rfl (by omega) (by omega) ?_
          first | refine op_indexRd RD rfl el_29_SeP sz_2_SeP rfl rfl (by omega) (by omega) (by first | rfl | omega) ?_ | refine op_indexRd (tab_rd (H.get at0)) rfl el_29_SeP sz_2_SeP rfl rfl (by omega) (by omega) (by first | rfl | omega) ?_ | refine op_indexAddr rfl el_29_SeP sz_2_SeP rfl rfl (by omega) (by omega) ?_
          refine op_str i (fun q => .int .i64 (raisP p d D (i + 1) q)) (.int _ _) rfl sz_2_SeP rfl rfl rfl H at0 (by simp) (by omega) (hsucc _ (by unfold raisF; first | (rw [if_pos (by omega)]; done) | (rw [if_neg (by omega)]; done))).symm (fun q _ hq => hoth q hq) ?_
          rintro w H
          refine op_nil (at_block (at_then ?_))
          refine W_region ?_
          refine op_add_i64 rfl rfl rfl (by omega) (by omega) ?_
          refine op_move rfl (.int _ _) rfl ?_
          refine op_nil (at_then ?_)
          exact ⟨i + 1, rfl, ⟨rfl, trivial⟩, ⟨by omega, H⟩, by omega⟩
        · intro h4
          replace h4 := dec_f h4
          refine W_skip (at_then ?_)
          refine W_region ?_
          refine op_move rfl (.pointer _) rfl ?_
          refine op_nilCheck rfl rfl ?_
          refine op_fieldAddr rfl fo_170_2_SeP rfl ?_
          first | refine op_ldb rfl ag_29_SeP rfl H (by first | exact at0 | exact at1 | exact at2 | exact at3 | exact at4 | exact at5 | exact at6 | exact at7 | exact at8 | exact at9) rfl ?_ | refine op_ld rfl ag_29_SeP rfl (((RD.ext H.ext n2').fld hgd rfl (j := 0) rfl)) ?_ | refine op_ld rfl ag_29_SeP rfl ((by rw [cell_bl (H.ext.to hs n1')]; rfl)) ?_ | refine op_ld rfl ag_29_SeP rfl (((tab_rd (H.get at0)).fld hgp rfl (j := 0) rfl)) ?_
          refine op_move rfl (.int _ _) rfl ?_
          first | refine op_indexRd RD rfl el_29_SeP sz_2_SeP rfl rfl (by omega) (by omega) (by first | rfl | omega) ?_ | refine op_indexRd (tab_rd (H.get at0)) rfl el_29_SeP sz_2_SeP rfl rfl (by omega) (by omega) (by first | rfl | omega) ?_ | refine op_indexAddr rfl el_29_SeP sz_2_SeP rfl rfl (by omega) (by omega) ?_
          first | refine op_ldb rfl ag_2_SeP rfl H (by first | exact at0 | exact at1 | exact at2 | exact at3 | exact at4 | exact at5 | exact at6 | exact at7 | exact at8 | exact at9) rfl ?_ | refine op_ld rfl ag_2_SeP rfl (((RD.ext H.ext n2').fld hgd rfl (j := 0) rfl)) ?_ | refine op_ld rfl ag_2_SeP rfl ((by rw [cell_bl (H.ext.to hs n1')]; rfl)) ?_ | refine op_ld rfl ag_2_SeP rfl (((tab_rd (H.get at0)).fld hgp rfl (j := 0) rfl)) ?_
          refine op_move rfl (.int _ _) rfl ?_
          refine op_add_i64 rfl rfl rfl (by omega) (by omega) ?_
          first | refine op_indexRd RD rfl el_29_SeP sz_2_SeP rfl rfl (by omega) (by omega) (by first | rfl | omega) ?_ | refine op_indexRd (tab_rd (H.get at0)) rfl el_29_SeP sz_2_SeP rfl rfl (by omega) (by omega) (by first | rfl | omega) ?_ | refine op_indexAddr rfl el_29_SeP sz_2_SeP rfl rfl (by omega) (by omega) ?_
          refine op_str i (fun q => .int .i64 (raisP p d D (i + 1) q)) (.int _ _) rfl sz_2_SeP rfl rfl rfl H at0 (by simp) (by omega) (hsucc _ (by unfold raisF; first | (rw [if_pos (by omega)]; done) | (rw [if_neg (by omega)]; done))).symm (fun q _ hq => hoth q hq) ?_
          rintro w H
          refine op_nil (at_block (at_then ?_))
          refine W_region ?_
          refine op_add_i64 rfl rfl rfl (by omega) (by omega) ?_
          refine op_move rfl (.int _ _) rfl ?_
          refine op_nil (at_then ?_)
          exact ⟨i + 1, rfl, ⟨rfl, trivial⟩, ⟨by omega, H⟩, by omega⟩
    · intro h1
      replace h1 := dec_f h1
      refine W_exit (exit_then (exit_then (exit_here (leave0n rfl rfl ?_))))
      obtain rfl : i = N := by omega
      have h9 : tabV (raisP p d D i) i = tabV (fun v => p v + raisF d D v) i := List.map_congr_left fun v hv => by unfold raisP; rw [if_pos (List.mem_range.1 hv)]
      rw [h9] at H
      exact ⟨rfl, H⟩
end

end Go.Proofs.YtapphbmlkdhnmaaGreat

/- The solver: numbers made anew: the walks. -/
namespace Go.Proofs.YtapphbmlkdhnmaaGreat
open Go.GV
theorem ag_28_SeQ : aggB Tryz.prog 28 = some true := by kernel_rfl
theorem ag_29_SeQ : aggB Tryz.prog 29 = some false := by kernel_rfl
theorem ag_2_SeQ : aggB Tryz.prog 2 = some false := by kernel_rfl
theorem ag_3_SeQ : aggB Tryz.prog 3 = some false := by kernel_rfl
theorem ca_170_SeQ : callable Tryz.prog 170 = true := by kernel_rfl
theorem ca_180_SeQ : callable Tryz.prog 180 = true := by kernel_rfl
theorem el_29_SeQ : elemT Tryz.prog 29 = some 2 := by kernel_rfl
theorem fo_170_0_SeQ : fieldO Tryz.prog 170 0 = some 0 := by kernel_rfl
theorem fo_170_1_SeQ : fieldO Tryz.prog 170 1 = some 2 := by kernel_rfl
theorem fo_170_2_SeQ : fieldO Tryz.prog 170 2 = some 3 := by kernel_rfl
theorem fo_28_0_SeQ : fieldO Tryz.prog 28 0 = some 0 := by kernel_rfl
theorem mixed_SeQ : Tryz.prog.follows .mixedOrders = true := by kernel_rfl
theorem sz_28_SeQ : tsize Tryz.prog 28 = some 2 := by kernel_rfl
theorem sz_2_SeQ : tsize Tryz.prog 2 = some 1 := by kernel_rfl
theorem zc_2_SeQ : zcells Tryz.prog 2 = some ([.int .i64 0]) := by kernel_rfl
attribute [local irreducible] Wops W Wq Wt

/-- The first arcs with room, at their costs. -/
def arcC (g : Gr) (cap x : Nat → Int) (k : Nat) : List Ar := ((List.range k).filter fun a => decide (0 < roomA cap x a)).map fun a => (g.u a, g.v a, g.c a)
theorem arcC_succ (g : Gr) (cap x : Nat → Int) (k : Nat) : arcC g cap x (k + 1) = arcC g cap x k ++ if 0 < roomA cap x k then [(g.u k, g.v k, g.c k)] else [] := by
  unfold arcC
  rw [List.range_succ, List.filter_append, List.map_append]
  congr 1
  by_cases h : 0 < roomA cap x k <;> simp [h]
theorem arcC_sub {g : Gr} {cap x : Nat → Int} {k m : Nat} (h : k ≤ m) : ∀ a ∈ arcC g cap x k, a ∈ arcC g cap x m := fun a ha => by
  obtain ⟨b, hb, rfl⟩ := List.mem_map.1 ha
  obtain ⟨h1, h2⟩ := List.mem_filter.1 hb
  exact List.mem_map.2 ⟨b, List.mem_filter.2 ⟨List.mem_range.2 (by have := List.mem_range.1 h1; omega), h2⟩, rfl⟩
theorem net_cells {w : World} {bs : Nat} {t : TypeId} {N : Nat} {ae : Option Addr} {n ce bf bp bo : Nat} {k : Int} (h : w.heap[bs]? = some (Bl t (SC N ae n ce bf bp bo k))) : ∀ j v, [Value.int .i64 (N : Int), .slice ae n ce][j]? = some v → w.cell? ⟨bs, 0 + j, none⟩ = some v := fun j v hv => by
  rw [cell_bl h, Nat.zero_add]
  match j, hv with
  | 0, hv => exact hv
  | 1, hv => exact hv
theorem flE_tab {x : Nat → Int} {n i : Nat} (h : i < n) : flE (tab x n) i = x i := by
  unfold flE; exact getD_of (tab_get h)
/-- An arc of a net, whole. -/
theorem arc_at {N : Nat} {es : List Ed} {x : Nat → Int} (hw : withinN (N : Int) es (tab x es.length) = true) {k : Nat} (hk : k < 2 * es.length) :
    endsI (N : Int) es (k : Int) = (((grE (N : Int) es).u k : Int), ((grE (N : Int) es).v k : Int), (grE (N : Int) es).c k) ∧ roomI (N : Int) es (tab x es.length) (k : Int) = roomA (capE es) x k ∧ (grE (N : Int) es).u k < N ∧ (grE (N : Int) es).v k < N ∧ -1000 ≤ (grE (N : Int) es).c k ∧ (grE (N : Int) es).c k ≤ 1000 ∧ 0 ≤ roomA (capE es) x k ∧ roomA (capE es) x k ≤ 4503599627370496 := by
  obtain ⟨hl, hr, hin⟩ := within_of hw
  obtain ⟨e, he, hE, q1, q2, q3, q4, q5, q6⟩ := ends_in hr hk
  obtain ⟨e', xx, he', hx, hro, r1, r2, r3⟩ := room_in hw hk
  obtain rfl : e' = e := Option.some.inj (he'.symm.trans he)
  obtain ⟨hxk, rfl⟩ := tab_at hx
  have hce : capE es (k / 2) = e'.cap := by unfold capE; rw [getD_of he]
  have hge : (grE (N : Int) es).f (k / 2) = e'.f.toNat ∧ (grE (N : Int) es).t (k / 2) = e'.t.toNat ∧ (grE (N : Int) es).co (k / 2) = e'.cost := by
    refine ⟨?_, ?_, ?_⟩ <;> (show _ = _; unfold grE; dsimp only; rw [getD_of he])
  rw [hE, hro]
  unfold Gr.u Gr.v Gr.c roomA roomE
  rw [hge.1, hge.2.1, hge.2.2, hce]
  unfold arcE at q1 q2 q3 q4 q5 q6 ⊢
  by_cases hp : k % 2 = 1
  · have hp2 : ¬ k % 2 = 0 := by omega
    simp only [if_pos hp] at q1 q2 q3 q4 q5 q6 ⊢
    simp only [if_neg hp2]
    exact ⟨by rw [Int.toNat_of_nonneg q1, Int.toNat_of_nonneg q3], trivial, by omega, by omega, q5, q6, r1, by omega⟩
  · have hp2 : k % 2 = 0 := by omega
    simp only [if_neg hp] at q1 q2 q3 q4 q5 q6 ⊢
    simp only [if_pos hp2]
    exact ⟨by rw [Int.toNat_of_nonneg q1, Int.toNat_of_nonneg q3], trivial, by omega, by omega, q5, q6, by omega, by omega⟩

section
variable {w : World} {bs : Nat} {N : Nat} {ae : Option Addr} {ce bf bp bo : Nat} {k : Int} {es : List Ed} {x p : Nat → Int}

set_option maxRecDepth 20000 in
set_option maxHeartbeats 4000000 in
theorem anew_ok (hs : w.heap[bs]? = some (Bl 170 (SC N ae es.length ce bf bp bo k))) (Re : Rd w ae 4 encE es) (hen : es ≠ [] → (adr ae).block ≠ bp) (hf : w.heap[bf]? = some (Bl 2 (tabV x es.length))) (hp : w.heap[bp]? = some (Bl 2 (tabV p N))) (n1 : bs ≠ bp) (n2 : bf ≠ bp)
    (hw : withinN (N : Int) es (tab x es.length) = true) {p0 : Nat → Int} (hF : Fine (grE (N : Int) es) (capE es) x p0) :
    Ret Tryz.prog 199 #[ptr bs] w fun v w' => v = .tuple #[] ∧ Ctx w [bp] w' [(bp, Bl 2 (tabV (rounds (arcC (grE (N : Int) es) (capE es) x (2 * es.length)) N fun _ => 0) N))] := by
  obtain ⟨w0, rfl⟩ : ∃ w0, w0 = w := ⟨_, rfl⟩
  have H := Ctx.start1 hp
  have n1' : bs ∉ [bp] := by rw [List.mem_singleton]; exact n1
  have n2' : bf ∉ [bp] := by rw [List.mem_singleton]; exact n2
  obtain ⟨hwl, hr, -⟩ := within_of hw
  obtain ⟨hN1, hN40, hn200, -⟩ := right_of hr
  have hI : I64 (N : Int) := by unfold I64; omega
  obtain ⟨g, hg⟩ : ∃ g, g = grE (N : Int) es := ⟨_, rfl⟩
  obtain ⟨cap, hcap⟩ : ∃ cap, cap = capE es := ⟨_, rfl⟩
  have hat : ∀ {a : Nat}, a < 2 * es.length → endsI (N : Int) es (a : Int) = ((g.u a : Int), (g.v a : Int), g.c a) ∧ roomI (N : Int) es (tab x es.length) (a : Int) = roomA cap x a ∧ g.u a < N ∧ g.v a < N ∧ -1000 ≤ g.c a ∧ g.c a ≤ 1000 ∧ 0 ≤ roomA cap x a ∧ roomA cap x a ≤ 4503599627370496 := fun ha => by
    rw [hg, hcap]; exact arc_at hw ha
  rw [← hg, ← hcap] at hF ⊢
  obtain ⟨A, hA⟩ : ∃ A, A = arcC g cap x (2 * es.length) := ⟨_, rfl⟩
  have hgE : g.E = es.length := by rw [hg]; rfl
  have hAm : ∀ b ∈ A, b.1 < N ∧ b.2.1 < N ∧ -1000 ≤ b.2.2 := fun b hb => by
    rw [hA] at hb
    obtain ⟨a, ha, rfl⟩ := List.mem_map.1 hb
    obtain ⟨-, -, h1, h2, h3, -⟩ := hat (List.mem_range.1 (List.mem_filter.1 ha).1)
    exact ⟨h1, h2, h3⟩
  have hfea : Fea A p0 := by rw [hA, ← hgE]; exact fine_fea hF
  have hfe2 := DD_fea hfea fun a ha => ⟨(hAm a ha).1, (hAm a ha).2.1⟩
  have hfb := DD_ge (A := A) (m := 1000) (by omega) (fun a ha => (hAm a ha).2.2) N
  have hbnd : ∀ r k v, -40000 ≤ (arcC g cap x k).foldl rel1 (rounds A r fun _ => 0) v ∨ 2 * es.length < k := fun r k v => by
    rcases Nat.lt_or_ge (2 * es.length) k with h | h
    · exact .inr h
    · refine .inl ?_
      have h1 := rels_ge (A := arcC g cap x k) (p := rounds A r fun _ => 0) (f := DD A N) (fun a ha => hfe2 a (by rw [hA]; exact arcC_sub h a ha)) (fun v => rounds_ge hfe2 (fun v => by have := DD_mono A v (Nat.zero_le N); exact this) r v) v
      have h2 := hfb v
      have h3 : (N : Int) * 1000 ≤ 40000 := by omega
      omega
  have hbnd2 : ∀ r k v, (arcC g cap x k).foldl rel1 (rounds A r fun _ => 0) v ≤ 0 := fun r k v => by
    refine Int.le_trans (rels_le _ _ v) ?_
    induction r with
    | zero => exact Int.le_refl _
    | succ r ih => exact Int.le_trans (rels_le _ _ v) ih
  rw [← hA]
  refine ret_of_W (fn := Tryz.f199) Tryz.func199 rfl [.pointer (some ⟨bs, 0, none⟩)] rfl (by kernel_rfl) ?_
  refine W_rseq ?_
  refine op_move rfl (.pointer _) rfl ?_
  refine op_nilCheck rfl rfl ?_
  refine op_fieldAddr rfl fo_170_2_SeQ rfl ?_
  first | refine op_ldb rfl ag_29_SeQ rfl H (by first | exact at0 | exact at1 | exact at2 | exact at3 | exact at4 | exact at5 | exact at6 | exact at7 | exact at8 | exact at9) rfl ?_ | refine op_ld rfl ag_29_SeQ rfl ((by rw [cell_bl hs]; rfl)) ?_
  refine op_clearS rfl el_29_SeQ zc_2_SeQ rfl (by simp [oneCell]) rfl H at0 (by simp) ?_
  rintro w H
  refine op_nil (at_then ?_)
  have hz : over (tabV p N) 0 (List.replicate N [Value.int .i64 0]).flatten = tabV (rounds A 0 fun _ => 0) N := by
    rw [_root_.Go.GV.over_all (by simp)]
    show _ = (List.range N).map fun _ => Value.int .i64 0
    rw [← rep_range]
    simp
  rw [hz] at H
  refine W_rseq ?_
  refine op_move rfl (.pointer _) rfl ?_
  refine op_nilCheck rfl rfl ?_
  refine op_fieldAddr rfl fo_170_0_SeQ rfl ?_
  refine op_fieldAddr rfl fo_28_0_SeQ rfl ?_
  first | refine op_ldb rfl ag_3_SeQ rfl H (by first | exact at0 | exact at1 | exact at2 | exact at3 | exact at4 | exact at5 | exact at6 | exact at7 | exact at8 | exact at9) rfl ?_ | refine op_ld rfl ag_3_SeQ rfl ((by rw [cell_bl (H.ext.to hs n1')]; rfl)) ?_
  refine op_move rfl (.int _ _) rfl ?_
  refine op_nil (at_then ?_)
  refine W_block ?_
  refine W_loop 151115727451828646772860 (α := Nat) (fun r => [(16, .int .i64 (r : Int))]) (fun r w' => r ≤ N ∧ Ctx w0 [bp] w' [(bp, Bl 2 (tabV (rounds A r fun _ => 0) N))]) (fun r => N - r) 0 rfl ?_ ?_ ?_
  · exact ⟨rfl, trivial⟩
  · exact ⟨Nat.zero_le _, H⟩
  · rintro r j w ⟨hr2, H⟩
    refine W_rseq ?_
    refine op_lss rfl rfl rfl ?_
    refine op_nil (at_then ?_)
    refine W_seq ?_
    refine W_cond _ rfl ?_ ?_
    · intro h1
      replace h1 := dec_t h1
      refine W_skip (at_then ?_)
      refine W_seq ?_
      refine W_block ?_
      refine W_rseq ?_
      refine op_move rfl (.pointer _) rfl ?_
      refine op_nilCheck rfl rfl ?_
      refine op_fieldAddr rfl fo_170_1_SeQ rfl ?_
      first | refine op_ldb rfl ag_29_SeQ rfl H (by first | exact at0 | exact at1 | exact at2 | exact at3 | exact at4 | exact at5 | exact at6 | exact at7 | exact at8 | exact at9) rfl ?_ | refine op_ld rfl ag_29_SeQ rfl ((by rw [cell_bl (H.ext.to hs n1')]; rfl)) ?_
      refine op_len rfl el_29_SeQ rfl ?_
      refine op_mul_i64 rfl rfl rfl (by omega) (by omega) ?_
      refine op_move rfl (.int _ _) rfl ?_
      refine op_nil (at_then ?_)
      refine W_block ?_
      refine W_loop 75557863725914306642044 (α := Nat) (fun a => [(24, .int .i64 (a : Int))]) (fun a w' => a ≤ 2 * es.length ∧ Ctx w0 [bp] w' [(bp, Bl 2 (tabV ((arcC g cap x a).foldl rel1 (rounds A r fun _ => 0)) N))]) (fun a => 2 * es.length - a) 0 rfl ?_ ?_ ?_
      · exact ⟨rfl, trivial⟩
      · exact ⟨Nat.zero_le _, H⟩
      · rintro a j2 w ⟨ha2, H⟩
        refine W_rseq ?_
        refine op_lss rfl rfl rfl ?_
        refine op_nil (at_then ?_)
        refine W_seq ?_
        refine W_cond _ rfl ?_ ?_
        · intro h2
          replace h2 := dec_t h2
          have ha : a < 2 * es.length := by omega
          obtain ⟨hE, hR, q1, q2, q3, q4, q5, q6⟩ := hat ha
          obtain ⟨un, hun⟩ : ∃ un, un = g.u a := ⟨_, rfl⟩
          obtain ⟨vn, hvn⟩ : ∃ vn, vn = g.v a := ⟨_, rfl⟩
          obtain ⟨co, hco⟩ : ∃ co, co = g.c a := ⟨_, rfl⟩
          obtain ⟨q, hq⟩ : ∃ q, q = (arcC g cap x a).foldl rel1 (rounds A r fun _ => 0) := ⟨_, rfl⟩
          have hb1 : ∀ v, -40000 ≤ q v ∧ q v ≤ 0 := fun v => by rw [hq]; exact ⟨(hbnd r a v).resolve_right (by omega), hbnd2 r a v⟩
          have hsucc : (arcC g cap x (a + 1)).foldl rel1 (rounds A r fun _ => 0) = if 0 < roomA cap x a then rel1 q (un, vn, co) else q := by
            rw [arcC_succ, List.foldl_append, ← hq]
            split
            · rw [hun, hvn, hco]; rfl
            · rfl
          rw [← hq] at H
          rw [← hun, ← hvn, ← hco] at hE
          have hE1 : (endsI (N : Int) es (a : Int)).1 = un := by rw [hE]
          have hE2 : (endsI (N : Int) es (a : Int)).2.1 = vn := by rw [hE]
          have hE3 : (endsI (N : Int) es (a : Int)).2.2 = co := by rw [hE]
          rw [← hun] at q1
          rw [← hvn] at q2
          rw [← hco] at q3 q4
          have b1 := hb1 un
          have b2 := hb1 vn
          have hgu : (tab q N)[un]? = some (q un) := tab_get q1
          have hgv : (tab q N)[vn]? = some (q vn) := tab_get q2
          have hne : (es ≠ [] → (adr ae).block ∉ [bp]) := fun h => by rw [List.mem_singleton]; exact hen h
          have hes : es ≠ [] := fun h => by rw [h] at ha; simp at ha
          refine W_skip (at_then ?_)
          refine W_seq ?_
          refine W_block ?_
          refine W_rseq ?_
          refine op_move rfl (.int _ _) rfl ?_
          refine op_assign rfl (.int _ _) rfl ?_
          refine op_nil (at_then ?_)
          refine W_rseq ?_
          refine op_move rfl (.pointer _) rfl ?_
          refine op_nilCheck rfl rfl ?_
          refine op_fieldAddr rfl fo_170_0_SeQ rfl ?_
          first | refine op_ldN _ rfl ag_28_SeQ sz_28_SeQ rfl rfl ((net_cells (H.ext.to hs n1'))) ?_ | refine op_ldbN rfl ag_28_SeQ sz_28_SeQ rfl H (by first | exact at0 | exact at1 | exact at2 | exact at3 | exact at4 | exact at5 | exact at6 | exact at7 | exact at8 | exact at9) rfl ?_
          refine op_move rfl (.int _ _) rfl ?_
          refine op_call rfl ca_180_SeQ (Ends_ok (N : Int) ae es.length ce es _ (Re.ext H.ext (hne hes)) rfl (by omega) hI (a : Int)) rfl ?_
          rintro v w ⟨rfl, hx33⟩
          replace H := H.call hx33
          rw [hE1, hE2, hE3]
          refine op_move rfl (.tuple _) rfl ?_
          refine op_extract rfl rfl rfl ?_
          refine op_extract rfl rfl rfl ?_
          refine op_extract rfl rfl rfl ?_
          refine op_assign rfl (.int _ _) rfl ?_
          refine op_assign rfl (.int _ _) rfl ?_
          refine op_assign rfl (.int _ _) rfl ?_
          refine op_nil (at_then ?_)
          refine W_rseq ?_
          refine op_move rfl (.pointer _) rfl ?_
          refine op_nilCheck rfl rfl ?_
          refine op_fieldAddr rfl fo_170_2_SeQ rfl ?_
          first | refine op_ldb rfl ag_29_SeQ rfl H (by first | exact at0 | exact at1 | exact at2 | exact at3 | exact at4 | exact at5 | exact at6 | exact at7 | exact at8 | exact at9) rfl ?_ | refine op_ld rfl ag_29_SeQ rfl ((by rw [cell_bl (H.ext.to hs n1')]; rfl)) ?_ | refine op_ld rfl ag_29_SeQ rfl (((tab_rd (H.get at0)).fld hgu rfl (j := 0) rfl)) ?_
          refine op_move rfl (.int _ _) rfl ?_
          first | refine op_indexRd (tab_rd (H.get at0)) rfl el_29_SeQ sz_2_SeQ rfl rfl (by omega) (by omega) (by first | rfl | omega) ?_ | refine op_indexAddr rfl el_29_SeQ sz_2_SeQ rfl rfl (by omega) (by omega) ?_
          first | refine op_ldb rfl ag_2_SeQ rfl H (by first | exact at0 | exact at1 | exact at2 | exact at3 | exact at4 | exact at5 | exact at6 | exact at7 | exact at8 | exact at9) rfl ?_ | refine op_ld rfl ag_2_SeQ rfl ((by rw [cell_bl (H.ext.to hs n1')]; rfl)) ?_ | refine op_ld rfl ag_2_SeQ rfl (((tab_rd (H.get at0)).fld hgu rfl (j := 0) rfl)) ?_
          refine op_move rfl (.int _ _) rfl ?_
          refine op_add_i64 rfl rfl rfl (by omega) (by omega) ?_
          refine op_assign rfl (.int _ _) rfl ?_
          refine op_nil (at_then ?_)
          refine W_tseq 19 mixed_SeQ (by kernel_rfl) rfl rfl ?_
          refine q_move rfl (.int _ _) rfl ?_
          refine q_move rfl (.pointer _) rfl ?_
          refine q_nilCheck rfl rfl ?_
          refine q_fieldAddr rfl fo_170_2_SeQ rfl ?_
          first | refine q_ldb rfl ag_29_SeQ rfl (by rintro _ rfl; exact H.drew) (by first | exact at0 | exact at1 | exact at2 | exact at3 | exact at4 | exact at5 | exact at6 | exact at7 | exact at8 | exact at9) rfl ?_ | refine q_ld rfl ag_29_SeQ rfl (by rintro _ rfl; exact ((by rw [cell_bl (H.drew.ext.to hs n1')]; rfl))) ?_ | refine q_ld rfl ag_29_SeQ rfl (by rintro _ rfl; exact (((tab_rd (H.drew.get at0)).fld hgv rfl (j := 0) rfl))) ?_
          refine q_move rfl (.int _ _) rfl ?_
          first | refine q_indexRd (tab_rd (H.get at0)) rfl el_29_SeQ sz_2_SeQ rfl rfl (by omega) (by omega) (by first | rfl | omega) ?_ | refine q_indexAddr rfl el_29_SeQ sz_2_SeQ rfl rfl (by omega) (by omega) ?_
          first | refine q_ldb rfl ag_2_SeQ rfl (by rintro _ rfl; exact H.drew) (by first | exact at0 | exact at1 | exact at2 | exact at3 | exact at4 | exact at5 | exact at6 | exact at7 | exact at8 | exact at9) rfl ?_ | refine q_ld rfl ag_2_SeQ rfl (by rintro _ rfl; exact ((by rw [cell_bl (H.drew.ext.to hs n1')]; rfl))) ?_ | refine q_ld rfl ag_2_SeQ rfl (by rintro _ rfl; exact (((tab_rd (H.drew.get at0)).fld hgv rfl (j := 0) rfl))) ?_
          refine q_lss rfl rfl rfl ?_
          refine q_move rfl (.bool _) rfl ?_
          refine Wq_split 55 rfl ?_ ?_
          · intro h3
            replace h3 := dec_t h3
            refine q_move rfl (.pointer _) rfl ?_
            refine q_nilCheck rfl rfl ?_
            refine q_fieldAddr rfl fo_170_0_SeQ rfl ?_
            first | refine q_ldN _ rfl ag_28_SeQ sz_28_SeQ rfl rfl (by rintro _ rfl; exact ((net_cells (H.drew.ext.to hs n1')))) ?_ | refine q_ldbN rfl ag_28_SeQ sz_28_SeQ rfl (by rintro _ rfl; exact H.drew) (by first | exact at0 | exact at1 | exact at2 | exact at3 | exact at4 | exact at5 | exact at6 | exact at7 | exact at8 | exact at9) rfl ?_
            refine q_move rfl (.pointer _) rfl ?_
            refine q_nilCheck rfl rfl ?_
            refine q_fieldAddr rfl fo_170_1_SeQ rfl ?_
            first | refine q_ldb rfl ag_29_SeQ rfl (by rintro _ rfl; exact H.drew) (by first | exact at0 | exact at1 | exact at2 | exact at3 | exact at4 | exact at5 | exact at6 | exact at7 | exact at8 | exact at9) rfl ?_ | refine q_ld rfl ag_29_SeQ rfl (by rintro _ rfl; exact ((by rw [cell_bl (H.drew.ext.to hs n1')]; rfl))) ?_ | refine q_ld rfl ag_29_SeQ rfl (by rintro _ rfl; exact (((tab_rd (H.drew.get at0)).fld hgv rfl (j := 0) rfl))) ?_
            refine q_move rfl (.int _ _) rfl ?_
            refine q_nil ?_
            replace H := H.drew
            refine op_call rfl ca_170_SeQ (Room_ok (N : Int) ae (some ⟨bf, 0, none⟩) es.length ce es.length es.length es (tab x es.length) _ (Re.ext H.ext (hne hes)) rfl (by omega) hI (tab_rd (H.ext.to hf n2')) (tab_len _ _) (by omega) (a : Int)) rfl ?_
            rintro v w ⟨rfl, hx65⟩
            replace H := H.call hx65
            rw [hR]
            refine op_gtr rfl rfl rfl ?_
            refine op_pick1 rfl rfl (.bool _) rfl ?_
            refine op_nil (at_then ?_)
            refine W_cond _ rfl ?_ ?_
            · intro h4
              replace h4 := dec_t h4
              refine W_region ?_
              refine op_move rfl (.pointer _) rfl ?_
              refine op_nilCheck rfl rfl ?_
              refine op_fieldAddr rfl fo_170_2_SeQ rfl ?_
              first | refine op_ldb rfl ag_29_SeQ rfl H (by first | exact at0 | exact at1 | exact at2 | exact at3 | exact at4 | exact at5 | exact at6 | exact at7 | exact at8 | exact at9) rfl ?_ | refine op_ld rfl ag_29_SeQ rfl ((by rw [cell_bl (H.ext.to hs n1')]; rfl)) ?_
              refine op_move rfl (.int _ _) rfl ?_
              refine op_move rfl (.int _ _) rfl ?_
              first | refine op_indexRd (tab_rd (H.get at0)) rfl el_29_SeQ sz_2_SeQ rfl rfl (by omega) (by omega) (by first | rfl | omega) ?_ | refine op_indexAddr rfl el_29_SeQ sz_2_SeQ rfl rfl (by omega) (by omega) ?_
              refine op_str vn (fun z => .int .i64 (upd q vn (q un + co) z)) (.int _ _) rfl sz_2_SeQ rfl rfl rfl H at0 (by simp) q2 (by rw [upd_same, Int.add_comm]) (fun z _ hz => by rw [upd_ne hz]) ?_
              rintro w H
              refine op_nil (at_block (at_then ?_))
              refine W_region ?_
              refine op_add_i64 rfl rfl rfl (by omega) (by omega) ?_
              refine op_move rfl (.int _ _) rfl ?_
              refine op_nil (at_then ?_)
              refine ⟨a + 1, rfl, ⟨rfl, trivial⟩, ⟨by omega, ?_⟩, by omega⟩
              rw [hsucc, if_pos h4]
              unfold rel1
              rw [if_pos (by dsimp only; omega)]
              exact H
            · intro h4
              replace h4 := dec_f h4
              refine W_skip (at_block (at_then ?_))
              refine W_region ?_
              refine op_add_i64 rfl rfl rfl (by omega) (by omega) ?_
              refine op_move rfl (.int _ _) rfl ?_
              refine op_nil (at_then ?_)
              refine ⟨a + 1, rfl, ⟨rfl, trivial⟩, ⟨by omega, ?_⟩, by omega⟩
              rw [hsucc, if_neg (by omega)]
              exact H
          · intro h3
            replace h3 := dec_f h3
            refine q_skip rfl ?_
            refine q_skip rfl ?_
            refine q_skip rfl ?_
            refine q_skip rfl ?_
            refine q_skip rfl ?_
            refine q_skip rfl ?_
            refine q_skip rfl ?_
            refine q_skip rfl ?_
            refine q_skip rfl ?_
            refine q_nil ?_
            replace H := H.drew
            refine op_skip rfl ?_
            refine op_skip rfl ?_
            refine op_pick0 rfl rfl (.bool _) rfl ?_
            refine op_nil (at_then ?_)
            refine W_cond0 rfl ?_
            refine W_skip (at_block (at_then ?_))
            refine W_region ?_
            refine op_add_i64 rfl rfl rfl (by omega) (by omega) ?_
            refine op_move rfl (.int _ _) rfl ?_
            refine op_nil (at_then ?_)
            refine ⟨a + 1, rfl, ⟨rfl, trivial⟩, ⟨by omega, ?_⟩, by omega⟩
            rw [hsucc]
            split
            · unfold rel1
              rw [if_neg (by dsimp only; omega)]
              exact H
            · exact H
        · intro h2
          replace h2 := dec_f h2
          refine W_exit (exit_then (exit_then (exit_here (at_block (at_then ?_)))))
          refine W_region ?_
          refine op_add_i64 rfl rfl rfl (by omega) (by omega) ?_
          refine op_move rfl (.int _ _) rfl ?_
          refine op_nil (at_then ?_)
          obtain rfl : a = 2 * es.length := by omega
          refine ⟨r + 1, rfl, ⟨rfl, trivial⟩, ⟨by omega, ?_⟩, by omega⟩
          rw [← hA] at H
          exact H
    · intro h1
      replace h1 := dec_f h1
      refine W_exit (exit_then (exit_then (exit_here (leave0n rfl rfl ?_))))
      obtain rfl : r = N := by omega
      exact ⟨rfl, H⟩
end

end Go.Proofs.YtapphbmlkdhnmaaGreat

/- The solver: numbers that got too great are made anew: the walk. -/
namespace Go.Proofs.YtapphbmlkdhnmaaGreat
open Go.GV
theorem ag_29_SeR : aggB Tryz.prog 29 = some false := by kernel_rfl
theorem ag_2_SeR : aggB Tryz.prog 2 = some false := by kernel_rfl
theorem ca_199_SeR : callable Tryz.prog 199 = true := by kernel_rfl
theorem el_29_SeR : elemT Tryz.prog 29 = some 2 := by kernel_rfl
theorem fo_170_2_SeR : fieldO Tryz.prog 170 2 = some 3 := by kernel_rfl
theorem sz_2_SeR : tsize Tryz.prog 2 = some 1 := by kernel_rfl
attribute [local irreducible] Wops W Wq Wt

theorem arcC_fea {g : Gr} {cap x p q : Nat → Int} (h : Fine g cap x p) (hq : Fea (arcC g cap x (2 * g.E)) q) : Fine g cap x q := fea_fine h hq
theorem fine_congr {g : Gr} (hg : g.Ok) {cap x p q : Nat → Int} (h : Fine g cap x p) (hq : ∀ v, v < g.N → q v = p v) : Fine g cap x q :=
  ⟨h.in', fun a ha hr => by
    have := h.fit a ha hr
    unfold Gr.len at this ⊢
    rw [hq _ (hg.u ha), hq _ (hg.v ha)]; exact this⟩

section
variable {w : World} {bs : Nat} {N : Nat} {ae : Option Addr} {ce bf bp bo : Nat} {k : Int} {es : List Ed} {x p : Nat → Int}

set_option maxRecDepth 20000 in
/-- Behind it numbers fit still, and are small. -/
theorem narrow_ok (hs : w.heap[bs]? = some (Bl 170 (SC N ae es.length ce bf bp bo k))) (Re : Rd w ae 4 encE es) (hen : es ≠ [] → (adr ae).block ≠ bp) (hf : w.heap[bf]? = some (Bl 2 (tabV x es.length))) (hp : w.heap[bp]? = some (Bl 2 (tabV p N))) (n1 : bs ≠ bp) (n2 : bf ≠ bp)
    (hw : withinN (N : Int) es (tab x es.length) = true) (hF : Fine (grE (N : Int) es) (capE es) x p) :
    Ret Tryz.prog 172 #[ptr bs] w fun v w' => v = .tuple #[] ∧ ∃ p' : Nat → Int, Fine (grE (N : Int) es) (capE es) x p' ∧ (∀ v, v < N → -1073741824 ≤ p' v ∧ p' v ≤ 1073741824) ∧ Ctx w [bp] w' [(bp, Bl 2 (tabV p' N))] := by
  obtain ⟨w0, rfl⟩ : ∃ w0, w0 = w := ⟨_, rfl⟩
  have H := Ctx.start1 hp
  have R := tab_rd hp
  obtain ⟨hwl, hr, -⟩ := within_of hw
  obtain ⟨hN1, hN40, hn200, -⟩ := right_of hr
  refine ret_of_W (fn := Tryz.f172) Tryz.func172 rfl [.pointer (some ⟨bs, 0, none⟩)] rfl (by kernel_rfl) ?_
  refine W_rseq ?_
  refine op_move rfl (.pointer _) rfl ?_
  refine op_nilCheck rfl rfl ?_
  refine op_fieldAddr rfl fo_170_2_SeR rfl ?_
  first | refine op_ldb rfl ag_29_SeR rfl H (by first | exact at0 | exact at1 | exact at2 | exact at3 | exact at4 | exact at5 | exact at6 | exact at7 | exact at8 | exact at9) rfl ?_ | refine op_ld rfl ag_29_SeR rfl ((by rw [cell_bl hs]; rfl)) ?_
  refine op_len rfl el_29_SeR rfl ?_
  refine op_move rfl (.int _ _) rfl ?_
  refine op_nil (at_then ?_)
  refine W_block ?_
  refine W_loop 4193800 (α := Nat) (fun i => [(9, .int .i64 (i : Int))]) (fun i w' => w0 = w' ∧ i ≤ N ∧ ∀ v, v < i → -1073741824 ≤ p v ∧ p v ≤ 1073741824) (fun i => N - i) 0 rfl ?_ ?_ ?_
  · exact ⟨rfl, trivial⟩
  · exact ⟨rfl, Nat.zero_le _, fun v h => absurd h (Nat.not_lt_zero _)⟩
  · rintro i j w ⟨rfl, hi, hb⟩
    refine W_rseq ?_
    refine op_lss rfl rfl rfl ?_
    refine op_nil (at_then ?_)
    refine W_seq ?_
    refine W_cond _ rfl ?_ ?_
    · intro h1
      replace h1 := dec_t h1
      have hgp : (tab p N)[i]? = some (p i) := tab_get (by omega)
      refine W_skip (at_then ?_)
      refine W_seq ?_
      refine W_block ?_
      refine W_rseq ?_
      first | refine op_indexRd R rfl el_29_SeR sz_2_SeR rfl rfl (by omega) (by omega) (by first | rfl | omega) ?_ | refine op_indexAddr rfl el_29_SeR sz_2_SeR rfl rfl (by omega) (by omega) ?_
      first | refine op_ldb rfl ag_2_SeR rfl H (by first | exact at0 | exact at1 | exact at2 | exact at3 | exact at4 | exact at5 | exact at6 | exact at7 | exact at8 | exact at9) rfl ?_ | refine op_ld rfl ag_2_SeR rfl ((R.fld hgp rfl (j := 0) rfl)) ?_
      refine op_assign rfl (.int _ _) rfl ?_
      refine op_nil (at_then ?_)
      refine W_rseq (Wops_join (α := Unit) 516096 (fun _ => [(18, .bool (decide (p i < -1073741824 ∨ 1073741824 < p i)))]) (fun _ w' => w' = w0) rfl ?_ ?_)
      · refine op_move rfl (.int _ _) rfl ?_
        refine op_lss rfl rfl rfl ?_
        refine op_move rfl (.bool _) rfl ?_
        refine Wops_split 15 rfl ?_ ?_
        · intro h1
          replace h1 := dec_t h1
          refine op_skip rfl ?_
          refine op_skip rfl ?_
          refine op_pick1 rfl rfl (.bool _) rfl ?_
          refine op_nil ?_
          exact ⟨rfl, (), rfl, ⟨congrArg Value.bool (by clear hgp; rw [Bool.eq_iff_iff]; simp_all; try omega), trivial⟩, rfl⟩
        · intro h2
          replace h2 := dec_f h2
          refine op_move rfl (.int _ _) rfl ?_
          refine op_gtr rfl rfl rfl ?_
          refine op_pick0 rfl rfl (.bool _) rfl ?_
          refine op_nil ?_
          exact ⟨rfl, (), rfl, ⟨congrArg Value.bool (by clear hgp; rw [Bool.eq_iff_iff]; simp_all; try omega), trivial⟩, rfl⟩
      rintro - j18 w hw
      subst hw
      refine W_cond _ rfl ?_ ?_
      · intro h2
        refine W_rseq ?_
        refine op_move rfl (.pointer _) rfl ?_
        refine op_call rfl ca_199_SeR (anew_ok hs Re hen hf hp n1 n2 hw hF) rfl ?_
        rintro v w ⟨rfl, H⟩
        refine op_nil (at_then ?_)
        refine W_ret (ret_block (ret_then (ret_then (ret_block (leave0 rfl rfl ?_)))))
        obtain ⟨g, hg⟩ : ∃ g, g = grE (N : Int) es := ⟨_, rfl⟩
        have hgE : g.E = es.length := by rw [hg]; rfl
        rw [← hg] at H hF ⊢
        have hAm : ∀ b ∈ arcC g (capE es) x (2 * es.length), b.1 < N ∧ b.2.1 < N ∧ -1000 ≤ b.2.2 := fun b hb => by
          obtain ⟨a, ha, rfl⟩ := List.mem_map.1 hb
          obtain ⟨-, -, h1, h2, h3, -⟩ := arc_at hw (List.mem_range.1 (List.mem_filter.1 ha).1)
          rw [hg]
          exact ⟨h1, h2, h3⟩
        have hfea : Fea (arcC g (capE es) x (2 * es.length)) p := by rw [← hgE]; exact fine_fea hF
        refine ⟨rfl, _, ?_, fun v _ => ?_, H⟩
        · have h7 := anew_fits hfea fun a ha => ⟨(hAm a ha).1, (hAm a ha).2.1⟩
          rw [← hgE] at h7 ⊢
          exact arcC_fea hF h7
        · have h7 := anew_bnd hfea (fun a ha => ⟨(hAm a ha).1, (hAm a ha).2.1⟩) (m := 1000) (by omega) (fun a ha => (hAm a ha).2.2) N v
          omega
      · intro h2
        have h2 := of_decide_eq_false h2
        refine W_skip (at_block (at_then ?_))
        refine W_region ?_
        refine op_add_i64 rfl rfl rfl (by omega) (by omega) ?_
        refine op_move rfl (.int _ _) rfl ?_
        refine op_nil (at_then ?_)
        refine ⟨i + 1, rfl, ⟨rfl, trivial⟩, ⟨rfl, by omega, fun v hv => ?_⟩, by omega⟩
        by_cases e : v = i
        · subst e; omega
        · exact hb v (by omega)
    · intro h1
      replace h1 := dec_f h1
      refine W_exit (exit_then (exit_then (exit_here (leave0n rfl rfl ?_))))
      obtain rfl : i = N := by omega
      exact ⟨rfl, p, hF, hb, H⟩
end

end Go.Proofs.YtapphbmlkdhnmaaGreat

/- Ranges over a function that keeps a state of its own: the same rule, with what holds where it begins. It holds for every program. -/
namespace Go.GV
open Go

/-- The same, of an iterator that begins where S0 holds (its own blocks, Z, tell where it stands). -/
def IterOkS (P : Program) (gf : FuncId) (ca : Array Value) (Z : List Nat) (K : Mt → World → Prop) (xs : List (List Value)) (S0 : World → Prop) : Prop :=
  ∀ (l : Nat) (w : World), S0 w → ∀ (J : Nat → Mt → World → Prop) (E : World → Prop), (∃ M, J 0 M w) → (∀ i M w' w'', J i M w' → Ext Z w' w'' → J i M w'') → (∀ w' w'', E w' → Ext Z w' w'' → E w'') → (∀ i M w', J i M w' → (∀ x, M x → x < w'.heap.size) ∧ K M w') →
    (∀ i v M w', xs[i]? = some v → J i M w' → YieldAt P l v w' fun u w'' => (u = .bool true ∧ ∃ M', J (i + 1) M' w'' ∧ Grw M M' w' w'') ∨ (u = .bool false ∧ E w'')) →
    Ret P gf (#[.func (.yield l) #[] #[]] ++ ca) w fun _ w' => (∃ M, J xs.length M w') ∨ E w'

section
variable {P : Program} {Q : Exit → Env → World → Prop} {e : Env} {w : World} {n : Nat}
/-- The statement. -/
theorem W_rangeS {f : Operand} {ps : Array Tmp} {assign body : Code} {gf : Nat} {ca : Array Value} {Z : List Nat} {K : Mt → World → Prop} {xs : List (List Value)} {S0 : World → Prop} (hf : ev e f = .func (.func gf) #[] ca) (hc : callable P gf = true)
    (hI : IterOkS P gf ca Z K xs S0) (hfit : (fits n assign && fits n body) = true) (hps : (ps.toList.all fun p => decide (p < n)) = true) (hlen : ∀ v ∈ xs, v.length = ps.size)
    (J : Nat → Mt → World → Prop) (E : World → Prop) (hZ : w.heap.size ∉ Z ∧ w.heap.size + 1 ∉ Z) (hS0 : ∀ w2, Ext [] w w2 → S0 w2) (hj0 : ∀ w2, Ext [] w w2 → w.heap.size + 1 < w2.heap.size → ∃ M, J 0 M w2)
    (hjs : ∀ i M w' w'', J i M w' → Ext (w.heap.size :: (w.heap.size + 1) :: Z) w' w'' → J i M w'') (hes : ∀ w' w'', E w' → Ext (w.heap.size :: (w.heap.size + 1) :: Z) w' w'' → E w'')
    (hk : ∀ i M w', J i M w' → (∀ x, M x → x < w'.heap.size ∧ x ≠ w.heap.size ∧ x ≠ w.heap.size + 1) ∧ K (fun x => x = w.heap.size + 1 ∨ M x) w')
    (hb : ∀ i v M w', xs[i]? = some v → J i M w' → w.heap.size + 1 < w'.heap.size → W P (some (w.heap.size + 1)) n assign (Qassign P w.heap.size (w.heap.size + 1) n body (J (i + 1)) E M w') (putsP ⟨e.g, []⟩ (ps.toList.zip v)) w')
    (hend : ∀ M w4, J xs.length M w4 → w4.heap[w.heap.size]? = some (.deferred (some [])) → Q .normal ⟨e.g, { target := .collected w.heap.size, args := #[] } :: e.ds⟩ w4)
    (hret : ∀ w4, E w4 → w4.heap[w.heap.size]? = some (.deferred (some [])) → Q .ret ⟨e.g, { target := .collected w.heap.size, args := #[] } :: e.ds⟩ w4) : W P none n (.rangeFunc f ps assign body) Q e w := by
  refine W_rangeFunc hf hc ?_
  intro fn tmps hts htm D l w2 hDe hle hx2 hD hrec
  subst hDe hle
  obtain ⟨lo, hlo, hrec'⟩ : ∃ lo, lo = ({ state := .ready, pending := none, fn, tmps, params := ps, assign, body, defers := w.heap.size } : Loop) ∧ w2.heap[w.heap.size + 1]? = some (.loop lo) := ⟨_, rfl, hrec⟩
  have hsz2 := heap_lt hrec'
  have hne : w.heap.size ≠ w.heap.size + 1 := by omega
  refine Ret.mono (hI (w.heap.size + 1) w2 (hS0 w2 hx2) (fun i Mh w' => (∃ M : Mt, (Mh = fun x => x = w.heap.size + 1 ∨ M x) ∧ J i M w') ∧ w'.heap[w.heap.size + 1]? = some (.loop lo) ∧ w'.heap[w.heap.size]? = some (.deferred (some []))) (fun w' => E w' ∧ (∃ lp, w'.heap[w.heap.size + 1]? = some (.loop lp) ∧ lp.state = .done ∧ lp.pending = some .ret) ∧ w'.heap[w.heap.size]? = some (.deferred (some [])))
    (let ⟨M, hM⟩ := hj0 w2 hx2 hsz2; ⟨_, ⟨M, rfl, hM⟩, hrec', hD⟩) (fun i Mh w' w'' h hx => ⟨let ⟨M, hMh, hM⟩ := h.1; ⟨M, hMh, hjs i M w' w'' hM (hx.mono fun x hx => List.mem_cons_of_mem _ (List.mem_cons_of_mem _ hx))⟩, hx.to h.2.1 hZ.2, hx.to h.2.2 hZ.1⟩)
    (fun w' w'' h hx => ⟨hes w' w'' h.1 (hx.mono fun x hx => List.mem_cons_of_mem _ (List.mem_cons_of_mem _ hx)), let ⟨lp, h1, h2⟩ := h.2.1; ⟨lp, hx.to h1 hZ.2, h2⟩, hx.to h.2.2 hZ.1⟩) (fun i Mh w' h => by
      obtain ⟨⟨M, rfl, hM⟩, hl, _⟩ := h
      exact ⟨fun x hx => hx.elim (fun h => by rw [h]; exact heap_lt hl) fun h => ((hk i M w' hM).1 x h).1, (hk i M w' hM).2⟩) ?_) ?_
  · rintro i v Mh w' hx ⟨⟨M, rfl, hJ⟩, hl, hDw⟩
    have hsz := heap_lt hl
    have hkM := (hk i M w' hJ).1
    have hbody := hb i v M w' hx hJ hsz
    have hlp : lo.params = ps := by rw [hlo]
    have hla : lo.assign = assign := by rw [hlo]
    have hlb : lo.body = body := by rw [hlo]
    have hlt : lo.tmps = tmps := by rw [hlo]
    have hls : lo.state = .ready := by rw [hlo]
    have hpd : lo.pending = none := by rw [hlo]
    refine yield_of hl (by rw [hlp]; exact hlen v (List.mem_of_getElem? hx)) ?_
    rw [hlp, hla, hlb, hlt, fold_zip]
    have hs0 : Sim n (⟨e.g, []⟩ : Env) ({ tmps := tmps, defers := [] } : Act) := ⟨rfl, hts, htm⟩
    refine round_of_W (putsP ⟨e.g, []⟩ (ps.toList.zip v)) (sim_zip _ hs0 fun p hp => ?_) hfit ?_
    · have h1 := List.all_eq_true.1 hps p.1 (List.of_mem_zip hp).1
      exact of_decide_eq_true h1
    · refine W_mono assign ?_ hbody
      intro x e1 w1 hq
      cases x with
      | normal =>
        obtain ⟨hS, hW⟩ := hq
        have hl1 := hS.to hl (by simp)
        have hD1 := hS.to hDw (by simp)
        have hxB := Ext.setB w1 (w.heap.size + 1) (.loop { lo with state := .busy })
        refine ⟨lo, hl1, hls, W_mono body ?_ (hW _ hxB)⟩
        have hlB : (w1.putObj (w.heap.size + 1) (.loop { lo with state := .busy })).heap[w.heap.size + 1]? = some (.loop { lo with state := .busy }) := setB_same hl1
        have hDB : (w1.putObj (w.heap.size + 1) (.loop { lo with state := .busy })).heap[w.heap.size]? = some (.deferred (some [])) := hxB.to hD1 (by simp)
        intro y e3 w3 hq3
        cases y with
        | normal =>
          obtain ⟨M', hJ3, hM', S3, hS3, hin⟩ := hq3
          have hlS3 : w.heap.size + 1 ∉ S3 := fun h => by
            rcases hin _ h with h | h
            · exact (hkM _ h).2.2 rfl
            · omega
          have hDS3 : w.heap.size ∉ S3 := fun h => by
            rcases hin _ h with h | h
            · exact (hkM _ h).2.1 rfl
            · omega
          have hl3 := hS3.to hlB hlS3
          have hD3 := hS3.to hDB hDS3
          have hx4 := Ext.setB w3 (w.heap.size + 1) (.loop { ({ lo with state := .busy } : Loop) with state := .ready, pending := none })
          refine ⟨_, hl3, .inl ⟨rfl, fun x => x = w.heap.size + 1 ∨ M' x, ⟨⟨M', rfl, hjs _ _ _ _ hJ3 (hx4.mono (by simp))⟩, ?_, hx4.to hD3 (by simp)⟩, ⟨⟨(w.heap.size + 1) :: S3, fun x hx => ?_, ?_⟩, fun x hx => ?_⟩⟩⟩
          · rw [setB_same hl3]
            congr 2
            cases lo
            simp_all
          · rcases List.mem_cons.1 hx with h | h
            · exact .inl (.inl h)
            · exact (hin x h).imp .inr id
          · exact (((hS.mono (by simp)).trans (hxB.mono (by simp))).trans (hS3.mono fun x h => List.mem_cons_of_mem _ h)).trans (hx4.mono (by simp))
          · rcases hx with h | h
            · exact .inl (.inl h)
            · exact (hM' x h).imp .inr id
        | ret =>
          obtain ⟨hE3, S3, hS3, hDS3, hlS3⟩ := hq3
          have hl3 := hS3.to hlB hlS3
          have hD3 := hS3.to hDB hDS3
          have hx4 := Ext.setB w3 (w.heap.size + 1) (.loop { ({ lo with state := .busy } : Loop) with state := .done, pending := some .ret })
          exact ⟨_, hl3, .inr ⟨rfl, hes _ _ hE3 (hx4.mono (by simp)), ⟨_, setB_same hl3, rfl, rfl⟩, hx4.to hD3 (by simp)⟩⟩
        | exit id => exact hq3.elim
        | goto t => exact hq3.elim
        | panic c => exact hq3.elim
        | outgrown => exact hq3.elim
      | exit id => exact hq.elim
      | goto t => exact hq.elim
      | ret => exact hq.elim
      | panic c => exact hq.elim
      | outgrown => exact hq.elim
  · intro v w3 h
    rcases h with ⟨Mh, ⟨M, _, h1⟩, h2, h3⟩ | ⟨h1, h2, h3⟩
    · have hx4 := Ext.setB w3 (w.heap.size + 1) (.loop { lo with state := .exhausted })
      exact ⟨lo, h2, by rw [hlo]; exact (fun h => by cases h), jump_none (by rw [hlo]) (hend M _ (hjs _ _ _ _ h1 (hx4.mono (by simp))) (hx4.to h3 (by simp)))⟩
    · obtain ⟨lp, h2, h4, h5⟩ := h2
      have hx4 := Ext.setB w3 (w.heap.size + 1) (.loop { lp with state := .exhausted })
      exact ⟨lp, h2, by rw [h4]; exact (fun h => by cases h), jump_ret h5 (hret _ (hes _ _ h1 (hx4.mono (by simp))) (hx4.to h3 (by simp)))⟩
end
end Go.GV

/- The solver: back along a way: the walks. -/
namespace Go.Proofs.YtapphbmlkdhnmaaGreat
open Go.GV
theorem ag_168_SeS : aggB Tryz.prog 168 = some false := by kernel_rfl
theorem ag_203_SeS : aggB Tryz.prog 203 = some false := by kernel_rfl
theorem ag_28_SeS : aggB Tryz.prog 28 = some true := by kernel_rfl
theorem ag_3_SeS : aggB Tryz.prog 3 = some false := by kernel_rfl
theorem ca_180_SeS : callable Tryz.prog 180 = true := by kernel_rfl
theorem el_203_SeS : elemT Tryz.prog 203 = some 3 := by kernel_rfl
theorem fo_170_0_SeS : fieldO Tryz.prog 170 0 = some 0 := by kernel_rfl
theorem sz_28_SeS : tsize Tryz.prog 28 = some 2 := by kernel_rfl
theorem sz_3_SeS : tsize Tryz.prog 3 = some 1 := by kernel_rfl
attribute [local irreducible] Wops W Wq Wt

theorem sback_ok (s by' : Value) (ob : Option Addr) (on oc : Nat) (bs : Nat) (v : Int) (w : World) (hs : s = ptr bs) (hb : by' = .slice ob on oc) : Ret Tryz.prog 169 #[s, by', .int .i64 v] w fun r w' => ∃ b3 b4 b5, r = .func (.func 196) #[] #[ptr b4, ptr b5, ptr b3] ∧ w'.heap[b3]? = some (Bl 168 [ptr bs]) ∧ w'.heap[b4]? = some (Bl 203 [.slice ob on oc]) ∧ w'.heap[b5]? = some (Bl 3 [.int .i64 v]) ∧ w.heap.size ≤ b3 ∧ w.heap.size ≤ b4 ∧ w.heap.size ≤ b5 ∧ b5 ≠ b3 ∧ b5 ≠ b4 ∧ Ext [] w w' := by
  subst hs hb
  obtain ⟨w0, rfl⟩ : ∃ w0, w0 = w := ⟨_, rfl⟩
  have H := Ctx.start w0 []
  refine ret_of_W (fn := Tryz.f169) Tryz.func169 rfl [.pointer (some ⟨bs, 0, none⟩), .slice ob on oc, .int .i64 v] rfl (by kernel_rfl) ?_
  refine W_rseq ?_
  refine op_box rfl _ (.pointer _) rfl rfl H ?_
  rintro b3 w - H
  refine op_box rfl _ (.slice _ _ _) rfl rfl H ?_
  rintro b4 w - H
  refine op_box rfl _ (.int _ _) rfl rfl H ?_
  rintro b5 w - H
  refine op_assign rfl .nilFunc rfl ?_
  refine op_nil (at_then ?_)
  refine W_rseq ?_
  refine op_makeFuncL rfl [.pointer _, .pointer _, .pointer _] rfl ?_
  refine op_assign rfl (.func _ _ _) rfl ?_
  refine op_nil (at_then ?_)
  refine W_ret (leave1 (v := (.func _ _ _)) rfl rfl rfl ?_)
  have h3 := H.own _ (List.mem_of_getElem? at2)
  have h4 := H.own _ (List.mem_of_getElem? at1)
  have h5 := H.own _ (List.mem_of_getElem? at0)
  exact ⟨_, _, _, rfl, H.get at2, H.get at1, H.get at0, h3.elim (fun h => by cases h) id, h4.elim (fun h => by cases h) id, h5.elim (fun h => by cases h) id, H.ne at0 at2 (by decide), H.ne at0 at1 (by decide), H.ext⟩

def byO (by' : Nat → Int) (v : Nat) : Option Nat := if by' v = -1 then none else some (by' v).toNat
def wayV (g : Gr) (a : Nat) : List Value := [.int .i64 (a : Int), .int .i64 (g.u a : Int)]
/-- What the rounds leave. -/
structure BackK (b3 b4 b5 bs ob : Nat) (N : Nat) (ae : Option Addr) (ce bf bp bo : Nat) (k : Int) (es : List Ed) (by' : Nat → Int) (M : Mt) (w : World) : Prop where
  h4 : w.heap[b4]? = some (Bl 203 [.slice (some ⟨ob, 0, none⟩) N N])
  h3 : w.heap[b3]? = some (Bl 168 [ptr bs])
  hs : w.heap[bs]? = some (Bl 170 (SC N ae es.length ce bf bp bo k))
  ho : w.heap[ob]? = some (Bl 3 (tabV by' N))
  Re : Rd w ae 4 encE es
  nm : ¬ M b5
theorem path_len {g : Gr} {cap x p : Nat → Int} {s : Lb} {by' : Nat → Option Nat} (hB : Bys g cap x p s by') : ∀ {k v : Nat}, s.d v ≠ -1 → s.h v = k → (pathL by' g k v).length = k
  | 0, _, _, _ => rfl
  | k + 1, v, hd, hk => by
    obtain ⟨a, h1, h2, h3⟩ := hB.2 v hd (by omega)
    have hh := h2.h
    rw [h3, hk] at hh
    rw [(path_succ (g := g) (k := k) h1).1, List.length_cons, path_len hB h2.du (by omega)]

set_option maxRecDepth 20000 in
set_option maxHeartbeats 4000000 in
theorem back1_ok {b3 b4 b5 bs ob : Nat} {N : Nat} {ae : Option Addr} {ce bf bp bo : Nat} {kk : Int} {es : List Ed} {by' : Nat → Int} {x p : Nat → Int} {s : Lb} (hw : withinN (N : Int) es (tab x es.length) = true) (hB : Bys (grE (N : Int) es) (capE es) x p s (byO by')) (hby : ∀ v, by' v = -1 ∨ ∃ a : Nat, by' v = (a : Int) ∧ a < 2 * es.length) {k v : Nat} (hv : v < N) (hd : s.d v ≠ -1) (hk : s.h v = k) :
    IterOkS Tryz.prog 196 #[ptr b4, ptr b5, ptr b3] [b5] (fun M w => BackK b3 b4 b5 bs ob N ae ce bf bp bo kk es by' M w) ((pathL (byO by') (grE (N : Int) es) k v).map (wayV (grE (N : Int) es))) (fun w => w.heap[b5]? = some (Bl 3 [.int .i64 (v : Int)])) := by
  intro l w hS J E hJ0 hJs hEs hK hY
  obtain ⟨M0, hJ0⟩ := hJ0
  obtain ⟨w0, rfl⟩ : ∃ w0, w0 = w := ⟨_, rfl⟩
  have hr := (within_of hw).2.1
  obtain ⟨hN1, hN40, hn200, -⟩ := right_of hr
  have hI : I64 (N : Int) := by unfold I64; omega
  obtain ⟨g, hg⟩ : ∃ g, g = grE (N : Int) es := ⟨_, rfl⟩
  have hat : ∀ {a : Nat}, a < 2 * es.length → endsI (N : Int) es (a : Int) = ((g.u a : Int), (g.v a : Int), g.c a) ∧ g.u a < N := fun ha => by
    rw [hg]; exact ⟨(arc_at hw ha).1, (arc_at hw ha).2.2.1⟩
  rw [← hg] at hB hY ⊢
  have hlen : ((pathL (byO by') g k v).map (wayV g)).length = k := by rw [List.length_map, path_len hB hd hk]
  refine ret_of_W (fn := Tryz.f196) Tryz.func196 rfl [.func (.yield l) #[] #[], .pointer (some ⟨b4, 0, none⟩), .pointer (some ⟨b5, 0, none⟩), .pointer (some ⟨b3, 0, none⟩)] rfl (by kernel_rfl) ?_
  refine W_block ?_
  refine W_loop 1073741792 (α := Nat × Nat) (fun _ => []) (fun t w' => t.1 ≤ k ∧ (∃ M, J t.1 M w') ∧ w'.heap[b5]? = some (Bl 3 [.int .i64 (t.2 : Int)]) ∧ t.2 < N ∧ s.d t.2 ≠ -1 ∧ s.h t.2 = k - t.1 ∧ (pathL (byO by') g k v).drop t.1 = pathL (byO by') g (k - t.1) t.2) (fun t => k - t.1) (0, v) rfl ?_ ?_ ?_
  · exact trivial
  · exact ⟨Nat.zero_le _, ⟨M0, hJ0⟩, hS, hv, hd, hk, rfl⟩
  · rintro ⟨i, u⟩ j w ⟨hi, ⟨M, hJ⟩, hb5, hun, hdu, hhu, hdrop⟩; dsimp only at hi hJ hb5 hun hdu hhu hdrop; dsimp only
    have KK := (hK _ _ _ hJ).2
    obtain ⟨w1, rfl⟩ : ∃ w1, w1 = w := ⟨_, rfl⟩
    have H := Ctx.start1 hb5
    have hgb : (tab by' N)[u]? = some (by' u) := tab_get hun
    refine W_seq ?_
    refine W_rseq ?_
    first | refine op_ldb rfl ag_203_SeS rfl H (by first | exact at0 | exact at1 | exact at2 | exact at3 | exact at4 | exact at5 | exact at6 | exact at7 | exact at8 | exact at9) rfl ?_ | refine op_ld rfl ag_203_SeS rfl ((by rw [cell_bl KK.h4]; rfl)) ?_ | refine op_ld rfl ag_203_SeS rfl (((tab_rd KK.ho).fld hgb rfl (j := 0) rfl)) ?_
    first | refine op_ldb rfl ag_3_SeS rfl H (by first | exact at0 | exact at1 | exact at2 | exact at3 | exact at4 | exact at5 | exact at6 | exact at7 | exact at8 | exact at9) rfl ?_ | refine op_ld rfl ag_3_SeS rfl ((by rw [cell_bl KK.h4]; rfl)) ?_ | refine op_ld rfl ag_3_SeS rfl (((tab_rd KK.ho).fld hgb rfl (j := 0) rfl)) ?_
    first | refine op_indexRd (tab_rd KK.ho) rfl el_203_SeS sz_3_SeS rfl rfl (by omega) (by omega) (by first | rfl | omega) ?_ | refine op_indexAddr rfl el_203_SeS sz_3_SeS rfl rfl (by omega) (by omega) ?_
    first | refine op_ldb rfl ag_3_SeS rfl H (by first | exact at0 | exact at1 | exact at2 | exact at3 | exact at4 | exact at5 | exact at6 | exact at7 | exact at8 | exact at9) rfl ?_ | refine op_ld rfl ag_3_SeS rfl ((by rw [cell_bl KK.h4]; rfl)) ?_ | refine op_ld rfl ag_3_SeS rfl (((tab_rd KK.ho).fld hgb rfl (j := 0) rfl)) ?_
    refine op_geq rfl rfl rfl ?_
    refine op_nil (at_then ?_)
    refine W_cond _ rfl ?_ ?_
    · intro h1
      replace h1 := dec_t h1
      have hne : byO by' u ≠ none := by unfold byO; rw [if_neg (by omega)]; exact fun h => by cases h
      have hh0 : s.h u ≠ 0 := fun h => hne (hB.1 u (.inr h))
      obtain ⟨a, ha, hW, hva⟩ := hB.2 u hdu hh0
      have hba : by' u = (a : Int) := by
        unfold byO at ha
        rw [if_neg (by omega)] at ha
        have := Option.some.inj ha
        omega
      have ha2 : a < 2 * es.length := by
        rcases hby u with h | ⟨a', h, h7⟩
        · omega
        · omega
      obtain ⟨hE, hu2⟩ := hat ha2
      rw [hba] at hgb
      obtain ⟨u2, hu2e⟩ : ∃ u2, u2 = g.u a := ⟨_, rfl⟩
      obtain ⟨v2, hv2e⟩ : ∃ v2, v2 = g.v a := ⟨_, rfl⟩
      obtain ⟨c2, hc2e⟩ : ∃ c2, c2 = g.c a := ⟨_, rfl⟩
      rw [← hu2e, ← hv2e, ← hc2e] at hE
      rw [← hu2e] at hu2
      have hE1 : (endsI (N : Int) es (a : Int)).1 = u2 := by rw [hE]
      have hE2 : (endsI (N : Int) es (a : Int)).2.1 = v2 := by rw [hE]
      have hE3 : (endsI (N : Int) es (a : Int)).2.2 = c2 := by rw [hE]
      have hki : k - i = (k - (i + 1)) + 1 := by omega
      have hps := (path_succ (g := g) (k := k - (i + 1)) ha).1
      rw [← hki, ← hdrop, ← hu2e] at hps
      have hgi : (pathL (byO by') g k v)[i]? = some a := by
        have := congrArg (·[0]?) hps
        simpa using this
      have hdrop2 : (pathL (byO by') g k v).drop (i + 1) = pathL (byO by') g (k - (i + 1)) u2 := by
        have := congrArg List.tail hps
        simpa using this
      refine W_skip (at_then ?_)
      refine W_block ?_
      refine W_rseq ?_
      first | refine op_ldb rfl ag_203_SeS rfl H (by first | exact at0 | exact at1 | exact at2 | exact at3 | exact at4 | exact at5 | exact at6 | exact at7 | exact at8 | exact at9) rfl ?_ | refine op_ld rfl ag_203_SeS rfl ((by rw [cell_bl KK.h4]; rfl)) ?_ | refine op_ld rfl ag_203_SeS rfl (((tab_rd KK.ho).fld hgb rfl (j := 0) rfl)) ?_
      first | refine op_ldb rfl ag_3_SeS rfl H (by first | exact at0 | exact at1 | exact at2 | exact at3 | exact at4 | exact at5 | exact at6 | exact at7 | exact at8 | exact at9) rfl ?_ | refine op_ld rfl ag_3_SeS rfl ((by rw [cell_bl KK.h4]; rfl)) ?_ | refine op_ld rfl ag_3_SeS rfl (((tab_rd KK.ho).fld hgb rfl (j := 0) rfl)) ?_
      first | refine op_indexRd (tab_rd KK.ho) rfl el_203_SeS sz_3_SeS rfl rfl (by omega) (by omega) (by first | rfl | omega) ?_ | refine op_indexAddr rfl el_203_SeS sz_3_SeS rfl rfl (by omega) (by omega) ?_
      first | refine op_ldb rfl ag_3_SeS rfl H (by first | exact at0 | exact at1 | exact at2 | exact at3 | exact at4 | exact at5 | exact at6 | exact at7 | exact at8 | exact at9) rfl ?_ | refine op_ld rfl ag_3_SeS rfl ((by rw [cell_bl KK.h4]; rfl)) ?_ | refine op_ld rfl ag_3_SeS rfl (((tab_rd KK.ho).fld hgb rfl (j := 0) rfl)) ?_
      refine op_assign rfl (.int _ _) rfl ?_
      refine op_nil (at_then ?_)
      refine W_rseq ?_
      first | refine op_ldb rfl ag_168_SeS rfl H (by first | exact at0 | exact at1 | exact at2 | exact at3 | exact at4 | exact at5 | exact at6 | exact at7 | exact at8 | exact at9) rfl ?_ | refine op_ld rfl ag_168_SeS rfl ((by rw [cell_bl KK.h3]; rfl)) ?_
      refine op_nilCheck rfl rfl ?_
      refine op_fieldAddr rfl fo_170_0_SeS rfl ?_
      first | refine op_ldN _ rfl ag_28_SeS sz_28_SeS rfl rfl ((net_cells KK.hs)) ?_ | refine op_ldbN rfl ag_28_SeS sz_28_SeS rfl H (by first | exact at0 | exact at1 | exact at2 | exact at3 | exact at4 | exact at5 | exact at6 | exact at7 | exact at8 | exact at9) rfl ?_
      refine op_move rfl (.int _ _) rfl ?_
      refine op_call rfl ca_180_SeS (Ends_ok (N : Int) ae es.length ce es _ KK.Re rfl (by omega) hI (a : Int)) rfl ?_
      rintro r w ⟨rfl, hx21⟩
      replace H := H.call hx21
      rw [hE1, hE2, hE3]
      refine op_move rfl (.tuple _) rfl ?_
      refine op_extract rfl rfl rfl ?_
      refine op_extract rfl rfl rfl ?_
      refine op_extract rfl rfl rfl ?_
      refine op_stb (.int _ _) rfl sz_3_SeS rfl rfl rfl H (by first | exact at0 | exact at1 | exact at2 | exact at3 | exact at4 | exact at5 | exact at6 | exact at7 | exact at8 | exact at9) (by first | decide | (simp; done) | (simp; omega)) ?_
      rintro w H
      refine op_nil (at_then ?_)
      have hJ1 := hJs _ _ _ _ hJ H.ext
      have hY1 := hY i (wayV g a) M w (by rw [List.getElem?_map, hgi]; rfl) hJ1
      have hb51 := H.get at0
      have hnm := KK.nm
      have hwv : wayV g a = [.int .i64 (a : Int), .int .i64 (u2 : Int)] := by rw [hu2e]; rfl
      rw [hwv] at hY1
      refine W_rseq ?_
      refine op_move rfl (.func _ _ _) rfl ?_
      refine op_move rfl (.int _ _) rfl ?_
      first | refine op_ldb rfl ag_3_SeS rfl H (by first | exact at0 | exact at1 | exact at2 | exact at3 | exact at4 | exact at5 | exact at6 | exact at7 | exact at8 | exact at9) rfl ?_ | refine op_ld rfl ag_3_SeS rfl ((by rw [cell_bl KK.h3]; rfl)) ?_
      refine op_yield (vs := [.int .i64 (a : Int), .int .i64 (u2 : Int)]) rfl rfl hY1 rfl ?_
      rintro u' w hu'
      obtain ⟨bb, rfl, hu1, hu0⟩ : ∃ bb, u' = .bool bb ∧ (bb = true → (∃ M, J (i + 1) M w) ∧ w.heap[b5]? = some (Bl 3 [.int .i64 (u2 : Int)])) ∧ (bb = false → E w) := hu'.elim (fun h => ⟨true, h.1, fun _ => let ⟨M', h1, h2⟩ := h.2; ⟨⟨M', h1⟩, h2.to hb51 hnm⟩, fun h => by cases h⟩) (fun h => ⟨false, h.1, (fun h => by cases h), fun _ => h.2⟩)
      refine op_not rfl rfl ?_
      refine op_nil (at_then ?_)
      refine W_cond _ rfl ?_ ?_
      · intro h2
        replace h2 := nvar_t h2
        refine W_ret (ret_block (ret_then (ret_block (leave0 rfl rfl ?_))))
        exact .inr (hu0 (by simpa using h2))
      · intro h2
        replace h2 := nvar_f h2
        refine W_skip (at_block (at_then ?_))
        obtain ⟨hJ2, hb52⟩ := hu1 (by simpa using h2)
        have hh := hW.h
        rw [hva, ← hu2e] at hh
        exact ⟨(i + 1, u2), rfl, trivial, ⟨by dsimp only; omega, hJ2, hb52, hu2, by dsimp only; rw [hu2e]; exact hW.du, by dsimp only; omega, hdrop2⟩, by dsimp only; omega⟩
    · intro h1
      replace h1 := dec_f h1
      have hh0 : s.h u = 0 := by
        rcases Nat.eq_zero_or_pos (s.h u) with h | h
        · exact h
        · obtain ⟨a, ha, -, -⟩ := hB.2 u hdu (by omega)
          exfalso
          unfold byO at ha
          rcases hby u with h7 | ⟨a', h7, -⟩
          · rw [if_pos h7] at ha; cases ha
          · omega
      refine W_exit (exit_then (exit_then (exit_here (leave0n rfl rfl ?_))))
      obtain rfl : i = k := by omega
      exact .inl ⟨M, by rw [hlen]; exact hJ⟩

end Go.Proofs.YtapphbmlkdhnmaaGreat

/- A region that draws its order, whose operations make new blocks, in whatever order; the last one waits for all. It holds for every program. -/
namespace Go.GV
open Go

section
variable {P : Program} {r : Option Nat} {ops : List Oper} {Q : Exit → Env → World → Prop}
def Qk (K : Env → World → Prop) : Exit → Env → World → Prop
  | .normal, e, w => K e w
  | _, _, _ => False
theorem Wops_cons {K : Env → World → Prop} {o : Oper} {rest : List Oper} {e : Env} {w : World} (h : Wops P r ops (Qk K) [o] e w) (hk : ∀ e w, K e w → Wops P r ops Q rest e w) : Wops P r ops Q (o :: rest) e w := by
  unfold Wops at h ⊢
  by_cases hw : wants o ops e = true
  · rw [if_pos hw] at h ⊢
    generalize (o.semAt r (ev e)).run P w = res at h ⊢
    match res, h with
    | .ok (.value v) w', h => exact hk _ _ h
    | .ok .skip w', h => exact hk _ _ h
    | .ok (.defer d) w', h => exact hk _ _ h
    | .ok (.enter f args) w', h => exact Ret.mono h fun v w'' hv => hk _ _ hv
    | .ok (.round l f tmps assign body) w', h => exact RoundIn.mono h fun x w'' ⟨v, hx, hv⟩ => ⟨v, hx, hk _ _ hv⟩
    | .halt (.panic v) w', h => exact h.elim
  · rw [if_neg hw] at h ⊢
    exact hk _ _ h
theorem ready_count {md : Region.Mode} {arr : Array Oper} {l : Array Bool} {i : Nat} (h : i ∈ Region.ready md arr l) : (l.setIfInBounds i true).toList.count false + 1 = l.toList.count false := by
  have h1 := (mem_ready.1 h).1
  have hi : i < l.size := by
    rcases Nat.lt_or_ge i l.size with h | h
    · exact h
    · rw [Array.getD_eq_getD_getElem?, Array.getElem?_eq_none h] at h1; cases h1
  have hv : l.toList[i]'(by simpa using hi) = false := by
    rw [Array.getD_eq_getD_getElem?, Array.getElem?_eq_getElem hi] at h1
    simpa using h1
  have hpos : 0 < l.toList.count false := List.count_pos_iff.2 (by rw [← hv]; exact List.getElem_mem _)
  rw [Array.toList_setIfInBounds, List.count_set (by simpa using hi), hv, if_pos (by rfl), if_neg (by simp)]
  omega
theorem go_any {md : Region.Mode} {arr : Array Oper} {I : Array Bool → Env → World → Prop} (harr : arr.toList = ops)
    (hstep : ∀ l e w i o, I l e w → i ∈ Region.ready md arr l → arr[i]? = some o → Wops P r ops (Qk (I (l.setIfInBounds i true))) [o] e w)
    (hend : ∀ l e w, I l e w → Region.ready md arr l = [] → Q .normal e w) : ∀ (f t : Nat) (l : Array Bool) (e : Env) (w : World), l.toList.count false ≤ f → I l e w → Wops P r ops Q (picked ops (Region.linearise.go md arr f t l [])) e w
  | 0, t, l, e, w, hc, h => by
    refine hend l e w h ?_
    cases hr : Region.ready md arr l with
    | nil => rfl
    | cons i rs =>
      have := ready_count (md := md) (arr := arr) (l := l) (i := i) (by rw [hr]; exact List.mem_cons_self ..)
      omega
  | f + 1, t, l, e, w, hc, h => by
    simp only [Region.linearise.go]
    change Wops P r ops Q (picked ops (match (Region.ready md arr l)[t % (Region.ready md arr l).length]? with
      | some i => Region.linearise.go md arr f (t / (Region.ready md arr l).length) (l.setIfInBounds i true) [i]
      | none => [].reverse)) e w
    cases hi : (Region.ready md arr l)[t % (Region.ready md arr l).length]? with
    | none =>
      refine hend l e w h ?_
      cases hr : Region.ready md arr l with
      | nil => rfl
      | cons x xs =>
        rw [hr] at hi
        have hlt : t % (x :: xs).length < (x :: xs).length := Nat.mod_lt _ (by simp)
        rw [List.getElem?_eq_getElem hlt] at hi
        cases hi
    | some i =>
      have hir := List.mem_of_getElem? hi
      obtain ⟨_, o, ho, _⟩ := mem_ready.1 hir
      have hcount := ready_count hir
      have hol : ops[i]? = some o := by rw [← harr, Array.getElem?_toList]; exact ho
      dsimp only
      rw [linearise_go_acc, List.reverse_singleton, List.singleton_append]
      simp only [picked, hol]
      exact Wops_cons (hstep l e w i o h hir ho) fun e' w' h' => go_any harr hstep hend f _ _ e' w' (by omega) h'
theorem W_any {id n : Nat} {arr : Array Oper} {I : Array Bool → Env → World → Prop} {e : Env} {w : World} (hm : P.follows .mixedOrders = true) (h0 : I (Array.replicate arr.size false) e w.drew)
    (hstep : ∀ l e w i o, I l e w → i ∈ Region.ready .any arr l → arr[i]? = some o → Wops P r arr.toList (Qk (I (l.setIfInBounds i true))) [o] e w)
    (hend : ∀ l e w, I l e w → Region.ready .any arr l = [] → Q .normal e w) : W P r n (.region id arr true) Q e w := .inl fun t => by
  rw [hm]
  simp only [Region.schedule, Bool.true_or, if_true]
  exact go_any rfl hstep hend _ t _ e _ (by simp) h0

/-! ### New blocks, in whatever order -/
def updN (B : Nat → Nat) (i b : Nat) : Nat → Nat := fun j => if j = i then b else B j
theorem updN_same (B : Nat → Nat) (i b : Nat) : updN B i b i = b := if_pos rfl
theorem updN_ne {B : Nat → Nat} {i b j : Nat} (h : j ≠ i) : updN B i b j = B j := if_neg h
def depsOf (arr : Array Oper) (i : Nat) : List Nat := match arr[i]? with | some o => (o.after.toList.filter (Region.binds .any)).map (·.on) | none => []
/-- anc i: what comes ahead of i. -/
def ancB (arr : Array Oper) (anc : Nat → List Nat) : Nat → Bool
  | 0 => true
  | n + 1 => ancB arr anc n && ((anc n).all (fun k => (depsOf arr n).contains k || (depsOf arr n).any fun j => (anc j).contains k) && (depsOf arr n).all fun j => Nat.blt j n)
theorem ancB_spec {arr : Array Oper} {anc : Nat → List Nat} : ∀ {n : Nat}, ancB arr anc n = true → ∀ i, i < n → (∀ k ∈ anc i, k ∈ depsOf arr i ∨ ∃ j ∈ depsOf arr i, k ∈ anc j) ∧ ∀ j ∈ depsOf arr i, j < i
  | n + 1, h, i, hi => by
    simp only [ancB, Bool.and_eq_true] at h
    by_cases e : i = n
    · subst e
      refine ⟨fun k hk => ?_, fun j hj => ?_⟩
      · have := List.all_eq_true.1 h.2.1 k hk
        rw [Bool.or_eq_true, List.any_eq_true] at this
        exact this.imp List.contains_iff_mem.1 fun ⟨j, h1, h2⟩ => ⟨j, h1, List.contains_iff_mem.1 h2⟩
      · have := List.all_eq_true.1 h.2.2 j hj
        simpa [Nat.blt_eq] using this
    · exact ancB_spec h.1 i (by omega)
theorem ancB_lt {arr : Array Oper} {anc : Nat → List Nat} {n : Nat} (h : ancB arr anc n = true) : ∀ i, i < n → ∀ j ∈ anc i, j < i := fun i => by
  induction i using Nat.strongRecOn with
  | _ i ih =>
    intro hi j hj
    obtain ⟨h1, h2⟩ := ancB_spec h i hi
    rcases h1 j hj with h | ⟨k, hk, h⟩
    · exact h2 j h
    · have := h2 k hk
      have := ih k this (by omega) j h
      omega
theorem ready_deps {arr : Array Oper} {l : Array Bool} {i : Nat} (h : i ∈ Region.ready .any arr l) : ∀ j ∈ depsOf arr i, l.getD j false = true := fun j hj => by
  obtain ⟨_, o, ho, hall⟩ := mem_ready.1 h
  unfold depsOf at hj
  rw [ho] at hj
  obtain ⟨d, hd, rfl⟩ := List.mem_map.1 hj
  obtain ⟨hd1, hd2⟩ := List.mem_filter.1 hd
  exact hall d (Array.mem_toList_iff.1 hd1) hd2
theorem ready_of {arr : Array Oper} {l : Array Bool} {i : Nat} (hi : i < arr.size) (hu : l.getD i true = false) (h : ∀ j ∈ depsOf arr i, l.getD j false = true) : i ∈ Region.ready .any arr l := by
  refine mem_ready.2 ⟨hu, arr[i], Array.getElem?_eq_getElem hi, fun d hd hb => h d.on ?_⟩
  unfold depsOf
  rw [Array.getElem?_eq_getElem hi]
  exact List.mem_map.2 ⟨d, List.mem_filter.2 ⟨Array.mem_toList_iff.2 hd, hb⟩, rfl⟩
/-- What is done. -/
structure AI (n : Nat) (anc : Nat → List Nat) (d : Nat → Tmp) (val : Nat → (Nat → Nat) → Value) (obj : Nat → Option ((Nat → Nat) → Obj)) (e0 : Env) (w0 : World) (l : Nat → Prop) (e : Env) (w : World) (B : Nat → Nat) : Prop where
  ds : e.ds = e0.ds
  old : ∀ s, (∀ i, i < n → s ≠ d i) → e.g s = e0.g s
  slot : ∀ i, i < n → l i → e.g (d i) = val i B
  ext : Ext [] w0 w
  blk : ∀ i ob, i < n → l i → obj i = some ob → w.heap[B i]? = some (ob B) ∧ w0.heap.size ≤ B i
  ne : ∀ i j, i < n → j < n → i ≠ j → l i → l j → obj i ≠ none → obj j ≠ none → B i ≠ B j
  cl : ∀ i, i < n → l i → ∀ j ∈ anc i, l j
/-- What one operation makes. -/
def AQ (d : Nat → Tmp) (val : Nat → (Nat → Nat) → Value) (obj : Nat → Option ((Nat → Nat) → Obj)) (i : Nat) (e : Env) (w : World) (B : Nat → Nat) (e' : Env) (w' : World) : Prop :=
  ∃ b, (∀ ob, obj i = some ob → w.heap.size ≤ b ∧ w'.heap[b]? = some (ob (updN B i b))) ∧ Ext [] w w' ∧ e' = put e (some (d i)) (val i (updN B i b))
theorem put_same (e : Env) (s : Tmp) (v : Value) : (put e (some s) v).g s = v := by simp [put]
theorem put_ne {e : Env} {s t : Tmp} {v : Value} (h : t ≠ s) : (put e (some s) v).g t = e.g t := by
  cases hb : Nat.beq t s with
  | true => exact absurd (Nat.eq_of_beq_eq_true hb) h
  | false => simp [put, hb]
theorem AI.step {n : Nat} {anc : Nat → List Nat} {d : Nat → Tmp} {val : Nat → (Nat → Nat) → Value} {obj : Nat → Option ((Nat → Nat) → Obj)} {e0 : Env} {w0 : World} {l : Nat → Prop} {e : Env} {w : World} {B : Nat → Nat} (A : AI n anc d val obj e0 w0 l e w B)
    (hd : ∀ i j, i < n → j < n → d i = d j → i = j) (hst : ∀ i k b B, i < n → k ≠ i → k ∉ anc i → val i (updN B k b) = val i B ∧ ∀ ob, obj i = some ob → ob (updN B k b) = ob B)
    {i : Nat} (hi : i < n) (hu : ¬ l i) (hanc : ∀ j ∈ anc i, l j) {e' : Env} {w' : World} (h : AQ d val obj i e w B e' w') : ∃ B', AI n anc d val obj e0 w0 (fun j => j = i ∨ l j) e' w' B' := by
  obtain ⟨b, hob, hx, rfl⟩ := h
  have hsz := A.ext.size
  have hni : ∀ j, l j → j ≠ i := fun j hj h => hu (h ▸ hj)
  have hna : ∀ j, j < n → l j → i ∉ anc j := fun j hj hl h => hu (A.cl j hj hl i h)
  refine ⟨updN B i b, A.ds, fun s hs => ?_, fun j hj hl => ?_, A.ext.trans hx, fun j ob hj hl ho => ?_, fun j k hj hk hjk hlj hlk oj ok => ?_, fun j hj hl k hk => ?_⟩
  · rw [put_ne (hs i hi)]; exact A.old s hs
  · rcases hl with rfl | hl
    · exact put_same _ _ _
    · rw [put_ne fun h => hni j hl (hd _ _ hj hi h), A.slot j hj hl, (hst j i b B hj (Ne.symm (hni j hl)) (hna j hj hl)).1]
  · rcases hl with rfl | hl
    · obtain ⟨h1, h2⟩ := hob ob ho
      rw [updN_same]
      exact ⟨h2, by omega⟩
    · obtain ⟨h1, h2⟩ := A.blk j ob hj hl ho
      rw [updN_ne (hni j hl), (hst j i b B hj (Ne.symm (hni j hl)) (hna j hj hl)).2 ob ho]
      exact ⟨hx.to h1 (by simp), h2⟩
  · have hlt : ∀ m, m < n → l m → obj m ≠ none → ∀ ob, obj i = some ob → B m < b := fun m hm hl om ob ho => by
      cases hom : obj m with
      | none => exact absurd hom om
      | some o2 =>
        have := heap_lt (A.blk m o2 hm hl hom).1
        have := (hob ob ho).1
        omega
    rcases hlj with rfl | hlj
    · rcases hlk with rfl | hlk
      · exact absurd rfl hjk
      · rw [updN_same, updN_ne (hni k hlk)]
        cases hoj : obj j with
        | none => exact absurd hoj oj
        | some o2 => have := hlt k hk hlk ok o2 hoj; omega
    · rcases hlk with rfl | hlk
      · rw [updN_same, updN_ne (hni j hlj)]
        cases hok : obj k with
        | none => exact absurd hok ok
        | some o2 => have := hlt j hj hlj oj o2 hok; omega
      · rw [updN_ne (hni j hlj), updN_ne (hni k hlk)]
        exact A.ne j k hj hk hjk hlj hlk oj ok
  · rcases hl with rfl | hl
    · exact .inr (hanc k hk)
    · exact .inr (A.cl j hj hl k hk)
theorem W_allocs {id m n : Nat} {arr : Array Oper} {anc : Nat → List Nat} (d : Nat → Tmp) (val : Nat → (Nat → Nat) → Value) (obj : Nat → Option ((Nat → Nat) → Obj)) {e : Env} {w : World} (hm : P.follows .mixedOrders = true) (hsz : arr.size = n + 1) (hanc : ancB arr anc (n + 1) = true)
    (hlast : ∀ k, k < n → k ∈ anc n) (hd : ∀ i j, i < n → j < n → d i = d j → i = j) (hst : ∀ i k b B, i < n → k ≠ i → k ∉ anc i → val i (updN B k b) = val i B ∧ ∀ ob, obj i = some ob → ob (updN B k b) = ob B)
    (hop : ∀ i o e' w' B, i < n → arr[i]? = some o → (∀ s, (∀ j, j < n → s ≠ d j) → e'.g s = e.g s) → (∀ j ∈ anc i, e'.g (d j) = val j B) → Ext [] w.drew w' → (∀ j ∈ anc i, ∀ ob, obj j = some ob → w'.heap[B j]? = some (ob B)) → Wops P r arr.toList (Qk (AQ d val obj i e' w' B)) [o] e' w')
    (hfin : ∀ o e' w' B, arr[n]? = some o → AI n anc d val obj e w.drew (fun _ => True) e' w' B → Wops P r arr.toList (Qk fun e'' w'' => Q .normal e'' w'') [o] e' w') : W P r m (.region id arr true) Q e w := by
  have hspec := ancB_spec hanc
  have hall : ∀ {l : Array Bool}, (∀ i, i < n → l.getD i false = true → ∀ j ∈ anc i, l.getD j false = true) → ∀ i, i < n + 1 → i ∈ Region.ready .any arr l → ∀ k ∈ anc i, l.getD k false = true := fun {l} hcl i hi hr k hk => by
    rcases (hspec i hi).1 k hk with h | ⟨j, h1, h2⟩
    · exact ready_deps hr k h
    · exact hcl j (by have := (hspec i hi).2 j h1; omega) (ready_deps hr j h1) k h2
  have hset : ∀ {l : Array Bool} {i : Nat}, l.size = n + 1 → i < n + 1 → ∀ j, ((l.setIfInBounds i true).getD j false = true) = (j = i ∨ l.getD j false = true) := fun {l i} hl hi j => by
    apply propext
    by_cases e : j = i
    · subst e
      rw [Array.getD_eq_getD_getElem?, Array.getElem?_setIfInBounds_self_of_lt (by omega)]
      simp
    · rw [Array.getD_eq_getD_getElem?, Array.getElem?_setIfInBounds_ne (Ne.symm e), ← Array.getD_eq_getD_getElem?]
      simp [e]
  refine W_any (I := fun l e' w' => l.size = n + 1 ∧ ((l.getD n false = false ∧ ∃ B, AI n anc d val obj e w.drew (fun i => l.getD i false = true) e' w' B) ∨ ((∀ i, i < n + 1 → l.getD i false = true) ∧ Q .normal e' w'))) hm ?_ ?_ ?_
  · refine ⟨by simp [hsz], .inl ⟨by simp [Array.getD_eq_getD_getElem?, hsz], fun _ => 0, rfl, fun _ _ => rfl, fun i _ h => ?_, .refl _ _, fun i _ _ h => ?_, fun i j _ _ _ h => ?_, fun i _ h => ?_⟩⟩ <;>
      (exfalso; rw [getD_replicate_false] at h; cases h)
  · rintro l e' w' i o ⟨hls, h⟩ hr ho
    have hi : i < n + 1 := by have := (Array.getElem?_eq_some_iff.1 ho).1; omega
    have hun : ¬ l.getD i false = true := fun h => by
      have h1 := (mem_ready.1 hr).1
      rw [Array.getD_eq_getD_getElem?, Array.getElem?_eq_getElem (by omega)] at h h1
      simp at h h1
      rw [h] at h1; cases h1
    rcases h with ⟨hn, B, A⟩ | ⟨hn, _⟩
    · have ha := hall A.cl i hi hr
      by_cases e1 : i = n
      · subst e1
        refine Wops_mono ?_ _ _ _ (hfin o e' w' B ho ⟨A.ds, A.old, fun j hj _ => A.slot j hj (ha j (hlast j hj)), A.ext, fun j ob hj _ => A.blk j ob hj (ha j (hlast j hj)), fun j k hj hk hjk _ _ => A.ne j k hj hk hjk (ha j (hlast j hj)) (ha k (hlast k hk)), fun _ _ _ _ _ => trivial⟩)
        intro x e2 w2 hq
        cases x with
        | normal => exact ⟨by simp [hls], .inr ⟨fun j hj => by
            rw [hset hls hi]
            by_cases hji : j = i
            · exact .inl hji
            · exact .inr (ha j (hlast j (by omega))), hq⟩⟩
        | exit id => exact hq.elim
        | goto l => exact hq.elim
        | ret => exact hq.elim
        | panic c => exact hq.elim
        | outgrown => exact hq.elim
      · have hin : i < n := by omega
        refine Wops_mono ?_ _ _ _ (hop i o e' w' B hin ho A.old (fun j hj => ?_) A.ext fun j hj ob hob => ?_)
        · intro x e2 w2 hq
          cases x with
          | normal =>
            obtain ⟨B', A'⟩ := A.step hd hst hin hun ha hq
            refine ⟨by simp [hls], .inl ⟨?_, B', ?_⟩⟩
            · cases hc : (l.setIfInBounds i true).getD n false with
              | false => rfl
              | true =>
                rw [hset hls hi] at hc
                rcases hc with h | h
                · exact absurd h.symm e1
                · rw [hn] at h; cases h
            · have hf : (fun j => (l.setIfInBounds i true).getD j false = true) = fun j => j = i ∨ l.getD j false = true := funext fun j => hset hls hi j
              rw [hf]; exact A'
          | exit id => exact hq.elim
          | goto l => exact hq.elim
          | ret => exact hq.elim
          | panic c => exact hq.elim
          | outgrown => exact hq.elim
        · exact A.slot j (Nat.lt_trans (by
            rcases (hspec i hi).1 j hj with h | ⟨k, h1, h2⟩
            · exact (hspec i hi).2 j h
            · have h3 := (hspec i hi).2 k h1
              exact Nat.lt_of_lt_of_le (show j < k from ancB_lt hanc k (by omega) j h2) (by omega)) hin) (ha j hj)
        · exact (A.blk j ob (Nat.lt_trans (ancB_lt hanc i hi j hj) hin) (ha j hj) hob).1
    · exact absurd (hn i hi) hun
  · rintro l e' w' ⟨hls, h⟩ hr
    rcases h with ⟨hn, B, A⟩ | ⟨_, h⟩
    · exfalso
      have hal : ∀ i, i < n + 1 → l.getD i false = true := fun i => by
        induction i using Nat.strongRecOn with
        | _ i ih =>
          intro hi
          cases hc : l.getD i false with
          | true => rfl
          | false =>
            have hu : l.getD i true = false := by
              rw [Array.getD_eq_getD_getElem?, Array.getElem?_eq_getElem (by omega)] at hc ⊢
              simpa using hc
            have := ready_of (arr := arr) (l := l) (i := i) (by omega) hu fun j hj => ih j ((hspec i hi).2 j hj) (by have := (hspec i hi).2 j hj; omega)
            rw [hr] at this
            cases this
      rw [hal n (by omega)] at hn
      cases hn
    · exact h
end
end Go.GV
