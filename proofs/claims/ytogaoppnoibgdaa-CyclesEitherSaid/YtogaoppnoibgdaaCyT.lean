/- The law CyclesTurned: what it does. -/
import Derived.Test.YtogaoppnoibgdaaCyN
import Derived.Test.YtogaoppnoibgdaaCyS
namespace Go.Proofs.Ytogaoppnoibgdaa
open Go.GV
attribute [local irreducible] Wops W Wq

theorem rot3 {w0 w : World} {S : List Nat} {x : Nat × Obj} {A B C : List (Nat × Obj)} (H : Ctx w0 S w (x :: (A ++ B) ++ C)) : Ctx w0 S w (x :: (B ++ C) ++ A) :=
  H.perm (by
    simp only [List.cons_append, List.append_assoc]
    refine List.Perm.cons _ ?_
    rw [← List.append_assoc B C A]
    exact List.perm_append_comm)
theorem map_take1 {l : List Due} {k : Nat} {d : Due} (f : Due → Due) (h : l[k]? = some d) : ((l.take (k + 1)).map f).flatMap Due.enc = ((l.take k).map f).flatMap Due.enc ++ (f d).enc := by
  rw [take_snoc h]; simp
theorem open_take1 {l : List Due} {k : Nat} {d : Due} (h : l[k]? = some d) (hh : d.held = false) : openL (l.take (k + 1)) = openL (l.take k) ++ [d] := by
  unfold openL
  rw [take_snoc h, List.filter_append]
  simp [hh]
theorem open_take0 {l : List Due} {k : Nat} {d : Due} (h : l[k]? = some d) (hh : d.held = true) : openL (l.take (k + 1)) = openL (l.take k) := by
  unfold openL
  rw [take_snoc h, List.filter_append]
  simp [hh]
theorem sumN_bd {l : List Due} (h : ∀ d ∈ l, 1 ≤ d.am) (hb : sumA l ≤ 4503599627370496) (n : Nat) (hn : n ≤ 16) : -72057594037927936 ≤ sumN l n ∧ sumN l n ≤ 72057594037927936 := by
  have h1 := sumN_le h n
  have h0 := sumA_pos h
  have h2 : (n : Int) * sumA l ≤ 16 * 4503599627370496 := Int.mul_le_mul (by omega) hb h0 (by omega)
  omega

theorem enc_oneD (d : Due) : ∀ v ∈ d.enc, oneCell v = true := fun v hv => by
  simp only [Due.enc, List.mem_cons, List.not_mem_nil, or_false] at hv
  rcases hv with h | h | h | h | h | h | h <;> subst h <;> rfl

theorem find_okM (a : Option Addr) (c : Nat) (l : List Due) (n : Nat) (w : World) (R : Rd w a 7 Due.enc l) (hn : l.length = n) (hm : n ≤ 9223372036854775807) :
    Ret Try.prog 15 #[.slice a n c] w fun v w' => FindPost l w v w' := by subst hn; exact find_ok a c l w R hm
theorem order_okM (banks : Int) (a : Option Addr) (c : Nat) (l : List Due) (n : Nat) (w : World) (R : Rd w a 7 Due.enc l) (hn : l.length = n) (hm : n ≤ 9223372036854775807) :
    Ret Try.prog 7 #[.int .i64 banks, .slice a n c] w fun v w' => OrderPost banks l w v w' := by subst hn; exact order_ok banks a c l w R hm
theorem nets_okM (banks : Int) (a : Option Addr) (c : Nat) (l : List Due) (n : Nat) (w : World) (R : Rd w a 7 Due.enc l) (hn : l.length = n) (hm : n ≤ 9223372036854775807) :
    Ret Try.prog 11 #[.int .i64 banks, .slice a n c] w fun v w' => NetsPost banks l w v w' := by subst hn; exact nets_ok banks a c l w R hm
theorem ring29_okM (a b : Option Addr) (c c' : Nat) (l : List Due) (way : List Int) (n : Nat) (w : World) (R : Rd w a 7 Due.enc l) (R' : Rd w b 1 I64 way) (hn : l.length = n) (hm : n ≤ 9223372036854775807) (hm' : way.length ≤ 9223372036854775807) :
    Ret Try.prog 17 #[.slice a n c, .slice b way.length c'] w fun v w' => v = .bool (ringB l way) ∧ Ext [] w w' := by subst hn; exact ring29_ok a b c c' l way w R R' hm hm'
theorem ring_len_le {l : List Due} {r : List Int} (h : ringB l r = true) (hl : l.length ≤ 64) : r.length ≤ 9223372036854775807 := by have := ring_short h; omega

set_option maxRecDepth 100000 in
set_option maxHeartbeats 4000000 in
theorem turned_ok (a : Option Addr) (c : Nat) (l : List Due) (by' : Int) (w : World) (R : Rd w a 7 Due.enc l) (hm : l.length ≤ 9223372036854775807) (hb0 : 0 ≤ by') (hb1 : by' ≤ 255) :
    Ret Try.prog 5 #[.slice a l.length c, .int .u8 by'] w fun v w' => v = .bool true ∧ Ext [] w w' := by
  obtain ⟨w0, rfl⟩ : ∃ w0, w0 = w := ⟨_, rfl⟩
  have H := Ctx.start w0 []
  refine ret_of_W (fn := Try.f5) Try.func5 rfl [.slice a l.length c, .int .u8 by'] rfl (by kernel_rfl) ?_
  refine W_rseq ?_
  refine op_assign rfl (.bool _) rfl ?_
  refine op_nil (at_then ?_)
  refine W_seq ?_
  refine W_rseq ?_
  refine op_move rfl (.slice _ _ _) rfl ?_
  refine op_call rfl ca_16 (may29_ok 16 a c l _ R hm) rfl ?_
  rintro v w ⟨rfl, hx⟩
  rw [may_all]
  replace H := H.call hx
  refine op_not rfl rfl ?_
  refine op_nil (at_then ?_)
  refine W_cond _ rfl ?_ ?_
  · intro h1
    replace h1 := nvar_t h1
    refine W_rseq ?_
    refine op_call rfl ca_6 (works_ok _) rfl ?_
    rintro v w ⟨rfl, hx⟩
    refine op_assign rfl (.bool _) rfl ?_
    refine op_nil (at_then ?_)
    refine W_ret (ret_then (leave1 (v := (.bool _)) rfl rfl rfl ?_))
    exact ⟨rfl, H.ext.trans hx⟩
  · intro h1
    replace h1 := nvar_f h1
    have F := (all_facts h1).2
    have h64 := (all_facts h1).1
    have hk0 : 0 ≤ by' % 16 := by omega
    have hk1 : by' % 16 < 16 := by omega
    refine W_skip (at_then ?_)
    refine W_rseq ?_
    refine op_move rfl (.int _ _) rfl ?_
    refine op_conv_i64 rfl rfl un_5 un_3 (by omega) (by omega) ?_
    refine op_rem rfl rfl rfl (by omega) (by omega) ?_
    refine op_assign rfl (.int _ _) rfl ?_
    refine op_nil (at_then ?_)
    refine W_rseq ?_
    refine op_assign rfl (.slice _ _ _) rfl ?_
    refine op_assign rfl (.slice _ _ _) rfl ?_
    refine op_assign rfl (.slice _ _ _) rfl ?_
    refine op_nil (at_then ?_)
    refine W_seq ?_
    refine W_rseq ?_
    refine op_assign rfl (.int _ _) rfl ?_
    refine op_nil (at_then ?_)
    refine W_block ?_
    refine W_loop 9903520314283041099681368000 (α := Nat × (Option Addr × Nat × List Value) × (Option Addr × Nat × List Value) × (Option Addr × Nat × List Value)) (fun x => [(9, .int .i64 x.1), (6, .slice x.2.1.1 x.1 x.2.1.2.1), (7, .slice x.2.2.1.1 x.1 x.2.2.1.2.1), (8, .slice x.2.2.2.1 (openL (l.take x.1)).length x.2.2.2.2.1)]) (fun x w' => x.1 ≤ l.length ∧ Ctx w0 [] w' (ent x.2.2.1.1 41 x.2.2.1.2.2 ++ ent x.2.2.2.1 41 x.2.2.2.2.2 ++ ent x.2.1.1 41 x.2.1.2.2) ∧ OS x.2.1.1 x.1 x.2.1.2.1 7 x.2.1.2.2 (((l.take x.1).map swapD).flatMap Due.enc) ∧ OS x.2.2.1.1 x.1 x.2.2.1.2.1 7 x.2.2.1.2.2 (((l.take x.1).map (moveD (by' % 16))).flatMap Due.enc) ∧ OS x.2.2.2.1 (openL (l.take x.1)).length x.2.2.2.2.1 7 x.2.2.2.2.2 ((openL (l.take x.1)).flatMap Due.enc)) (fun x => l.length - x.1) (0, (none, 0, []), (none, 0, []), (none, 0, [])) rfl ?_ ?_ ?_
    · exact ⟨rfl, rfl, rfl, rfl, trivial⟩
    · exact ⟨Nat.zero_le _, H, OS.nil, OS.nil, OS.nil⟩
    · rintro ⟨k, ⟨a6, c6, full6⟩, ⟨a7, c7, full7⟩, ⟨a8, c8, full8⟩⟩ j w ⟨hk, H, O6, O7, O8⟩; dsimp only at hk H O6 O7 O8; dsimp only
      have ho : (openL (l.take k)).length ≤ k := Nat.le_trans (List.length_filter_le _ _) (by rw [List.length_take]; omega)
      refine W_seq ?_
      refine W_rseq ?_
      refine op_move rfl (.int _ _) rfl ?_
      refine op_move rfl (.slice _ _ _) rfl ?_
      refine op_len rfl el_22 rfl ?_
      refine op_lss rfl rfl rfl ?_
      refine op_nil (at_then ?_)
      refine W_cond _ rfl ?_ ?_
      · intro h2
        replace h2 := dec_t h2
        obtain ⟨d, hd⟩ := get_some (l := l) (i := k) (by omega)
        have Fd := F d (List.mem_of_getElem? hd)
        refine W_skip (at_then ?_)
        refine W_seq ?_
        refine W_block ?_
        refine W_rseq ?_
        refine op_move rfl (.slice _ _ _) rfl ?_
        refine op_move rfl (.int _ _) rfl ?_
        first | refine op_indexRd R rfl el_22 sz_41 rfl rfl (by omega) (by omega) (by first | rfl | omega) ?_ | refine op_indexAddr rfl el_22 sz_41 rfl rfl (by omega) (by omega) ?_
        refine op_ldN d.enc rfl ag_41 sz_41 rfl rfl ((R.ext0 H.ext).row hd rfl) ?_
        refine op_alloc rfl zc_41 H ?_
        rintro b10 w - H
        refine op_stb0 rfl sz_41 rfl rfl rfl (enc_oneD d) H at0 rfl ?_
        rintro w H
        replace H : Ctx w0 [] w ((b10, Bl 41 [.int .u64 d.id, .int .i64 d.fr, .int .i64 d.to, .int .i64 d.am, .int .i64 d.wt, .int .i64 d.un, .bool d.held]) :: (ent a7 41 full7 ++ ent a8 41 full8 ++ ent a6 41 full6)) := H
        refine op_nil (at_then ?_)
        refine W_rseq ?_
        refine op_fieldAddr rfl fo_41_2 rfl ?_
        refine op_ldb rfl ag_3 rfl H (by first | exact at0 | exact at1 | exact at2 | exact at3 | exact at4 | exact at5 | exact at6 | exact at7 | exact at8 | exact at9) rfl ?_
        refine op_fieldAddr rfl fo_41_1 rfl ?_
        refine op_ldb rfl ag_3 rfl H (by first | exact at0 | exact at1 | exact at2 | exact at3 | exact at4 | exact at5 | exact at6 | exact at7 | exact at8 | exact at9) rfl ?_
        refine op_fieldAddr rfl fo_41_1 rfl ?_
        refine op_stb (.int _ _) rfl sz_3 rfl rfl rfl H (by first | exact at0 | exact at1 | exact at2 | exact at3 | exact at4 | exact at5 | exact at6 | exact at7 | exact at8 | exact at9) (by first | decide | (simp; done) | (simp; omega)) ?_
        rintro w H
        refine op_fieldAddr rfl fo_41_2 rfl ?_
        refine op_stb (.int _ _) rfl sz_3 rfl rfl rfl H (by first | exact at0 | exact at1 | exact at2 | exact at3 | exact at4 | exact at5 | exact at6 | exact at7 | exact at8 | exact at9) (by first | decide | (simp; done) | (simp; omega)) ?_
        rintro w H
        refine op_nil (at_then ?_)
        refine W_rseq ?_
        refine op_move rfl (.slice _ _ _) rfl ?_
        refine op_ldbN rfl ag_41 sz_41 rfl H (by first | exact at0 | exact at1 | exact at2 | exact at3 | exact at4 | exact at5 | exact at6 | exact at7 | exact at8 | exact at9) rfl ?_
        refine op_build1 _ (.agg _) rfl el_22 sz_41 zc_41 rfl (by decide) (by decide) rfl rfl rfl H ?_
        rintro b58 w - H
        refine op_appendb (L := (_, _) :: (_ ++ _)) rfl el_22 el_22 sz_41 by_41 zc_41 rfl (by decide) rfl rfl H O6 rfl (enc_oneD (swapD d)) (by omega) ?_
        rintro a6' c6' full6' w H O6'
        refine op_assign rfl (.slice _ _ _) rfl ?_
        refine op_nil (at_then ?_)
        refine W_rseq ?_
        refine op_move rfl (.slice _ _ _) rfl ?_
        refine op_move rfl (.int _ _) rfl ?_
        first | refine op_indexRd R rfl el_22 sz_41 rfl rfl (by omega) (by omega) (by first | rfl | omega) ?_ | refine op_indexAddr rfl el_22 sz_41 rfl rfl (by omega) (by omega) ?_
        refine op_ldN d.enc rfl ag_41 sz_41 rfl rfl ((R.ext0 H.ext).row hd rfl) ?_
        refine op_stb0 rfl sz_41 rfl rfl rfl (enc_oneD d) H at0 rfl ?_
        rintro w H
        replace H : Ctx w0 [] w ((b10, Bl 41 [.int .u64 d.id, .int .i64 d.fr, .int .i64 d.to, .int .i64 d.am, .int .i64 d.wt, .int .i64 d.un, .bool d.held]) :: (ent a7 41 full7 ++ ent a8 41 full8) ++ ent a6' 41 full6') := H
        replace H := rot3 H
        refine op_nil (at_then ?_)
        refine W_rseq ?_
        refine op_fieldAddr rfl fo_41_1 rfl ?_
        refine op_ldb rfl ag_3 rfl H (by first | exact at0 | exact at1 | exact at2 | exact at3 | exact at4 | exact at5 | exact at6 | exact at7 | exact at8 | exact at9) rfl ?_
        refine op_move rfl (.int _ _) rfl ?_
        refine op_add_i64 rfl rfl rfl (by omega) (by omega) ?_
        refine op_rem rfl rfl rfl (by omega) (by omega) ?_
        refine op_fieldAddr rfl fo_41_1 rfl ?_
        refine op_stb (.int _ _) rfl sz_3 rfl rfl rfl H (by first | exact at0 | exact at1 | exact at2 | exact at3 | exact at4 | exact at5 | exact at6 | exact at7 | exact at8 | exact at9) (by first | decide | (simp; done) | (simp; omega)) ?_
        rintro w H
        refine op_nil (at_then ?_)
        refine W_rseq ?_
        refine op_fieldAddr rfl fo_41_2 rfl ?_
        refine op_ldb rfl ag_3 rfl H (by first | exact at0 | exact at1 | exact at2 | exact at3 | exact at4 | exact at5 | exact at6 | exact at7 | exact at8 | exact at9) rfl ?_
        refine op_move rfl (.int _ _) rfl ?_
        refine op_add_i64 rfl rfl rfl (by omega) (by omega) ?_
        refine op_rem rfl rfl rfl (by omega) (by omega) ?_
        refine op_fieldAddr rfl fo_41_2 rfl ?_
        refine op_stb (.int _ _) rfl sz_3 rfl rfl rfl H (by first | exact at0 | exact at1 | exact at2 | exact at3 | exact at4 | exact at5 | exact at6 | exact at7 | exact at8 | exact at9) (by first | decide | (simp; done) | (simp; omega)) ?_
        rintro w H
        refine op_nil (at_then ?_)
        refine W_rseq ?_
        refine op_move rfl (.slice _ _ _) rfl ?_
        refine op_ldbN rfl ag_41 sz_41 rfl H (by first | exact at0 | exact at1 | exact at2 | exact at3 | exact at4 | exact at5 | exact at6 | exact at7 | exact at8 | exact at9) rfl ?_
        refine op_build1 _ (.agg _) rfl el_22 sz_41 zc_41 rfl (by decide) (by decide) rfl rfl rfl H ?_
        rintro b78 w - H
        refine op_appendb (L := (_, _) :: (_ ++ _)) rfl el_22 el_22 sz_41 by_41 zc_41 rfl (by decide) rfl rfl H O7 rfl (enc_oneD (moveD (by' % 16) d)) (by omega) ?_
        rintro a7' c7' full7' w H O7'
        replace H := rot3 H
        refine op_assign rfl (.slice _ _ _) rfl ?_
        refine op_nil (at_then ?_)
        refine W_rseq ?_
        refine op_move rfl (.slice _ _ _) rfl ?_
        refine op_move rfl (.int _ _) rfl ?_
        first | refine op_indexRd R rfl el_22 sz_41 rfl rfl (by omega) (by omega) (by first | rfl | omega) ?_ | refine op_indexAddr rfl el_22 sz_41 rfl rfl (by omega) (by omega) ?_
        refine op_fieldAddr rfl fo_41_6 rfl ?_
        refine op_ld rfl ag_4 rfl ((R.ext0 H.ext).fld hd rfl (j := 6) rfl) ?_
        refine op_not rfl rfl ?_
        refine op_nil (at_then ?_)
        refine W_cond _ rfl ?_ ?_
        · intro h3
          replace h3 := nvar_t h3
          refine W_region ?_
          refine op_move rfl (.slice _ _ _) rfl ?_
          refine op_move rfl (.slice _ _ _) rfl ?_
          refine op_move rfl (.int _ _) rfl ?_
          first | refine op_indexRd R rfl el_22 sz_41 rfl rfl (by omega) (by omega) (by first | rfl | omega) ?_ | refine op_indexAddr rfl el_22 sz_41 rfl rfl (by omega) (by omega) ?_
          refine op_ldN d.enc rfl ag_41 sz_41 rfl rfl ((R.ext0 H.ext).row hd rfl) ?_
          refine op_build1 d.enc (.agg _) rfl el_22 sz_41 zc_41 rfl (by decide) (by decide) rfl rfl rfl H ?_
          rintro b91 w - H
          refine op_appendb (L := (_, _) :: (_ ++ _)) rfl el_22 el_22 sz_41 by_41 zc_41 rfl (by decide) rfl rfl H O8 rfl (enc_oneD d) (by omega) ?_
          rintro a8' c8' full8' w H O8'
          refine op_assign rfl (.slice _ _ _) rfl ?_
          refine op_nil (at_block (at_then ?_))
          refine W_region ?_
          refine op_move rfl (.int _ _) rfl ?_
          refine op_add_i64 rfl rfl rfl (by omega) (by omega) ?_
          refine op_assign rfl (.int _ _) rfl ?_
          refine op_nil (at_then ?_)
          refine ⟨(k + 1, (a6', c6', full6'), (a7', c7', full7'), (a8', c8', full8')), rfl, ⟨rfl, rfl, rfl, ?_, trivial⟩, ⟨by omega, (rot3 H).tail, ?_, ?_, ?_⟩, by dsimp only; omega⟩
          · dsimp only; rw [open_take1 hd h3, List.length_append]; rfl
          · dsimp only; rw [map_take1 swapD hd]; exact O6'
          · dsimp only; rw [map_take1 (moveD (by' % 16)) hd]; exact O7'
          · dsimp only; rw [open_take1 hd h3, List.length_append, List.flatMap_append]; exact O8'
        · intro h3
          replace h3 := nvar_f h3
          refine W_skip (at_block (at_then ?_))
          refine W_region ?_
          refine op_move rfl (.int _ _) rfl ?_
          refine op_add_i64 rfl rfl rfl (by omega) (by omega) ?_
          refine op_assign rfl (.int _ _) rfl ?_
          refine op_nil (at_then ?_)
          refine ⟨(k + 1, (a6', c6', full6'), (a7', c7', full7'), (a8, c8, full8)), rfl, ⟨rfl, rfl, rfl, ?_, trivial⟩, ⟨by omega, (rot3 H).tail, ?_, ?_, ?_⟩, by dsimp only; omega⟩
          · dsimp only; rw [open_take0 hd h3]; rfl
          · dsimp only; rw [map_take1 swapD hd]; exact O6'
          · dsimp only; rw [map_take1 (moveD (by' % 16)) hd]; exact O7'
          · dsimp only; rw [open_take0 hd h3]; exact O8
      · intro h2
        replace h2 := dec_f h2
        have hke : k = l.length := by omega
        subst hke
        rw [List.take_length] at O6 O7 O8 ho
        have R6 : Rd w a6 7 Due.enc (l.map swapD) := OS.rd (t := 41) O6 (fun x hx => H.blk x (by simp [hx])) (fun x _ => rfl) (by decide)
        have R7 : Rd w a7 7 Due.enc (l.map (moveD (by' % 16))) := OS.rd (t := 41) O7 (fun x hx => H.blk x (by simp [hx])) (fun x _ => rfl) (by decide)
        have R8 : Rd w a8 7 Due.enc (openL l) := OS.rd (t := 41) O8 (fun x hx => H.blk x (by simp [hx])) (fun x _ => rfl) (by decide)
        have hx0 := H.ext
        replace R := R.ext0 hx0
        clear H O6 O7 O8
        have hA6 : allD (l.map swapD) = true := all_map swapD fine_swap h1
        have hA7 : allD (l.map (moveD (by' % 16))) = true := all_map _ (fine_move _) h1
        have hA8 : allD (openL l) = true := all_open h1
        have FF : ∀ d ∈ l, 0 ≤ d.fr ∧ d.fr < 16 ∧ 0 ≤ d.to ∧ d.to < 16 := fun d hd => by have := F d hd; omega
        rw [List.take_length]
        refine W_exit (exit_then (exit_then (exit_here (at_then ?_))))
        refine W_rseq ?_
        refine op_move rfl (.slice _ _ _) rfl ?_
        refine op_call rfl ca_15 (find_ok a c l _ R hm) rfl ?_
        rintro v w P
        obtain ⟨a11, c11, r11, bf, rfl, hx, -, hF⟩ := find_uni P
        replace hx0 := hx0.trans hx
        replace R := R.ext0 hx
        replace R6 := R6.ext0 hx
        replace R7 := R7.ext0 hx
        replace R8 := R8.ext0 hx
        refine op_move rfl (.tuple _) rfl ?_
        refine op_extract rfl rfl rfl ?_
        refine op_extract rfl rfl rfl ?_
        refine op_assign rfl (.slice _ _ _) rfl ?_
        refine op_assign rfl (.bool _) rfl ?_
        refine op_nil (at_then ?_)
        refine W_rseq ?_
        refine op_move rfl (.slice _ _ _) rfl ?_
        refine op_call rfl ca_15 (find_okM a6 c6 (l.map swapD) l.length _ R6 (by simp) hm) rfl ?_
        rintro v w P
        obtain ⟨a13, c13, r13, b6, rfl, hx, R13, hF6⟩ := find_uni P
        replace hx0 := hx0.trans hx
        replace R := R.ext0 hx
        replace R6 := R6.ext0 hx
        replace R7 := R7.ext0 hx
        replace R8 := R8.ext0 hx
        obtain rfl : bf = b6 := Bool.eq_iff_iff.2 (by rw [found_loops h1 hF, found_loops hA6 hF6, loops_swap_iff])
        refine op_move rfl (.tuple _) rfl ?_
        refine op_extract rfl rfl rfl ?_
        refine op_extract rfl rfl rfl ?_
        refine op_assign rfl (.slice _ _ _) rfl ?_
        refine op_assign rfl (.bool _) rfl ?_
        refine op_nil (at_then ?_)
        refine W_rseq ?_
        refine op_move rfl (.slice _ _ _) rfl ?_
        refine op_call rfl ca_15 (find_okM a7 c7 (l.map (moveD (by' % 16))) l.length _ R7 (by simp) hm) rfl ?_
        rintro v w P
        obtain ⟨a15, c15, r15, b7, rfl, hx, R15, hF7⟩ := find_uni P
        replace hx0 := hx0.trans hx
        replace R := R.ext0 hx
        replace R6 := R6.ext0 hx
        replace R7 := R7.ext0 hx
        replace R8 := R8.ext0 hx
        replace R13 := R13.ext0 hx
        obtain rfl : bf = b7 := Bool.eq_iff_iff.2 (by rw [found_loops h1 hF, found_loops hA7 hF7, loops_move_iff FF hk0 hk1])
        refine op_move rfl (.tuple _) rfl ?_
        refine op_extract rfl rfl rfl ?_
        refine op_extract rfl rfl rfl ?_
        refine op_assign rfl (.slice _ _ _) rfl ?_
        refine op_assign rfl (.bool _) rfl ?_
        refine op_nil (at_then ?_)
        refine W_rseq ?_
        refine op_move rfl (.slice _ _ _) rfl ?_
        refine op_call rfl ca_15 (find_ok a8 c8 (openL l) _ R8 (by omega)) rfl ?_
        rintro v w P
        obtain ⟨a17, c17, r17, b8, rfl, hx, -, hF8⟩ := find_uni P
        replace hx0 := hx0.trans hx
        replace R := R.ext0 hx
        replace R6 := R6.ext0 hx
        replace R7 := R7.ext0 hx
        replace R8 := R8.ext0 hx
        replace R13 := R13.ext0 hx
        replace R15 := R15.ext0 hx
        obtain rfl : bf = b8 := Bool.eq_iff_iff.2 (by rw [found_loops h1 hF, found_loops hA8 hF8, loops_open_iff])
        refine op_move rfl (.tuple _) rfl ?_
        refine op_extract rfl rfl rfl ?_
        refine op_extract rfl rfl rfl ?_
        refine op_assign rfl (.slice _ _ _) rfl ?_
        refine op_assign rfl (.bool _) rfl ?_
        refine op_nil (at_then ?_)
        refine W_rseq ?_
        refine op_move rfl (.slice _ _ _) rfl ?_
        refine op_call rfl ca_7 (order_ok 16 a c l _ R hm) rfl ?_
        rintro v w P
        obtain ⟨a19, c19, rfl, hx, -⟩ := order_uni P
        replace hx0 := hx0.trans hx
        replace R := R.ext0 hx
        replace R6 := R6.ext0 hx
        replace R7 := R7.ext0 hx
        replace R8 := R8.ext0 hx
        replace R13 := R13.ext0 hx
        replace R15 := R15.ext0 hx
        rw [show (orderD 16 l).isSome = !bf from by rw [found_order h1 hF, Bool.not_not]]
        refine op_move rfl (.tuple _) rfl ?_
        refine op_extract rfl rfl rfl ?_
        refine op_extract rfl rfl rfl ?_
        refine op_assign rfl (.slice _ _ _) rfl ?_
        refine op_assign rfl (.bool _) rfl ?_
        refine op_nil (at_then ?_)
        refine W_rseq ?_
        refine op_move rfl (.slice _ _ _) rfl ?_
        refine op_call rfl ca_7 (order_okM 16 a6 c6 (l.map swapD) l.length _ R6 (by simp) hm) rfl ?_
        rintro v w P
        obtain ⟨a21, c21, rfl, hx, -⟩ := order_uni P
        replace hx0 := hx0.trans hx
        replace R := R.ext0 hx
        replace R6 := R6.ext0 hx
        replace R7 := R7.ext0 hx
        replace R8 := R8.ext0 hx
        replace R13 := R13.ext0 hx
        replace R15 := R15.ext0 hx
        rw [show (orderD 16 (l.map swapD)).isSome = !bf from by rw [found_order hA6 hF6, Bool.not_not]]
        have hr13 : bf = true → ringB (l.map swapD) r13 = true := fun h => (hF6.yes h).2
        have hr15 : bf = true → ringB l r15 = true := fun h => ring_move FF (hF7.yes h).2
        obtain ⟨w1, rfl⟩ : ∃ w1, w1 = w := ⟨_, rfl⟩
        have hx1 : Ext [] w1 w1 := Ext.refl _ _
        refine op_move rfl (.tuple _) rfl ?_
        refine op_extract rfl rfl rfl ?_
        refine op_extract rfl rfl rfl ?_
        refine op_assign rfl (.slice _ _ _) rfl ?_
        refine op_assign rfl (.bool _) rfl ?_
        refine op_nil (at_then ?_)
        refine W_seq ?_
        refine W_rseq (Wops_join (α := Unit) 23384026197283812867292677996477297858012677931008 (fun _ => [(163, .bool (false))]) (fun _ w' => Ext [] w1 w') rfl ?_ ?_)
        · refine op_move rfl (.bool _) rfl ?_
          refine op_move rfl (.bool _) rfl ?_
          refine op_neqb un_4 rfl rfl rfl ?_
          rw [beq_self_eq_true, Bool.not_true]
          refine op_move rfl (.bool _) rfl ?_
          refine op_move rfl (.bool _) rfl ?_
          refine op_move rfl (.bool _) rfl ?_
          refine op_neqb un_4 rfl rfl rfl ?_
          rw [beq_self_eq_true, Bool.not_true]
          refine op_pick0 rfl rfl (.bool _) rfl ?_
          refine op_move rfl (.bool _) rfl ?_
          refine op_move rfl (.bool _) rfl ?_
          refine op_move rfl (.bool _) rfl ?_
          refine op_neqb un_4 rfl rfl rfl ?_
          rw [beq_self_eq_true, Bool.not_true]
          refine op_pick0 rfl rfl (.bool _) rfl ?_
          refine op_move rfl (.bool _) rfl ?_
          refine op_move rfl (.bool _) rfl ?_
          refine op_move rfl (.bool _) rfl ?_
          refine op_eqlb un_4 rfl rfl rfl ?_
          rw [show ((!bf) == bf) = false from by cases bf <;> rfl]
          refine op_pick0 rfl rfl (.bool _) rfl ?_
          refine op_move rfl (.bool _) rfl ?_
          refine op_move rfl (.bool _) rfl ?_
          refine op_move rfl (.bool _) rfl ?_
          refine op_eqlb un_4 rfl rfl rfl ?_
          rw [show ((!bf) == bf) = false from by cases bf <;> rfl]
          refine op_pick0 rfl rfl (.bool _) rfl ?_
          refine op_move rfl (.bool _) rfl ?_
          refine op_move rfl (.bool _) rfl ?_
          refine op_move rfl (.bool _) rfl ?_
          refine Wops_split 148 rfl ?_ ?_
          · intro h1
            refine op_move rfl (.slice _ _ _) rfl ?_
            refine op_move rfl (.slice _ _ _) rfl ?_
            refine op_call rfl ca_17 (ring29_okM a6 a13 c6 c13 (l.map swapD) r13 l.length _ (R6.ext0 hx1) (R13.ext0 hx1) (by simp) hm (by first | exact ring_len_le (hr13 ‹_›) (by simp; omega) | (exfalso; simp_all; done))) rfl ?_
            rintro v w ⟨rfl, hx⟩
            replace hx1 := hx1.trans hx
            refine op_not rfl rfl ?_
            refine op_pick1 rfl rfl (.bool _) rfl ?_
            refine op_pick0 rfl rfl (.bool _) rfl ?_
            refine op_move rfl (.bool _) rfl ?_
            refine Wops_split 155 rfl ?_ ?_
            · intro h2
              replace h2 := nvar_t h2
              refine op_skip rfl ?_
              refine op_skip rfl ?_
              refine op_skip rfl ?_
              refine op_skip rfl ?_
              refine op_skip rfl ?_
              refine op_skip rfl ?_
              refine op_skip rfl ?_
              refine op_pick1 rfl rfl (.bool _) rfl ?_
              refine op_nil ?_
              exact ⟨rfl, (), rfl, ⟨congrArg Value.bool (by simp_all), trivial⟩, hx1⟩
            · intro h3
              replace h3 := nvar_f h3
              refine op_move rfl (.bool _) rfl ?_
              refine op_move rfl (.bool _) rfl ?_
              refine Wops_split 157 rfl ?_ ?_
              · intro h4
                refine op_move rfl (.slice _ _ _) rfl ?_
                refine op_move rfl (.slice _ _ _) rfl ?_
                refine op_call rfl ca_17 (ring29_ok a a15 c c15 l r15 _ (R.ext0 hx1) (R15.ext0 hx1) hm (by first | exact ring_len_le (hr15 ‹_›) (by omega) | (exfalso; simp_all; done))) rfl ?_
                rintro v w ⟨rfl, hx⟩
                replace hx1 := hx1.trans hx
                refine op_not rfl rfl ?_
                refine op_pick1 rfl rfl (.bool _) rfl ?_
                refine op_pick0 rfl rfl (.bool _) rfl ?_
                refine op_nil ?_
                exact ⟨rfl, (), rfl, ⟨congrArg Value.bool (by simp_all), trivial⟩, hx1⟩
              · intro h5
                refine op_skip rfl ?_
                refine op_skip rfl ?_
                refine op_skip rfl ?_
                refine op_skip rfl ?_
                refine op_pick0 rfl rfl (.bool _) rfl ?_
                refine op_pick0 rfl rfl (.bool _) rfl ?_
                refine op_nil ?_
                exact ⟨rfl, (), rfl, ⟨congrArg Value.bool (by simp_all), trivial⟩, hx1⟩
          · intro h6
            refine op_skip rfl ?_
            refine op_skip rfl ?_
            refine op_skip rfl ?_
            refine op_skip rfl ?_
            refine op_pick0 rfl rfl (.bool _) rfl ?_
            refine op_pick0 rfl rfl (.bool _) rfl ?_
            refine op_move rfl (.bool _) rfl ?_
            refine op_move rfl (.bool _) rfl ?_
            refine op_move rfl (.bool _) rfl ?_
            refine Wops_split 157 rfl ?_ ?_
            · intro h7
              refine op_move rfl (.slice _ _ _) rfl ?_
              refine op_move rfl (.slice _ _ _) rfl ?_
              refine op_call rfl ca_17 (ring29_ok a a15 c c15 l r15 _ (R.ext0 hx1) (R15.ext0 hx1) hm (by first | exact ring_len_le (hr15 ‹_›) (by omega) | (exfalso; simp_all; done))) rfl ?_
              rintro v w ⟨rfl, hx⟩
              replace hx1 := hx1.trans hx
              refine op_not rfl rfl ?_
              refine op_pick1 rfl rfl (.bool _) rfl ?_
              refine op_pick0 rfl rfl (.bool _) rfl ?_
              refine op_nil ?_
              exact ⟨rfl, (), rfl, ⟨congrArg Value.bool (by simp_all), trivial⟩, hx1⟩
            · intro h8
              refine op_skip rfl ?_
              refine op_skip rfl ?_
              refine op_skip rfl ?_
              refine op_skip rfl ?_
              refine op_pick0 rfl rfl (.bool _) rfl ?_
              refine op_pick0 rfl rfl (.bool _) rfl ?_
              refine op_nil ?_
              exact ⟨rfl, (), rfl, ⟨congrArg Value.bool (by simp_all), trivial⟩, hx1⟩
        rintro - j163 w hx
        replace hx0 := hx0.trans hx
        replace R := R.ext0 hx
        replace R6 := R6.ext0 hx
        replace R7 := R7.ext0 hx
        replace R8 := R8.ext0 hx
        clear R13 R15
        have hp := am_pos h1
        have hs0 := sumA_pos hp
        have hE6 : netsE 16 (l.map swapD) = netsE 16 l := by rw [netsE_all hA6, netsE_all h1, sumA_map swapD (fun _ => rfl)]
        have hE7 : netsE 16 (l.map (moveD (by' % 16))) = netsE 16 l := by rw [netsE_all hA7, netsE_all h1, sumA_map (moveD (by' % 16)) (fun _ => rfl)]
        have hE8 : netsE 16 l = 0 → sumA l ≤ 4503599627370496 ∧ netsE 16 (openL l) = 0 := fun h => by
          have h2 := sumA_open hp
          have h3 : sumA l ≤ 4503599627370496 := by
            refine Classical.byContradiction fun hc => ?_
            rw [netsE_all h1, decide_eq_true (by omega)] at h
            cases h
          exact ⟨h3, by rw [netsE_all hA8, decide_eq_false (by omega)]; rfl⟩
        have hN : ∀ m, netsE 16 m = 0 → netX 16 m = (List.range 16).map (netB m) := fun m h => by rw [netX, decide_eq_true h]; rfl
        refine W_cond0 rfl ?_
        refine W_skip (at_then ?_)
        refine W_rseq ?_
        refine op_move rfl (.slice _ _ _) rfl ?_
        refine op_call rfl ca_11 (nets_ok 16 a c l _ R hm) rfl ?_
        rintro v w P
        obtain ⟨a23, c23, rfl, hx, R23⟩ := nets_uni P
        replace hx0 := hx0.trans hx
        replace R6 := R6.ext0 hx
        replace R7 := R7.ext0 hx
        replace R8 := R8.ext0 hx
        refine op_move rfl (.tuple _) rfl ?_
        refine op_extract rfl rfl rfl ?_
        refine op_extract rfl rfl rfl ?_
        refine op_assign rfl (.slice _ _ _) rfl ?_
        refine op_assign rfl (.int _ _) rfl ?_
        refine op_nil (at_then ?_)
        refine W_rseq ?_
        refine op_move rfl (.slice _ _ _) rfl ?_
        refine op_call rfl ca_11 (nets_okM 16 a6 c6 (l.map swapD) l.length _ R6 (by simp) hm) rfl ?_
        rintro v w P
        obtain ⟨a25, c25, rfl, hx, R25⟩ := nets_uni P
        rw [hE6]
        replace hx0 := hx0.trans hx
        replace R7 := R7.ext0 hx
        replace R8 := R8.ext0 hx
        replace R23 := R23.ext0 hx
        refine op_move rfl (.tuple _) rfl ?_
        refine op_extract rfl rfl rfl ?_
        refine op_extract rfl rfl rfl ?_
        refine op_assign rfl (.slice _ _ _) rfl ?_
        refine op_assign rfl (.int _ _) rfl ?_
        refine op_nil (at_then ?_)
        refine W_rseq ?_
        refine op_move rfl (.slice _ _ _) rfl ?_
        refine op_call rfl ca_11 (nets_okM 16 a7 c7 (l.map (moveD (by' % 16))) l.length _ R7 (by simp) hm) rfl ?_
        rintro v w P
        obtain ⟨a27, c27, rfl, hx, R27⟩ := nets_uni P
        rw [hE7]
        replace hx0 := hx0.trans hx
        replace R8 := R8.ext0 hx
        replace R23 := R23.ext0 hx
        replace R25 := R25.ext0 hx
        refine op_move rfl (.tuple _) rfl ?_
        refine op_extract rfl rfl rfl ?_
        refine op_extract rfl rfl rfl ?_
        refine op_assign rfl (.slice _ _ _) rfl ?_
        refine op_assign rfl (.int _ _) rfl ?_
        refine op_nil (at_then ?_)
        refine W_rseq ?_
        refine op_move rfl (.slice _ _ _) rfl ?_
        refine op_call rfl ca_11 (nets_ok 16 a8 c8 (openL l) _ R8 (by omega)) rfl ?_
        rintro v w P
        obtain ⟨a29, c29, rfl, hx, R29⟩ := nets_uni P
        replace hx0 := hx0.trans hx
        replace R23 := R23.ext0 hx
        replace R25 := R25.ext0 hx
        replace R27 := R27.ext0 hx
        refine op_move rfl (.tuple _) rfl ?_
        refine op_extract rfl rfl rfl ?_
        refine op_extract rfl rfl rfl ?_
        refine op_assign rfl (.slice _ _ _) rfl ?_
        refine op_assign rfl (.int _ _) rfl ?_
        refine op_nil (at_then ?_)
        refine W_seq ?_
        refine W_rseq ?_
        refine op_move rfl (.int _ _) rfl ?_
        refine op_neq rfl rfl rfl ?_
        refine op_nil (at_then ?_)
        refine W_cond _ rfl ?_ ?_
        · intro h3
          replace h3 := ndec_t h3
          refine W_rseq ?_
          refine op_move rfl (.int _ _) rfl ?_
          refine op_move rfl (.int _ _) rfl ?_
          refine op_eql rfl rfl rfl ?_
          rw [decide_eq_true rfl]
          refine op_move rfl (.bool _) rfl ?_
          refine op_move rfl (.int _ _) rfl ?_
          refine op_move rfl (.int _ _) rfl ?_
          refine op_eql rfl rfl rfl ?_
          rw [decide_eq_true rfl]
          refine op_pick1 rfl rfl (.bool _) rfl ?_
          refine op_move rfl (.bool _) rfl ?_
          refine op_call rfl ca_6 (works_ok _) rfl ?_
          rintro v w ⟨rfl, hx⟩
          refine op_pick1 rfl rfl (.bool _) rfl ?_
          refine op_assign rfl (.bool _) rfl ?_
          refine op_nil (at_then ?_)
          refine W_ret (ret_then (leave1 (v := (.bool _)) rfl rfl rfl ?_))
          exact ⟨rfl, hx0.trans hx⟩
        · intro h3
          replace h3 := ndec_f h3
          obtain ⟨hsum, hE9⟩ := hE8 h3
          rw [hE9, hN l h3, hN _ (hE6.trans h3), hN _ (hE7.trans h3), hN _ hE9]
          rw [hN l h3] at R23
          rw [hN _ (hE6.trans h3)] at R25
          rw [hN _ (hE7.trans h3)] at R27
          rw [hN _ hE9] at R29
          have hl16 : ∀ f : Nat → Int, (((List.range 16).map f).length : Int) = 16 := fun f => by simp
          refine W_skip (at_then ?_)
          refine W_seq ?_
          refine W_rseq ?_
          refine op_move rfl (.int _ _) rfl ?_
          refine op_neq rfl rfl rfl ?_
          rw [decide_eq_true h3, Bool.not_true]
          refine op_move rfl (.bool _) rfl ?_
          refine op_move rfl (.int _ _) rfl ?_
          refine op_neq rfl rfl rfl ?_
          rw [decide_eq_true h3, Bool.not_true]
          refine op_pick0 rfl rfl (.bool _) rfl ?_
          refine op_move rfl (.bool _) rfl ?_
          refine op_move rfl (.int _ _) rfl ?_
          refine op_neq rfl rfl rfl ?_
          rw [decide_eq_true rfl, Bool.not_true]
          refine op_pick0 rfl rfl (.bool _) rfl ?_
          refine op_move rfl (.bool _) rfl ?_
          refine op_move rfl (.slice _ _ _) rfl ?_
          refine op_len rfl el_29 rfl ?_
          refine op_neq rfl rfl rfl ?_
          rw [decide_eq_true (hl16 _), Bool.not_true]
          refine op_pick0 rfl rfl (.bool _) rfl ?_
          refine op_move rfl (.bool _) rfl ?_
          refine op_move rfl (.slice _ _ _) rfl ?_
          refine op_len rfl el_29 rfl ?_
          refine op_neq rfl rfl rfl ?_
          rw [decide_eq_true (hl16 _), Bool.not_true]
          refine op_pick0 rfl rfl (.bool _) rfl ?_
          refine op_move rfl (.bool _) rfl ?_
          refine op_move rfl (.slice _ _ _) rfl ?_
          refine op_len rfl el_29 rfl ?_
          refine op_neq rfl rfl rfl ?_
          rw [decide_eq_true (hl16 _), Bool.not_true]
          refine op_pick0 rfl rfl (.bool _) rfl ?_
          refine op_move rfl (.bool _) rfl ?_
          refine op_move rfl (.slice _ _ _) rfl ?_
          refine op_move rfl (.slice _ _ _) rfl ?_
          refine op_call rfl ca_14 (amounts_ok a29 a23 c29 c23 _ _ _ R29 R23 (by simp)) rfl ?_
          rintro v w ⟨rfl, hx⟩
          rw [decide_eq_true (List.map_congr_left fun b _ => netB_open l b)]
          replace hx0 := hx0.trans hx
          replace R23 := R23.ext0 hx
          replace R25 := R25.ext0 hx
          replace R27 := R27.ext0 hx
          refine op_not rfl rfl ?_
          refine op_pick0 rfl rfl (.bool _) rfl ?_
          refine op_nil (at_then ?_)
          refine W_cond0 rfl ?_
          refine W_skip (at_then ?_)
          refine W_rseq ?_
          refine op_assign rfl (.int _ _) rfl ?_
          refine op_nil (at_then ?_)
          refine W_seq ?_
          refine W_rseq ?_
          refine op_assign rfl (.int _ _) rfl ?_
          refine op_nil (at_then ?_)
          refine W_block ?_
          obtain ⟨w1, rfl⟩ : ∃ w1, w1 = w := ⟨_, rfl⟩
          have H := Ctx.start w1 []
          refine W_loop 7410693710756877360434132803841353861216964927822801787764636216808788975419408 (α := Nat) (fun k => [(32, .int .i64 k), (31, .int .i64 (sumN l k))]) (fun k w' => k ≤ 16 ∧ Ctx w1 [] w' []) (fun k => 16 - k) 0 rfl ?_ ?_ ?_
          · exact ⟨rfl, rfl, trivial⟩
          · exact ⟨Nat.zero_le _, H⟩
          · rintro k j w ⟨hk, H⟩
            have hbd := sumN_bd hp hsum k hk
            refine W_seq ?_
            refine W_rseq ?_
            refine op_move rfl (.int _ _) rfl ?_
            refine op_lss rfl rfl rfl ?_
            refine op_nil (at_then ?_)
            refine W_cond _ rfl ?_ ?_
            · intro h4
              replace h4 := dec_t h4
              have hnb := netB_le hp k
              have hg : ∀ f : Nat → Int, ((List.range 16).map f)[k]? = some (f k) := fun f => range_get (by omega)
              have hm1 : (((k : Int) + by' % 16) % 16).toNat < 16 := by omega
              have hg2 : ((List.range 16).map (netB (l.map (moveD (by' % 16)))))[(((k : Int) + by' % 16) % 16).toNat]? = some (netB l k) := by rw [range_get hm1, netB_move FF k (by omega)]
              have hr1 := (R25.ext0 H.drew.ext).one (f := iv) (hg _)
              have hr2 := (R23.ext0 H.drew.ext).one (f := iv) (hg _)
              have hr3 := (R27.ext0 H.drew.ext).one (f := iv) hg2
              have hL1 : ((List.range 16).map (netB l)).length = 16 := by simp
              have hL2 : ((List.range 16).map (netB (l.map swapD))).length = 16 := by simp
              have hL3 : ((List.range 16).map (netB (l.map (moveD (by' % 16))))).length = 16 := by simp
              have hr4 := (R23.ext0 H.ext).one (f := iv) (hg _)
              refine W_skip (at_then ?_)
              refine W_seq ?_
              refine W_block ?_
              refine W_seq ?_
              refine W_qseq (fun x => x = _) mixed (by kernel_rfl) rfl ?_
              refine q_move rfl (.slice _ _ _) rfl ?_
              refine q_move rfl (.int _ _) rfl ?_
              first | refine q_indexRd R rfl el_29 sz_2 rfl rfl (by omega) (by omega) (by first | rfl | omega) ?_ | refine q_indexRd R25 rfl el_29 sz_2 rfl rfl (by omega) (by omega) (by first | rfl | omega) ?_ | refine q_indexRd R23 rfl el_29 sz_2 rfl rfl (by omega) (by omega) (by first | rfl | omega) ?_ | refine q_indexRd R27 rfl el_29 sz_2 rfl rfl (by omega) (by omega) (by first | rfl | omega) ?_ | refine q_indexAddr rfl el_29 sz_2 rfl rfl (by omega) (by omega) ?_
              first | refine q_ldb rfl ag_2 rfl (by rintro _ rfl; exact H.drew) (by first | exact at0 | exact at1 | exact at2 | exact at3 | exact at4 | exact at5 | exact at6 | exact at7 | exact at8 | exact at9) rfl ?_ | refine q_ld rfl ag_2 rfl (by rintro _ rfl; exact (hr1)) ?_ | refine q_ld rfl ag_2 rfl (by rintro _ rfl; exact (hr2)) ?_ | refine q_ld rfl ag_2 rfl (by rintro _ rfl; exact (hr3)) ?_
              refine q_move rfl (.slice _ _ _) rfl ?_
              refine q_move rfl (.int _ _) rfl ?_
              first | refine q_indexRd R rfl el_29 sz_2 rfl rfl (by omega) (by omega) (by first | rfl | omega) ?_ | refine q_indexRd R25 rfl el_29 sz_2 rfl rfl (by omega) (by omega) (by first | rfl | omega) ?_ | refine q_indexRd R23 rfl el_29 sz_2 rfl rfl (by omega) (by omega) (by first | rfl | omega) ?_ | refine q_indexRd R27 rfl el_29 sz_2 rfl rfl (by omega) (by omega) (by first | rfl | omega) ?_ | refine q_indexAddr rfl el_29 sz_2 rfl rfl (by omega) (by omega) ?_
              first | refine q_ldb rfl ag_2 rfl (by rintro _ rfl; exact H.drew) (by first | exact at0 | exact at1 | exact at2 | exact at3 | exact at4 | exact at5 | exact at6 | exact at7 | exact at8 | exact at9) rfl ?_ | refine q_ld rfl ag_2 rfl (by rintro _ rfl; exact (hr1)) ?_ | refine q_ld rfl ag_2 rfl (by rintro _ rfl; exact (hr2)) ?_ | refine q_ld rfl ag_2 rfl (by rintro _ rfl; exact (hr3)) ?_
              refine q_neg_i64 rfl rfl (by omega) (by omega) ?_
              refine q_neq rfl rfl rfl ?_
              rw [decide_eq_true (netB_swap l k), Bool.not_true]
              refine q_move rfl (.bool _) rfl ?_
              refine q_move rfl (.slice _ _ _) rfl ?_
              refine q_move rfl (.int _ _) rfl ?_
              refine q_move rfl (.int _ _) rfl ?_
              refine q_add_i64 rfl rfl rfl (by omega) (by omega) ?_
              refine q_rem rfl rfl rfl (by omega) (by omega) ?_
              first | refine q_indexRd R rfl el_29 sz_2 rfl rfl (by omega) (by omega) (by first | rfl | omega) ?_ | refine q_indexRd R25 rfl el_29 sz_2 rfl rfl (by omega) (by omega) (by first | rfl | omega) ?_ | refine q_indexRd R23 rfl el_29 sz_2 rfl rfl (by omega) (by omega) (by first | rfl | omega) ?_ | refine q_indexRd R27 rfl el_29 sz_2 rfl rfl (by omega) (by omega) (by first | rfl | omega) ?_ | refine q_indexAddr rfl el_29 sz_2 rfl rfl (by omega) (by omega) ?_
              first | refine q_ldb rfl ag_2 rfl (by rintro _ rfl; exact H.drew) (by first | exact at0 | exact at1 | exact at2 | exact at3 | exact at4 | exact at5 | exact at6 | exact at7 | exact at8 | exact at9) rfl ?_ | refine q_ld rfl ag_2 rfl (by rintro _ rfl; exact (hr1)) ?_ | refine q_ld rfl ag_2 rfl (by rintro _ rfl; exact (hr2)) ?_ | refine q_ld rfl ag_2 rfl (by rintro _ rfl; exact (hr3)) ?_
              refine q_move rfl (.slice _ _ _) rfl ?_
              refine q_move rfl (.int _ _) rfl ?_
              first | refine q_indexRd R rfl el_29 sz_2 rfl rfl (by omega) (by omega) (by first | rfl | omega) ?_ | refine q_indexRd R25 rfl el_29 sz_2 rfl rfl (by omega) (by omega) (by first | rfl | omega) ?_ | refine q_indexRd R23 rfl el_29 sz_2 rfl rfl (by omega) (by omega) (by first | rfl | omega) ?_ | refine q_indexRd R27 rfl el_29 sz_2 rfl rfl (by omega) (by omega) (by first | rfl | omega) ?_ | refine q_indexAddr rfl el_29 sz_2 rfl rfl (by omega) (by omega) ?_
              first | refine q_ldb rfl ag_2 rfl (by rintro _ rfl; exact H.drew) (by first | exact at0 | exact at1 | exact at2 | exact at3 | exact at4 | exact at5 | exact at6 | exact at7 | exact at8 | exact at9) rfl ?_ | refine q_ld rfl ag_2 rfl (by rintro _ rfl; exact (hr1)) ?_ | refine q_ld rfl ag_2 rfl (by rintro _ rfl; exact (hr2)) ?_ | refine q_ld rfl ag_2 rfl (by rintro _ rfl; exact (hr3)) ?_
              refine q_neq rfl rfl rfl ?_
              rw [decide_eq_true rfl, Bool.not_true]
              refine q_pick0 rfl rfl (.bool _) rfl ?_
              refine q_nil ?_
              rintro _ rfl
              replace H := H.drew
              refine W_cond0 rfl ?_
              refine W_skip (at_then ?_)
              refine W_region ?_
              refine op_move rfl (.int _ _) rfl ?_
              refine op_move rfl (.slice _ _ _) rfl ?_
              refine op_move rfl (.int _ _) rfl ?_
              first | refine op_indexRd R rfl el_29 sz_2 rfl rfl (by omega) (by omega) (by first | rfl | omega) ?_ | refine op_indexRd R25 rfl el_29 sz_2 rfl rfl (by omega) (by omega) (by first | rfl | omega) ?_ | refine op_indexRd R23 rfl el_29 sz_2 rfl rfl (by omega) (by omega) (by first | rfl | omega) ?_ | refine op_indexRd R27 rfl el_29 sz_2 rfl rfl (by omega) (by omega) (by first | rfl | omega) ?_ | refine op_indexAddr rfl el_29 sz_2 rfl rfl (by omega) (by omega) ?_
              refine op_ld rfl ag_2 rfl hr4 ?_
              refine op_add_i64 rfl rfl rfl (by omega) (by omega) ?_
              refine op_assign rfl (.int _ _) rfl ?_
              refine op_nil (at_block (at_then ?_))
              refine W_region ?_
              refine op_move rfl (.int _ _) rfl ?_
              refine op_add_i64 rfl rfl rfl (by omega) (by omega) ?_
              refine op_assign rfl (.int _ _) rfl ?_
              refine op_nil (at_then ?_)
              exact ⟨k + 1, rfl, ⟨rfl, rfl, trivial⟩, ⟨by omega, H⟩, by omega⟩
            · intro h4
              replace h4 := dec_f h4
              have hk16 : k = 16 := by omega
              subst hk16
              rw [sumN_zero FF]
              refine W_exit (exit_then (exit_then (exit_here (at_then ?_))))
              refine W_rseq ?_
              refine op_move rfl (.int _ _) rfl ?_
              refine op_eql rfl rfl rfl ?_
              rw [decide_eq_true rfl]
              refine op_move rfl (.bool _) rfl ?_
              refine op_call rfl ca_6 (works_ok _) rfl ?_
              rintro v w ⟨rfl, hx⟩
              refine op_pick1 rfl rfl (.bool _) rfl ?_
              refine op_assign rfl (.bool _) rfl ?_
              refine op_nil (at_then ?_)
              refine W_ret (leave1 (v := (.bool _)) rfl rfl rfl ?_)
              exact ⟨rfl, (hx0.trans H.ext).trans hx⟩

end Go.Proofs.Ytogaoppnoibgdaa
