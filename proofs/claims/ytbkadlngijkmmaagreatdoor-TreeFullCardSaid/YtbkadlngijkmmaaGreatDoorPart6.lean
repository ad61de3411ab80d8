/- Part 6 of the proof. -/
import Derived.Test.YtbkadlngijkmmaaGreatDoorPart5
/- Slices that are put together; byte strings behind bytes. -/
namespace Go.Proofs.YtbkadlngijkmmaaGreatDoor
open Go.GV
theorem ag_114_TrD : aggB Tryz.prog 114 = some false := by kernel_rfl
theorem by_120_TrD : tbytes Tryz.prog 120 = some 56 := by kernel_rfl
theorem ca_133_TrD : callable Tryz.prog 133 = true := by kernel_rfl
theorem ca_209_TrD : callable Tryz.prog 209 = true := by kernel_rfl
theorem el_114_TrD : elemT Tryz.prog 114 = some 120 := by kernel_rfl
theorem el_196_TrD : elemT Tryz.prog 196 = some 114 := by kernel_rfl
theorem sz_114_TrD : tsize Tryz.prog 114 = some 1 := by kernel_rfl
theorem sz_120_TrD : tsize Tryz.prog 120 = some 3 := by kernel_rfl
theorem zc_120_TrD : zcells Tryz.prog 120 = some ([.slice none 0 0, .slice none 0 0, .int .i64 0]) := by kernel_rfl
attribute [local irreducible] Wops W Wq Wt

theorem growB_ok (k : Nat) (hk : k ≤ 100000000000) (w : World) : Ret Tryz.prog 209 #[.slice none 0 0, .int .i64 (k : Int)] w fun v w' => ∃ a c full, v = .slice a 0 c ∧ Ctx w [] w' (ent a 5 full) ∧ OS a 0 c 1 full [] := by
  obtain ⟨w0, rfl⟩ : ∃ w0, w0 = w := ⟨_, rfl⟩
  have H := Ctx.start w0 []
  refine ret_of_W (fn := Tryz.f209) Tryz.func209 rfl [.slice none 0 0, .int .i64 (k : Int)] rfl (by kernel_rfl) ?_
  refine W_rseq ?_
  refine op_assign rfl (.slice _ _ _) rfl ?_
  refine op_nil (at_then ?_)
  refine W_seq ?_
  refine W_rseq ?_
  refine op_move rfl (.int _ _) rfl ?_
  refine op_lss rfl rfl rfl ?_
  rw [decide_eq_false (show ¬ (k : Int) < 0 by omega)]
  refine op_nil (at_then ?_)
  refine W_cond0 rfl ?_
  refine W_skip (at_then ?_)
  refine W_seq ?_
  refine W_rseq ?_
  refine op_move rfl (.int _ _) rfl ?_
  refine op_move rfl (.slice _ _ _) rfl ?_
  refine op_cap rfl el_23 rfl ?_
  refine op_move rfl (.slice _ _ _) rfl ?_
  refine op_len rfl el_23 rfl ?_
  refine op_sub_i64 rfl rfl rfl (by omega) (by omega) ?_
  refine op_sub_i64 rfl rfl rfl (by omega) (by omega) ?_
  rw [show (k : Int) - (((0 : Nat) : Int) - ((0 : Nat) : Int)) = (k : Int) by omega]
  refine op_assign rfl (.int _ _) rfl ?_
  refine op_nil (at_then ?_)
  refine W_rseq ?_
  refine op_move rfl (.int _ _) rfl ?_
  refine op_gtr rfl rfl rfl ?_
  refine op_nil (at_then ?_)
  refine W_cond _ rfl ?_ ?_
  · intro h1
    replace h1 := dec_t h1
    refine W_region ?_
    refine op_move rfl (.slice _ _ _) rfl ?_
    refine op_move rfl (.slice _ _ _) rfl ?_
    refine op_cap rfl el_23 rfl ?_
    refine op_slice_hi rfl el_23 sz_5 rfl rfl (by omega) (by omega) ?_
    refine op_move rfl (.int _ _) rfl ?_
    refine op_growz rfl el_23 un_3 sz_5 by_5 zc_5 rfl (by decide) rfl rfl (by omega) (by omega) (by omega) H ?_
    rintro b c full w H O hkc
    refine op_move rfl (.slice _ _ _) rfl ?_
    refine op_len rfl el_23 rfl ?_
    refine op_slice_hi rfl el_23 sz_5 rfl rfl (by omega) (by omega) ?_
    refine op_assign rfl (.slice _ _ _) rfl ?_
    refine op_nil (at_then ?_)
    refine W_rseq ?_
    refine op_move rfl (.slice _ _ _) rfl ?_
    refine op_assign rfl (.slice _ _ _) rfl ?_
    refine op_nil (at_then ?_)
    refine W_ret (leave1 (v := (.slice _ _ _)) rfl rfl rfl ?_)
    exact ⟨some ⟨b, 0, none⟩, c, full, rfl, H, O⟩
  · intro h1
    replace h1 := dec_f h1
    refine W_skip (at_then ?_)
    refine W_rseq ?_
    refine op_move rfl (.slice _ _ _) rfl ?_
    refine op_assign rfl (.slice _ _ _) rfl ?_
    refine op_nil (at_then ?_)
    refine W_ret (leave1 (v := (.slice _ _ _)) rfl rfl rfl ?_)
    exact ⟨none, 0, [], rfl, H, OS.nil⟩

theorem flat_snoc {α β : Type} {l : List α} {i : Nat} {x : α} (f : α → List β) (h : l[i]? = some x) : (l.take (i + 1)).flatMap f = (l.take i).flatMap f ++ f x := by
  rw [take_snoc h, List.flatMap_append, List.flatMap_singleton]
theorem sum_snoc {α : Type} {l : List α} {i : Nat} {x : α} (f : α → Nat) (h : l[i]? = some x) : ((l.take (i + 1)).map f).sum = ((l.take i).map f).sum + f x := by
  rw [take_snoc h, List.map_append, List.sum_append]; simp
theorem sum_take {α : Type} (l : List α) (i : Nat) (f : α → Nat) : ((l.take i).map f).sum ≤ (l.map f).sum := by
  have h : (l.map f).sum = ((l.take i).map f).sum + ((l.drop i).map f).sum := by rw [← List.sum_append, ← List.map_append, List.take_append_drop]
  omega
theorem flat_map_len {α β : Type} (l : List α) (f : α → List β) : (l.flatMap f).length = (l.map fun x => (f x).length).sum := by
  rw [List.length_flatMap]

set_option maxRecDepth 20000 in
set_option maxHeartbeats 2000000 in
theorem concatB_ok {w : World} {a : Option Addr} {n c : Nat} (xs : List SB) (R : Rd w a 1 encS xs) (hx : ∀ x ∈ xs, RdS w x) (hn : n = xs.length) (hm : n ≤ 1000000) (hs : (xs.map fun x => x.2.1.length).sum ≤ 10000000000) :
    Ret Tryz.prog 192 #[.slice a n c] w fun v w' => Fresh w w' 5 1 v ((xs.flatMap fun x => x.2.1).map bv) := by
  subst hn
  obtain ⟨w0, rfl⟩ : ∃ w0, w0 = w := ⟨_, rfl⟩
  have H := Ctx.start w0 []
  refine ret_of_W (fn := Tryz.f192) Tryz.func192 rfl [.slice a xs.length c] rfl (by kernel_rfl) ?_
  refine W_rseq ?_
  refine op_assign rfl (.slice _ _ _) rfl ?_
  refine op_nil (at_then ?_)
  refine W_rseq ?_
  refine op_assign rfl (.int _ _) rfl ?_
  refine op_nil (at_then ?_)
  refine W_seq ?_
  refine W_rseq ?_
  refine op_move rfl (.slice _ _ _) rfl ?_
  refine op_len rfl el_141 rfl ?_
  refine op_move rfl (.int _ _) rfl ?_
  refine op_nil (at_then ?_)
  refine W_block ?_
  refine W_loop 8386600 (α := Nat) (fun i => [(11, .int .i64 (i : Int)), (3, .int .i64 ((((xs.take i).map fun x => x.2.1.length).sum : Nat) : Int))]) (fun i w' => w0 = w' ∧ i ≤ xs.length) (fun i => xs.length - i) 0 rfl ?_ ?_ ?_
  · exact ⟨rfl, rfl, trivial⟩
  · exact ⟨rfl, Nat.zero_le _⟩
  · rintro i j w ⟨rfl, hi⟩
    refine W_rseq ?_
    refine op_lss rfl rfl rfl ?_
    refine op_nil (at_then ?_)
    refine W_seq ?_
    refine W_cond _ rfl ?_ ?_
    · intro h1
      replace h1 := dec_t h1
      obtain ⟨x, hx1⟩ := get_some (l := xs) (i := i) (by omega)
      have hsn := sum_snoc (fun x : SB => x.2.1.length) hx1
      have hst := sum_take xs (i + 1) (fun x : SB => x.2.1.length)
      refine W_skip (at_then ?_)
      refine W_seq ?_
      refine W_block ?_
      refine W_rseq ?_
      first | refine op_indexRd R rfl el_141 sz_23 rfl rfl (by omega) (by omega) (by first | rfl | omega) ?_ | refine op_indexAddr rfl el_141 sz_23 rfl rfl (by omega) (by omega) ?_
      first | refine op_ldb rfl ag_23 rfl H (by first | exact at0 | exact at1 | exact at2 | exact at3 | exact at4 | exact at5 | exact at6 | exact at7 | exact at8 | exact at9) rfl ?_ | refine op_ld rfl ag_23 rfl (R.fld hx1 rfl (j := 0) rfl) ?_
      refine op_assign rfl (.slice _ _ _) rfl ?_
      refine op_nil (at_then ?_)
      refine W_rseq ?_
      refine op_move rfl (.int _ _) rfl ?_
      refine op_move rfl (.slice _ _ _) rfl ?_
      refine op_len rfl el_23 rfl ?_
      refine op_add_i64 rfl rfl rfl (by omega) (by omega) ?_
      refine op_assign rfl (.int _ _) rfl ?_
      refine op_nil (at_then ?_)
      refine W_rseq ?_
      refine op_move rfl (.int _ _) rfl ?_
      refine op_lss rfl rfl rfl ?_
      rw [decide_eq_false (show ¬ (_ : Int) < 0 by omega)]
      refine op_nil (at_then ?_)
      refine W_cond0 rfl ?_
      refine W_skip (at_block (at_then ?_))
      refine W_region ?_
      refine op_add_i64 rfl rfl rfl (by omega) (by omega) ?_
      refine op_move rfl (.int _ _) rfl ?_
      refine op_nil (at_then ?_)
      exact ⟨i + 1, rfl, ⟨rfl, congrArg (Value.int .i64) (by rw [hsn]; rfl), trivial⟩, ⟨rfl, by omega⟩, by omega⟩
    · intro h1
      replace h1 := dec_f h1
      have hii : i = xs.length := by omega
      subst hii
      rw [List.take_length]
      refine W_exit (exit_then (exit_then (exit_here (at_then ?_))))
      refine W_rseq ?_
      refine op_move rfl (.int _ _) rfl ?_
      refine op_call rfl ca_209_TrD (growB_ok _ (by omega) _) rfl ?_
      rintro v w ⟨a24, c24, full24, rfl, H, O⟩
      refine op_assign rfl (.slice _ _ _) rfl ?_
      refine op_nil (at_then ?_)
      refine W_seq ?_
      refine W_rseq ?_
      refine op_move rfl (.slice _ _ _) rfl ?_
      refine op_len rfl el_141 rfl ?_
      refine op_move rfl (.int _ _) rfl ?_
      refine op_nil (at_then ?_)
      refine W_block ?_
      refine W_loop 34225520960 (α := Nat × Option Addr × Nat × List Value) (fun s => [(27, .int .i64 (s.1 : Int)), (6, .slice s.2.1 ((xs.take s.1).flatMap fun x => x.2.1).length s.2.2.1)]) (fun s w' => s.1 ≤ xs.length ∧ Ctx w0 [] w' (ent s.2.1 5 s.2.2.2) ∧ OS s.2.1 ((xs.take s.1).flatMap fun x => x.2.1).length s.2.2.1 1 s.2.2.2 (((xs.take s.1).flatMap fun x => x.2.1).map bv)) (fun s => xs.length - s.1) (0, a24, c24, full24) rfl ?_ ?_ ?_
      · exact ⟨rfl, rfl, trivial⟩
      · exact ⟨Nat.zero_le _, H, O⟩
      · rintro ⟨i, a6, c6, full6⟩ j w ⟨hi, H, O⟩; dsimp only at hi H O; dsimp only
        refine W_rseq ?_
        refine op_lss rfl rfl rfl ?_
        refine op_nil (at_then ?_)
        refine W_seq ?_
        refine W_cond _ rfl ?_ ?_
        · intro h2
          replace h2 := dec_t h2
          obtain ⟨x, hx1⟩ := get_some (l := xs) (i := i) (by omega)
          have hxs := hx x (List.mem_of_getElem? hx1)
          have hsn := sum_snoc (fun x : SB => x.2.1.length) hx1
          have hst := sum_take xs (i + 1) (fun x : SB => x.2.1.length)
          have hfl := flat_map_len (xs.take i) (fun x : SB => x.2.1)
          have hfs := flat_snoc (fun x : SB => x.2.1) hx1
          refine W_skip (at_then ?_)
          refine W_seq ?_
          refine W_block ?_
          refine W_rseq ?_
          first | refine op_indexRd R rfl el_141 sz_23 rfl rfl (by omega) (by omega) (by first | rfl | omega) ?_ | refine op_indexAddr rfl el_141 sz_23 rfl rfl (by omega) (by omega) ?_
          first | refine op_ldb rfl ag_23 rfl H (by first | exact at0 | exact at1 | exact at2 | exact at3 | exact at4 | exact at5 | exact at6 | exact at7 | exact at8 | exact at9) rfl ?_ | refine op_ld rfl ag_23 rfl ((R.ext0 H.ext).fld hx1 rfl (j := 0) rfl) ?_
          refine op_assign rfl (.slice _ _ _) rfl ?_
          refine op_nil (at_then ?_)
          refine W_region ?_
          refine op_move rfl (.slice _ _ _) rfl ?_
          refine op_move rfl (.slice _ _ _) rfl ?_
          refine op_append (L := []) rfl el_23 el_23 sz_5 by_5 zc_5 rfl (by decide) (x.2.1.map bv) rfl rfl H O (by simp) (bv_one _) (Rd.appB (hxs.1.ext0 H.ext)) (by omega) ?_
          rintro a7 c7 full7 w H O
          rw [← List.map_append, ← hfs] at O
          rw [← List.length_append, ← hfs] at O
          rw [← List.length_append, ← hfs]
          refine op_assign rfl (.slice _ _ _) rfl ?_
          refine op_nil (at_block (at_then ?_))
          refine W_region ?_
          refine op_add_i64 rfl rfl rfl (by omega) (by omega) ?_
          refine op_move rfl (.int _ _) rfl ?_
          refine op_nil (at_then ?_)
          exact ⟨(i + 1, a7, c7, full7), rfl, ⟨rfl, rfl, trivial⟩, ⟨by dsimp only; omega, H, O⟩, by dsimp only; omega⟩
        · intro h2
          replace h2 := dec_f h2
          have hii : i = xs.length := by omega
          subst hii
          rw [List.take_length] at O
          rw [List.take_length]
          refine W_exit (exit_then (exit_then (exit_here (at_then ?_))))
          refine W_rseq ?_
          refine op_move rfl (.slice _ _ _) rfl ?_
          refine op_assign rfl (.slice _ _ _) rfl ?_
          refine op_nil (at_then ?_)
          refine W_ret (leave1 (v := (.slice _ _ _)) rfl rfl rfl ?_)
          exact Ctx.fresh (L := []) H O

theorem growI_ok (k : Nat) (hk : k ≤ 100000000000) (w : World) : Ret Tryz.prog 133 #[.slice none 0 0, .int .i64 (k : Int)] w fun v w' => ∃ a c full, v = .slice a 0 c ∧ Ctx w [] w' (ent a 120 full) ∧ OS a 0 c 3 full [] := by
  obtain ⟨w0, rfl⟩ : ∃ w0, w0 = w := ⟨_, rfl⟩
  have H := Ctx.start w0 []
  refine ret_of_W (fn := Tryz.f133) Tryz.func133 rfl [.slice none 0 0, .int .i64 (k : Int)] rfl (by kernel_rfl) ?_
  refine W_rseq ?_
  refine op_assign rfl (.slice _ _ _) rfl ?_
  refine op_nil (at_then ?_)
  refine W_seq ?_
  refine W_rseq ?_
  refine op_move rfl (.int _ _) rfl ?_
  refine op_lss rfl rfl rfl ?_
  rw [decide_eq_false (show ¬ (k : Int) < 0 by omega)]
  refine op_nil (at_then ?_)
  refine W_cond0 rfl ?_
  refine W_skip (at_then ?_)
  refine W_seq ?_
  refine W_rseq ?_
  refine op_move rfl (.int _ _) rfl ?_
  refine op_move rfl (.slice _ _ _) rfl ?_
  refine op_cap rfl el_114_TrD rfl ?_
  refine op_move rfl (.slice _ _ _) rfl ?_
  refine op_len rfl el_114_TrD rfl ?_
  refine op_sub_i64 rfl rfl rfl (by omega) (by omega) ?_
  refine op_sub_i64 rfl rfl rfl (by omega) (by omega) ?_
  rw [show (k : Int) - (((0 : Nat) : Int) - ((0 : Nat) : Int)) = (k : Int) by omega]
  refine op_assign rfl (.int _ _) rfl ?_
  refine op_nil (at_then ?_)
  refine W_rseq ?_
  refine op_move rfl (.int _ _) rfl ?_
  refine op_gtr rfl rfl rfl ?_
  refine op_nil (at_then ?_)
  refine W_cond _ rfl ?_ ?_
  · intro h1
    replace h1 := dec_t h1
    refine W_region ?_
    refine op_move rfl (.slice _ _ _) rfl ?_
    refine op_move rfl (.slice _ _ _) rfl ?_
    refine op_cap rfl el_114_TrD rfl ?_
    refine op_slice_hi rfl el_114_TrD sz_120_TrD rfl rfl (by omega) (by omega) ?_
    refine op_move rfl (.int _ _) rfl ?_
    refine op_growz rfl el_114_TrD un_3 sz_120_TrD by_120_TrD zc_120_TrD rfl (by decide) rfl rfl (by omega) (by omega) (by omega) H ?_
    rintro b c full w H O hkc
    refine op_move rfl (.slice _ _ _) rfl ?_
    refine op_len rfl el_114_TrD rfl ?_
    refine op_slice_hi rfl el_114_TrD sz_120_TrD rfl rfl (by omega) (by omega) ?_
    refine op_assign rfl (.slice _ _ _) rfl ?_
    refine op_nil (at_then ?_)
    refine W_rseq ?_
    refine op_move rfl (.slice _ _ _) rfl ?_
    refine op_assign rfl (.slice _ _ _) rfl ?_
    refine op_nil (at_then ?_)
    refine W_ret (leave1 (v := (.slice _ _ _)) rfl rfl rfl ?_)
    exact ⟨some ⟨b, 0, none⟩, c, full, rfl, H, O⟩
  · intro h1
    replace h1 := dec_f h1
    refine W_skip (at_then ?_)
    refine W_rseq ?_
    refine op_move rfl (.slice _ _ _) rfl ?_
    refine op_assign rfl (.slice _ _ _) rfl ?_
    refine op_nil (at_then ?_)
    refine W_ret (leave1 (v := (.slice _ _ _)) rfl rfl rfl ?_)
    exact ⟨none, 0, [], rfl, H, OS.nil⟩

/-- Slices of items. -/
abbrev SI := Option Addr × List It × Nat
def encT (x : SI) : List Value := [.slice x.1 x.2.1.length x.2.2]
theorem Im.one (ms : List Im) : ∀ v ∈ ms.flatMap Im.enc, oneCell v = true := fun v hv => by
  obtain ⟨m, _, hv⟩ := List.mem_flatMap.1 hv
  simp only [Im.enc, List.mem_cons, List.not_mem_nil, or_false] at hv
  rcases hv with rfl | rfl | rfl <;> rfl
theorem Im.flat_len (ms : List Im) : (ms.flatMap Im.enc).length = ms.length * 3 := by
  rw [List.length_flatMap]
  induction ms with
  | nil => rfl
  | cons m ms ih => rw [List.map_cons, List.sum_cons, ih, List.length_cons]; show 3 + _ = _; omega

set_option maxRecDepth 20000 in
set_option maxHeartbeats 4000000 in
theorem concatI_ok {w : World} {M : Mut} (hM : ∀ x, M x → x < w.heap.size) {a : Option Addr} {n c : Nat} (xs : List SI) (R : Rd w a 1 encT xs) (hx : ∀ x ∈ xs, Its w M x.1 x.2.1.length x.2.2 x.2.1) (hn : n = xs.length) (hm : n ≤ 1000000) (hs : (xs.map fun x => x.2.1.length).sum ≤ 100000000) :
    Ret Tryz.prog 74 #[.slice a n c] w fun v w' => ∃ a' c', v = .slice a' (xs.flatMap fun x => x.2.1).length c' ∧ Its w' M a' (xs.flatMap fun x => x.2.1).length c' (xs.flatMap fun x => x.2.1) ∧ Ext [] w w' := by
  subst hn
  obtain ⟨w0, rfl⟩ : ∃ w0, w0 = w := ⟨_, rfl⟩
  have H := Ctx.start w0 []
  refine ret_of_W (fn := Tryz.f74) Tryz.func74 rfl [.slice a xs.length c] rfl (by kernel_rfl) ?_
  refine W_rseq ?_
  refine op_assign rfl (.slice _ _ _) rfl ?_
  refine op_nil (at_then ?_)
  refine W_rseq ?_
  refine op_assign rfl (.int _ _) rfl ?_
  refine op_nil (at_then ?_)
  refine W_seq ?_
  refine W_rseq ?_
  refine op_move rfl (.slice _ _ _) rfl ?_
  refine op_len rfl el_196_TrD rfl ?_
  refine op_move rfl (.int _ _) rfl ?_
  refine op_nil (at_then ?_)
  refine W_block ?_
  refine W_loop 8386600 (α := Nat) (fun i => [(11, .int .i64 (i : Int)), (3, .int .i64 ((((xs.take i).map fun x => x.2.1.length).sum : Nat) : Int))]) (fun i w' => w0 = w' ∧ i ≤ xs.length) (fun i => xs.length - i) 0 rfl ?_ ?_ ?_
  · exact ⟨rfl, rfl, trivial⟩
  · exact ⟨rfl, Nat.zero_le _⟩
  · rintro i j w ⟨rfl, hi⟩
    refine W_rseq ?_
    refine op_lss rfl rfl rfl ?_
    refine op_nil (at_then ?_)
    refine W_seq ?_
    refine W_cond _ rfl ?_ ?_
    · intro h1
      replace h1 := dec_t h1
      obtain ⟨x, hx1⟩ := get_some (l := xs) (i := i) (by omega)
      have hsn := sum_snoc (fun x : SI => x.2.1.length) hx1
      have hst := sum_take xs (i + 1) (fun x : SI => x.2.1.length)
      refine W_skip (at_then ?_)
      refine W_seq ?_
      refine W_block ?_
      refine W_rseq ?_
      first | refine op_indexRd R rfl el_196_TrD sz_114_TrD rfl rfl (by omega) (by omega) (by first | rfl | omega) ?_ | refine op_indexAddr rfl el_196_TrD sz_114_TrD rfl rfl (by omega) (by omega) ?_
      first | refine op_ldb rfl ag_114_TrD rfl H (by first | exact at0 | exact at1 | exact at2 | exact at3 | exact at4 | exact at5 | exact at6 | exact at7 | exact at8 | exact at9) rfl ?_ | refine op_ld rfl ag_114_TrD rfl (R.fld hx1 rfl (j := 0) rfl) ?_
      refine op_assign rfl (.slice _ _ _) rfl ?_
      refine op_nil (at_then ?_)
      refine W_rseq ?_
      refine op_move rfl (.int _ _) rfl ?_
      refine op_move rfl (.slice _ _ _) rfl ?_
      refine op_len rfl el_114_TrD rfl ?_
      refine op_add_i64 rfl rfl rfl (by omega) (by omega) ?_
      refine op_assign rfl (.int _ _) rfl ?_
      refine op_nil (at_then ?_)
      refine W_rseq ?_
      refine op_move rfl (.int _ _) rfl ?_
      refine op_lss rfl rfl rfl ?_
      rw [decide_eq_false (show ¬ (_ : Int) < 0 by omega)]
      refine op_nil (at_then ?_)
      refine W_cond0 rfl ?_
      refine W_skip (at_block (at_then ?_))
      refine W_region ?_
      refine op_add_i64 rfl rfl rfl (by omega) (by omega) ?_
      refine op_move rfl (.int _ _) rfl ?_
      refine op_nil (at_then ?_)
      exact ⟨i + 1, rfl, ⟨rfl, congrArg (Value.int .i64) (by rw [hsn]; rfl), trivial⟩, ⟨rfl, by omega⟩, by omega⟩
    · intro h1
      replace h1 := dec_f h1
      have hii : i = xs.length := by omega
      subst hii
      rw [List.take_length]
      refine W_exit (exit_then (exit_then (exit_here (at_then ?_))))
      refine W_rseq ?_
      refine op_move rfl (.int _ _) rfl ?_
      refine op_call rfl ca_133_TrD (growI_ok _ (by omega) _) rfl ?_
      rintro v w ⟨a24, c24, full24, rfl, H, O⟩
      refine op_assign rfl (.slice _ _ _) rfl ?_
      refine op_nil (at_then ?_)
      refine W_seq ?_
      refine W_rseq ?_
      refine op_move rfl (.slice _ _ _) rfl ?_
      refine op_len rfl el_196_TrD rfl ?_
      refine op_move rfl (.int _ _) rfl ?_
      refine op_nil (at_then ?_)
      refine W_block ?_
      refine W_loop 34225520960 (α := Nat × Option Addr × Nat × List Value × List Im) (fun s => [(27, .int .i64 (s.1 : Int)), (6, .slice s.2.1 s.2.2.2.2.length s.2.2.1)]) (fun s w' => s.1 ≤ xs.length ∧ Ctx w0 [] w' (ent s.2.1 120 s.2.2.2.1) ∧ OS s.2.1 s.2.2.2.2.length s.2.2.1 3 s.2.2.2.1 (s.2.2.2.2.flatMap Im.enc) ∧ s.2.2.2.2.map (·.it) = (xs.take s.1).flatMap (fun x => x.2.1) ∧ ∀ m ∈ s.2.2.2.2, m.Ok w0 M) (fun s => xs.length - s.1) (0, a24, c24, full24, []) rfl ?_ ?_ ?_
      · exact ⟨rfl, rfl, trivial⟩
      · exact ⟨Nat.zero_le _, H, O, rfl, fun m hm => by cases hm⟩
      · rintro ⟨i, a6, c6, full6, ms⟩ j w ⟨hi, H, O, hms, hmo⟩; dsimp only at hi H O hms hmo; dsimp only
        refine W_rseq ?_
        refine op_lss rfl rfl rfl ?_
        refine op_nil (at_then ?_)
        refine W_seq ?_
        refine W_cond _ rfl ?_ ?_
        · intro h2
          replace h2 := dec_t h2
          obtain ⟨x, hx1⟩ := get_some (l := xs) (i := i) (by omega)
          obtain ⟨ns, Rn, -, hnl, hno⟩ := (hx x (List.mem_of_getElem? hx1)).ex
          have hnn : ns.length = x.2.1.length := by rw [← hnl, List.length_map]
          have hsn := sum_snoc (fun x : SI => x.2.1.length) hx1
          have hst := sum_take xs (i + 1) (fun x : SI => x.2.1.length)
          have hfl := flat_map_len (xs.take i) (fun x : SI => x.2.1)
          have hml : ms.length = ((xs.take i).flatMap fun x => x.2.1).length := by rw [← hms, List.length_map]
          have hfs := flat_snoc (fun x : SI => x.2.1) hx1
          refine W_skip (at_then ?_)
          refine W_seq ?_
          refine W_block ?_
          refine W_rseq ?_
          first | refine op_indexRd R rfl el_196_TrD sz_114_TrD rfl rfl (by omega) (by omega) (by first | rfl | omega) ?_ | refine op_indexAddr rfl el_196_TrD sz_114_TrD rfl rfl (by omega) (by omega) ?_
          first | refine op_ldb rfl ag_114_TrD rfl H (by first | exact at0 | exact at1 | exact at2 | exact at3 | exact at4 | exact at5 | exact at6 | exact at7 | exact at8 | exact at9) rfl ?_ | refine op_ld rfl ag_114_TrD rfl ((R.ext0 H.ext).fld hx1 rfl (j := 0) rfl) ?_
          refine op_assign rfl (.slice _ _ _) rfl ?_
          refine op_nil (at_then ?_)
          refine W_region ?_
          refine op_move rfl (.slice _ _ _) rfl ?_
          refine op_move rfl (.slice _ _ _) rfl ?_
          refine op_append (L := []) rfl el_114_TrD el_114_TrD sz_120_TrD by_120_TrD zc_120_TrD rfl (by decide) (ns.flatMap Im.enc) rfl rfl H O (by rw [Im.flat_len, hnn]) (Im.one _) ((Rn.ext0 H.ext).app (fun _ _ => rfl) (by decide)) (by omega) ?_
          rintro a7 c7 full7 w H O
          rw [← List.flatMap_append, ← hnn, ← List.length_append] at O
          rw [← hnn, ← List.length_append]
          refine op_assign rfl (.slice _ _ _) rfl ?_
          refine op_nil (at_block (at_then ?_))
          refine W_region ?_
          refine op_add_i64 rfl rfl rfl (by omega) (by omega) ?_
          refine op_move rfl (.int _ _) rfl ?_
          refine op_nil (at_then ?_)
          refine ⟨(i + 1, a7, c7, full7, ms ++ ns), rfl, ⟨rfl, rfl, trivial⟩, ⟨by dsimp only; omega, H, O, by dsimp only; rw [List.map_append, hms, hnl, hfs], fun m hm => ?_⟩, by dsimp only; omega⟩
          rcases List.mem_append.1 hm with hm | hm
          · exact hmo m hm
          · exact hno m hm
        · intro h2
          replace h2 := dec_f h2
          have hii : i = xs.length := by omega
          subst hii
          rw [List.take_length] at hms
          have hml : ms.length = (xs.flatMap fun x => x.2.1).length := by rw [← hms, List.length_map]
          have Rm := OS.rd O (fun x hx => H.blk x hx) (fun _ _ => rfl) (by decide)
          refine W_exit (exit_then (exit_then (exit_here (at_then ?_))))
          refine W_rseq ?_
          refine op_move rfl (.slice _ _ _) rfl ?_
          refine op_assign rfl (.slice _ _ _) rfl ?_
          refine op_nil (at_then ?_)
          refine W_ret (leave1 (v := (.slice _ _ _)) rfl rfl rfl ?_)
          refine ⟨a6, c6, by rw [hml], ⟨⟨ms, Rm, ?_, hms, fun m hm => (hmo m hm).call H.ext⟩, rfl, by rw [← hml]; exact O.le⟩, H.ext⟩
          have hq : ∀ q : Addr, a6 = some q → w0.heap.size ≤ q.block := fun q hq => by
            subst hq
            exact (H.own (q.block, _) (List.mem_singleton.2 rfl)).elim (fun h => by cases h) id
          cases ha6 : a6 with
          | none => exact .inl (List.eq_nil_of_length_eq_zero (by have h8 := O.le; have h9 := O.none' ha6; omega))
          | some q => exact .inr fun hqM => absurd (hM _ hqM) (Nat.not_lt.2 (hq q ha6))

end Go.Proofs.YtbkadlngijkmmaaGreatDoor

/- Nodes as bytes: what the program does. -/
namespace Go.Proofs.YtbkadlngijkmmaaGreatDoor
open Go.GV
theorem ag_114_TrE : aggB Tryz.prog 114 = some false := by kernel_rfl
theorem ag_116_TrE : aggB Tryz.prog 116 = some true := by kernel_rfl
theorem ag_120_TrE : aggB Tryz.prog 120 = some true := by kernel_rfl
theorem ca_138_TrE : callable Tryz.prog 138 = true := by kernel_rfl
theorem ca_192_TrE : callable Tryz.prog 192 = true := by kernel_rfl
theorem el_114_TrE : elemT Tryz.prog 114 = some 120 := by kernel_rfl
theorem fo_116_1_TrE : fieldO Tryz.prog 116 1 = some 1 := by kernel_rfl
theorem sz_116_TrE : tsize Tryz.prog 116 = some 2 := by kernel_rfl
theorem sz_120_TrE : tsize Tryz.prog 120 = some 3 := by kernel_rfl
theorem zc_120_TrE : zcells Tryz.prog 120 = some ([.slice none 0 0, .slice none 0 0, .int .i64 0]) := by kernel_rfl
attribute [local irreducible] Wops W Wq Wt

theorem total_le {inner : Bool} {L : List It} (h : ∀ x ∈ L, x.key.length ≤ 65535 ∧ x.val.length ≤ 65535) : totalI inner L ≤ 131076 * L.length := by
  induction L with
  | nil => exact Nat.zero_le _
  | cons x L ih =>
    have h1 := h x (List.mem_cons_self ..)
    have h2 := ih fun y hy => h y (List.mem_cons_of_mem _ hy)
    have h3 : sizeI inner x ≤ 131076 := by
      cases inner
      · simp only [sizeI, cond_false]; omega
      · simp only [sizeI, cond_true]; omega
    rw [totalI_cons, List.length_cons]; omega
theorem total_snoc {inner : Bool} {L : List It} {i : Nat} {x : It} (h : L[i]? = some x) : totalI inner (L.take (i + 1)) = totalI inner (L.take i) + sizeI inner x := by
  rw [take_snoc h, totalI_append, totalI_cons]; rfl
def NB (inner : Bool) (a : Option Addr) (n c : Nat) : List Value := [.bool inner, .slice a n c]

set_option maxRecDepth 20000 in
set_option maxHeartbeats 1000000 in
theorem total_ok {w : World} {M : Mut} (inner : Bool) {a : Option Addr} {n c : Nat} {L : List It} (I : Its w M a n c L) (hm : n ≤ 1000000) (hsz : ∀ x ∈ L, x.key.length ≤ 65535 ∧ x.val.length ≤ 65535) :
    Ret Tryz.prog 137 #[.agg #[.bool inner, .slice a n c]] w fun v w' => v = .int .i64 (totalI inner L : Int) ∧ Ext [] w w' := by
  obtain ⟨w0, rfl⟩ : ∃ w0, w0 = w := ⟨_, rfl⟩
  have H := Ctx.start w0 []
  obtain ⟨ms, R, -, hl, hok⟩ := I.ex
  have hnum := I.num
  have hml : ms.length = n := by rw [hnum, ← hl, List.length_map]
  refine ret_of_W (fn := Tryz.f137) Tryz.func137 rfl [.agg #[.bool inner, .slice a n c]] rfl (by kernel_rfl) ?_
  refine W_rseq ?_
  refine op_box rfl (NB inner a n c) (.agg _) rfl rfl H ?_
  rintro b1 w - H
  refine op_assign rfl (.int _ _) rfl ?_
  refine op_nil (at_then ?_)
  refine W_seq ?_
  refine W_rseq ?_
  refine op_fieldAddr rfl fo_116_1_TrE rfl ?_
  refine op_ldb rfl ag_114_TrE rfl H (by first | exact at0 | exact at1 | exact at2 | exact at3 | exact at4 | exact at5 | exact at6 | exact at7 | exact at8 | exact at9) rfl ?_
  refine op_len rfl el_114_TrE rfl ?_
  refine op_move rfl (.int _ _) rfl ?_
  refine op_nil (at_then ?_)
  refine W_block ?_
  obtain ⟨wb, rfl⟩ : ∃ wb, wb = w := ⟨_, rfl⟩
  have hb1 := H.get at0
  have hxb := H.ext
  have hnode : ∀ {z : World}, Ext [] wb z → z.heap[b1]? = some (Bl 116 (NB inner a n c)) := fun {z} h => by rw [h.block b1 (heap_lt hb1) (by simp)]; exact hb1
  refine W_loop 261908 (α := Nat) (fun i => [(8, .int .i64 (i : Int)), (2, .int .i64 (totalI inner (L.take i) : Int))]) (fun i w' => i ≤ n ∧ Ext [] wb w') (fun i => n - i) 0 rfl ?_ ?_ ?_
  · exact ⟨rfl, rfl, trivial⟩
  · exact ⟨Nat.zero_le _, .refl _ _⟩
  · rintro i j w ⟨hi, hx⟩
    have H := Ctx.start w []
    refine W_rseq ?_
    refine op_lss rfl rfl rfl ?_
    refine op_nil (at_then ?_)
    refine W_seq ?_
    refine W_cond _ rfl ?_ ?_
    · intro h1
      replace h1 := dec_t h1
      obtain ⟨x, hx1⟩ := get_some (l := ms) (i := i) (by omega)
      have hxL := Im.at hl hx1
      have hxo := hok x (List.mem_of_getElem? hx1)
      have hxs := hsz x.it (List.mem_of_getElem? hxL)
      have hts := total_snoc (inner := inner) hxL
      have htl := total_le (inner := inner) (L := L.take i) fun y hy => hsz y (List.mem_of_mem_take hy)
      have hlt := List.length_take (i := i) (l := L)
      have hsx : sizeI inner x.it ≤ 131076 := by
        cases inner
        · simp only [sizeI, cond_false]; omega
        · simp only [sizeI, cond_true]; omega
      refine W_skip (at_then ?_)
      refine W_seq ?_
      refine W_block ?_
      refine W_rseq ?_
      first | refine op_indexRd R rfl el_114_TrE sz_120_TrE rfl rfl (by omega) (by omega) (by first | rfl | omega) ?_ | refine op_indexAddr rfl el_114_TrE sz_120_TrE rfl rfl (by omega) (by omega) ?_
      refine op_ldN x.enc rfl ag_120_TrE sz_120_TrE rfl rfl ((R.ext0 (hxb.trans hx)).row hx1 rfl) ?_
      refine op_alloc rfl zc_120_TrE H ?_
      rintro b4 w - H
      refine op_stb0 rfl sz_120_TrE rfl rfl rfl (by first | exact Im.oneE _ | simp [oneCell]) H (by first | exact at0 | exact at1 | exact at2 | exact at3 | exact at4 | exact at5 | exact at6 | exact at7 | exact at8 | exact at9) rfl ?_
      rintro w H
      refine op_nil (at_then ?_)
      refine W_region ?_
      refine op_move rfl (.int _ _) rfl ?_
      refine op_ldN (NB inner a n c) rfl ag_116_TrE sz_116_TrE rfl rfl (fun j v hv => by rw [cell_bl (hnode (hx.trans H.ext)), Nat.zero_add]; exact hv) ?_
      refine op_ldbN rfl ag_120_TrE sz_120_TrE rfl H (by first | exact at0 | exact at1 | exact at2 | exact at3 | exact at4 | exact at5 | exact at6 | exact at7 | exact at8 | exact at9) rfl ?_
      refine op_call rfl ca_138_TrE (size_ok7 inner a n c (hxo.call ((hxb.trans hx).trans H.ext)) (by omega) (by omega)) rfl ?_
      rintro v w ⟨rfl, hx15⟩
      replace H := H.call hx15
      refine op_add_i64 rfl rfl rfl (by omega) (by omega) ?_
      refine op_assign rfl (.int _ _) rfl ?_
      refine op_nil (at_block (at_then ?_))
      refine W_region ?_
      refine op_add_i64 rfl rfl rfl (by omega) (by omega) ?_
      refine op_move rfl (.int _ _) rfl ?_
      refine op_nil (at_then ?_)
      exact ⟨i + 1, rfl, ⟨rfl, congrArg (Value.int .i64) (by rw [hts]; rfl), trivial⟩, ⟨by omega, hx.trans H.ext⟩, by omega⟩
    · intro h1
      replace h1 := dec_f h1
      have hii : i = n := by omega
      subst hii
      rw [hnum, List.take_length]
      refine W_exit (exit_then (exit_then (exit_here (at_then ?_))))
      refine W_rseq ?_
      refine op_move rfl (.int _ _) rfl ?_
      refine op_assign rfl (.int _ _) rfl ?_
      refine op_nil (at_then ?_)
      refine W_ret (leave1 (v := (.int _ _)) rfl rfl rfl ?_)
      exact ⟨rfl, hxb.trans hx⟩

/-! ### Byte strings -/
theorem putB2 (l : Byt) (n : Nat) : putB l n 2 = l ++ putN n 2 := by rw [putB, show sizeB 2 = true by decide]; rfl
set_option maxRecDepth 20000 in
theorem putBytes_ok (a : Option Addr) (c m : Nat) (b : Byt) (sa : Option Addr) (sc sn : Nat) (s : Byt) (w : World) (R : Rd w a 1 B8 b) (hb : b.length = m) (hm : m ≤ 1000000000) (Rs : Rd w sa 1 B8 s) (hs : s.length = sn) (hn : sn ≤ 65535) (hc : sn ≤ sc) :
    Ret Tryz.prog 154 #[.slice a m c, .slice sa sn sc] w fun v w' => ∃ x, v = .tuple #[x, .int .i64 0] ∧ Fresh w w' 5 1 x ((b ++ (putN s.length 2 ++ s)).map bv) := by
  subst hb hs
  obtain ⟨w0, rfl⟩ : ∃ w0, w0 = w := ⟨_, rfl⟩
  refine ret_of_W (fn := Tryz.f154) Tryz.func154 rfl [.slice a b.length c, .slice sa s.length sc] rfl (by kernel_rfl) ?_
  refine W_rseq ?_
  refine op_assign rfl (.slice _ _ _) rfl ?_
  refine op_assign rfl (.int _ _) rfl ?_
  refine op_nil (at_then ?_)
  refine W_seq ?_
  refine W_rseq ?_
  refine op_move rfl (.slice _ _ _) rfl ?_
  refine op_len rfl el_23 rfl ?_
  refine op_gtr rfl rfl rfl ?_
  rw [decide_eq_false (show ¬ (65535 : Int) < (s.length : Int) by omega)]
  refine op_nil (at_then ?_)
  refine W_cond0 rfl ?_
  refine W_skip (at_then ?_)
  refine W_rseq ?_
  refine op_move rfl (.slice _ _ _) rfl ?_
  refine op_move rfl (.slice _ _ _) rfl ?_
  refine op_len rfl el_23 rfl ?_
  refine op_conv_u64 rfl rfl un_3 un_152 (by omega) (by omega) ?_
  refine op_call rfl ca_152 (put_ok a c _ b s.length 2 _ R rfl (by omega) (by omega)) rfl ?_
  rintro v w F13
  rw [putB2] at F13
  obtain ⟨a13, c13, rfl, R13, hc13⟩ := Fresh.rdB F13
  have H := Ctx.start w []
  refine op_move rfl (.slice _ _ _) rfl ?_
  refine op_buildL (L := []) [.slice a13 (b ++ putN s.length 2).length c13, .slice sa s.length sc] rfl el_141 sz_23 zc_23 (by decide) (by decide) (by kernel_rfl) H ?_
  rintro b15 w2 - H
  have hl2 : (([(a13, b ++ putN s.length 2, c13), (sa, s, sc)] : List SB).map fun x => x.2.1.length).sum = b.length + 2 + s.length := (by simp [putN_len]; try omega)
  refine op_call rfl ca_192_TrE (concatB_ok [(a13, b ++ putN s.length 2, c13), (sa, s, sc)] (Rd.of_bl (r := []) (H.get at0) rfl (fun _ _ => rfl)) (fun x hx => ?_) rfl (by simp) (by omega)) rfl ?_
  rotate_left
  rintro v w3 F16
  obtain ⟨a16, c16, rfl, R16, hc16⟩ := Fresh.rdB F16
  refine op_assign rfl (.slice _ _ _) rfl ?_
  refine op_assign rfl (.int _ _) rfl ?_
  refine op_nil (at_then ?_)
  refine W_ret (leave2 (v1 := (.slice _ _ _)) (v2 := (.int _ _)) rfl rfl rfl rfl ?_)
  · refine ⟨_, rfl, ?_⟩
    have F := Fresh.since F16 (F13.ext.trans H.ext)
    simpa using F
  · rcases List.mem_cons.1 hx with rfl | hx
    · exact ⟨R13.ext0 H.ext, hc13⟩
    · rw [List.mem_singleton.1 hx]
      exact ⟨(Rs.ext0 F13.ext).ext0 H.ext, hc⟩

theorem take_uniN (b : Byt) (at' k : Nat) : ∃ (g nx : Nat), takeV b (at' : Int) (k : Int) = .tuple #[.int .u64 (g : Int), .int .i64 (nx : Int), .int .i64 (takeE b (at' : Int) (k : Int))] ∧ g < 256 ^ k ∧ nx ≤ at' + k ∧ (takeE b (at' : Int) (k : Int) = 0 → g = numN ((b.drop at').take k) ∧ nx = at' + k) := by
  by_cases h : takeE b (at' : Int) (k : Int) = 0
  · refine ⟨numN ((b.drop at').take k), at' + k, ?_, ?_, Nat.le_refl _, fun _ => ⟨rfl, rfl⟩⟩
    · rw [takeV, h]; rfl
    · have h1 := numN_lt ((b.drop at').take k)
      have h2 : ((b.drop at').take k).length ≤ k := by rw [List.length_take]; omega
      exact Nat.lt_of_lt_of_le h1 (Nat.pow_le_pow_right (by omega) h2)
  · refine ⟨0, 0, ?_, Nat.pow_pos (by omega), by omega, fun h' => absurd h' h⟩
    rw [takeV, decide_eq_false h]; rfl

theorem take_uni2 (b : Byt) (at' : Nat) : ∃ (g nx : Nat), takeV b (at' : Int) 2 = .tuple #[.int .u64 (g : Int), .int .i64 (nx : Int), .int .i64 (takeE b (at' : Int) 2)] ∧ g < 65536 ∧ nx ≤ at' + 2 ∧ (takeE b (at' : Int) 2 = 0 → g = numN ((b.drop at').take 2) ∧ nx = at' + 2) := take_uniN b at' 2
theorem take_uni4 (b : Byt) (at' : Nat) : ∃ (g nx : Nat), takeV b (at' : Int) 4 = .tuple #[.int .u64 (g : Int), .int .i64 (nx : Int), .int .i64 (takeE b (at' : Int) 4)] ∧ g < 4294967296 ∧ nx ≤ at' + 4 ∧ (takeE b (at' : Int) 4 = 0 → g = numN ((b.drop at').take 4) ∧ nx = at' + 4) := take_uniN b at' 4

set_option maxRecDepth 20000 in
set_option maxHeartbeats 1000000 in
theorem takeBytes_ok (a : Option Addr) (c m : Nat) (b : Byt) (at' : Nat) (w : World) (R : Rd w a 1 B8 b) (hb : b.length = m) (hm : m ≤ 1000000000) (hc : m ≤ c) (ha : at' ≤ 1000000000) :
    Ret Tryz.prog 161 #[.slice a m c, .int .i64 (at' : Int)] w fun v w' => ∃ sa s sc nx e, v = .tuple #[.slice sa (List.length s) sc, .int .i64 ((nx : Nat) : Int), .int .i64 e] ∧ Ext [] w w' ∧ Rdx w' (Old w) sa s ∧ s.length ≤ sc ∧ s.length ≤ b.length ∧ nx ≤ b.length ∧ (e = 0 → tbO b at' = some (s, nx)) ∧ (e ≠ 0 → tbO b at' = none ∧ s = []) := by
  subst hb
  obtain ⟨w0, rfl⟩ : ∃ w0, w0 = w := ⟨_, rfl⟩
  obtain ⟨g, nx, htv, hg, hnx, h0⟩ := take_uni2 b at'
  refine ret_of_W (fn := Tryz.f161) Tryz.func161 rfl [.slice a b.length c, .int .i64 (at' : Int)] rfl (by kernel_rfl) ?_
  refine W_rseq ?_
  refine op_assign rfl (.slice _ _ _) rfl ?_
  refine op_assign rfl (.int _ _) rfl ?_
  refine op_assign rfl (.int _ _) rfl ?_
  refine op_nil (at_then ?_)
  refine W_rseq ?_
  refine op_move rfl (.slice _ _ _) rfl ?_
  refine op_move rfl (.int _ _) rfl ?_
  refine op_call rfl ca_146 (otake_ok a c _ b (at' : Int) 2 _ R rfl (by omega) hc) rfl ?_
  rintro v w ⟨rfl, hx12⟩
  rw [htv]
  refine op_move rfl (.tuple _) rfl ?_
  refine op_extract rfl rfl rfl ?_
  refine op_extract rfl rfl rfl ?_
  refine op_extract rfl rfl rfl ?_
  refine op_assign rfl (.int _ _) rfl ?_
  refine op_assign rfl (.int _ _) rfl ?_
  refine op_assign rfl (.int _ _) rfl ?_
  refine op_nil (at_then ?_)
  refine W_seq ?_
  refine W_rseq ?_
  refine op_move rfl (.int _ _) rfl ?_
  refine op_neq rfl rfl rfl ?_
  refine op_nil (at_then ?_)
  refine W_cond _ rfl ?_ ?_
  · intro h1
    replace h1 := ndec_t h1
    have hn : tbO b at' = none := by unfold tbO; rw [if_neg h1]
    refine W_rseq ?_
    refine op_move rfl (.int _ _) rfl ?_
    refine op_assign rfl (.slice _ _ _) rfl ?_
    refine op_assign rfl (.int _ _) rfl ?_
    refine op_assign rfl (.int _ _) rfl ?_
    refine op_nil (at_then ?_)
    refine W_ret (ret_then (leave3 (v1 := (.slice _ _ _)) (v2 := (.int _ _)) (v3 := (.int _ _)) rfl rfl rfl rfl rfl ?_))
    exact ⟨none, [], 0, 0, _, rfl, hx12, Rdx.nil, Nat.le_refl _, Nat.zero_le _, Nat.zero_le _, fun h => absurd h h1, fun _ => ⟨hn, rfl⟩⟩
  · intro h1
    replace h1 := ndec_f h1
    obtain ⟨hg2, hnx2⟩ := h0 h1
    subst hnx2
    have ht : tbO b at' = if at' + 2 + g ≤ b.length then some ((b.drop (at' + 2)).take g, at' + 2 + g) else none := by unfold tbO; rw [if_pos h1, ← hg2]
    refine W_skip (at_then ?_)
    refine W_seq ?_
    refine W_rseq ?_
    refine op_move rfl (.int _ _) rfl ?_
    refine op_move rfl (.int _ _) rfl ?_
    refine op_conv_i64 rfl rfl un_152 un_3 (by omega) (by omega) ?_
    refine op_add_i64 rfl rfl rfl (by omega) (by omega) ?_
    rw [show ((at' + 2 : Nat) : Int) + (g : Int) = ((at' + 2 + g : Nat) : Int) by omega]
    refine op_assign rfl (.int _ _) rfl ?_
    refine op_nil (at_then ?_)
    refine W_rseq ?_
    refine op_move rfl (.int _ _) rfl ?_
    refine op_move rfl (.slice _ _ _) rfl ?_
    refine op_len rfl el_23 rfl ?_
    refine op_gtr rfl rfl rfl ?_
    refine op_nil (at_then ?_)
    refine W_cond _ rfl ?_ ?_
    · intro h2
      replace h2 := dec_t h2
      rw [if_neg (by omega)] at ht
      refine W_rseq ?_
      refine op_assign rfl (.slice _ _ _) rfl ?_
      refine op_assign rfl (.int _ _) rfl ?_
      refine op_assign rfl (.int _ _) rfl ?_
      refine op_nil (at_then ?_)
      refine W_ret (ret_then (leave3 (v1 := (.slice _ _ _)) (v2 := (.int _ _)) (v3 := (.int _ _)) rfl rfl rfl rfl rfl ?_))
      exact ⟨none, [], 0, 0, 5, rfl, hx12, Rdx.nil, Nat.le_refl _, Nat.zero_le _, Nat.zero_le _, fun h => absurd h (by decide), fun _ => ⟨ht, rfl⟩⟩
    · intro h2
      replace h2 := dec_f h2
      rw [if_pos (by omega)] at ht
      have R2 : Rd w (cutA a c (at' + 2) 1) 1 B8 ((b.drop (at' + 2)).take g) := ((R.ext0 hx12).cut (at' + 2) c hc).take g
      have hl2 : ((b.drop (at' + 2)).take g).length = g := by rw [List.length_take, List.length_drop]; omega
      refine W_skip (at_then ?_)
      refine W_rseq ?_
      refine op_move rfl (.slice _ _ _) rfl ?_
      refine op_move rfl (.int _ _) rfl ?_
      refine op_move rfl (.int _ _) rfl ?_
      refine op_slice_lohi rfl el_23 sz_5 rfl rfl rfl (by omega) (by omega) (by omega) ?_
      rw [Int.toNat_natCast, Int.toNat_natCast, show at' + 2 + g - (at' + 2) = g by omega]
      refine op_call rfl ca_119 (clone_ok _ _ g _ _ R2 hl2 (by omega)) rfl ?_
      rintro v w3 ⟨F31, -⟩
      obtain ⟨a31, c31, rfl, R31, hc31, hn31⟩ := Fresh.newB F31
      refine op_move rfl (.int _ _) rfl ?_
      refine op_assign rfl (.slice _ _ _) rfl ?_
      refine op_assign rfl (.int _ _) rfl ?_
      refine op_assign rfl (.int _ _) rfl ?_
      refine op_nil (at_then ?_)
      refine W_ret (leave3 (v1 := (.slice _ _ _)) (v2 := (.int _ _)) (v3 := (.int _ _)) rfl rfl rfl rfl rfl ?_)
      have hsz := hx12.size
      exact ⟨a31, _, c31, at' + 2 + g, 0, rfl, hx12.trans F31.ext, ⟨R31, hn31.imp id fun h h2 => by unfold Old at h2; omega⟩, hc31, by rw [hl2]; omega, by omega, fun _ => ht, fun h => absurd rfl h⟩

end Go.Proofs.YtbkadlngijkmmaaGreatDoor

/- Nodes as bytes, taken off and put on. -/
namespace Go.Proofs.YtbkadlngijkmmaaGreatDoor
open Go.GV
theorem ag_120_TrF : aggB Tryz.prog 120 = some true := by kernel_rfl
theorem ca_161_TrF : callable Tryz.prog 161 = true := by kernel_rfl
theorem fo_120_0_TrF : fieldO Tryz.prog 120 0 = some 0 := by kernel_rfl
theorem fo_120_1_TrF : fieldO Tryz.prog 120 1 = some 1 := by kernel_rfl
theorem fo_120_2_TrF : fieldO Tryz.prog 120 2 = some 2 := by kernel_rfl
theorem sz_120_TrF : tsize Tryz.prog 120 = some 3 := by kernel_rfl
theorem zc_120_TrF : zcells Tryz.prog 120 = some ([.slice none 0 0, .slice none 0 0, .int .i64 0]) := by kernel_rfl
attribute [local irreducible] Wops W Wq Wt

theorem Old.mono {w w' : World} {S : List Nat} (hx : Ext S w w') : ∀ x, Old w x → Old w' x := fun _ h => Nat.lt_of_lt_of_le h hx.size
set_option maxRecDepth 20000 in
set_option maxHeartbeats 2000000 in
theorem one_ok (inner : Bool) (a : Option Addr) (c m : Nat) (b : Byt) (at' : Nat) (w : World) (R : Rd w a 1 B8 b) (hb : b.length = m) (hm : m ≤ 100000000) (hc : m ≤ c) (ha : at' ≤ 100000000) :
    Ret Tryz.prog 167 #[.bool inner, .slice a m c, .int .i64 (at' : Int)] w fun v w' => ∃ (x : Im) (nx : Nat) (e : Int), v = .tuple #[.agg x.enc.toArray, .int .i64 (nx : Int), .int .i64 e] ∧ Ext [] w w' ∧ x.Ok w' (Old w) ∧ nx ≤ b.length ∧ x.it.key.length ≤ b.length ∧ x.it.val.length ≤ b.length ∧ x.it.page < 4294967296 ∧ (e = 0 → oneO inner b at' = some (x.it, nx)) ∧ (e ≠ 0 → oneO inner b at' = none) := by
  subst hb
  obtain ⟨w0, rfl⟩ : ∃ w0, w0 = w := ⟨_, rfl⟩
  have H := Ctx.start w0 []
  refine ret_of_W (fn := Tryz.f167) Tryz.func167 rfl [.bool inner, .slice a b.length c, .int .i64 (at' : Int)] rfl (by kernel_rfl) ?_
  refine W_rseq ?_
  refine op_alloc rfl zc_120_TrF H ?_
  rintro b6 w - H
  refine op_assign rfl (.int _ _) rfl ?_
  refine op_assign rfl (.int _ _) rfl ?_
  refine op_nil (at_then ?_)
  refine W_seq ?_
  refine W_rseq ?_
  refine op_move rfl (.bool _) rfl ?_
  refine op_nil (at_then ?_)
  refine W_cond _ rfl ?_ ?_
  · intro hi
    subst hi
    obtain ⟨g, nx, htv, hg, hnx, h0⟩ := take_uni4 b at'
    refine W_rseq ?_
    refine op_move rfl (.slice _ _ _) rfl ?_
    refine op_move rfl (.int _ _) rfl ?_
    refine op_call rfl ca_146 (otake_ok a c _ b (at' : Int) 4 _ (R.ext0 H.ext) rfl (by omega) hc) rfl ?_
    rintro v w ⟨rfl, hx16⟩
    rw [htv]
    replace H := H.call hx16
    refine op_move rfl (.tuple _) rfl ?_
    refine op_extract rfl rfl rfl ?_
    refine op_extract rfl rfl rfl ?_
    refine op_extract rfl rfl rfl ?_
    refine op_assign rfl (.int _ _) rfl ?_
    refine op_assign rfl (.int _ _) rfl ?_
    refine op_assign rfl (.int _ _) rfl ?_
    refine op_nil (at_then ?_)
    refine W_seq ?_
    refine W_rseq ?_
    refine op_move rfl (.int _ _) rfl ?_
    refine op_neq rfl rfl rfl ?_
    refine op_nil (at_then ?_)
    refine W_cond _ rfl ?_ ?_
    · intro h1
      replace h1 := ndec_t h1
      refine W_rseq ?_
      refine op_ldbN rfl ag_120_TrF sz_120_TrF rfl H (by first | exact at0 | exact at1 | exact at2 | exact at3 | exact at4 | exact at5 | exact at6 | exact at7 | exact at8 | exact at9) rfl ?_
      refine op_move rfl (.int _ _) rfl ?_
      refine op_stb0 rfl sz_120_TrF rfl rfl rfl (by simp [oneCell]) H (by first | exact at0 | exact at1 | exact at2 | exact at3 | exact at4 | exact at5 | exact at6 | exact at7 | exact at8 | exact at9) rfl ?_
      rintro w H
      refine op_assign rfl (.int _ _) rfl ?_
      refine op_assign rfl (.int _ _) rfl ?_
      refine op_nil (at_then ?_)
      refine W_ret (ret_then (ret_then (leave3b rfl rfl rfl ag_120_TrF sz_120_TrF H (by first | exact at0 | exact at1 | exact at2 | exact at3 | exact at4 | exact at5 | exact at6 | exact at7 | exact at8 | exact at9) rfl (show _ = (.int _ _) from rfl) (show _ = (.int _ _) from rfl) ?_)))
      refine ⟨⟨none, 0, none, 0, ⟨[], [], 0⟩⟩, 0, _, rfl, H.ext, ⟨Rdx.nil, Rdx.nil, Nat.le_refl _, Nat.le_refl _⟩, Nat.zero_le _, Nat.zero_le _, Nat.zero_le _, by decide, fun h => absurd h h1, fun _ => ?_⟩
      unfold oneO
      rw [if_pos rfl, if_neg h1]
    · intro h1
      replace h1 := ndec_f h1
      obtain ⟨hg2, hnx2⟩ := h0 h1
      subst hnx2
      refine W_skip (at_then ?_)
      refine W_region ?_
      refine op_move rfl (.int _ _) rfl ?_
      refine op_conv_i64 rfl rfl un_152 un_3 (by omega) (by omega) ?_
      refine op_move rfl (.int _ _) rfl ?_
      refine op_fieldAddr rfl fo_120_2_TrF rfl ?_
      refine op_stb (.int _ _) rfl sz_3 rfl rfl rfl H (by first | exact at0 | exact at1 | exact at2 | exact at3 | exact at4 | exact at5 | exact at6 | exact at7 | exact at8 | exact at9) (by first | decide | (simp; done) | (simp; omega)) ?_
      rintro w H
      refine op_assign rfl (.int _ _) rfl ?_
      refine op_nil (at_then ?_)
      refine W_rseq ?_
      refine op_move rfl (.slice _ _ _) rfl ?_
      refine op_move rfl (.int _ _) rfl ?_
      refine op_call rfl ca_161_TrF (takeBytes_ok a c _ b (at' + 4) _ (R.ext0 H.ext) rfl (by omega) hc (by omega)) rfl ?_
      have hxw := H.ext
      have hb6 := H.lt (k := 0) rfl
      rintro v w3 ⟨sa, s, sc, ny, e, rfl, hx31, X31, hsc, hsl, hny, he0, he1⟩
      have Hold := H.call hx31
      replace H := Ctx.startL (fun x hx => Hold.blk x hx) Hold.nd
      have hge := (Hold.own _ (List.mem_cons_self ..)).elim (fun h => by cases h) id
      refine op_move rfl (.tuple _) rfl ?_
      refine op_extract rfl rfl rfl ?_
      refine op_extract rfl rfl rfl ?_
      refine op_extract rfl rfl rfl ?_
      refine op_fieldAddr rfl fo_120_0_TrF rfl ?_
      refine op_stb (.slice _ _ _) rfl sz_23 rfl rfl rfl H (by first | exact at0 | exact at1 | exact at2 | exact at3 | exact at4 | exact at5 | exact at6 | exact at7 | exact at8 | exact at9) (by first | decide | (simp; done) | (simp; omega)) ?_
      rintro w H
      refine op_assign rfl (.int _ _) rfl ?_
      refine op_assign rfl (.int _ _) rfl ?_
      refine op_nil (at_then ?_)
      refine W_seq ?_
      refine W_rseq ?_
      refine op_move rfl (.int _ _) rfl ?_
      refine op_eql rfl rfl rfl ?_
      refine op_move rfl (.bool _) rfl ?_
      refine Wops_split 38 rfl ?_ ?_
      · intro h2
        replace h2 := dec_t h2
        refine op_move rfl (.bool _) rfl ?_
        refine op_not rfl rfl ?_
        refine op_pick1 rfl rfl (.bool _) rfl ?_
        refine op_nil (at_then ?_)
        refine W_cond0 rfl ?_
        refine W_skip (at_then ?_)
        refine W_rseq ?_
        refine op_ldbN rfl ag_120_TrF sz_120_TrF rfl H (by first | exact at0 | exact at1 | exact at2 | exact at3 | exact at4 | exact at5 | exact at6 | exact at7 | exact at8 | exact at9) rfl ?_
        refine op_move rfl (.int _ _) rfl ?_
        refine op_move rfl (.int _ _) rfl ?_
        refine op_stb0 rfl sz_120_TrF rfl rfl rfl (by simp [oneCell]) H (by first | exact at0 | exact at1 | exact at2 | exact at3 | exact at4 | exact at5 | exact at6 | exact at7 | exact at8 | exact at9) rfl ?_
        rintro w H
        refine op_assign rfl (.int _ _) rfl ?_
        refine op_assign rfl (.int _ _) rfl ?_
        refine op_nil (at_then ?_)
        refine W_ret (leave3b rfl rfl rfl ag_120_TrF sz_120_TrF H (by first | exact at0 | exact at1 | exact at2 | exact at3 | exact at4 | exact at5 | exact at6 | exact at7 | exact at8 | exact at9) rfl (show _ = (.int _ _) from rfl) (show _ = (.int _ _) from rfl) ?_)
        have X := (X31.past H.ext (fun x hx => by rw [List.mem_singleton.1 hx]; exact hb6)).weak (Old.mono hxw)
        refine ⟨⟨sa, sc, none, 0, ⟨s, [], g⟩⟩, ny, e, rfl, Hold.ext.then H.ext (fun x hx => .inr (by rw [List.mem_singleton.1 hx]; exact hge)), ⟨X, Rdx.nil, hsc, Nat.le_refl _⟩, hny, hsl, Nat.zero_le _, hg, fun h => ?_, fun h => absurd h2 h⟩
        unfold oneO
        rw [if_pos rfl, if_pos h1, he0 h, ← hg2]
      · intro h2
        replace h2 := dec_f h2
        refine op_skip rfl ?_
        refine op_skip rfl ?_
        refine op_pick0 rfl rfl (.bool _) rfl ?_
        refine op_nil (at_then ?_)
        refine W_cond0 rfl ?_
        refine W_skip (at_then ?_)
        refine W_rseq ?_
        refine op_ldbN rfl ag_120_TrF sz_120_TrF rfl H (by first | exact at0 | exact at1 | exact at2 | exact at3 | exact at4 | exact at5 | exact at6 | exact at7 | exact at8 | exact at9) rfl ?_
        refine op_move rfl (.int _ _) rfl ?_
        refine op_move rfl (.int _ _) rfl ?_
        refine op_stb0 rfl sz_120_TrF rfl rfl rfl (by simp [oneCell]) H (by first | exact at0 | exact at1 | exact at2 | exact at3 | exact at4 | exact at5 | exact at6 | exact at7 | exact at8 | exact at9) rfl ?_
        rintro w H
        refine op_assign rfl (.int _ _) rfl ?_
        refine op_assign rfl (.int _ _) rfl ?_
        refine op_nil (at_then ?_)
        refine W_ret (leave3b rfl rfl rfl ag_120_TrF sz_120_TrF H (by first | exact at0 | exact at1 | exact at2 | exact at3 | exact at4 | exact at5 | exact at6 | exact at7 | exact at8 | exact at9) rfl (show _ = (.int _ _) from rfl) (show _ = (.int _ _) from rfl) ?_)
        have X := (X31.past H.ext (fun x hx => by rw [List.mem_singleton.1 hx]; exact hb6)).weak (Old.mono hxw)
        refine ⟨⟨sa, sc, none, 0, ⟨s, [], g⟩⟩, ny, e, rfl, Hold.ext.then H.ext (fun x hx => .inr (by rw [List.mem_singleton.1 hx]; exact hge)), ⟨X, Rdx.nil, hsc, Nat.le_refl _⟩, hny, hsl, Nat.zero_le _, hg, fun h => absurd h h2, fun _ => ?_⟩
        unfold oneO
        rw [if_pos rfl, if_pos h1, (he1 h2).1]
  · intro hi
    subst hi
    refine W_skip (at_then ?_)
    refine W_rseq ?_
    refine op_move rfl (.slice _ _ _) rfl ?_
    refine op_move rfl (.int _ _) rfl ?_
    refine op_call rfl ca_161_TrF (takeBytes_ok a c _ b at' _ (R.ext0 H.ext) rfl (by omega) hc (by omega)) rfl ?_
    have hxw := H.ext
    have hb6 := H.lt (k := 0) rfl
    rintro v w3 ⟨sa, s, sc, ny, e, rfl, hx31, X31, hsc, hsl, hny, he0, he1⟩
    have Hold := H.call hx31
    replace H := Ctx.startL (fun x hx => Hold.blk x hx) Hold.nd
    have hge := (Hold.own _ (List.mem_cons_self ..)).elim (fun h => by cases h) id
    refine op_move rfl (.tuple _) rfl ?_
    refine op_extract rfl rfl rfl ?_
    refine op_extract rfl rfl rfl ?_
    refine op_extract rfl rfl rfl ?_
    refine op_fieldAddr rfl fo_120_0_TrF rfl ?_
    refine op_stb (.slice _ _ _) rfl sz_23 rfl rfl rfl H (by first | exact at0 | exact at1 | exact at2 | exact at3 | exact at4 | exact at5 | exact at6 | exact at7 | exact at8 | exact at9) (by first | decide | (simp; done) | (simp; omega)) ?_
    rintro w H
    refine op_assign rfl (.int _ _) rfl ?_
    refine op_assign rfl (.int _ _) rfl ?_
    refine op_nil (at_then ?_)
    refine W_seq ?_
    refine W_rseq ?_
    refine op_move rfl (.int _ _) rfl ?_
    refine op_eql rfl rfl rfl ?_
    refine op_move rfl (.bool _) rfl ?_
    refine Wops_split 38 rfl ?_ ?_
    · intro h2
      replace h2 := dec_t h2
      have hx3 := Hold.ext
      refine op_move rfl (.bool _) rfl ?_
      refine op_not rfl rfl ?_
      refine op_pick1 rfl rfl (.bool _) rfl ?_
      refine op_nil (at_then ?_)
      refine W_cond1 rfl ?_
      refine W_region ?_
      refine op_move rfl (.slice _ _ _) rfl ?_
      refine op_move rfl (.int _ _) rfl ?_
      have hE0 : Ext [] w0 _ := Hold.ext.then H.ext (fun x hx => .inr (by rw [List.mem_singleton.1 hx]; exact hge))
      refine op_call rfl ca_161_TrF (takeBytes_ok a c _ b ny _ (R.ext0 hE0) rfl (by omega) hc (by omega)) rfl ?_
      have hb6b := H.lt (k := 0) rfl
      rintro v w5 ⟨va, t, vc, nz, e2, rfl, hx45, X45, hvc, hvl, hnz, hf0, hf1⟩
      have Hold2 := H.call hx45
      replace H := Ctx.startL (fun x hx => Hold2.blk x hx) Hold2.nd
      refine op_move rfl (.tuple _) rfl ?_
      refine op_extract rfl rfl rfl ?_
      refine op_extract rfl rfl rfl ?_
      refine op_extract rfl rfl rfl ?_
      refine op_fieldAddr rfl fo_120_1_TrF rfl ?_
      refine op_stb (.slice _ _ _) rfl sz_23 rfl rfl rfl H (by first | exact at0 | exact at1 | exact at2 | exact at3 | exact at4 | exact at5 | exact at6 | exact at7 | exact at8 | exact at9) (by first | decide | (simp; done) | (simp; omega)) ?_
      rintro w H
      refine op_assign rfl (.int _ _) rfl ?_
      refine op_assign rfl (.int _ _) rfl ?_
      refine op_nil (at_then ?_)
      refine W_rseq ?_
      refine op_ldbN rfl ag_120_TrF sz_120_TrF rfl H (by first | exact at0 | exact at1 | exact at2 | exact at3 | exact at4 | exact at5 | exact at6 | exact at7 | exact at8 | exact at9) rfl ?_
      refine op_move rfl (.int _ _) rfl ?_
      refine op_move rfl (.int _ _) rfl ?_
      refine op_stb0 rfl sz_120_TrF rfl rfl rfl (by simp [oneCell]) H (by first | exact at0 | exact at1 | exact at2 | exact at3 | exact at4 | exact at5 | exact at6 | exact at7 | exact at8 | exact at9) rfl ?_
      rintro w H
      refine op_assign rfl (.int _ _) rfl ?_
      refine op_assign rfl (.int _ _) rfl ?_
      refine op_nil (at_then ?_)
      refine W_ret (leave3b rfl rfl rfl ag_120_TrF sz_120_TrF H (by first | exact at0 | exact at1 | exact at2 | exact at3 | exact at4 | exact at5 | exact at6 | exact at7 | exact at8 | exact at9) rfl (show _ = (.int _ _) from rfl) (show _ = (.int _ _) from rfl) ?_)
      have X1 := ((X31.past Hold2.ext (fun x hx => by rw [List.mem_singleton.1 hx]; exact hb6)).past H.ext (fun x hx => by rw [List.mem_singleton.1 hx]; exact hb6)).weak (Old.mono hxw)
      have X2 := (X45.past H.ext (fun x hx => by rw [List.mem_singleton.1 hx]; exact hb6b)).weak (Old.mono hE0)
      refine ⟨⟨sa, sc, va, vc, ⟨s, t, 0⟩⟩, nz, e2, rfl, (Hold.ext.then Hold2.ext (fun x hx => .inr (by rw [List.mem_singleton.1 hx]; exact hge))).then H.ext (fun x hx => .inr (by rw [List.mem_singleton.1 hx]; exact hge)), ⟨X1, X2, hsc, hvc⟩, hnz, hsl, hvl, (by show 0 < 4294967296; decide), fun h => ?_, fun h => ?_⟩
      · unfold oneO
        rw [if_neg (by simp), he0 h2]
        simp only [hf0 h]
      · unfold oneO
        rw [if_neg (by simp), he0 h2]
        simp only [(hf1 h).1]
    · intro h2
      replace h2 := dec_f h2
      refine op_skip rfl ?_
      refine op_skip rfl ?_
      refine op_pick0 rfl rfl (.bool _) rfl ?_
      refine op_nil (at_then ?_)
      refine W_cond0 rfl ?_
      refine W_skip (at_then ?_)
      refine W_rseq ?_
      refine op_ldbN rfl ag_120_TrF sz_120_TrF rfl H (by first | exact at0 | exact at1 | exact at2 | exact at3 | exact at4 | exact at5 | exact at6 | exact at7 | exact at8 | exact at9) rfl ?_
      refine op_move rfl (.int _ _) rfl ?_
      refine op_move rfl (.int _ _) rfl ?_
      refine op_stb0 rfl sz_120_TrF rfl rfl rfl (by simp [oneCell]) H (by first | exact at0 | exact at1 | exact at2 | exact at3 | exact at4 | exact at5 | exact at6 | exact at7 | exact at8 | exact at9) rfl ?_
      rintro w H
      refine op_assign rfl (.int _ _) rfl ?_
      refine op_assign rfl (.int _ _) rfl ?_
      refine op_nil (at_then ?_)
      refine W_ret (leave3b rfl rfl rfl ag_120_TrF sz_120_TrF H (by first | exact at0 | exact at1 | exact at2 | exact at3 | exact at4 | exact at5 | exact at6 | exact at7 | exact at8 | exact at9) rfl (show _ = (.int _ _) from rfl) (show _ = (.int _ _) from rfl) ?_)
      have X := (X31.past H.ext (fun x hx => by rw [List.mem_singleton.1 hx]; exact hb6)).weak (Old.mono hxw)
      refine ⟨⟨sa, sc, none, 0, ⟨s, [], 0⟩⟩, ny, e, rfl, Hold.ext.then H.ext (fun x hx => .inr (by rw [List.mem_singleton.1 hx]; exact hge)), ⟨X, Rdx.nil, hsc, Nat.le_refl _⟩, hny, hsl, Nat.zero_le _, (by show 0 < 4294967296; decide), fun h => absurd h h2, fun _ => ?_⟩
      unfold oneO
      rw [if_neg (by simp), (he1 h2).1]

end Go.Proofs.YtbkadlngijkmmaaGreatDoor

/- Nodes as blocks: what the program does. -/
namespace Go.Proofs.YtbkadlngijkmmaaGreatDoor
open Go.GV
theorem ag_114_TrG : aggB Tryz.prog 114 = some false := by kernel_rfl
theorem ag_120_TrG : aggB Tryz.prog 120 = some true := by kernel_rfl
theorem ca_151_TrG : callable Tryz.prog 151 = true := by kernel_rfl
theorem ca_154_TrG : callable Tryz.prog 154 = true := by kernel_rfl
theorem el_114_TrG : elemT Tryz.prog 114 = some 120 := by kernel_rfl
theorem fo_116_0_TrG : fieldO Tryz.prog 116 0 = some 0 := by kernel_rfl
theorem fo_116_1_TrG : fieldO Tryz.prog 116 1 = some 1 := by kernel_rfl
theorem fo_120_0_TrG : fieldO Tryz.prog 120 0 = some 0 := by kernel_rfl
theorem fo_120_1_TrG : fieldO Tryz.prog 120 1 = some 1 := by kernel_rfl
theorem fo_120_2_TrG : fieldO Tryz.prog 120 2 = some 2 := by kernel_rfl
theorem sz_120_TrG : tsize Tryz.prog 120 = some 3 := by kernel_rfl
theorem zc_120_TrG : zcells Tryz.prog 120 = some ([.slice none 0 0, .slice none 0 0, .int .i64 0]) := by kernel_rfl
attribute [local irreducible] Wops W Wq Wt

theorem putB4N (l : Byt) (n : Nat) : putB l n 4 = l ++ putN n 4 := by rw [putB, show sizeB 4 = true by decide]; rfl
theorem kind_val (inner : Bool) (L : List It) (i : Nat) (hi : i = L.length) : Value.int .u8 (if inner = true ∧ 0 < i then 3 else 2) = bv (kindI inner L) := by
  subst hi
  unfold kindI bv
  cases inner with
  | false => rfl
  | true =>
    cases L with
    | nil => rfl
    | cons x L => simp

set_option maxRecDepth 20000 in
set_option maxHeartbeats 2000000 in
theorem bytes_ok {w : World} {M : Mut} (inner : Bool) {a : Option Addr} {n c : Nat} {L : List It} (I : Its w M a n c L) (hm : n ≤ 1000) (hsz : ∀ x ∈ L, x.key.length ≤ 65535 ∧ x.val.length ≤ 65535) (hpgs : ∀ x ∈ L, x.page < 9223372036854775808) :
    Ret Tryz.prog 140 #[.agg #[.bool inner, .slice a n c]] w fun v w' => SealPost (kindI inner L) (bodyI inner L) w v w' := by
  obtain ⟨w0, rfl⟩ : ∃ w0, w0 = w := ⟨_, rfl⟩
  have H := Ctx.start w0 []
  obtain ⟨ms, R, -, hl, hok⟩ := I.ex
  have hnum := I.num
  have hml : ms.length = n := by rw [hnum, ← hl, List.length_map]
  refine ret_of_W (fn := Tryz.f140) Tryz.func140 rfl [.agg #[.bool inner, .slice a n c]] rfl (by kernel_rfl) ?_
  refine W_rseq ?_
  refine op_box rfl (NB inner a n c) (.agg _) rfl rfl H ?_
  rintro b1 w - H
  refine op_assign rfl (.slice _ _ _) rfl ?_
  refine op_assign rfl (.int _ _) rfl ?_
  refine op_nil (at_then ?_)
  refine W_rseq ?_
  refine op_fieldAddr rfl fo_116_1_TrG rfl ?_
  refine op_ldb rfl ag_114_TrG rfl H (by first | exact at0 | exact at1 | exact at2 | exact at3 | exact at4 | exact at5 | exact at6 | exact at7 | exact at8 | exact at9) rfl ?_
  refine op_len rfl el_114_TrG rfl ?_
  refine op_conv_u64 rfl rfl un_3 un_152 (by omega) (by omega) ?_
  refine op_call rfl ca_152 (put_ok none 0 0 [] n 2 _ Rd.nil rfl (by decide) (by omega)) rfl ?_
  rintro v w F12
  rw [putB2, List.nil_append] at F12
  obtain ⟨a12, c12, rfl, R12, hc12⟩ := Fresh.rdB F12
  replace H := H.call F12.ext
  refine op_assign rfl (.slice _ _ _) rfl ?_
  refine op_assign rfl (.int _ _) rfl ?_
  refine op_nil (at_then ?_)
  refine W_seq ?_
  refine W_rseq ?_
  refine op_fieldAddr rfl fo_116_1_TrG rfl ?_
  refine op_ldb rfl ag_114_TrG rfl H (by first | exact at0 | exact at1 | exact at2 | exact at3 | exact at4 | exact at5 | exact at6 | exact at7 | exact at8 | exact at9) rfl ?_
  refine op_len rfl el_114_TrG rfl ?_
  refine op_move rfl (.int _ _) rfl ?_
  refine op_nil (at_then ?_)
  refine W_block ?_
  obtain ⟨wb, rfl⟩ : ∃ wb, wb = w := ⟨_, rfl⟩
  have hb1 := H.get at0
  have hxb := H.ext
  have hnode : ∀ {z : World}, Ext [] wb z → z.heap[b1]? = some (Bl 116 (NB inner a n c)) := fun {z} h => by rw [h.block b1 (heap_lt hb1) (by simp)]; exact hb1
  have hlen0 : (putN n 2).length = 2 := putN_len ..
  refine W_loop 35184372023472 (α := Nat × Option Addr × Nat) (fun s => [(16, .int .i64 (s.1 : Int)), (4, .slice s.2.1 (putN n 2 ++ (L.take s.1).flatMap (itemB inner)).length s.2.2), (5, .int .u8 (if inner = true ∧ 0 < s.1 then 3 else 2))]) (fun s w' => s.1 ≤ n ∧ Ext [] wb w' ∧ Rd w' s.2.1 1 B8 (putN n 2 ++ (L.take s.1).flatMap (itemB inner))) (fun s => n - s.1) (0, a12, c12) rfl ?_ ?_ ?_
  · exact ⟨rfl, congrArg (fun k => Value.slice a12 k c12) (show (putN n 2).length = _ by simp), congrArg (Value.int .u8) (show (2 : Int) = _ by simp), trivial⟩
  · exact ⟨Nat.zero_le _, .refl _ _, by simpa using R12⟩
  · rintro ⟨i, a4, c4⟩ j w ⟨hi, hx, R4⟩; dsimp only at hi hx R4; dsimp only
    have H := Ctx.start w []
    refine W_rseq ?_
    refine op_lss rfl rfl rfl ?_
    refine op_nil (at_then ?_)
    refine W_seq ?_
    refine W_cond _ rfl ?_ ?_
    · intro h1
      replace h1 := dec_t h1
      obtain ⟨x, hx1⟩ := get_some (l := ms) (i := i) (by omega)
      have hxL := Im.at hl hx1
      have hxo := hok x (List.mem_of_getElem? hx1)
      have hxs := hsz x.it (List.mem_of_getElem? hxL)
      have hfs : (L.take (i + 1)).flatMap (itemB inner) = (L.take i).flatMap (itemB inner) ++ itemB inner x.it := flat_snoc _ hxL
      have htl := total_le (inner := inner) (L := L.take i) fun y hy => hsz y (List.mem_of_mem_take hy)
      have hlt := List.length_take (i := i) (l := L)
      have hal : (putN n 2 ++ (L.take i).flatMap (itemB inner)).length = 2 + totalI inner (L.take i) := by rw [List.length_append, putN_len, flat_len]
      obtain ⟨acc, hacc⟩ : ∃ acc, acc = putN n 2 ++ (L.take i).flatMap (itemB inner) := ⟨_, rfl⟩
      rw [← hacc] at R4 hal ⊢
      have hpg : x.it.page < 9223372036854775808 := hpgs x.it (List.mem_of_getElem? hxL)
      refine W_skip (at_then ?_)
      refine W_seq ?_
      refine W_block ?_
      refine W_rseq ?_
      first | refine op_indexRd R rfl el_114_TrG sz_120_TrG rfl rfl (by omega) (by omega) (by first | rfl | omega) ?_ | refine op_indexAddr rfl el_114_TrG sz_120_TrG rfl rfl (by omega) (by omega) ?_
      refine op_ldN x.enc rfl ag_120_TrG sz_120_TrG rfl rfl ((R.ext0 (hxb.trans hx)).row hx1 rfl) ?_
      refine op_alloc rfl zc_120_TrG H ?_
      rintro b7 w - H
      refine op_stb0 rfl sz_120_TrG rfl rfl rfl (by first | exact Im.oneE _ | simp [oneCell]) H (by first | exact at0 | exact at1 | exact at2 | exact at3 | exact at4 | exact at5 | exact at6 | exact at7 | exact at8 | exact at9) rfl ?_
      rintro w H
      refine op_nil (at_then ?_)
      refine W_seq ?_
      refine W_rseq ?_
      refine op_fieldAddr rfl fo_116_0_TrG rfl ?_
      first | refine op_ldb rfl ag_4 rfl H (by first | exact at0 | exact at1 | exact at2 | exact at3 | exact at4 | exact at5 | exact at6 | exact at7 | exact at8 | exact at9) rfl ?_ | refine op_ld rfl ag_4 rfl (cell_bl (hnode (hx.trans H.ext)) (0 + 0)) ?_
      refine op_nil (at_then ?_)
      refine W_cond _ rfl ?_ ?_
      · intro h2
        refine W_rseq ?_
        refine op_assign rfl (.int _ _) rfl ?_
        refine op_nil (at_then ?_)
        refine W_region ?_
        refine op_move rfl (.slice _ _ _) rfl ?_
        refine op_fieldAddr rfl fo_120_2_TrG rfl ?_
        first | refine op_ldb rfl ag_3 rfl H (by first | exact at0 | exact at1 | exact at2 | exact at3 | exact at4 | exact at5 | exact at6 | exact at7 | exact at8 | exact at9) rfl ?_ | refine op_ld rfl ag_3 rfl (cell_bl (hnode (hx.trans H.ext)) (0 + 0)) ?_
        refine op_conv_u64 rfl rfl un_3 un_152 (by omega) (by omega) ?_
        refine op_call rfl ca_152 (put_ok a4 c4 _ acc x.it.page 4 _ (R4.ext0 H.ext) rfl (by omega) (by omega)) rfl ?_
        rintro v w F26
        rw [putB4N] at F26
        obtain ⟨a26, c26, rfl, R26, hc26⟩ := Fresh.rdB F26
        replace H := H.call F26.ext
        refine op_assign rfl (.slice _ _ _) rfl ?_
        refine op_nil (at_then ?_)
        refine W_rseq ?_
        refine op_move rfl (.slice _ _ _) rfl ?_
        refine op_fieldAddr rfl fo_120_0_TrG rfl ?_
        first | refine op_ldb rfl ag_23 rfl H (by first | exact at0 | exact at1 | exact at2 | exact at3 | exact at4 | exact at5 | exact at6 | exact at7 | exact at8 | exact at9) rfl ?_ | refine op_ld rfl ag_23 rfl (cell_bl (hnode (hx.trans H.ext)) (0 + 0)) ?_
        refine op_call rfl ca_154_TrG (putBytes_ok a26 c26 _ (acc ++ putN x.it.page 4) x.ka x.kc _ x.it.key _ R26 rfl (by rw [List.length_append, putN_len]; omega) (hxo.k.1.ext0 ((hxb.trans hx).trans H.ext)) rfl (by omega) hxo.kc) rfl ?_
        rintro v w ⟨y, rfl, F31⟩
        obtain ⟨a31, c31, rfl, R31, hc31⟩ := Fresh.rdB F31
        replace H := H.call F31.ext
        refine op_move rfl (.tuple _) rfl ?_
        refine op_extract rfl rfl rfl ?_
        refine op_extract rfl rfl rfl ?_
        refine op_assign rfl (.slice _ _ _) rfl ?_
        refine op_nil (at_then ?_)
        refine W_rseq ?_
        refine op_fieldAddr rfl fo_116_0_TrG rfl ?_
        first | refine op_ldb rfl ag_4 rfl H (by first | exact at0 | exact at1 | exact at2 | exact at3 | exact at4 | exact at5 | exact at6 | exact at7 | exact at8 | exact at9) rfl ?_ | refine op_ld rfl ag_4 rfl (cell_bl (hnode (hx.trans H.ext)) (0 + 0)) ?_
        refine op_not rfl rfl ?_
        rw [h2]
        refine op_nil (at_then ?_)
        refine W_cond0 rfl ?_
        refine W_skip (at_block (at_then ?_))
        refine W_region ?_
        refine op_add_i64 rfl rfl rfl (by omega) (by omega) ?_
        refine op_move rfl (.int _ _) rfl ?_
        refine op_nil (at_then ?_)
        have he : acc ++ putN x.it.page 4 ++ (putN x.it.key.length 2 ++ x.it.key) = putN n 2 ++ (L.take (i + 1)).flatMap (itemB true) := by
          rw [← h2, hfs, hacc, h2]; simp [itemB]
        rw [he] at R31
        refine ⟨(i + 1, a31, c31), rfl, ⟨rfl, congrArg (fun k => Value.slice a31 k c31) (congrArg List.length he), congrArg (Value.int .u8) (show (3 : Int) = _ by simp), trivial⟩, ⟨by dsimp only; omega, hx.trans H.ext, R31⟩, by dsimp only; omega⟩
      · intro h2
        refine W_skip (at_then ?_)
        refine W_rseq ?_
        refine op_move rfl (.slice _ _ _) rfl ?_
        refine op_fieldAddr rfl fo_120_0_TrG rfl ?_
        first | refine op_ldb rfl ag_23 rfl H (by first | exact at0 | exact at1 | exact at2 | exact at3 | exact at4 | exact at5 | exact at6 | exact at7 | exact at8 | exact at9) rfl ?_ | refine op_ld rfl ag_23 rfl (cell_bl (hnode (hx.trans H.ext)) (0 + 0)) ?_
        refine op_call rfl ca_154_TrG (putBytes_ok a4 c4 _ acc x.ka x.kc _ x.it.key _ (R4.ext0 H.ext) rfl (by omega) (hxo.k.1.ext0 ((hxb.trans hx).trans H.ext)) rfl (by omega) hxo.kc) rfl ?_
        rintro v w ⟨y, rfl, F31⟩
        obtain ⟨a31, c31, rfl, R31, hc31⟩ := Fresh.rdB F31
        replace H := H.call F31.ext
        refine op_move rfl (.tuple _) rfl ?_
        refine op_extract rfl rfl rfl ?_
        refine op_extract rfl rfl rfl ?_
        refine op_assign rfl (.slice _ _ _) rfl ?_
        refine op_nil (at_then ?_)
        refine W_rseq ?_
        refine op_fieldAddr rfl fo_116_0_TrG rfl ?_
        first | refine op_ldb rfl ag_4 rfl H (by first | exact at0 | exact at1 | exact at2 | exact at3 | exact at4 | exact at5 | exact at6 | exact at7 | exact at8 | exact at9) rfl ?_ | refine op_ld rfl ag_4 rfl (cell_bl (hnode (hx.trans H.ext)) (0 + 0)) ?_
        refine op_not rfl rfl ?_
        rw [h2]
        refine op_nil (at_then ?_)
        refine W_cond1 rfl ?_
        refine W_region ?_
        refine op_move rfl (.slice _ _ _) rfl ?_
        refine op_fieldAddr rfl fo_120_1_TrG rfl ?_
        first | refine op_ldb rfl ag_23 rfl H (by first | exact at0 | exact at1 | exact at2 | exact at3 | exact at4 | exact at5 | exact at6 | exact at7 | exact at8 | exact at9) rfl ?_ | refine op_ld rfl ag_23 rfl (cell_bl (hnode (hx.trans H.ext)) (0 + 0)) ?_
        have hl5 : (acc ++ (putN x.it.key.length 2 ++ x.it.key)).length = acc.length + (2 + x.it.key.length) := (by rw [List.length_append, List.length_append, putN_len])
        refine op_call rfl ca_154_TrG (putBytes_ok a31 c31 _ (acc ++ (putN x.it.key.length 2 ++ x.it.key)) x.va x.vc _ x.it.val _ R31 rfl (by omega) (hxo.v.1.ext0 ((hxb.trans hx).trans H.ext)) rfl (by omega) hxo.vc) rfl ?_
        rintro v w ⟨y, rfl, F41⟩
        obtain ⟨a41, c41, rfl, R41, hc41⟩ := Fresh.rdB F41
        replace H := H.call F41.ext
        refine op_move rfl (.tuple _) rfl ?_
        refine op_extract rfl rfl rfl ?_
        refine op_extract rfl rfl rfl ?_
        refine op_assign rfl (.slice _ _ _) rfl ?_
        refine op_nil (at_block (at_then ?_))
        refine W_region ?_
        refine op_add_i64 rfl rfl rfl (by omega) (by omega) ?_
        refine op_move rfl (.int _ _) rfl ?_
        refine op_nil (at_then ?_)
        have he : acc ++ (putN x.it.key.length 2 ++ x.it.key) ++ (putN x.it.val.length 2 ++ x.it.val) = putN n 2 ++ (L.take (i + 1)).flatMap (itemB false) := by
          rw [← h2, hfs, hacc, h2]; simp [itemB]
        rw [he] at R41
        refine ⟨(i + 1, a41, c41), rfl, ⟨rfl, congrArg (fun k => Value.slice a41 k c41) (congrArg List.length he), congrArg (Value.int .u8) (show (if false = true ∧ 0 < i then (3 : Int) else 2) = (if false = true ∧ 0 < i + 1 then (3 : Int) else 2) by simp), trivial⟩, ⟨by dsimp only; omega, hx.trans H.ext, R41⟩, by dsimp only; omega⟩
    · intro h1
      replace h1 := dec_f h1
      have hii : i = n := by omega
      subst hii
      have hLi : L.take i = L := by rw [hnum, List.take_length]
      have hbody : putN i 2 ++ (L.take i).flatMap (itemB inner) = bodyI inner L := by rw [hLi, bodyI, ← hnum]
      have hbl := bodyI_len inner L
      have htl := total_le (inner := inner) hsz
      rw [hbody] at R4 ⊢
      rw [kind_val inner L i hnum]
      refine W_exit (exit_then (exit_then (exit_here (at_then ?_))))
      refine W_rseq ?_
      refine op_move rfl (.int _ _) rfl ?_
      refine op_move rfl (.slice _ _ _) rfl ?_
      refine op_call rfl ca_151_TrG (seal_ok (kindI inner L) a4 c4 _ (bodyI inner L) _ R4 rfl (by omega)) rfl ?_
      rintro v w3 SP
      obtain ⟨sa, sn, sc, e, rfl⟩ : ∃ sa sn sc e, v = .tuple #[.slice sa sn sc, .int .i64 e] := by (rcases SP with ⟨_, rfl, _⟩ | ⟨_, s, rfl, B⟩; exact ⟨_, _, _, _, rfl⟩; obtain ⟨a9, c9, rfl, -⟩ := B.ex; exact ⟨_, _, _, _, rfl⟩)
      refine op_extract rfl rfl rfl ?_
      refine op_extract rfl rfl rfl ?_
      refine op_assign rfl (.slice _ _ _) rfl ?_
      refine op_assign rfl (.int _ _) rfl ?_
      refine op_nil (at_then ?_)
      refine W_ret (leave2 (v1 := (.slice _ _ _)) (v2 := (.int _ _)) rfl rfl rfl rfl ?_)
      have hxx := hxb.trans hx
      have hsz := hxx.size
      rcases SP with ⟨h1, h2, h3⟩ | ⟨h1, s, h2, B⟩
      · exact .inl ⟨h1, h2, hxx.trans h3⟩
      · obtain ⟨a9, c9, h5, R9, h6, h7⟩ := B.ex
        exact .inr ⟨h1, s, h2, ⟨⟨a9, c9, h5, R9, h6, Nat.le_trans hsz h7⟩, hxx.trans B.ext⟩⟩

end Go.Proofs.YtbkadlngijkmmaaGreatDoor

/- The node in a block: what the program does. -/
namespace Go.Proofs.YtbkadlngijkmmaaGreatDoor
open Go.GV
theorem ag_114_TrH : aggB Tryz.prog 114 = some false := by kernel_rfl
theorem ag_116_TrH : aggB Tryz.prog 116 = some true := by kernel_rfl
theorem ag_120_TrH : aggB Tryz.prog 120 = some true := by kernel_rfl
theorem by_120_TrH : tbytes Tryz.prog 120 = some 56 := by kernel_rfl
theorem ca_166_TrH : callable Tryz.prog 166 = true := by kernel_rfl
theorem ca_167_TrH : callable Tryz.prog 167 = true := by kernel_rfl
theorem el_114_TrH : elemT Tryz.prog 114 = some 120 := by kernel_rfl
theorem fo_116_0_TrH : fieldO Tryz.prog 116 0 = some 0 := by kernel_rfl
theorem fo_116_1_TrH : fieldO Tryz.prog 116 1 = some 1 := by kernel_rfl
theorem pl_116_TrH : placesB Tryz.prog 116 = some [(0, 1), (1, 1)] := by kernel_rfl
theorem sz_114_TrH : tsize Tryz.prog 114 = some 1 := by kernel_rfl
theorem sz_116_TrH : tsize Tryz.prog 116 = some 2 := by kernel_rfl
theorem sz_120_TrH : tsize Tryz.prog 120 = some 3 := by kernel_rfl
theorem zc_116_TrH : zcells Tryz.prog 116 = some ([.bool false, .slice none 0 0]) := by kernel_rfl
theorem zc_120_TrH : zcells Tryz.prog 120 = some ([.slice none 0 0, .slice none 0 0, .int .i64 0]) := by kernel_rfl
attribute [local irreducible] Wops W Wq Wt

/-- What was there before, and some blocks beside. -/
def Olds (w : World) (ids : List Nat) : Mut := fun x => x < w.heap.size ∨ x ∈ ids
theorem grown_of {w0 w w' : World} {L L' : List (Nat × Obj)} (H : Ctx w (L.map (·.1)) w' L') : Grown (Olds w0 (L.map (·.1))) (Olds w0 (L'.map (·.1))) w w' :=
  ⟨⟨L.map (·.1), fun x h => .inr h, H.ext⟩, fun x h => by
    rcases h with h | h
    · exact .inl (.inl h)
    · obtain ⟨y, hy, rfl⟩ := List.mem_map.1 h
      rcases H.own y hy with h5 | h5
      · exact .inl (.inr h5)
      · exact .inr h5⟩
theorem parseG_0 (inner : Bool) (b : Byt) (at' : Nat) : parseG inner b 0 at' = some ([], at') := rfl
theorem parseG_none {inner : Bool} {b : Byt} {n at' : Nat} (h : oneO inner b at' = none) : parseG inner b (n + 1) at' = none := by
  unfold parseG; rw [h]
theorem parseG_some {inner : Bool} {b : Byt} {n at' m : Nat} {x : It} (h : oneO inner b at' = some (x, m)) : parseG inner b (n + 1) at' = (parseG inner b n m).map fun r => (x :: r.1, r.2) := by
  rw [parseG]
  rw [h]
  simp only
  cases parseG inner b n m <;> rfl
theorem open_kb2 {b : Byt} {w w' : World} {v : Value} (h : OpenPost b w v w') : ∃ a c, v = .tuple #[bv (kindOf b), .slice a (bodyOf b).length c, .int .i64 (openE b)] ∧ Ext [] w w' ∧ Rdx w' (Old w) a (bodyOf b) ∧ (bodyOf b).length ≤ c := by
  rcases h with ⟨h, rfl, hx⟩ | ⟨h, s, rfl, F⟩
  · exact ⟨none, 0, by rw [kindOf, bodyOf, decide_eq_false h]; rfl, hx, by rw [bodyOf, decide_eq_false h]; exact Rdx.nil, by rw [bodyOf, decide_eq_false h]; exact Nat.le_refl _⟩
  · obtain ⟨a, c, rfl, R, hc, hn⟩ := Fresh.newB F
    exact ⟨a, c, by rw [kindOf, bodyOf, h]; rfl, F.ext, by rw [bodyOf, h]; exact Rdx.fresh R hn, by rw [bodyOf, h]; exact hc⟩
def OkL (b : Byt) (x : It) : Prop := x.key.length ≤ b.length ∧ x.val.length ≤ b.length ∧ x.page < 4294967296

set_option maxRecDepth 20000 in
set_option maxHeartbeats 4000000 in
theorem parse_ok (a : Option Addr) (c m : Nat) (b : Byt) (w : World) (R : Rd w a 1 B8 b) (hb : b.length = m) (hm : m ≤ 1000000) (hc : m ≤ c) :
    Ret Tryz.prog 124 #[.slice a m c] w fun v w' => ∃ (inner : Bool) (a' : Option Addr) (n' c' : Nat), v = .tuple #[.agg #[.bool inner, .slice a' n' c'], .bool (parseO b).isSome] ∧ Ext [] w w' ∧ ∀ i L, parseO b = some (i, L) → inner = i ∧ Its w' (Old w) a' n' c' L ∧ ∀ x ∈ L, OkL (bodyOf b) x := by
  subst hb
  obtain ⟨w0, rfl⟩ : ∃ w0, w0 = w := ⟨_, rfl⟩
  have H := Ctx.start w0 []
  have hbl := bodyOf_le b
  obtain ⟨g, nx, htv, hg, hnx, h0⟩ := take_uni2 (bodyOf b) 0
  have hkt := (kindOf b).toNat_lt
  obtain ⟨ib, hib⟩ : ∃ ib, ib = decide ((kindOf b).toNat = 3) := ⟨_, rfl⟩
  have hP0 : ∀ {x : Bool}, (decide (openE b = 0) && (decide (takeE (bodyOf b) ((0 : Nat) : Int) 2 = 0) && (decide ((kindOf b).toNat = 2) || decide ((kindOf b).toNat = 3)))) = x → parseO b = if x = true then finG ib (bodyOf b) (parseG ib (bodyOf b) (numN ((bodyOf b).take 2)) 2) else none := by
    intro x hx
    rw [hib]
    unfold parseO
    by_cases h1 : openE b = 0
    · have e1 : bodyOf b = bodyB b := by rw [bodyOf, decide_eq_true h1]; rfl
      have e2 : kindOf b = kindB b := by rw [kindOf, decide_eq_true h1]; rfl
      rw [e1, e2] at hx ⊢
      subst hx
      by_cases h2 : takeE (bodyB b) 0 2 = 0 ∧ ((kindB b).toNat = 2 ∨ (kindB b).toNat = 3)
      · rw [if_pos ⟨h1, h2⟩, if_pos (by simpa [h1] using h2)]
      · rw [if_neg (fun h => h2 h.2), if_neg (fun h => h2 (by simpa [h1] using h))]
    · rw [if_neg (fun h => h1 h.1)]
      subst hx
      rw [if_neg (by simp [h1])]
  refine ret_of_W (fn := Tryz.f124) Tryz.func124 rfl [.slice a b.length c] rfl (by kernel_rfl) ?_
  refine W_rseq ?_
  refine op_alloc rfl zc_116_TrH H ?_
  rintro b2 w - H
  refine op_assign rfl (.bool _) rfl ?_
  refine op_nil (at_then ?_)
  refine W_rseq ?_
  refine op_move rfl (.slice _ _ _) rfl ?_
  refine op_call rfl ca_166_TrH (open_ok a c _ b _ (R.ext0 H.ext) rfl (by omega) hc) rfl ?_
  have hb2 := H.lt (k := 0) rfl
  rintro v w16 hop
  obtain ⟨a5, c5, rfl, hx16, X5, hc5⟩ := open_kb2 hop
  have Hold := H.call hx16
  replace H := Ctx.startL (fun x hx => Hold.blk x hx) Hold.nd
  have hge := (Hold.own _ (List.mem_cons_self ..)).elim (fun h => by cases h) id
  have R5 : ∀ {z : World}, Ext [b2] w16 z → Rd z a5 1 B8 (bodyOf b) := (fun {z} hz => (X5.past hz (fun x hx => by rw [List.mem_singleton.1 hx]; exact hb2)).1)
  refine op_move rfl (.tuple _) rfl ?_
  refine op_extract rfl rfl rfl ?_
  refine op_extract rfl rfl rfl ?_
  refine op_extract rfl rfl rfl ?_
  refine op_assign rfl (.int _ _) rfl ?_
  refine op_assign rfl (.slice _ _ _) rfl ?_
  refine op_assign rfl (.int _ _) rfl ?_
  refine op_nil (at_then ?_)
  refine W_rseq ?_
  refine op_move rfl (.int _ _) rfl ?_
  refine op_eql rfl rfl rfl ?_
  rw [show decide (((kindOf b).toNat : Int) = 3) = ib by rw [hib]; exact decide_eq_decide.2 (by omega)]
  refine op_buildS [.bool ib, .slice none 0 0] rfl pl_116_TrH zc_116_TrH (by kernel_rfl) ?_
  refine op_alloc rfl zc_116_TrH H ?_
  rintro b7 w - H
  refine op_stb0 rfl sz_116_TrH rfl rfl rfl (by simp [oneCell]) H (by first | exact at0 | exact at1 | exact at2 | exact at3 | exact at4 | exact at5 | exact at6 | exact at7 | exact at8 | exact at9) rfl ?_
  rintro w H
  refine op_nil (at_then ?_)
  refine W_rseq ?_
  refine op_move rfl (.slice _ _ _) rfl ?_
  refine op_call rfl ca_146 (otake_ok a5 c5 _ (bodyOf b) ((0 : Nat) : Int) 2 _ (R5 H.ext) rfl (by omega) hc5) rfl ?_
  rintro v w ⟨rfl, hx25⟩
  rw [htv]
  replace H := H.call hx25
  refine op_move rfl (.tuple _) rfl ?_
  refine op_extract rfl rfl rfl ?_
  refine op_extract rfl rfl rfl ?_
  refine op_extract rfl rfl rfl ?_
  refine op_assign rfl (.int _ _) rfl ?_
  refine op_assign rfl (.int _ _) rfl ?_
  refine op_assign rfl (.int _ _) rfl ?_
  refine op_nil (at_then ?_)
  refine W_seq ?_
  refine W_rseq (Wops_join (α := Unit) 17591649173504 (fun _ => [(43, .bool (!(decide (openE b = 0) && (decide (takeE (bodyOf b) ((0 : Nat) : Int) 2 = 0) && (decide ((kindOf b).toNat = 2) || decide ((kindOf b).toNat = 3))))))]) (fun _ w' => Ctx w16 [b2] w' [(b7, Bl 116 [.bool ib, .slice none 0 0]), (b2, Bl 116 [.bool false, .slice none 0 0])]) rfl ?_ ?_)
  · refine op_move rfl (.int _ _) rfl ?_
    refine op_neq rfl rfl rfl ?_
    refine op_move rfl (.bool _) rfl ?_
    refine Wops_split 31 rfl ?_ ?_
    · intro h1
      replace h1 := ndec_t h1
      refine op_skip rfl ?_
      refine op_skip rfl ?_
      refine op_pick1 rfl rfl (.bool _) rfl ?_
      refine op_move rfl (.bool _) rfl ?_
      refine op_skip rfl ?_
      refine op_skip rfl ?_
      refine op_skip rfl ?_
      refine op_skip rfl ?_
      refine op_skip rfl ?_
      refine op_skip rfl ?_
      refine op_skip rfl ?_
      refine op_pick1 rfl rfl (.bool _) rfl ?_
      refine op_nil ?_
      exact ⟨rfl, (), rfl, ⟨congrArg Value.bool (by rw [hib] at *; rw [Bool.eq_iff_iff]; simp_all; try omega), trivial⟩, H⟩
    · intro h2
      replace h2 := ndec_f h2
      refine op_move rfl (.int _ _) rfl ?_
      refine op_neq rfl rfl rfl ?_
      refine op_pick0 rfl rfl (.bool _) rfl ?_
      refine op_move rfl (.bool _) rfl ?_
      refine Wops_split 35 rfl ?_ ?_
      · intro h3
        replace h3 := ndec_t h3
        refine op_skip rfl ?_
        refine op_skip rfl ?_
        refine op_skip rfl ?_
        refine op_skip rfl ?_
        refine op_skip rfl ?_
        refine op_skip rfl ?_
        refine op_skip rfl ?_
        refine op_pick1 rfl rfl (.bool _) rfl ?_
        refine op_nil ?_
        exact ⟨rfl, (), rfl, ⟨congrArg Value.bool (by rw [hib] at *; rw [Bool.eq_iff_iff]; simp_all; try omega), trivial⟩, H⟩
      · intro h4
        replace h4 := ndec_f h4
        refine op_move rfl (.int _ _) rfl ?_
        refine op_neq rfl rfl rfl ?_
        refine op_move rfl (.bool _) rfl ?_
        refine Wops_split 38 rfl ?_ ?_
        · intro h5
          replace h5 := ndec_t h5
          refine op_fieldAddr rfl fo_116_0_TrH rfl ?_
          refine op_ldb rfl ag_4 rfl H (by first | exact at0 | exact at1 | exact at2 | exact at3 | exact at4 | exact at5 | exact at6 | exact at7 | exact at8 | exact at9) rfl ?_
          refine op_not rfl rfl ?_
          refine op_pick1 rfl rfl (.bool _) rfl ?_
          refine op_pick0 rfl rfl (.bool _) rfl ?_
          refine op_nil ?_
          exact ⟨rfl, (), rfl, ⟨congrArg Value.bool (by rw [hib] at *; rw [Bool.eq_iff_iff]; simp_all; try omega), trivial⟩, H⟩
        · intro h6
          replace h6 := ndec_f h6
          refine op_skip rfl ?_
          refine op_skip rfl ?_
          refine op_skip rfl ?_
          refine op_pick0 rfl rfl (.bool _) rfl ?_
          refine op_pick0 rfl rfl (.bool _) rfl ?_
          refine op_nil ?_
          exact ⟨rfl, (), rfl, ⟨congrArg Value.bool (by rw [hib] at *; rw [Bool.eq_iff_iff]; simp_all; try omega), trivial⟩, H⟩
  rintro - j43 w H
  have hx0 : ∀ {z : World}, Ext [b2] w16 z → Ext [] w0 z := fun {z} h => Hold.ext.then h (fun x hx => .inr (by rw [List.mem_singleton.1 hx]; exact hge))
  refine W_cond _ rfl ?_ ?_
  · intro h1
    replace h1 := nvar_t h1
    have hP := hP0 h1
    rw [if_neg (by simp)] at hP
    refine W_rseq ?_
    refine op_buildS [.bool false, .slice none 0 0] rfl pl_116_TrH zc_116_TrH (by kernel_rfl) ?_
    refine op_stb0 rfl sz_116_TrH rfl rfl rfl (by simp [oneCell]) H (by first | exact at0 | exact at1 | exact at2 | exact at3 | exact at4 | exact at5 | exact at6 | exact at7 | exact at8 | exact at9) rfl ?_
    rintro w H
    refine op_assign rfl (.bool _) rfl ?_
    refine op_nil (at_then ?_)
    refine W_ret (ret_then (leave2b rfl rfl rfl ag_116_TrH sz_116_TrH H (by first | exact at0 | exact at1 | exact at2 | exact at3 | exact at4 | exact at5 | exact at6 | exact at7 | exact at8 | exact at9) rfl (show _ = (.bool _) from rfl) ?_))
    exact ⟨false, none, 0, 0, by rw [hP]; rfl, hx0 H.ext, fun i L h => by rw [hP] at h; cases h⟩
  · intro h1
    replace h1 := nvar_f h1
    have hP := hP0 h1
    rw [if_pos rfl] at hP
    simp only [Bool.and_eq_true, decide_eq_true_eq] at h1
    obtain ⟨hg2, hnx2⟩ := h0 h1.2.1
    subst hnx2
    rw [List.drop_zero] at hg2
    rw [← hg2] at hP
    refine W_skip (at_then ?_)
    refine W_seq ?_
    refine W_rseq ?_
    refine op_move rfl (.int _ _) rfl ?_
    refine op_move rfl (.int _ _) rfl ?_
    refine op_nil (at_then ?_)
    refine W_block ?_
    refine W_loop 295147834810608663048 (α := Nat × Nat × List Im × Option Addr × Nat × List Value) (fun s => [(46, .int .u64 (s.1 : Int)), (9, .int .i64 (s.2.1 : Int))]) (fun s w' => s.1 ≤ g ∧ s.2.1 ≤ 505 ∧ Ctx w16 [b2] w' ([(b7, Bl 116 [.bool ib, .slice s.2.2.2.1 s.2.2.1.length s.2.2.2.2.1]), (b2, Bl 116 [.bool false, .slice none 0 0])] ++ ent s.2.2.2.1 120 s.2.2.2.2.2) ∧ OS s.2.2.2.1 s.2.2.1.length s.2.2.2.2.1 3 s.2.2.2.2.2 (s.2.2.1.flatMap Im.enc) ∧ (∀ m ∈ s.2.2.1, m.Ok w' (Olds w0 (([(b7, Bl 116 [.bool ib, .slice s.2.2.2.1 s.2.2.1.length s.2.2.2.2.1]), (b2, Bl 116 [.bool false, .slice none 0 0])] ++ ent s.2.2.2.1 120 s.2.2.2.2.2).map (·.1))) ∧ OkL (bodyOf b) m.it) ∧ s.2.2.1.length = s.1 ∧ parseG ib (bodyOf b) g 2 = (parseG ib (bodyOf b) (g - s.1) s.2.1).map fun r => (s.2.2.1.map (·.it) ++ r.1, r.2)) (fun s => g - s.1) (0, 2, [], none, 0, []) rfl ?_ ?_ ?_
    · exact ⟨rfl, rfl, trivial⟩
    · refine ⟨Nat.zero_le _, by decide, H, OS.nil, (fun m h => by cases h), rfl, ?_⟩
      dsimp only
      rw [Nat.sub_zero]
      cases parseG ib (bodyOf b) g 2 <;> rfl
    · rintro ⟨k, at', ms, aa, cc, full⟩ j w ⟨hk, hat, H, O, hms, hml, hpg⟩; dsimp only at hk hat H O hms hml hpg; dsimp only
      refine W_rseq ?_
      refine op_lss rfl rfl rfl ?_
      refine op_nil (at_then ?_)
      refine W_seq ?_
      refine W_cond _ rfl ?_ ?_
      · intro h2
        replace h2 := dec_t h2
        rw [show g - k = (g - (k + 1)) + 1 by omega] at hpg
        refine W_skip (at_then ?_)
        refine W_seq ?_
        refine W_block ?_
        refine W_rseq ?_
        refine op_fieldAddr rfl fo_116_0_TrH rfl ?_
        refine op_ldb rfl ag_4 rfl H (by first | exact at0 | exact at1 | exact at2 | exact at3 | exact at4 | exact at5 | exact at6 | exact at7 | exact at8 | exact at9) rfl ?_
        refine op_move rfl (.slice _ _ _) rfl ?_
        refine op_move rfl (.int _ _) rfl ?_
        refine op_call rfl ca_167_TrH (one_ok ib a5 c5 _ (bodyOf b) at' _ (R5 H.ext) rfl (by omega) hc5 (by omega)) rfl ?_
        have hszw := (fun y hy => heap_lt (H.blk y hy))
        have hEw := hx0 H.ext
        rintro v w1 ⟨x, nx, e, rfl, hx53, hxo, hnxb, hkl, hvl, hpl, he0, he1⟩
        have Hold2 := H.call hx53
        replace H := Ctx.startL (fun x hx => Hold2.blk x hx) Hold2.nd
        refine op_move rfl (.tuple _) rfl ?_
        refine op_extract rfl rfl rfl ?_
        refine op_extract rfl rfl rfl ?_
        refine op_extract rfl rfl rfl ?_
        refine op_alloc rfl zc_120_TrH H ?_
        rintro b11 w - H
        refine op_stb0 rfl sz_120_TrH rfl rfl rfl (by first | exact Im.oneE _ | simp [oneCell]) H (by first | exact at0 | exact at1 | exact at2 | exact at3 | exact at4 | exact at5 | exact at6 | exact at7 | exact at8 | exact at9) rfl ?_
        rintro w H
        refine op_assign rfl (.int _ _) rfl ?_
        refine op_assign rfl (.int _ _) rfl ?_
        refine op_nil (at_then ?_)
        refine W_seq ?_
        refine W_rseq ?_
        refine op_move rfl (.int _ _) rfl ?_
        refine op_neq rfl rfl rfl ?_
        refine op_nil (at_then ?_)
        refine W_cond _ rfl ?_ ?_
        · intro h3
          replace h3 := ndec_t h3
          rw [parseG_none (he1 h3)] at hpg
          rw [hpg] at hP
          have hxx : Ext [] w0 w1 := hx0 Hold2.ext
          refine W_rseq ?_
          refine op_buildS [.bool false, .slice none 0 0] rfl pl_116_TrH zc_116_TrH (by kernel_rfl) ?_
          refine op_stb0 rfl sz_116_TrH rfl rfl rfl (by first | exact Im.oneE _ | simp [oneCell]) H (by first | exact at0 | exact at1 | exact at2 | exact at3 | exact at4 | exact at5 | exact at6 | exact at7 | exact at8 | exact at9) rfl ?_
          rintro w H
          refine op_assign rfl (.bool _) rfl ?_
          refine op_nil (at_then ?_)
          refine W_ret (ret_then (ret_block (ret_then (ret_then (ret_block (ret_then (leave2b rfl rfl rfl ag_116_TrH sz_116_TrH H (by first | exact at0 | exact at1 | exact at2 | exact at3 | exact at4 | exact at5 | exact at6 | exact at7 | exact at8 | exact at9) rfl (show _ = (.bool _) from rfl) ?_)))))))
          refine ⟨false, none, 0, 0, by rw [hP]; rfl, hxx.then H.ext (fun y hy => .inr ?_), fun i L h => by rw [hP] at h; cases h⟩
          obtain ⟨z, hz, rfl⟩ := List.mem_map.1 hy
          rcases Hold2.own z hz with h5 | h5
          · rw [List.mem_singleton.1 h5]; exact hge
          · have := Hold.ext.size; omega
        · intro h3
          replace h3 := ndec_f h3
          have hone := he0 h3
          rw [parseG_some hone] at hpg
          refine W_skip (at_then ?_)
          refine W_region ?_
          refine op_fieldAddr rfl fo_116_1_TrH rfl ?_
          refine op_ldb rfl ag_114_TrH rfl H (by first | exact at0 | exact at1 | exact at2 | exact at3 | exact at4 | exact at5 | exact at6 | exact at7 | exact at8 | exact at9) rfl ?_
          refine op_ldbN rfl ag_120_TrH sz_120_TrH rfl H (by first | exact at0 | exact at1 | exact at2 | exact at3 | exact at4 | exact at5 | exact at6 | exact at7 | exact at8 | exact at9) rfl ?_
          refine op_build1 _ (.agg _) rfl el_114_TrH sz_120_TrH zc_120_TrH rfl (by decide) (by decide) rfl rfl rfl H ?_
          rintro b63 w - H
          refine op_appendb (L := [_, _, _]) rfl el_114_TrH el_114_TrH sz_120_TrH by_120_TrH zc_120_TrH rfl (by decide) rfl rfl H O rfl (Im.oneE x) (by omega) ?_
          rintro a64 c64 full64 w H O
          refine op_move rfl (.int _ _) rfl ?_
          refine op_fieldAddr rfl fo_116_1_TrH rfl ?_
          refine op_stb (.slice _ _ _) rfl sz_114_TrH rfl rfl rfl H (by first | exact at0 | exact at1 | exact at2 | exact at3 | exact at4 | exact at5 | exact at6 | exact at7 | exact at8 | exact at9) (by first | decide | (simp; done) | (simp; omega)) ?_
          rintro w H
          refine op_assign rfl (.int _ _) rfl ?_
          refine op_nil (at_block (at_then ?_))
          refine W_region ?_
          refine op_add_u64 rfl rfl rfl (by omega) (by omega) ?_
          refine op_move rfl (.int _ _) rfl ?_
          refine op_nil (at_then ?_)
          have hL1 : (ms ++ [x]).length = ms.length + 1 := by simp
          have H2 : Ctx w1 (([(b7, Bl 116 [.bool ib, .slice aa ms.length cc]), (b2, Bl 116 [.bool false, .slice none 0 0])] ++ ent aa 120 full).map (·.1)) w ([(b7, Bl 116 [.bool ib, .slice a64 (ms ++ [x]).length c64]), (b2, Bl 116 [.bool false, .slice none 0 0])] ++ ent a64 120 full64) := by rw [hL1]; exact H.tail
          have G := grown_of (w0 := w0) H2
          refine ⟨(k + 1, nx, ms ++ [x], a64, c64, full64), rfl, ⟨rfl, rfl, trivial⟩, ⟨by dsimp only; omega, by dsimp only; omega, Ctx.nil_app (Ctx.back (L2 := []) (Ctx.app_nil Hold2) H2), by dsimp only; rw [hL1, List.flatMap_append]; simpa using O, fun m hm => ?_, by dsimp only; omega, ?_⟩, by dsimp only; omega⟩
          · dsimp only at hm ⊢
            rcases List.mem_append.1 hm with hm | hm
            · exact ⟨((hms m hm).1.call hx53).turn G, (hms m hm).2⟩
            · rw [List.mem_singleton.1 hm]
              refine ⟨(hxo.weak fun y hy => ?_).turn G, hkl, hvl, hpl⟩
              rcases hy with hy | hy
              · exact Nat.lt_of_lt_of_le hy hEw.size
              · obtain ⟨z, hz, rfl⟩ := List.mem_map.1 hy
                exact hszw z hz
          · dsimp only
            rw [hpg]
            cases parseG ib (bodyOf b) (g - (k + 1)) nx with
            | none => rfl
            | some r => simp
      · intro h2
        replace h2 := dec_f h2
        have hkg : k = g := by omega
        subst hkg
        rw [Nat.sub_self, parseG_0] at hpg
        rw [hpg] at hP
        simp only [Option.map_some, List.append_nil] at hP
        have hxx : Ext [] w0 w := hx0 H.ext
        have Rm := OS.rd O (fun x hx => H.blk x (List.mem_append_right _ hx)) (fun _ _ => rfl) (by decide)
        obtain ⟨wE, rfl⟩ : ∃ x, x = w := ⟨_, rfl⟩
        have hb7 : wE.heap[b7]? = some (Bl 116 [.bool ib, .slice aa ms.length cc]) := H.get at0
        have hbs : b2 ≠ b7 := fun e => by
          have h5 := H.nd
          simp [e] at h5
        have Hq := H
        have H := Ctx.start1 (Hq.get at1)
        have hkeep : ∀ {z : World}, Ext [b2] wE z → z.heap[b7]? = some (Bl 116 [.bool ib, .slice aa ms.length cc]) := fun {z} h => by rw [h.block b7 (heap_lt hb7) (by simp; exact fun e => hbs e.symm)]; exact hb7
        have hits : ∀ {z : World}, Ext [b2] wE z → Its z (Old w0) aa ms.length cc (ms.map (·.it)) ∧ ∀ y ∈ ms.map (·.it), OkL (bodyOf b) y := fun {z} hz => by
          have hS : ∀ y ∈ [b2], w0.heap.size ≤ y ∧ y ∈ (([(b7, Bl 116 [.bool ib, .slice aa ms.length cc]), (b2, Bl 116 [.bool false, .slice none 0 0])] ++ ent aa 120 full).map (·.1)) := fun y hy => by
            rw [List.mem_singleton.1 hy]; exact ⟨hge, by simp⟩
          have G : Grown (Olds w0 (([(b7, Bl 116 [.bool ib, .slice aa ms.length cc]), (b2, Bl 116 [.bool false, .slice none 0 0])] ++ ent aa 120 full).map (·.1))) (Olds w0 (([(b7, Bl 116 [.bool ib, .slice aa ms.length cc]), (b2, Bl 116 [.bool false, .slice none 0 0])] ++ ent aa 120 full).map (·.1))) wE z := ⟨⟨[b2], fun y hy => .inr (hS y hy).2, hz⟩, fun y hy => .inl hy⟩
          refine ⟨⟨⟨ms, ?_, ?_, rfl, fun m hm => ((hms m hm).1.turn G).weak fun y hy => .inl hy⟩, by rw [List.length_map], O.le⟩, fun y hy => ?_⟩
          · cases haa : aa with
            | none =>
              have h8 := O.le
              have h9 := O.none' haa
              rw [List.eq_nil_of_length_eq_zero (show ms.length = 0 by omega)]; exact Rd.nil
            | some q =>
              rw [← haa]
              refine Rm.ext hz fun hq => ?_
              have h5 := Hq.nd
              rw [haa] at h5 hq
              simp only [List.mem_singleton, adr] at hq
              simp [ent, hq] at h5
          · cases haa : aa with
            | none => exact .inl (List.eq_nil_of_length_eq_zero (by have h8 := O.le; have h9 := O.none' haa; omega))
            | some q =>
              refine .inr fun hq => ?_
              have h5 := Hq.own (q.block, Bl 120 full) (List.mem_append_right _ (by rw [haa]; exact List.mem_singleton.2 rfl))
              have h6 := Hold.ext.size
              unfold Old at hq
              simp only [adr] at hq
              rcases h5 with h5 | h5
              · have := List.mem_singleton.1 h5; dsimp only at this; omega
              · dsimp only at h5; omega
          · obtain ⟨m, hm, rfl⟩ := List.mem_map.1 hy
            exact (hms m hm).2
        refine W_exit (exit_then (exit_then (exit_here (at_then ?_))))
        refine W_sseqz [([0, 1, 2, 3, 4, 5, 6, 7, 8, 9, 10], 11), ([], 12)] (fun z => z.heap[b7]? = some (Bl 116 [.bool ib, .slice aa ms.length cc])) [] mixed (by kernel_rfl) (hb7) ?_
        refine seg_cons rfl rfl ?_
        first | refine t_ldN _ rfl ag_116_TrH sz_116_TrH rfl rfl (fun _ hx => (fun j v hv => by rw [cell_bl hx, Nat.zero_add]; exact hv)) ?_ | refine t_ldbN rfl ag_116_TrH sz_116_TrH rfl (fun _ _ => Ctx.start _ []) (by first | exact at0 | exact at1 | exact at2 | exact at3 | exact at4 | exact at5 | exact at6 | exact at7 | exact at8 | exact at9) rfl ?_
        refine t_move rfl (.int _ _) rfl ?_
        refine t_move rfl (.slice _ _ _) rfl ?_
        refine t_len rfl el_23 rfl ?_
        refine t_eql rfl rfl rfl ?_
        refine t_move rfl (.bool _) rfl ?_
        refine Wt_split 73 rfl ?_ ?_
        · intro h3
          replace h3 := dec_t h3
          have h3' : at' = (bodyOf b).length := by omega
          refine t_fieldAddr rfl fo_116_1_TrH rfl ?_
          first | refine t_ldb rfl ag_114_TrH rfl (fun _ _ => Ctx.start _ []) (by first | exact at0 | exact at1 | exact at2 | exact at3 | exact at4 | exact at5 | exact at6 | exact at7 | exact at8 | exact at9) rfl ?_ | refine t_ld rfl ag_114_TrH rfl (fun _ hx => cell_bl hx (0 + 1)) ?_
          refine t_len rfl el_114_TrH rfl ?_
          refine t_gtr rfl rfl rfl ?_
          refine t_pick1 rfl rfl (.bool _) rfl ?_
          refine t_nil ?_
          replace H := H.drew
          refine op_stb0 rfl sz_116_TrH rfl rfl rfl (by first | exact Im.oneE _ | simp [oneCell]) H (by first | exact at0 | exact at1 | exact at2 | exact at3 | exact at4 | exact at5 | exact at6 | exact at7 | exact at8 | exact at9) rfl ?_
          rintro w H
          refine op_nil (at_seg (hkeep H.ext) ?_)
          refine seg_cons rfl rfl ?_
          refine t_nil ?_
          refine op_assign rfl (.bool _) rfl ?_
          refine op_nil (at_seg (hkeep H.ext) ?_)
          refine seg_nil ?_
          refine W_ret (leave2b rfl rfl rfl ag_116_TrH sz_116_TrH H (by first | exact at0 | exact at1 | exact at2 | exact at3 | exact at4 | exact at5 | exact at6 | exact at7 | exact at8 | exact at9) rfl (show _ = (.bool _) from rfl) ?_)
          refine ⟨ib, aa, ms.length, cc, ?_, hx0 (Hq.ext.then H.ext fun y hy => .inl hy), fun i L h => ?_⟩
          · rw [hP]
            cases ms with
            | nil => simp [finG]
            | cons m ms => simp [finG, h3']
          · rw [hP] at h
            simp only [finG] at h
            split at h
            · injection h with h
              injection h with h5 h6
              subst h5 h6
              exact ⟨rfl, hits H.ext⟩
            · cases h
        · intro h3
          replace h3 := dec_f h3
          have h3' : ¬ at' = (bodyOf b).length := by omega
          have hP' : parseO b = none := by rw [hP]; simp [finG, h3']
          refine t_skip rfl ?_
          refine t_skip rfl ?_
          refine t_skip rfl ?_
          refine t_skip rfl ?_
          refine t_pick0 rfl rfl (.bool _) rfl ?_
          refine t_nil ?_
          replace H := H.drew
          refine op_stb0 rfl sz_116_TrH rfl rfl rfl (by first | exact Im.oneE _ | simp [oneCell]) H (by first | exact at0 | exact at1 | exact at2 | exact at3 | exact at4 | exact at5 | exact at6 | exact at7 | exact at8 | exact at9) rfl ?_
          rintro w H
          refine op_nil (at_seg (hkeep H.ext) ?_)
          refine seg_cons rfl rfl ?_
          refine t_nil ?_
          refine op_assign rfl (.bool _) rfl ?_
          refine op_nil (at_seg (hkeep H.ext) ?_)
          refine seg_nil ?_
          refine W_ret (leave2b rfl rfl rfl ag_116_TrH sz_116_TrH H (by first | exact at0 | exact at1 | exact at2 | exact at3 | exact at4 | exact at5 | exact at6 | exact at7 | exact at8 | exact at9) rfl (show _ = (.bool _) from rfl) ?_)
          exact ⟨ib, aa, ms.length, cc, by rw [hP']; rfl, hx0 (Hq.ext.then H.ext fun y hy => .inl hy), fun i L h => by rw [hP'] at h; cases h⟩

end Go.Proofs.YtbkadlngijkmmaaGreatDoor
