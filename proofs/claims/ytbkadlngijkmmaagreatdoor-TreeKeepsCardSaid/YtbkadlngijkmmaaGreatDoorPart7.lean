/- Part 7 of the proof. -/
import Derived.Test.YtbkadlngijkmmaaGreatDoorPart6
/- Pages: which are free, old, fresh, dropped. -/
namespace Go.Proofs.YtbkadlngijkmmaaGreatDoor
open Go.GV
theorem ag_109_TrI : aggB Tryz.prog 109 = some false := by kernel_rfl
theorem ag_112_TrI : aggB Tryz.prog 112 = some false := by kernel_rfl
theorem by_112_TrI : tbytes Tryz.prog 112 = some 1 := by kernel_rfl
theorem ca_181_TrI : callable Tryz.prog 181 = true := by kernel_rfl
theorem ca_85_TrI : callable Tryz.prog 85 = true := by kernel_rfl
theorem el_109_TrI : elemT Tryz.prog 109 = some 112 := by kernel_rfl
theorem fo_111_0_TrI : fieldO Tryz.prog 111 0 = some 0 := by kernel_rfl
theorem pl_111_TrI : placesB Tryz.prog 111 = some [(0, 1)] := by kernel_rfl
theorem sz_112_TrI : tsize Tryz.prog 112 = some 1 := by kernel_rfl
theorem un_33_TrI : Tryz.prog.underlying 33 = some (.pointer 111) := by kernel_rfl
theorem zc_111_TrI : zcells Tryz.prog 111 = some ([.slice none 0 0]) := by kernel_rfl
theorem zc_112_TrI : zcells Tryz.prog 112 = some ([.int .u8 0]) := by kernel_rfl
attribute [local irreducible] Wops W Wq Wt

def stv (s : Nat) : Value := .int .u8 (s : Int)
def TPg : Nat := 111
def TSt : Nat := 112
/-- Pages in memory: their states are P. -/
structure PgAt (w : World) (bp ba : Nat) (P : List Nat) : Prop where
  hd : w.heap[bp]? = some (Bl TPg [.slice (some ⟨ba, 0, none⟩) P.length P.length])
  st : w.heap[ba]? = some (Bl TSt (P.map stv))
  ne : bp ≠ ba
  ok : ∀ s ∈ P, s ≤ 3
  len : P.length ≤ 4096
/-- The least free one. -/
def takeI (P : List Nat) : Nat := (P.takeWhile fun s => decide (s ≠ 0)).length
def dropP (P : List Nat) (k : Nat) : List Nat := if P[k]? = some 1 then P.set k 3 else if P[k]? = some 2 then P.set k 0 else P
def settleS (s : Nat) : Nat := if s = 2 then 1 else if s = 3 then 0 else s
def backS (s : Nat) : Nat := if s = 2 then 0 else if s = 3 then 1 else s
def freeP (P : List Nat) : Nat := P.countP fun s => decide (s = 0)
theorem PgAt.keep {w w' : World} {bp ba : Nat} {P : List Nat} {S : List Nat} (h : PgAt w bp ba P) (hx : Ext S w w') (h1 : bp ∉ S) (h2 : ba ∉ S) : PgAt w' bp ba P :=
  ⟨by rw [hx.block bp (heap_lt h.hd) h1]; exact h.hd, by rw [hx.block ba (heap_lt h.st) h2]; exact h.st, h.ne, h.ok, h.len⟩
theorem cell_st {w : World} {ba t : Nat} {P : List Nat} {k s : Nat} (h : w.heap[ba]? = some (Bl t (P.map stv))) (hk : P[k]? = some s) : w.cell? ⟨ba, 0 + k * 1, none⟩ = some (stv s) := by
  rw [cell_bl h, Nat.zero_add, Nat.mul_one, List.getElem?_map, hk]; rfl
theorem set_st (P : List Nat) (k s : Nat) : (P.map stv).set k (stv s) = (P.set k s).map stv := by rw [List.map_set]
theorem PgAt.set {w w' : World} {bp ba : Nat} {P : List Nat} (h : PgAt w bp ba P) (hx : Ext [ba] w w') {k s : Nat} (hs : s ≤ 3) (hb : w'.heap[ba]? = some (Bl TSt ((P.map stv).set k (stv s)))) : PgAt w' bp ba (P.set k s) :=
  ⟨by rw [hx.block bp (heap_lt h.hd) (by simpa using h.ne), List.length_set]; exact h.hd, by rw [hb, set_st], h.ne, fun x hx => (List.mem_or_eq_of_mem_set hx).elim (h.ok x) (fun e => e ▸ hs), by rw [List.length_set]; exact h.len⟩
section
variable {w : World} {bp ba : Nat} {P : List Nat}

theorem psize_ok (h : PgAt w bp ba P) : Ret Tryz.prog 69 #[ptr bp] w fun v w' => v = .int .i64 (P.length : Int) ∧ w = w' := by
  obtain ⟨w0, rfl⟩ : ∃ w0, w0 = w := ⟨_, rfl⟩
  refine ret_of_W (fn := Tryz.f69) Tryz.func69 rfl [.pointer (some ⟨bp, 0, none⟩)] rfl (by kernel_rfl) ?_
  refine W_rseq ?_
  refine op_assign rfl (.int _ _) rfl ?_
  refine op_nil (at_then ?_)
  refine W_seq ?_
  refine W_rseq ?_
  refine op_move rfl (.pointer _) rfl ?_
  refine op_eqlptr rfl un_33_TrI rfl ?_
  refine op_nil (at_then ?_)
  refine W_cond0 rfl ?_
  refine W_skip (at_then ?_)
  refine W_rseq ?_
  refine op_move rfl (.pointer _) rfl ?_
  refine op_nilCheck rfl rfl ?_
  refine op_fieldAddr rfl fo_111_0_TrI rfl ?_
  first | refine op_ldb rfl ag_109_TrI rfl H (by first | exact at0 | exact at1 | exact at2 | exact at3 | exact at4 | exact at5 | exact at6 | exact at7 | exact at8 | exact at9) rfl ?_ | refine op_ld rfl ag_109_TrI rfl (cell_bl h.hd (0 + 0)) ?_
  refine op_len rfl el_109_TrI rfl ?_
  refine op_assign rfl (.int _ _) rfl ?_
  refine op_nil (at_then ?_)
  refine W_ret (leave1 (v := (.int _ _)) rfl rfl rfl ?_)
  exact ⟨rfl, rfl⟩
def hasP (P : List Nat) (k : Int) : Bool := decide (0 ≤ k) && decide (k < (P.length : Int))
theorem phas_ok (h : PgAt w bp ba P) (k : Int) : Ret Tryz.prog 85 #[ptr bp, .int .i64 k] w fun v w' => v = .bool (hasP P k) ∧ w = w' := by
  obtain ⟨w0, rfl⟩ : ∃ w0, w0 = w := ⟨_, rfl⟩
  refine ret_of_W (fn := Tryz.f85) Tryz.func85 rfl [.pointer (some ⟨bp, 0, none⟩), .int .i64 k] rfl (by kernel_rfl) ?_
  refine W_rseq ?_
  refine op_assign rfl (.bool _) rfl ?_
  refine op_nil (at_then ?_)
  refine W_rseq ?_
  refine op_move rfl (.pointer _) rfl ?_
  refine op_neqptr rfl un_33_TrI rfl ?_
  refine op_move rfl (.bool _) rfl ?_
  refine op_move rfl (.int _ _) rfl ?_
  refine op_geq rfl rfl rfl ?_
  refine op_pick1 rfl rfl (.bool _) rfl ?_
  refine op_move rfl (.bool _) rfl ?_
  refine Wops_split 11 rfl ?_ ?_
  · intro h1
    replace h1 := dec_t h1
    refine op_move rfl (.int _ _) rfl ?_
    refine op_move rfl (.pointer _) rfl ?_
    refine op_nilCheck rfl rfl ?_
    refine op_fieldAddr rfl fo_111_0_TrI rfl ?_
    first | refine op_ldb rfl ag_109_TrI rfl H (by first | exact at0 | exact at1 | exact at2 | exact at3 | exact at4 | exact at5 | exact at6 | exact at7 | exact at8 | exact at9) rfl ?_ | refine op_ld rfl ag_109_TrI rfl (cell_bl h.hd (0 + 0)) ?_
    refine op_len rfl el_109_TrI rfl ?_
    refine op_lss rfl rfl rfl ?_
    refine op_pick1 rfl rfl (.bool _) rfl ?_
    refine op_assign rfl (.bool _) rfl ?_
    refine op_nil (at_then ?_)
    refine W_ret (leave1 (v := (.bool _)) rfl rfl rfl ?_)
    exact ⟨congrArg Value.bool (by unfold hasP; rw [Bool.eq_iff_iff]; simp_all; try omega), rfl⟩
  · intro h2
    replace h2 := dec_f h2
    refine op_skip rfl ?_
    refine op_skip rfl ?_
    refine op_skip rfl ?_
    refine op_skip rfl ?_
    refine op_skip rfl ?_
    refine op_skip rfl ?_
    refine op_skip rfl ?_
    refine op_pick0 rfl rfl (.bool _) rfl ?_
    refine op_assign rfl (.bool _) rfl ?_
    refine op_nil (at_then ?_)
    refine W_ret (leave1 (v := (.bool _)) rfl rfl rfl ?_)
    exact ⟨congrArg Value.bool (by unfold hasP; rw [Bool.eq_iff_iff]; simp_all; try omega), rfl⟩
theorem pmay_ok (h : PgAt w bp ba P) (k : Int) : Ret Tryz.prog 181 #[ptr bp, .int .i64 k] w fun v w' => v = .int .i64 (bif hasP P k then 0 else 1) ∧ w = w' := by
  obtain ⟨w0, rfl⟩ : ∃ w0, w0 = w := ⟨_, rfl⟩
  refine ret_of_W (fn := Tryz.f181) Tryz.func181 rfl [.pointer (some ⟨bp, 0, none⟩), .int .i64 k] rfl (by kernel_rfl) ?_
  refine W_rseq ?_
  refine op_assign rfl (.int _ _) rfl ?_
  refine op_nil (at_then ?_)
  refine W_seq ?_
  refine W_block ?_
  refine W_rseq ?_
  refine op_move rfl (.pointer _) rfl ?_
  refine op_eqlptr rfl un_33_TrI rfl ?_
  refine op_assign rfl (.bool _) rfl ?_
  refine op_nil (at_then ?_)
  refine W_cond0 rfl ?_
  refine W_rseq ?_
  refine op_move rfl (.pointer _) rfl ?_
  refine op_move rfl (.int _ _) rfl ?_
  refine op_call rfl ca_85_TrI (phas_ok h k) rfl ?_
  rintro v w ⟨rfl, rfl⟩
  refine op_not rfl rfl ?_
  refine op_assign rfl (.bool _) rfl ?_
  refine op_nil (at_then ?_)
  refine W_cond _ rfl ?_ ?_
  · intro h1
    replace h1 := nvar_t h1
    refine W_rseq ?_
    refine op_assign rfl (.int _ _) rfl ?_
    refine op_nil (at_then ?_)
    refine W_ret (ret_block (ret_then (leave1 (v := (.int _ _)) rfl rfl rfl ?_)))
    exact ⟨by rw [show hasP P k = false by simpa using h1]; rfl, rfl⟩
  · intro h1
    replace h1 := nvar_f h1
    refine W_skip (at_block (at_then ?_))
    refine W_rseq ?_
    refine op_assign rfl (.int _ _) rfl ?_
    refine op_nil (at_then ?_)
    refine W_ret (leave1 (v := (.int _ _)) rfl rfl rfl ?_)
    exact ⟨by rw [show hasP P k = true by simpa using h1]; rfl, rfl⟩
theorem takeI_at {P : List Nat} {k : Nat} (h1 : ∀ j x, j < k → P[j]? = some x → x ≠ 0) (hk : k ≤ P.length) (h2 : ∀ x, P[k]? = some x → x = 0) : takeI P = k :=
  takeWhile_len (fun j x hj hx => decide_eq_true (h1 j x hj hx)) hk fun x hx => decide_eq_false (fun h => h (h2 x hx))

set_option maxRecDepth 20000 in
set_option maxHeartbeats 1000000 in
theorem ptake_ok (h : PgAt w bp ba P) : Ret Tryz.prog 139 #[ptr bp] w fun v w' => (takeI P < P.length ∧ v = .tuple #[.int .i64 (takeI P : Int), .int .i64 0] ∧ PgAt w' bp ba (P.set (takeI P) 2) ∧ Ext [ba] w w') ∨ (takeI P = P.length ∧ v = .tuple #[.int .i64 0, .int .i64 7] ∧ w = w') := by
  obtain ⟨w0, rfl⟩ : ∃ w0, w0 = w := ⟨_, rfl⟩
  have hlen := h.len
  refine ret_of_W (fn := Tryz.f139) Tryz.func139 rfl [.pointer (some ⟨bp, 0, none⟩)] rfl (by kernel_rfl) ?_
  refine W_rseq ?_
  refine op_assign rfl (.int _ _) rfl ?_
  refine op_assign rfl (.int _ _) rfl ?_
  refine op_nil (at_then ?_)
  refine W_seq ?_
  refine W_rseq ?_
  refine op_move rfl (.pointer _) rfl ?_
  refine op_eqlptr rfl un_33_TrI rfl ?_
  refine op_nil (at_then ?_)
  refine W_cond0 rfl ?_
  refine W_skip (at_then ?_)
  refine W_seq ?_
  refine W_rseq ?_
  refine op_move rfl (.pointer _) rfl ?_
  refine op_nilCheck rfl rfl ?_
  refine op_fieldAddr rfl fo_111_0_TrI rfl ?_
  first | refine op_ldb rfl ag_109_TrI rfl H (by first | exact at0 | exact at1 | exact at2 | exact at3 | exact at4 | exact at5 | exact at6 | exact at7 | exact at8 | exact at9) rfl ?_ | refine op_ld rfl ag_109_TrI rfl (cell_bl h.hd (0 + 0)) ?_
  refine op_len rfl el_109_TrI rfl ?_
  refine op_move rfl (.int _ _) rfl ?_
  refine op_nil (at_then ?_)
  refine W_block ?_
  refine W_loop 268427324 (α := Nat) (fun i => [(13, .int .i64 (i : Int))]) (fun i w' => w0 = w' ∧ i ≤ P.length ∧ ∀ j x, j < i → P[j]? = some x → x ≠ 0) (fun i => P.length - i) 0 rfl ?_ ?_ ?_
  · exact ⟨rfl, trivial⟩
  · exact ⟨rfl, Nat.zero_le _, fun j x hj => absurd hj (Nat.not_lt_zero _)⟩
  · rintro i j w ⟨rfl, hi, hb⟩
    refine W_rseq ?_
    refine op_lss rfl rfl rfl ?_
    refine op_nil (at_then ?_)
    refine W_seq ?_
    refine W_cond _ rfl ?_ ?_
    · intro h1
      replace h1 := dec_t h1
      obtain ⟨s, hs⟩ := get_some (l := P) (i := i) (by omega)
      have hs3 := h.ok s (List.mem_of_getElem? hs)
      refine W_skip (at_then ?_)
      refine W_seq ?_
      refine W_block ?_
      refine W_rseq ?_
      refine op_move rfl (.int _ _) rfl ?_
      refine op_indexAddr rfl el_109_TrI sz_112_TrI rfl rfl (by omega) (by omega) ?_
      refine op_ld rfl ag_112_TrI rfl (cell_st h.st hs) ?_
      refine op_assign rfl (.int _ _) rfl ?_
      refine op_assign rfl (.int _ _) rfl ?_
      refine op_nil (at_then ?_)
      refine W_rseq ?_
      refine op_move rfl (.int _ _) rfl ?_
      refine op_eql rfl rfl rfl ?_
      refine op_nil (at_then ?_)
      refine W_cond _ rfl ?_ ?_
      · intro h2
        replace h2 := dec_t h2
        have ht : takeI P = i := takeI_at hb hi (fun x hx => by rw [hs] at hx; cases hx; omega)
        have H := Ctx.start1 h.st
        refine W_rseq ?_
        refine op_move rfl (.pointer _) rfl ?_
        refine op_nilCheck rfl rfl ?_
        refine op_fieldAddr rfl fo_111_0_TrI rfl ?_
        first | refine op_ldb rfl ag_109_TrI rfl H (by first | exact at0 | exact at1 | exact at2 | exact at3 | exact at4 | exact at5 | exact at6 | exact at7 | exact at8 | exact at9) rfl ?_ | refine op_ld rfl ag_109_TrI rfl (cell_bl h.hd (0 + 0)) ?_
        refine op_move rfl (.int _ _) rfl ?_
        refine op_indexAddr rfl el_109_TrI sz_112_TrI rfl rfl (by omega) (by omega) ?_
        refine op_stb (.int _ _) rfl sz_112_TrI rfl rfl rfl H (by first | exact at0 | exact at1 | exact at2 | exact at3 | exact at4 | exact at5 | exact at6 | exact at7 | exact at8 | exact at9) (by first | decide | (simp; done) | (simp; omega)) ?_
        rintro w H
        refine op_nil (at_then ?_)
        refine W_rseq ?_
        refine op_move rfl (.int _ _) rfl ?_
        refine op_assign rfl (.int _ _) rfl ?_
        refine op_assign rfl (.int _ _) rfl ?_
        refine op_nil (at_then ?_)
        refine W_ret (ret_block (ret_then (ret_then (ret_block (ret_then (leave2 (v1 := (.int _ _)) (v2 := (.int _ _)) rfl rfl rfl rfl ?_))))))
        refine .inl ⟨by omega, by rw [ht], ?_, H.ext⟩
        rw [ht]
        exact h.set H.ext (by decide) (by rw [H.get at0]; simp [stv])
      · intro h2
        replace h2 := dec_f h2
        refine W_skip (at_block (at_then ?_))
        refine W_region ?_
        refine op_add_i64 rfl rfl rfl (by omega) (by omega) ?_
        refine op_move rfl (.int _ _) rfl ?_
        refine op_nil (at_then ?_)
        refine ⟨i + 1, rfl, ⟨rfl, trivial⟩, ⟨rfl, by omega, fun j x hj hx => ?_⟩, by omega⟩
        rcases Nat.lt_or_ge j i with h3 | h3
        · exact hb j x h3 hx
        · obtain rfl : j = i := by omega
          rw [hs] at hx; cases hx; omega
    · intro h1
      replace h1 := dec_f h1
      have ht : takeI P = P.length := by
        have hii : i = P.length := by omega
        subst hii
        exact takeI_at hb (Nat.le_refl _) (fun x hx => by have := (List.getElem?_eq_some_iff.1 hx).1; omega)
      refine W_exit (exit_then (exit_then (exit_here (at_then ?_))))
      refine W_rseq ?_
      refine op_assign rfl (.int _ _) rfl ?_
      refine op_assign rfl (.int _ _) rfl ?_
      refine op_nil (at_then ?_)
      refine W_ret (leave2 (v1 := (.int _ _)) (v2 := (.int _ _)) rfl rfl rfl rfl ?_)
      exact .inr ⟨ht, rfl, rfl⟩

set_option maxRecDepth 20000 in
set_option maxHeartbeats 1000000 in
theorem pdrop_ok (h : PgAt w bp ba P) (k : Nat) (hk : k < P.length) : Ret Tryz.prog 136 #[ptr bp, .int .i64 (k : Int)] w fun v w' => (∃ e, v = .int .i64 e) ∧ PgAt w' bp ba (dropP P k) ∧ Ext [ba] w w' := by
  obtain ⟨w0, rfl⟩ : ∃ w0, w0 = w := ⟨_, rfl⟩
  have hlen := h.len
  obtain ⟨s, hs⟩ := get_some (l := P) (i := k) hk
  have hs3 := h.ok s (List.mem_of_getElem? hs)
  have hh : hasP P (k : Int) = true := by unfold hasP; simp; omega
  have H := Ctx.start1 h.st
  have hpz : ∀ {z : World}, Ext [ba] w0 z → z.heap[bp]? = some (Bl TPg [.slice (some ⟨ba, 0, none⟩) P.length P.length]) := fun {z} hz => by rw [hz.block bp (heap_lt h.hd) (by simpa using h.ne)]; exact h.hd
  refine ret_of_W (fn := Tryz.f136) Tryz.func136 rfl [.pointer (some ⟨bp, 0, none⟩), .int .i64 (k : Int)] rfl (by kernel_rfl) ?_
  refine W_rseq ?_
  refine op_assign rfl (.int _ _) rfl ?_
  refine op_nil (at_then ?_)
  refine W_seq ?_
  refine W_rseq ?_
  refine op_move rfl (.pointer _) rfl ?_
  refine op_move rfl (.int _ _) rfl ?_
  refine op_call rfl ca_181_TrI (pmay_ok h (k : Int)) rfl ?_
  rintro v w ⟨rfl, rfl⟩
  rw [hh]
  refine op_assign rfl (.int _ _) rfl ?_
  refine op_nil (at_then ?_)
  refine W_rseq ?_
  refine op_move rfl (.int _ _) rfl ?_
  refine op_neq rfl rfl rfl ?_
  refine op_nil (at_then ?_)
  refine W_cond0 rfl ?_
  refine W_skip (at_then ?_)
  refine W_seq ?_
  refine W_rseq ?_
  refine op_move rfl (.pointer _) rfl ?_
  refine op_nilCheck rfl rfl ?_
  refine op_fieldAddr rfl fo_111_0_TrI rfl ?_
  first | refine op_ldb rfl ag_109_TrI rfl H (by first | exact at0 | exact at1 | exact at2 | exact at3 | exact at4 | exact at5 | exact at6 | exact at7 | exact at8 | exact at9) rfl ?_ | refine op_ld rfl ag_109_TrI rfl (cell_bl (hpz H.ext) (0 + 0)) ?_
  refine op_move rfl (.int _ _) rfl ?_
  refine op_indexAddr rfl el_109_TrI sz_112_TrI rfl rfl (by omega) (by omega) ?_
  refine op_ld rfl ag_112_TrI rfl (cell_st (H.get at0) hs) ?_
  refine op_nil (at_then ?_)
  refine W_block ?_
  refine W_rseq ?_
  refine op_eql rfl rfl rfl ?_
  refine op_assign rfl (.bool _) rfl ?_
  refine op_nil (at_then ?_)
  refine W_cond _ rfl ?_ ?_
  · intro h1
    replace h1 := dec_t h1
    have h1' : P[k]? = some 1 := by rw [hs]; congr 1; omega
    refine W_region ?_
    refine op_move rfl (.pointer _) rfl ?_
    refine op_nilCheck rfl rfl ?_
    refine op_fieldAddr rfl fo_111_0_TrI rfl ?_
    first | refine op_ldb rfl ag_109_TrI rfl H (by first | exact at0 | exact at1 | exact at2 | exact at3 | exact at4 | exact at5 | exact at6 | exact at7 | exact at8 | exact at9) rfl ?_ | refine op_ld rfl ag_109_TrI rfl (cell_bl (hpz H.ext) (0 + 0)) ?_
    refine op_move rfl (.int _ _) rfl ?_
    refine op_indexAddr rfl el_109_TrI sz_112_TrI rfl rfl (by omega) (by omega) ?_
    refine op_stb (.int _ _) rfl sz_112_TrI rfl rfl rfl H (by first | exact at0 | exact at1 | exact at2 | exact at3 | exact at4 | exact at5 | exact at6 | exact at7 | exact at8 | exact at9) (by first | decide | (simp; done) | (simp; omega)) ?_
    rintro w H
    refine op_nil (at_block (at_then ?_))
    refine W_rseq ?_
    refine op_assign rfl (.int _ _) rfl ?_
    refine op_nil (at_then ?_)
    refine W_ret (leave1 (v := (.int _ _)) rfl rfl rfl ?_)
    exact ⟨⟨_, rfl⟩, by rw [dropP, if_pos h1']; exact h.set H.ext (by decide) (by rw [H.get at0]; simp [stv]), H.ext⟩
  · intro h1
    replace h1 := dec_f h1
    have h1' : ¬ P[k]? = some 1 := by rw [hs]; intro e; cases e; omega
    refine W_rseq ?_
    refine op_eql rfl rfl rfl ?_
    refine op_assign rfl (.bool _) rfl ?_
    refine op_nil (at_then ?_)
    refine W_cond _ rfl ?_ ?_
    · intro h2
      replace h2 := dec_t h2
      have h2' : P[k]? = some 2 := by rw [hs]; congr 1; omega
      refine W_region ?_
      refine op_move rfl (.pointer _) rfl ?_
      refine op_nilCheck rfl rfl ?_
      refine op_fieldAddr rfl fo_111_0_TrI rfl ?_
      first | refine op_ldb rfl ag_109_TrI rfl H (by first | exact at0 | exact at1 | exact at2 | exact at3 | exact at4 | exact at5 | exact at6 | exact at7 | exact at8 | exact at9) rfl ?_ | refine op_ld rfl ag_109_TrI rfl (cell_bl (hpz H.ext) (0 + 0)) ?_
      refine op_move rfl (.int _ _) rfl ?_
      refine op_indexAddr rfl el_109_TrI sz_112_TrI rfl rfl (by omega) (by omega) ?_
      refine op_stb (.int _ _) rfl sz_112_TrI rfl rfl rfl H (by first | exact at0 | exact at1 | exact at2 | exact at3 | exact at4 | exact at5 | exact at6 | exact at7 | exact at8 | exact at9) (by first | decide | (simp; done) | (simp; omega)) ?_
      rintro w H
      refine op_nil (at_block (at_then ?_))
      refine W_rseq ?_
      refine op_assign rfl (.int _ _) rfl ?_
      refine op_nil (at_then ?_)
      refine W_ret (leave1 (v := (.int _ _)) rfl rfl rfl ?_)
      exact ⟨⟨_, rfl⟩, by rw [dropP, if_neg h1', if_pos h2']; exact h.set H.ext (by decide) (by rw [H.get at0]; simp [stv]), H.ext⟩
    · intro h2
      replace h2 := dec_f h2
      have h2' : ¬ P[k]? = some 2 := by rw [hs]; intro e; cases e; omega
      refine W_rseq ?_
      refine op_assign rfl (.int _ _) rfl ?_
      refine op_nil (at_then ?_)
      refine W_ret (ret_block (ret_then (leave1 (v := (.int _ _)) rfl rfl rfl ?_)))
      exact ⟨⟨_, rfl⟩, by rw [dropP, if_neg h1', if_neg h2']; exact h, H.ext⟩

set_option maxRecDepth 20000 in
set_option maxHeartbeats 1000000 in
theorem psettle_ok (h : PgAt w bp ba P) : Ret Tryz.prog 15 #[ptr bp] w fun v w' => v = .int .i64 0 ∧ PgAt w' bp ba (P.map settleS) ∧ Ext [ba] w w' := by
  obtain ⟨w0, rfl⟩ : ∃ w0, w0 = w := ⟨_, rfl⟩
  have hlen := h.len
  have H := Ctx.start1 h.st
  have hpz : ∀ {z : World}, Ext [ba] w0 z → z.heap[bp]? = some (Bl TPg [.slice (some ⟨ba, 0, none⟩) P.length P.length]) := fun {z} hz => by rw [hz.block bp (heap_lt h.hd) (by simpa using h.ne)]; exact h.hd
  refine ret_of_W (fn := Tryz.f15) Tryz.func15 rfl [.pointer (some ⟨bp, 0, none⟩)] rfl (by kernel_rfl) ?_
  refine W_rseq ?_
  refine op_assign rfl (.int _ _) rfl ?_
  refine op_nil (at_then ?_)
  refine W_seq ?_
  refine W_rseq ?_
  refine op_move rfl (.pointer _) rfl ?_
  refine op_eqlptr rfl un_33_TrI rfl ?_
  refine op_nil (at_then ?_)
  refine W_cond0 rfl ?_
  refine W_skip (at_then ?_)
  refine W_seq ?_
  refine W_rseq ?_
  refine op_move rfl (.pointer _) rfl ?_
  refine op_nilCheck rfl rfl ?_
  refine op_fieldAddr rfl fo_111_0_TrI rfl ?_
  first | refine op_ldb rfl ag_109_TrI rfl H (by first | exact at0 | exact at1 | exact at2 | exact at3 | exact at4 | exact at5 | exact at6 | exact at7 | exact at8 | exact at9) rfl ?_ | refine op_ld rfl ag_109_TrI rfl (cell_bl (hpz H.ext) (0 + 0)) ?_
  refine op_len rfl el_109_TrI rfl ?_
  refine op_move rfl (.int _ _) rfl ?_
  refine op_nil (at_then ?_)
  refine W_block ?_
  refine W_loop 34359734296 (α := Nat) (fun i => [(12, .int .i64 (i : Int))]) (fun i w' => i ≤ P.length ∧ Ctx w0 [ba] w' [(ba, Bl TSt (((P.take i).map settleS ++ P.drop i).map stv))]) (fun i => P.length - i) 0 rfl ?_ ?_ ?_
  · exact ⟨rfl, trivial⟩
  · exact ⟨Nat.zero_le _, H⟩
  · rintro i j w ⟨hi, H⟩
    refine W_rseq ?_
    refine op_lss rfl rfl rfl ?_
    refine op_nil (at_then ?_)
    refine W_seq ?_
    refine W_cond _ rfl ?_ ?_
    · intro h1
      replace h1 := dec_t h1
      obtain ⟨s, hs⟩ := get_some (l := P) (i := i) (by omega)
      have hs3 := h.ok s (List.mem_of_getElem? hs)
      have hlt : ((P.take i).map settleS).length = i := by rw [List.length_map, List.length_take]; omega
      have hmid : ((P.take i).map settleS ++ P.drop i)[i]? = some s := by
        rw [List.getElem?_append_right (by omega), hlt, Nat.sub_self, List.getElem?_drop, Nat.add_zero, hs]
      have hset : ∀ x, settleS s = x → ((P.take i).map settleS ++ P.drop i).set i x = (P.take (i + 1)).map settleS ++ P.drop (i + 1) := fun x hx => by
        rw [List.set_append_right _ _ (by omega), hlt, Nat.sub_self, take_snoc hs, List.map_append, List.append_assoc]
        congr 1
        rw [drop_cons hs, List.set_cons_zero, List.map_singleton, hx]; rfl
      have hsame : settleS s = s → (P.take i).map settleS ++ P.drop i = (P.take (i + 1)).map settleS ++ P.drop (i + 1) := fun hx => by
        rw [take_snoc hs, List.map_append, List.append_assoc]
        congr 1
        rw [drop_cons hs, List.map_singleton, hx]; rfl
      refine W_skip (at_then ?_)
      refine W_seq ?_
      refine W_block ?_
      refine W_rseq ?_
      refine op_move rfl (.int _ _) rfl ?_
      refine op_indexAddr rfl el_109_TrI sz_112_TrI rfl rfl (by omega) (by omega) ?_
      refine op_ld rfl ag_112_TrI rfl (cell_st (H.get at0) hmid) ?_
      refine op_assign rfl (.int _ _) rfl ?_
      refine op_assign rfl (.int _ _) rfl ?_
      refine op_nil (at_then ?_)
      refine W_rseq ?_
      refine op_move rfl (.int _ _) rfl ?_
      refine op_nil (at_then ?_)
      refine W_block ?_
      refine W_rseq ?_
      refine op_eql rfl rfl rfl ?_
      refine op_assign rfl (.bool _) rfl ?_
      refine op_nil (at_then ?_)
      refine W_cond _ rfl ?_ ?_
      · intro h2
        replace h2 := dec_t h2
        have he : settleS s = 1 := by unfold settleS; rw [if_pos (by omega)]
        refine W_region ?_
        refine op_move rfl (.pointer _) rfl ?_
        refine op_nilCheck rfl rfl ?_
        refine op_fieldAddr rfl fo_111_0_TrI rfl ?_
        first | refine op_ldb rfl ag_109_TrI rfl H (by first | exact at0 | exact at1 | exact at2 | exact at3 | exact at4 | exact at5 | exact at6 | exact at7 | exact at8 | exact at9) rfl ?_ | refine op_ld rfl ag_109_TrI rfl (cell_bl (hpz H.ext) (0 + 0)) ?_
        refine op_move rfl (.int _ _) rfl ?_
        refine op_indexAddr rfl el_109_TrI sz_112_TrI rfl rfl (by omega) (by omega) ?_
        refine op_stb (.int _ _) rfl sz_112_TrI rfl rfl rfl H (by first | exact at0 | exact at1 | exact at2 | exact at3 | exact at4 | exact at5 | exact at6 | exact at7 | exact at8 | exact at9) (by first | decide | (simp; done) | (simp; omega)) ?_
        rintro w H
        refine op_nil (at_block (at_block (at_then ?_)))
        refine W_region ?_
        refine op_add_i64 rfl rfl rfl (by omega) (by omega) ?_
        refine op_move rfl (.int _ _) rfl ?_
        refine op_nil (at_then ?_)
        have hs2 := hset _ he
        rw [show (((P.take i).map settleS ++ P.drop i).map stv).set (0 + ((i : Int)).toNat * 1) (.int .u8 1) = (((P.take i).map settleS ++ P.drop i).set i 1).map stv by rw [List.map_set]; simp [stv]] at H
        rw [hs2] at H
        exact ⟨i + 1, rfl, ⟨rfl, trivial⟩, ⟨by omega, H⟩, by omega⟩
      · intro h2
        replace h2 := dec_f h2
        refine W_rseq ?_
        refine op_eql rfl rfl rfl ?_
        refine op_assign rfl (.bool _) rfl ?_
        refine op_nil (at_then ?_)
        refine W_cond _ rfl ?_ ?_
        · intro h3
          replace h3 := dec_t h3
          have he : settleS s = 0 := by unfold settleS; rw [if_neg (by omega), if_pos (by omega)]
          refine W_region ?_
          refine op_move rfl (.pointer _) rfl ?_
          refine op_nilCheck rfl rfl ?_
          refine op_fieldAddr rfl fo_111_0_TrI rfl ?_
          first | refine op_ldb rfl ag_109_TrI rfl H (by first | exact at0 | exact at1 | exact at2 | exact at3 | exact at4 | exact at5 | exact at6 | exact at7 | exact at8 | exact at9) rfl ?_ | refine op_ld rfl ag_109_TrI rfl (cell_bl (hpz H.ext) (0 + 0)) ?_
          refine op_move rfl (.int _ _) rfl ?_
          refine op_indexAddr rfl el_109_TrI sz_112_TrI rfl rfl (by omega) (by omega) ?_
          refine op_stb (.int _ _) rfl sz_112_TrI rfl rfl rfl H (by first | exact at0 | exact at1 | exact at2 | exact at3 | exact at4 | exact at5 | exact at6 | exact at7 | exact at8 | exact at9) (by first | decide | (simp; done) | (simp; omega)) ?_
          rintro w H
          refine op_nil (at_block (at_block (at_then ?_)))
          refine W_region ?_
          refine op_add_i64 rfl rfl rfl (by omega) (by omega) ?_
          refine op_move rfl (.int _ _) rfl ?_
          refine op_nil (at_then ?_)
          have hs2 := hset _ he
          rw [show (((P.take i).map settleS ++ P.drop i).map stv).set (0 + ((i : Int)).toNat * 1) (.int .u8 0) = (((P.take i).map settleS ++ P.drop i).set i 0).map stv by rw [List.map_set]; simp [stv]] at H
          rw [hs2] at H
          exact ⟨i + 1, rfl, ⟨rfl, trivial⟩, ⟨by omega, H⟩, by omega⟩
        · intro h3
          replace h3 := dec_f h3
          have he : settleS s = s := by unfold settleS; rw [if_neg (by omega), if_neg (by omega)]
          rw [hsame he] at H
          refine W_skip (at_block (at_block (at_then ?_)))
          refine W_region ?_
          refine op_add_i64 rfl rfl rfl (by omega) (by omega) ?_
          refine op_move rfl (.int _ _) rfl ?_
          refine op_nil (at_then ?_)
          exact ⟨i + 1, rfl, ⟨rfl, trivial⟩, ⟨by omega, H⟩, by omega⟩
    · intro h1
      replace h1 := dec_f h1
      have hii : i = P.length := by omega
      subst hii
      rw [List.take_length, List.drop_length, List.append_nil] at H
      refine W_exit (exit_then (exit_then (exit_here (at_then ?_))))
      refine W_rseq ?_
      refine op_assign rfl (.int _ _) rfl ?_
      refine op_nil (at_then ?_)
      refine W_ret (leave1 (v := (.int _ _)) rfl rfl rfl ?_)
      refine ⟨rfl, ⟨by rw [hpz H.ext, List.length_map], H.get at0, h.ne, fun x hx => ?_, by rw [List.length_map]; exact hlen⟩, H.ext⟩
      obtain ⟨y, hy, rfl⟩ := List.mem_map.1 hx
      have := h.ok y hy
      unfold settleS
      split
      · omega
      · split <;> omega

set_option maxRecDepth 20000 in
set_option maxHeartbeats 1000000 in
theorem pback_ok (h : PgAt w bp ba P) : Ret Tryz.prog 44 #[ptr bp] w fun v w' => v = .int .i64 0 ∧ PgAt w' bp ba (P.map backS) ∧ Ext [ba] w w' := by
  obtain ⟨w0, rfl⟩ : ∃ w0, w0 = w := ⟨_, rfl⟩
  have hlen := h.len
  have H := Ctx.start1 h.st
  have hpz : ∀ {z : World}, Ext [ba] w0 z → z.heap[bp]? = some (Bl TPg [.slice (some ⟨ba, 0, none⟩) P.length P.length]) := fun {z} hz => by rw [hz.block bp (heap_lt h.hd) (by simpa using h.ne)]; exact h.hd
  refine ret_of_W (fn := Tryz.f44) Tryz.func44 rfl [.pointer (some ⟨bp, 0, none⟩)] rfl (by kernel_rfl) ?_
  refine W_rseq ?_
  refine op_assign rfl (.int _ _) rfl ?_
  refine op_nil (at_then ?_)
  refine W_seq ?_
  refine W_rseq ?_
  refine op_move rfl (.pointer _) rfl ?_
  refine op_eqlptr rfl un_33_TrI rfl ?_
  refine op_nil (at_then ?_)
  refine W_cond0 rfl ?_
  refine W_skip (at_then ?_)
  refine W_seq ?_
  refine W_rseq ?_
  refine op_move rfl (.pointer _) rfl ?_
  refine op_nilCheck rfl rfl ?_
  refine op_fieldAddr rfl fo_111_0_TrI rfl ?_
  first | refine op_ldb rfl ag_109_TrI rfl H (by first | exact at0 | exact at1 | exact at2 | exact at3 | exact at4 | exact at5 | exact at6 | exact at7 | exact at8 | exact at9) rfl ?_ | refine op_ld rfl ag_109_TrI rfl (cell_bl (hpz H.ext) (0 + 0)) ?_
  refine op_len rfl el_109_TrI rfl ?_
  refine op_move rfl (.int _ _) rfl ?_
  refine op_nil (at_then ?_)
  refine W_block ?_
  refine W_loop 34359734296 (α := Nat) (fun i => [(12, .int .i64 (i : Int))]) (fun i w' => i ≤ P.length ∧ Ctx w0 [ba] w' [(ba, Bl TSt (((P.take i).map backS ++ P.drop i).map stv))]) (fun i => P.length - i) 0 rfl ?_ ?_ ?_
  · exact ⟨rfl, trivial⟩
  · exact ⟨Nat.zero_le _, H⟩
  · rintro i j w ⟨hi, H⟩
    refine W_rseq ?_
    refine op_lss rfl rfl rfl ?_
    refine op_nil (at_then ?_)
    refine W_seq ?_
    refine W_cond _ rfl ?_ ?_
    · intro h1
      replace h1 := dec_t h1
      obtain ⟨s, hs⟩ := get_some (l := P) (i := i) (by omega)
      have hs3 := h.ok s (List.mem_of_getElem? hs)
      have hlt : ((P.take i).map backS).length = i := by rw [List.length_map, List.length_take]; omega
      have hmid : ((P.take i).map backS ++ P.drop i)[i]? = some s := by
        rw [List.getElem?_append_right (by omega), hlt, Nat.sub_self, List.getElem?_drop, Nat.add_zero, hs]
      have hset : ∀ x, backS s = x → ((P.take i).map backS ++ P.drop i).set i x = (P.take (i + 1)).map backS ++ P.drop (i + 1) := fun x hx => by
        rw [List.set_append_right _ _ (by omega), hlt, Nat.sub_self, take_snoc hs, List.map_append, List.append_assoc]
        congr 1
        rw [drop_cons hs, List.set_cons_zero, List.map_singleton, hx]; rfl
      have hsame : backS s = s → (P.take i).map backS ++ P.drop i = (P.take (i + 1)).map backS ++ P.drop (i + 1) := fun hx => by
        rw [take_snoc hs, List.map_append, List.append_assoc]
        congr 1
        rw [drop_cons hs, List.map_singleton, hx]; rfl
      refine W_skip (at_then ?_)
      refine W_seq ?_
      refine W_block ?_
      refine W_rseq ?_
      refine op_move rfl (.int _ _) rfl ?_
      refine op_indexAddr rfl el_109_TrI sz_112_TrI rfl rfl (by omega) (by omega) ?_
      refine op_ld rfl ag_112_TrI rfl (cell_st (H.get at0) hmid) ?_
      refine op_assign rfl (.int _ _) rfl ?_
      refine op_assign rfl (.int _ _) rfl ?_
      refine op_nil (at_then ?_)
      refine W_rseq ?_
      refine op_move rfl (.int _ _) rfl ?_
      refine op_nil (at_then ?_)
      refine W_block ?_
      refine W_rseq ?_
      refine op_eql rfl rfl rfl ?_
      refine op_assign rfl (.bool _) rfl ?_
      refine op_nil (at_then ?_)
      refine W_cond _ rfl ?_ ?_
      · intro h2
        replace h2 := dec_t h2
        have he : backS s = 0 := by unfold backS; rw [if_pos (by omega)]
        refine W_region ?_
        refine op_move rfl (.pointer _) rfl ?_
        refine op_nilCheck rfl rfl ?_
        refine op_fieldAddr rfl fo_111_0_TrI rfl ?_
        first | refine op_ldb rfl ag_109_TrI rfl H (by first | exact at0 | exact at1 | exact at2 | exact at3 | exact at4 | exact at5 | exact at6 | exact at7 | exact at8 | exact at9) rfl ?_ | refine op_ld rfl ag_109_TrI rfl (cell_bl (hpz H.ext) (0 + 0)) ?_
        refine op_move rfl (.int _ _) rfl ?_
        refine op_indexAddr rfl el_109_TrI sz_112_TrI rfl rfl (by omega) (by omega) ?_
        refine op_stb (.int _ _) rfl sz_112_TrI rfl rfl rfl H (by first | exact at0 | exact at1 | exact at2 | exact at3 | exact at4 | exact at5 | exact at6 | exact at7 | exact at8 | exact at9) (by first | decide | (simp; done) | (simp; omega)) ?_
        rintro w H
        refine op_nil (at_block (at_block (at_then ?_)))
        refine W_region ?_
        refine op_add_i64 rfl rfl rfl (by omega) (by omega) ?_
        refine op_move rfl (.int _ _) rfl ?_
        refine op_nil (at_then ?_)
        have hs2 := hset _ he
        rw [show (((P.take i).map backS ++ P.drop i).map stv).set (0 + ((i : Int)).toNat * 1) (.int .u8 0) = (((P.take i).map backS ++ P.drop i).set i 0).map stv by rw [List.map_set]; simp [stv]] at H
        rw [hs2] at H
        exact ⟨i + 1, rfl, ⟨rfl, trivial⟩, ⟨by omega, H⟩, by omega⟩
      · intro h2
        replace h2 := dec_f h2
        refine W_rseq ?_
        refine op_eql rfl rfl rfl ?_
        refine op_assign rfl (.bool _) rfl ?_
        refine op_nil (at_then ?_)
        refine W_cond _ rfl ?_ ?_
        · intro h3
          replace h3 := dec_t h3
          have he : backS s = 1 := by unfold backS; rw [if_neg (by omega), if_pos (by omega)]
          refine W_region ?_
          refine op_move rfl (.pointer _) rfl ?_
          refine op_nilCheck rfl rfl ?_
          refine op_fieldAddr rfl fo_111_0_TrI rfl ?_
          first | refine op_ldb rfl ag_109_TrI rfl H (by first | exact at0 | exact at1 | exact at2 | exact at3 | exact at4 | exact at5 | exact at6 | exact at7 | exact at8 | exact at9) rfl ?_ | refine op_ld rfl ag_109_TrI rfl (cell_bl (hpz H.ext) (0 + 0)) ?_
          refine op_move rfl (.int _ _) rfl ?_
          refine op_indexAddr rfl el_109_TrI sz_112_TrI rfl rfl (by omega) (by omega) ?_
          refine op_stb (.int _ _) rfl sz_112_TrI rfl rfl rfl H (by first | exact at0 | exact at1 | exact at2 | exact at3 | exact at4 | exact at5 | exact at6 | exact at7 | exact at8 | exact at9) (by first | decide | (simp; done) | (simp; omega)) ?_
          rintro w H
          refine op_nil (at_block (at_block (at_then ?_)))
          refine W_region ?_
          refine op_add_i64 rfl rfl rfl (by omega) (by omega) ?_
          refine op_move rfl (.int _ _) rfl ?_
          refine op_nil (at_then ?_)
          have hs2 := hset _ he
          rw [show (((P.take i).map backS ++ P.drop i).map stv).set (0 + ((i : Int)).toNat * 1) (.int .u8 1) = (((P.take i).map backS ++ P.drop i).set i 1).map stv by rw [List.map_set]; simp [stv]] at H
          rw [hs2] at H
          exact ⟨i + 1, rfl, ⟨rfl, trivial⟩, ⟨by omega, H⟩, by omega⟩
        · intro h3
          replace h3 := dec_f h3
          have he : backS s = s := by unfold backS; rw [if_neg (by omega), if_neg (by omega)]
          rw [hsame he] at H
          refine W_skip (at_block (at_block (at_then ?_)))
          refine W_region ?_
          refine op_add_i64 rfl rfl rfl (by omega) (by omega) ?_
          refine op_move rfl (.int _ _) rfl ?_
          refine op_nil (at_then ?_)
          exact ⟨i + 1, rfl, ⟨rfl, trivial⟩, ⟨by omega, H⟩, by omega⟩
    · intro h1
      replace h1 := dec_f h1
      have hii : i = P.length := by omega
      subst hii
      rw [List.take_length, List.drop_length, List.append_nil] at H
      refine W_exit (exit_then (exit_then (exit_here (at_then ?_))))
      refine W_rseq ?_
      refine op_assign rfl (.int _ _) rfl ?_
      refine op_nil (at_then ?_)
      refine W_ret (leave1 (v := (.int _ _)) rfl rfl rfl ?_)
      refine ⟨rfl, ⟨by rw [hpz H.ext, List.length_map], H.get at0, h.ne, fun x hx => ?_, by rw [List.length_map]; exact hlen⟩, H.ext⟩
      obtain ⟨y, hy, rfl⟩ := List.mem_map.1 hx
      have := h.ok y hy
      unfold backS
      split
      · omega
      · split <;> omega

theorem countP_snoc {P : List Nat} {i s : Nat} (h : P[i]? = some s) : freeP (P.take (i + 1)) = freeP (P.take i) + if s = 0 then 1 else 0 := by
  unfold freeP
  rw [take_snoc h, List.countP_append]
  by_cases hs : s = 0 <;> simp [hs]
theorem freeP_le (P : List Nat) : freeP P ≤ P.length := List.countP_le_length
set_option maxRecDepth 20000 in
theorem pfree_ok (h : PgAt w bp ba P) : Ret Tryz.prog 22 #[ptr bp] w fun v w' => v = .int .i64 (freeP P : Int) ∧ w = w' := by
  obtain ⟨w0, rfl⟩ : ∃ w0, w0 = w := ⟨_, rfl⟩
  have hlen := h.len
  refine ret_of_W (fn := Tryz.f22) Tryz.func22 rfl [.pointer (some ⟨bp, 0, none⟩)] rfl (by kernel_rfl) ?_
  refine W_rseq ?_
  refine op_assign rfl (.int _ _) rfl ?_
  refine op_nil (at_then ?_)
  refine W_seq ?_
  refine W_rseq ?_
  refine op_move rfl (.pointer _) rfl ?_
  refine op_eqlptr rfl un_33_TrI rfl ?_
  refine op_nil (at_then ?_)
  refine W_cond0 rfl ?_
  refine W_skip (at_then ?_)
  refine W_rseq ?_
  refine op_assign rfl (.int _ _) rfl ?_
  refine op_nil (at_then ?_)
  refine W_seq ?_
  refine W_rseq ?_
  refine op_move rfl (.pointer _) rfl ?_
  refine op_nilCheck rfl rfl ?_
  refine op_fieldAddr rfl fo_111_0_TrI rfl ?_
  first | refine op_ldb rfl ag_109_TrI rfl H (by first | exact at0 | exact at1 | exact at2 | exact at3 | exact at4 | exact at5 | exact at6 | exact at7 | exact at8 | exact at9) rfl ?_ | refine op_ld rfl ag_109_TrI rfl (cell_bl h.hd (0 + 0)) ?_
  refine op_len rfl el_109_TrI rfl ?_
  refine op_move rfl (.int _ _) rfl ?_
  refine op_nil (at_then ?_)
  refine W_block ?_
  refine W_loop 4186152 (α := Nat) (fun i => [(13, .int .i64 (i : Int)), (3, .int .i64 (freeP (P.take i) : Int))]) (fun i w' => w0 = w' ∧ i ≤ P.length) (fun i => P.length - i) 0 rfl ?_ ?_ ?_
  · exact ⟨rfl, rfl, trivial⟩
  · exact ⟨rfl, Nat.zero_le _⟩
  · rintro i j w ⟨rfl, hi⟩
    refine W_rseq ?_
    refine op_lss rfl rfl rfl ?_
    refine op_nil (at_then ?_)
    refine W_seq ?_
    refine W_cond _ rfl ?_ ?_
    · intro h1
      replace h1 := dec_t h1
      obtain ⟨s, hs⟩ := get_some (l := P) (i := i) (by omega)
      have hs3 := h.ok s (List.mem_of_getElem? hs)
      have hc := countP_snoc hs
      have hfl := freeP_le (P.take i)
      have hlt := List.length_take (i := i) (l := P)
      refine W_skip (at_then ?_)
      refine W_seq ?_
      refine W_block ?_
      refine W_rseq ?_
      refine op_indexAddr rfl el_109_TrI sz_112_TrI rfl rfl (by omega) (by omega) ?_
      refine op_ld rfl ag_112_TrI rfl (cell_st h.st hs) ?_
      refine op_assign rfl (.int _ _) rfl ?_
      refine op_nil (at_then ?_)
      refine W_rseq ?_
      refine op_move rfl (.int _ _) rfl ?_
      refine op_eql rfl rfl rfl ?_
      refine op_nil (at_then ?_)
      refine W_cond _ rfl ?_ ?_
      · intro h2
        replace h2 := dec_t h2
        rw [if_pos (by omega)] at hc
        refine W_region ?_
        refine op_move rfl (.int _ _) rfl ?_
        refine op_add_i64 rfl rfl rfl (by omega) (by omega) ?_
        refine op_assign rfl (.int _ _) rfl ?_
        refine op_nil (at_block (at_then ?_))
        refine W_region ?_
        refine op_add_i64 rfl rfl rfl (by omega) (by omega) ?_
        refine op_move rfl (.int _ _) rfl ?_
        refine op_nil (at_then ?_)
        exact ⟨i + 1, rfl, ⟨rfl, congrArg (Value.int .i64) (by rw [hc]; rfl), trivial⟩, ⟨rfl, by omega⟩, by omega⟩
      · intro h2
        replace h2 := dec_f h2
        rw [if_neg (by omega)] at hc
        refine W_skip (at_block (at_then ?_))
        refine W_region ?_
        refine op_add_i64 rfl rfl rfl (by omega) (by omega) ?_
        refine op_move rfl (.int _ _) rfl ?_
        refine op_nil (at_then ?_)
        exact ⟨i + 1, rfl, ⟨rfl, congrArg (Value.int .i64) (by rw [hc]; rfl), trivial⟩, ⟨rfl, by omega⟩, by omega⟩
    · intro h1
      replace h1 := dec_f h1
      have hii : i = P.length := by omega
      subst hii
      rw [List.take_length]
      refine W_exit (exit_then (exit_then (exit_here (at_then ?_))))
      refine W_rseq ?_
      refine op_move rfl (.int _ _) rfl ?_
      refine op_assign rfl (.int _ _) rfl ?_
      refine op_nil (at_then ?_)
      refine W_ret (leave1 (v := (.int _ _)) rfl rfl rfl ?_)
      exact ⟨rfl, rfl⟩
theorem pstate_ok (h : PgAt w bp ba P) (k : Nat) {s : Nat} (hk : P[k]? = some s) : Ret Tryz.prog 39 #[ptr bp, .int .i64 (k : Int)] w fun v w' => v = .int .u8 (s : Int) ∧ w = w' := by
  obtain ⟨w0, rfl⟩ : ∃ w0, w0 = w := ⟨_, rfl⟩
  have hlen := h.len
  have hkl := get_lt hk
  have hs3 := h.ok s (List.mem_of_getElem? hk)
  have hh : hasP P (k : Int) = true := by unfold hasP; simp; omega
  refine ret_of_W (fn := Tryz.f39) Tryz.func39 rfl [.pointer (some ⟨bp, 0, none⟩), .int .i64 (k : Int)] rfl (by kernel_rfl) ?_
  refine W_rseq ?_
  refine op_assign rfl (.int _ _) rfl ?_
  refine op_nil (at_then ?_)
  refine W_seq ?_
  refine W_rseq ?_
  refine op_move rfl (.pointer _) rfl ?_
  refine op_move rfl (.int _ _) rfl ?_
  refine op_call rfl ca_85_TrI (phas_ok h (k : Int)) rfl ?_
  rintro v w ⟨rfl, rfl⟩
  rw [hh]
  refine op_not rfl rfl ?_
  refine op_nil (at_then ?_)
  refine W_cond0 rfl ?_
  refine W_skip (at_then ?_)
  refine W_rseq ?_
  refine op_move rfl (.pointer _) rfl ?_
  refine op_nilCheck rfl rfl ?_
  refine op_fieldAddr rfl fo_111_0_TrI rfl ?_
  first | refine op_ldb rfl ag_109_TrI rfl H (by first | exact at0 | exact at1 | exact at2 | exact at3 | exact at4 | exact at5 | exact at6 | exact at7 | exact at8 | exact at9) rfl ?_ | refine op_ld rfl ag_109_TrI rfl (cell_bl h.hd (0 + 0)) ?_ | refine op_ld rfl ag_109_TrI rfl (cell_st h.st hk) ?_
  refine op_move rfl (.int _ _) rfl ?_
  refine op_indexAddr rfl el_109_TrI sz_112_TrI rfl rfl (by omega) (by omega) ?_
  first | refine op_ldb rfl ag_112_TrI rfl H (by first | exact at0 | exact at1 | exact at2 | exact at3 | exact at4 | exact at5 | exact at6 | exact at7 | exact at8 | exact at9) rfl ?_ | refine op_ld rfl ag_112_TrI rfl (cell_bl h.hd (0 + 0)) ?_ | refine op_ld rfl ag_112_TrI rfl (cell_st h.st hk) ?_
  refine op_assign rfl (.int _ _) rfl ?_
  refine op_nil (at_then ?_)
  refine W_ret (leave1 (v := (.int _ _)) rfl rfl rfl ?_)
  exact ⟨rfl, rfl⟩
end
theorem pnew_ok (n : Nat) (h1 : 1 ≤ n) (h2 : n ≤ 4096) (w : World) : Ret Tryz.prog 31 #[.int .i64 (n : Int)] w fun v w' => ∃ bp ba, v = .tuple #[ptr bp, .int .i64 0] ∧ PgAt w' bp ba (List.replicate n 0) ∧ Ext [] w w' ∧ w.heap.size ≤ bp ∧ w.heap.size ≤ ba := by
  obtain ⟨w0, rfl⟩ : ∃ w0, w0 = w := ⟨_, rfl⟩
  have H := Ctx.start w0 []
  refine ret_of_W (fn := Tryz.f31) Tryz.func31 rfl [.int .i64 (n : Int)] rfl (by kernel_rfl) ?_
  refine W_rseq ?_
  refine op_assign rfl (.pointer _) rfl ?_
  refine op_assign rfl (.int _ _) rfl ?_
  refine op_nil (at_then ?_)
  refine W_seq ?_
  refine W_rseq ?_
  refine op_move rfl (.int _ _) rfl ?_
  refine op_lss rfl rfl rfl ?_
  rw [decide_eq_false (show ¬ (n : Int) < 1 by omega)]
  refine op_move rfl (.bool _) rfl ?_
  refine op_move rfl (.int _ _) rfl ?_
  refine op_gtr rfl rfl rfl ?_
  rw [decide_eq_false (show ¬ (4096 : Int) < (n : Int) by omega)]
  refine op_pick0 rfl rfl (.bool _) rfl ?_
  refine op_nil (at_then ?_)
  refine W_cond0 rfl ?_
  refine W_skip (at_then ?_)
  refine W_rseq ?_
  refine op_move rfl (.int _ _) rfl ?_
  refine op_make rfl el_109_TrI sz_112_TrI by_112_TrI zc_112_TrI rfl rfl (by omega) (by omega) (by omega) (by omega) H ?_
  rintro b11 w - H
  rw [Int.toNat_natCast] at H
  rw [Int.toNat_natCast]
  refine op_buildS [.slice (some ⟨b11, 0, none⟩) n n] rfl pl_111_TrI zc_111_TrI (by kernel_rfl) ?_
  refine op_box rfl [.slice (some ⟨b11, 0, none⟩) n n] (.agg _) rfl rfl H ?_
  rintro b13 w - H
  refine op_assign rfl (.pointer _) rfl ?_
  refine op_assign rfl (.int _ _) rfl ?_
  refine op_nil (at_then ?_)
  refine W_ret (leave2 (v1 := (.pointer _)) (v2 := (.int _ _)) rfl rfl rfl rfl ?_)
  have hn := H.nd
  refine ⟨b13, b11, rfl, ⟨by rw [H.get at0, List.length_replicate]; rfl, by rw [H.get at1]; simp [stv, TSt], fun e => by simp [e] at hn, fun s hs => by rw [(List.mem_replicate.1 hs).2]; decide, by rw [List.length_replicate]; exact h2⟩, H.ext, (H.own _ (List.mem_cons_self ..)).elim (fun h => by cases h) id, (H.own _ (List.mem_cons_of_mem _ (List.mem_cons_self ..))).elim (fun h => by cases h) id⟩

end Go.Proofs.YtbkadlngijkmmaaGreatDoor

/- A tree in memory: its device, its pages; what it reads. -/
namespace Go.Proofs.YtbkadlngijkmmaaGreatDoor
open Go.GV
theorem ag_116_TrJ : aggB Tryz.prog 116 = some true := by kernel_rfl
theorem ag_33_TrJ : aggB Tryz.prog 33 = some false := by kernel_rfl
theorem ca_123_TrJ : callable Tryz.prog 123 = true := by kernel_rfl
theorem ca_124_TrJ : callable Tryz.prog 124 = true := by kernel_rfl
theorem ca_69_TrJ : callable Tryz.prog 69 = true := by kernel_rfl
theorem fo_146_0_TrJ : fieldO Tryz.prog 146 0 = some 0 := by kernel_rfl
theorem fo_146_1_TrJ : fieldO Tryz.prog 146 1 = some 1 := by kernel_rfl
theorem fo_146_2_TrJ : fieldO Tryz.prog 146 2 = some 2 := by kernel_rfl
theorem pl_116_TrJ : placesB Tryz.prog 116 = some [(0, 1), (1, 1)] := by kernel_rfl
theorem sz_116_TrJ : tsize Tryz.prog 116 = some 2 := by kernel_rfl
theorem zc_116_TrJ : zcells Tryz.prog 116 = some ([.bool false, .slice none 0 0]) := by kernel_rfl
attribute [local irreducible] Wops W Wq Wt

theorem Its.past {w w1 w2 : World} {a : Option Addr} {n c : Nat} {L : List It} {S : List Nat} (I : Its w (Old w1) a n c L) (he : Ext S w w2) (hS : ∀ x ∈ S, x < w1.heap.size) : Its w2 (Old w1) a n c L :=
  I.turn ⟨⟨S, hS, he⟩, fun _ h => .inl h⟩
def TT : Nat := 146
def TreeB (bd bp fr : Nat) : List Value := [ptr bd, ptr bp, .int .i64 (fr : Int)]
/-- A tree, its pages, its device, and blocks of one's own. -/
structure Tx (w : World) (bt bd bp ba fr : Nat) (A : Dev) (P : List Nat) (F : Mut) (L : List (Nat × Obj)) : Prop where
  tr : w.heap[bt]? = some (Bl TT (TreeB bd bp fr))
  pg : PgAt w bp ba P
  dev : DevAt w bd A F
  blk : ∀ x ∈ L, w.heap[x.1]? = some x.2
  nd : L.Pairwise fun x y => x.1 ≠ y.1
  off : ∀ x ∈ L, ¬ F x.1 ∧ x.1 ≠ ba ∧ x.1 ≠ bt ∧ x.1 ≠ bp
  nbt : ¬ F bt ∧ bt ≠ ba
  nbp : ¬ F bp
  nba : ¬ F ba
  lt : ∀ x, F x → x < w.heap.size
/-- What may turn. -/
def TM (F : Mut) (ba bt bp : Nat) (L : List (Nat × Obj)) : Mut := fun x => F x ∨ x = ba ∨ x = bt ∨ x = bp ∨ x ∈ L.map (·.1)
section
variable {w w' : World} {bt bd bp ba fr : Nat} {A A' : Dev} {P P' : List Nat} {F F' : Mut} {L L' : List (Nat × Obj)}
theorem Tx.mlt (T : Tx w bt bd bp ba fr A P F L) : ∀ x, TM F ba bt bp L x → x < w.heap.size := fun x h => by
  rcases h with h | rfl | rfl | rfl | h
  · exact T.lt x h
  · exact heap_lt T.pg.st
  · exact heap_lt T.tr
  · exact heap_lt T.pg.hd
  · obtain ⟨y, hy, rfl⟩ := List.mem_map.1 h
    exact heap_lt (T.blk y hy)
theorem Tx.ids (T : Tx w bt bd bp ba fr A P F L) : ∀ x ∈ L.map (·.1), ¬ F x ∧ x ≠ ba ∧ x ≠ bt ∧ x ≠ bp := fun x h => by
  obtain ⟨y, hy, rfl⟩ := List.mem_map.1 h
  exact T.off y hy
/-- One's own blocks turn, and new ones come. -/
theorem Tx.own (T : Tx w bt bd bp ba fr A P F L) (H : Ctx w (L.map (·.1)) w' L') : Tx w' bt bd bp ba fr A P F L' ∧ Grown (TM F ba bt bp L) (TM F ba bt bp L') w w' := by
  have hi := T.ids
  have hs := H.ext.size
  have hnew : ∀ x ∈ L', ¬ F x.1 ∧ x.1 ≠ ba ∧ x.1 ≠ bt ∧ x.1 ≠ bp := fun x hx => by
    rcases H.own x hx with h | h
    · exact hi _ h
    · exact ⟨fun hf => by have := T.lt _ hf; omega, fun e => by have := heap_lt T.pg.st; omega, fun e => by have := heap_lt T.tr; omega, fun e => by have := heap_lt T.pg.hd; omega⟩
  refine ⟨⟨?_, T.pg.keep H.ext (fun h => (hi _ h).2.2.2 rfl) (fun h => (hi _ h).2.1 rfl), T.dev.keep H.ext fun x h hf => (hi x h).1 hf, H.blk, H.nd, hnew, T.nbt, T.nbp, T.nba, fun x h => by have := T.lt x h; omega⟩, ⟨⟨L.map (·.1), fun x h => .inr (.inr (.inr (.inr h))), H.ext⟩, fun x h => ?_⟩⟩
  · rw [H.ext.block bt (heap_lt T.tr) fun h => (hi _ h).2.2.1 rfl]; exact T.tr
  · rcases h with h | h | h | h | h
    · exact .inl (.inl h)
    · exact .inl (.inr (.inl h))
    · exact .inl (.inr (.inr (.inl h)))
    · exact .inl (.inr (.inr (.inr (.inl h))))
    · obtain ⟨y, hy, rfl⟩ := List.mem_map.1 h
      exact (H.own y hy).imp (fun h => .inr (.inr (.inr (.inr h)))) id
theorem Tx.ctx (T : Tx w bt bd bp ba fr A P F L) : Ctx w (L.map (·.1)) w L := Ctx.startL T.blk T.nd
theorem Tx.call (T : Tx w bt bd bp ba fr A P F L) (hx : Ext [] w w') : Tx w' bt bd bp ba fr A P F L := (T.own (T.ctx.call hx)).1
theorem Grown.call0 {F : Mut} (hx : Ext [] w w') : Grown F F w w' := ⟨.of0 hx, fun _ h => .inl h⟩
theorem Tx.page (T : Tx w bt bd bp ba fr A P F L) (h : PgAt w' bp ba P') (hx : Ext [ba] w w') : Tx w' bt bd bp ba fr A P' F L ∧ Grown (TM F ba bt bp L) (TM F ba bt bp L) w w' := by
  have hs := hx.size
  refine ⟨⟨?_, h, T.dev.keep hx fun x h hf => by rw [List.mem_singleton.1 h] at hf; exact T.nba hf, fun x hm => ?_, T.nd, T.off, T.nbt, T.nbp, T.nba, fun x h => by have := T.lt x h; omega⟩, ⟨⟨[ba], fun x h => .inr (.inl (List.mem_singleton.1 h)), hx⟩, fun x h => .inl h⟩⟩
  · rw [hx.block bt (heap_lt T.tr) (by simpa using T.nbt.2)]; exact T.tr
  · rw [hx.block x.1 (heap_lt (T.blk x hm)) (by simpa using (T.off x hm).2.1)]; exact T.blk x hm
theorem Tx.devs (T : Tx w bt bd bp ba fr A P F L) (h : DevAt w' bd A' F') (t : Turn F w w') (hF : ∀ x, F' x → F x ∨ (w.heap.size ≤ x ∧ x < w'.heap.size)) : Tx w' bt bd bp ba fr A' P F' L ∧ Grown (TM F ba bt bp L) (TM F' ba bt bp L) w w' := by
  obtain ⟨S, hS, hx⟩ := t
  have hs := hx.size
  have hno : ∀ x, x < w.heap.size → ¬ F x → ¬ F' x := fun x h1 h2 h3 => (hF x h3).elim h2 fun h => by omega
  have hb := heap_lt T.tr; have hp := heap_lt T.pg.hd; have ha := heap_lt T.pg.st
  refine ⟨⟨?_, T.pg.keep hx (fun h => T.nbp (hS _ h)) (fun h => T.nba (hS _ h)), h, fun x hm => ?_, T.nd, fun x hm => ⟨hno _ (heap_lt (T.blk x hm)) (T.off x hm).1, (T.off x hm).2⟩, ⟨hno _ hb T.nbt.1, T.nbt.2⟩, hno _ hp T.nbp, hno _ ha T.nba, fun x h => ?_⟩, ⟨⟨S, fun x h => .inl (hS x h), hx⟩, fun x h => ?_⟩⟩
  · rw [hx.block bt hb fun h => T.nbt.1 (hS _ h)]; exact T.tr
  · rw [hx.block x.1 (heap_lt (T.blk x hm)) fun h => (T.off x hm).1 (hS _ h)]; exact T.blk x hm
  · rcases hF x h with h | h
    · have := T.lt x h; omega
    · exact h.2
  · rcases h with h | h
    · exact (hF x h).imp .inl And.left
    · exact .inl (.inr h)
end

/-- What is read of a page that lies so deep. -/
def readT (A : Dev) (fr sz : Nat) (page depth : Int) : Int × Option (Bool × List It) :=
  if 16 < depth ∨ page < 0 ∨ (sz : Int) ≤ page then (9, none)
  else if readE A ((fr : Int) + page) = 0 then (match parseO (readB A ((fr : Int) + page)) with | none => (9, none) | some n => (0, some n))
  else (readE A ((fr : Int) + page), none)
theorem readB_len {A : Dev} (h : Wf A) (k : Int) : (readB A k).length ≤ 512 := by
  unfold readB
  by_cases h0 : readE A k = 0
  · rw [decide_eq_true h0, cond_true]
    unfold readE at h0
    cases ho : A.on with
    | false => rw [ho] at h0; cases h0
    | true =>
      cases hh : A.has k with
      | false => rw [ho, hh] at h0; cases h0
      | true =>
        have hl : k.toNat < A.B.length := by simp only [Dev.has, Bool.and_eq_true, decide_eq_true_eq] at hh; omega
        have hm := getD_mem (d := (zeros, ([] : List Byt))) hl
        unfold stands
        cases hg : (A.B.getD k.toNat (zeros, [])).2.getLast? with
        | none => rw [Option.getD_none, h.sure _ hm]; exact Nat.le_refl _
        | some b => rw [Option.getD_some, h.loose _ hm b (List.mem_of_getLast? hg)]; exact Nat.le_refl _
  · rw [decide_eq_false h0]; exact Nat.zero_le _

section
variable {w : World} {bt bd bp ba fr : Nat} {A : Dev} {P : List Nat} {F : Mut} {L : List (Nat × Obj)}
set_option maxRecDepth 20000 in
set_option maxHeartbeats 4000000 in
theorem read7_ok (T : Tx w bt bd bp ba fr A P F L) (hfr : fr ≤ 5000) (page depth : Int) (hp : -9223372036854775808 ≤ page ∧ page ≤ 9223372036854775807) {mx : Nat} (hfew : Few A mx) (hmx : mx ≤ 1000000000) :
    Ret Tryz.prog 66 #[ptr bt, .int .i64 page, .int .i64 depth] w fun v w' => ∃ (inner : Bool) (a : Option Addr) (n c : Nat), v = .tuple #[.agg #[.bool inner, .slice a n c], .int .i64 (readT A fr P.length page depth).1] ∧ Ext [] w w' ∧ ∀ i M, (readT A fr P.length page depth).2 = some (i, M) → inner = i ∧ Its w' (Old w) a n c M ∧ ∀ x ∈ M, x.key.length ≤ 505 ∧ x.val.length ≤ 505 ∧ x.page < 4294967296 := by
  obtain ⟨w0, rfl⟩ : ∃ w0, w0 = w := ⟨_, rfl⟩
  have H := Ctx.start w0 []
  have hlen := T.pg.len
  obtain ⟨rd, hrd⟩ : ∃ rd, rd = readT A fr P.length page depth := ⟨_, rfl⟩
  rw [← hrd]
  unfold readT at hrd
  refine ret_of_W (fn := Tryz.f66) Tryz.func66 rfl [.pointer (some ⟨bt, 0, none⟩), .int .i64 page, .int .i64 depth] rfl (by kernel_rfl) ?_
  refine W_rseq ?_
  refine op_alloc rfl zc_116_TrJ H ?_
  rintro b6 w - H
  refine op_assign rfl (.int _ _) rfl ?_
  refine op_nil (at_then ?_)
  refine W_seq ?_
  refine W_rseq (Wops_join (α := Unit) 134213632 (fun _ => [(26, .bool (decide (16 < depth) || (decide (page < 0) || decide ((P.length : Int) ≤ page))))]) (fun _ w' => Ctx w0 [] w' [(b6, Bl 116 [.bool false, .slice none 0 0])]) rfl ?_ ?_)
  · refine op_move rfl (.int _ _) rfl ?_
    refine op_gtr rfl rfl rfl ?_
    refine op_move rfl (.bool _) rfl ?_
    refine Wops_split 14 rfl ?_ ?_
    · intro h1
      replace h1 := dec_t h1
      refine op_skip rfl ?_
      refine op_skip rfl ?_
      refine op_pick1 rfl rfl (.bool _) rfl ?_
      refine op_move rfl (.bool _) rfl ?_
      refine op_skip rfl ?_
      refine op_skip rfl ?_
      refine op_skip rfl ?_
      refine op_skip rfl ?_
      refine op_skip rfl ?_
      refine op_skip rfl ?_
      refine op_skip rfl ?_
      refine op_pick1 rfl rfl (.bool _) rfl ?_
      refine op_nil ?_
      exact ⟨rfl, (), rfl, ⟨congrArg Value.bool (by rw [Bool.eq_iff_iff]; simp; omega), trivial⟩, H⟩
    · intro h2
      replace h2 := dec_f h2
      refine op_move rfl (.int _ _) rfl ?_
      refine op_lss rfl rfl rfl ?_
      refine op_pick0 rfl rfl (.bool _) rfl ?_
      refine op_move rfl (.bool _) rfl ?_
      refine Wops_split 18 rfl ?_ ?_
      · intro h3
        replace h3 := dec_t h3
        refine op_skip rfl ?_
        refine op_skip rfl ?_
        refine op_skip rfl ?_
        refine op_skip rfl ?_
        refine op_skip rfl ?_
        refine op_skip rfl ?_
        refine op_skip rfl ?_
        refine op_pick1 rfl rfl (.bool _) rfl ?_
        refine op_nil ?_
        exact ⟨rfl, (), rfl, ⟨congrArg Value.bool (by rw [Bool.eq_iff_iff]; simp; omega), trivial⟩, H⟩
      · intro h4
        replace h4 := dec_f h4
        refine op_move rfl (.int _ _) rfl ?_
        refine op_move rfl (.pointer _) rfl ?_
        refine op_nilCheck rfl rfl ?_
        refine op_fieldAddr rfl fo_146_1_TrJ rfl ?_
        first | refine op_ldb rfl ag_33_TrJ rfl H (by first | exact at0 | exact at1 | exact at2 | exact at3 | exact at4 | exact at5 | exact at6 | exact at7 | exact at8 | exact at9) rfl ?_ | refine op_ld rfl ag_33_TrJ rfl (cell_bl (T.call H.ext).tr (0 + 1)) ?_
        refine op_call rfl ca_69_TrJ (psize_ok (T.call H.ext).pg) rfl ?_
        rintro v w ⟨rfl, rfl⟩
        refine op_geq rfl rfl rfl ?_
        refine op_pick0 rfl rfl (.bool _) rfl ?_
        refine op_nil ?_
        exact ⟨rfl, (), rfl, ⟨congrArg Value.bool (by rw [Bool.eq_iff_iff]; simp; omega), trivial⟩, H⟩
  rintro - j26 w H
  refine W_cond _ rfl ?_ ?_
  · intro h1
    rw [if_pos (by simpa using h1)] at hrd
    refine W_rseq ?_
    refine op_buildS [.bool false, .slice none 0 0] rfl pl_116_TrJ zc_116_TrJ (by kernel_rfl) ?_
    refine op_stb0 rfl sz_116_TrJ rfl rfl rfl (by simp [oneCell]) H (by first | exact at0 | exact at1 | exact at2 | exact at3 | exact at4 | exact at5 | exact at6 | exact at7 | exact at8 | exact at9) rfl ?_
    rintro w H
    refine op_assign rfl (.int _ _) rfl ?_
    refine op_nil (at_then ?_)
    refine W_ret (ret_then (leave2b rfl rfl rfl ag_116_TrJ sz_116_TrJ H (by first | exact at0 | exact at1 | exact at2 | exact at3 | exact at4 | exact at5 | exact at6 | exact at7 | exact at8 | exact at9) rfl (show _ = (.int _ _) from rfl) ?_))
    exact ⟨false, none, 0, 0, by rw [hrd], H.ext, fun i M h => by rw [hrd] at h; cases h⟩
  · intro h1
    have hn1 : ¬ (16 < depth ∨ page < 0 ∨ (P.length : Int) ≤ page) := (by intro h5; have h6 : (decide (16 < depth) || (decide (page < 0) || decide ((P.length : Int) ≤ page))) = true := (by simpa using h5); rw [h1] at h6; cases h6)
    rw [if_neg hn1] at hrd
    have hb6 := H.get at0
    have hx6 := H.ext
    obtain ⟨wb, rfl⟩ : ∃ wb, wb = w := ⟨_, rfl⟩
    have Tb := T.call hx6
    refine W_skip (at_then ?_)
    refine W_sseqz [([0, 1, 2, 3, 4, 5, 6, 7, 8, 9], 10), ([11, 12, 13, 14], 15)] (fun z => Ext [] wb z) [] mixed (by kernel_rfl) (Ext.drew [] wb) ?_
    refine seg_cons rfl rfl ?_
    refine t_move rfl (.pointer _) rfl ?_
    refine t_nilCheck rfl rfl ?_
    refine t_fieldAddr rfl fo_146_0_TrJ rfl ?_
    first | refine t_ldb rfl ag_32 rfl (fun _ _ => Ctx.start _ []) (by first | exact at0 | exact at1 | exact at2 | exact at3 | exact at4 | exact at5 | exact at6 | exact at7 | exact at8 | exact at9) rfl ?_ | refine t_ld rfl ag_32 rfl (fun _ hx => cell_bl (Tb.call hx).tr (0 + 0)) ?_ | refine t_ld rfl ag_32 rfl (fun _ hx => cell_bl (Tb.call hx).tr (0 + 2)) ?_
    refine t_move rfl (.pointer _) rfl ?_
    refine t_nilCheck rfl rfl ?_
    refine t_fieldAddr rfl fo_146_2_TrJ rfl ?_
    first | refine t_ldb rfl ag_3 rfl (fun _ _ => Ctx.start _ []) (by first | exact at0 | exact at1 | exact at2 | exact at3 | exact at4 | exact at5 | exact at6 | exact at7 | exact at8 | exact at9) rfl ?_ | refine t_ld rfl ag_3 rfl (fun _ hx => cell_bl (Tb.call hx).tr (0 + 0)) ?_ | refine t_ld rfl ag_3 rfl (fun _ hx => cell_bl (Tb.call hx).tr (0 + 2)) ?_
    refine t_move rfl (.int _ _) rfl ?_
    refine t_add_i64 rfl rfl rfl (by omega) (by omega) ?_
    refine t_nil ?_
    skip
    refine op_call rfl ca_123_TrJ (dread_ok ((fr : Int) + page) hfew (by omega) (Tb.call (Ext.drew [] wb)).dev) rfl ?_
    rintro v w2 ⟨s39, rfl, F39⟩
    obtain ⟨a39, c39, rfl, R39, hc39⟩ := Fresh.rdB F39
    refine op_nil (at_seg ((Ext.drew [] wb).trans F39.ext) ?_)
    refine seg_cons rfl rfl ?_
    refine t_move rfl (.tuple _) rfl ?_
    refine t_extract rfl rfl rfl ?_
    refine t_extract rfl rfl rfl ?_
    refine t_assign rfl (.slice _ _ _) rfl ?_
    refine t_nil ?_
    refine op_assign rfl (.int _ _) rfl ?_
    refine op_nil (at_seg ((Ext.drew [] wb).trans F39.ext) ?_)
    refine seg_nil ?_
    refine W_seq ?_
    have hx39 := (Ext.drew [] wb).trans F39.ext
    replace H := (show Ctx w0 [] wb [(b6, Bl 116 [.bool false, .slice none 0 0])] from H).call hx39
    refine W_rseq ?_
    refine op_move rfl (.int _ _) rfl ?_
    refine op_neq rfl rfl rfl ?_
    refine op_nil (at_then ?_)
    refine W_cond _ rfl ?_ ?_
    · intro h2
      replace h2 := ndec_t h2
      rw [if_neg h2] at hrd
      refine W_rseq ?_
      refine op_buildS [.bool false, .slice none 0 0] rfl pl_116_TrJ zc_116_TrJ (by kernel_rfl) ?_
      refine op_move rfl (.int _ _) rfl ?_
      refine op_stb0 rfl sz_116_TrJ rfl rfl rfl (by simp [oneCell]) H (by first | exact at0 | exact at1 | exact at2 | exact at3 | exact at4 | exact at5 | exact at6 | exact at7 | exact at8 | exact at9) rfl ?_
      rintro w H
      refine op_assign rfl (.int _ _) rfl ?_
      refine op_nil (at_then ?_)
      refine W_ret (ret_then (leave2b rfl rfl rfl ag_116_TrJ sz_116_TrJ H (by first | exact at0 | exact at1 | exact at2 | exact at3 | exact at4 | exact at5 | exact at6 | exact at7 | exact at8 | exact at9) rfl (show _ = (.int _ _) from rfl) ?_))
      exact ⟨false, none, 0, 0, by rw [hrd], H.ext, fun i M h => by rw [hrd] at h; cases h⟩
    · intro h2
      replace h2 := ndec_f h2
      rw [if_pos h2] at hrd
      have hrl := readB_len T.dev.wf ((fr : Int) + page)
      refine W_skip (at_then ?_)
      refine W_rseq ?_
      refine op_move rfl (.slice _ _ _) rfl ?_
      refine op_call rfl ca_124_TrJ (parse_ok a39 c39 _ (readB A ((fr : Int) + page)) _ R39 rfl (by omega) hc39) rfl ?_
      have hb6l := H.lt (k := 0) rfl
      have hxw := H.ext
      rintro v w5 ⟨inner, aa, nn, cc, rfl, hx48, hits⟩
      have Hold := H.call hx48
      replace H := Ctx.startL (fun x hx => Hold.blk x hx) Hold.nd
      have hge := (Hold.own _ (List.mem_cons_self ..)).elim (fun h => by cases h) id
      refine op_move rfl (.tuple _) rfl ?_
      refine op_extract rfl rfl rfl ?_
      refine op_extract rfl rfl rfl ?_
      refine op_alloc rfl zc_116_TrJ H ?_
      rintro b10 w - H
      refine op_stb0 rfl sz_116_TrJ rfl rfl rfl (by simp [oneCell]) H (by first | exact at0 | exact at1 | exact at2 | exact at3 | exact at4 | exact at5 | exact at6 | exact at7 | exact at8 | exact at9) rfl ?_
      rintro w H
      refine op_assign rfl (.bool _) rfl ?_
      refine op_nil (at_then ?_)
      refine W_seq ?_
      refine W_rseq ?_
      refine op_move rfl (.bool _) rfl ?_
      refine op_not rfl rfl ?_
      refine op_nil (at_then ?_)
      refine W_cond _ rfl ?_ ?_
      · intro h3
        replace h3 := nvar_t h3
        have hn : parseO (readB A ((fr : Int) + page)) = none := by cases h : parseO (readB A ((fr : Int) + page)) <;> simp_all
        rw [hn] at hrd
        refine W_rseq ?_
        refine op_buildS [.bool false, .slice none 0 0] rfl pl_116_TrJ zc_116_TrJ (by kernel_rfl) ?_
        refine op_stb0 rfl sz_116_TrJ rfl rfl rfl (by simp [oneCell]) H (by first | exact at0 | exact at1 | exact at2 | exact at3 | exact at4 | exact at5 | exact at6 | exact at7 | exact at8 | exact at9) rfl ?_
        rintro w H
        refine op_assign rfl (.int _ _) rfl ?_
        refine op_nil (at_then ?_)
        refine W_ret (ret_then (leave2b rfl rfl rfl ag_116_TrJ sz_116_TrJ H (by first | exact at0 | exact at1 | exact at2 | exact at3 | exact at4 | exact at5 | exact at6 | exact at7 | exact at8 | exact at9) rfl (show _ = (.int _ _) from rfl) ?_))
        exact ⟨false, none, 0, 0, by rw [hrd], Hold.ext.then H.ext (fun x hx => .inr (by rw [List.mem_singleton.1 hx]; exact hge)), fun i M h => by rw [hrd] at h; cases h⟩
      · intro h3
        replace h3 := nvar_f h3
        obtain ⟨nd, hn⟩ : ∃ nd, parseO (readB A ((fr : Int) + page)) = some nd := by cases h : parseO (readB A ((fr : Int) + page)) <;> simp_all
        rw [hn] at hrd
        refine W_skip (at_then ?_)
        refine W_rseq ?_
        refine op_ldbN rfl ag_116_TrJ sz_116_TrJ rfl H (by first | exact at0 | exact at1 | exact at2 | exact at3 | exact at4 | exact at5 | exact at6 | exact at7 | exact at8 | exact at9) rfl ?_
        refine op_stb0 rfl sz_116_TrJ rfl rfl rfl (by simp [oneCell]) H (by first | exact at0 | exact at1 | exact at2 | exact at3 | exact at4 | exact at5 | exact at6 | exact at7 | exact at8 | exact at9) rfl ?_
        rintro w H
        refine op_assign rfl (.int _ _) rfl ?_
        refine op_nil (at_then ?_)
        refine W_ret (leave2b rfl rfl rfl ag_116_TrJ sz_116_TrJ H (by first | exact at0 | exact at1 | exact at2 | exact at3 | exact at4 | exact at5 | exact at6 | exact at7 | exact at8 | exact at9) rfl (show _ = (.int _ _) from rfl) ?_)
        refine ⟨inner, aa, nn, cc, by rw [hrd], Hold.ext.then H.ext (fun x hx => .inr (by rw [List.mem_singleton.1 hx]; exact hge)), fun i M h => ?_⟩
        rw [hrd] at h
        injection h with h
        subst h
        obtain ⟨h5, h6, h7⟩ := hits i M hn
        refine ⟨h5, (h6.past H.ext fun x hx => by rw [List.mem_singleton.1 hx]; exact hb6l).weak (Old.mono hxw), fun x hx => ?_⟩
        have h8 := h7 x hx
        have h9 := bodyOf_le (readB A ((fr : Int) + page))
        unfold OkL at h8
        omega
end

end Go.Proofs.YtbkadlngijkmmaaGreatDoor

/- What a tree tells of a key. -/
namespace Go.Proofs.YtbkadlngijkmmaaGreatDoor
open Go.GV
theorem ag_114_TrK : aggB Tryz.prog 114 = some false := by kernel_rfl
theorem ag_33_TrK : aggB Tryz.prog 33 = some false := by kernel_rfl
theorem ca_64_TrK : callable Tryz.prog 64 = true := by kernel_rfl
theorem ca_65_TrK : callable Tryz.prog 65 = true := by kernel_rfl
theorem ca_66_TrK : callable Tryz.prog 66 = true := by kernel_rfl
theorem ca_67_TrK : callable Tryz.prog 67 = true := by kernel_rfl
theorem ca_68_TrK : callable Tryz.prog 68 = true := by kernel_rfl
theorem ca_69_TrK : callable Tryz.prog 69 = true := by kernel_rfl
theorem el_114_TrK : elemT Tryz.prog 114 = some 120 := by kernel_rfl
theorem fo_116_0_TrK : fieldO Tryz.prog 116 0 = some 0 := by kernel_rfl
theorem fo_116_1_TrK : fieldO Tryz.prog 116 1 = some 1 := by kernel_rfl
theorem fo_120_1_TrK : fieldO Tryz.prog 120 1 = some 1 := by kernel_rfl
theorem fo_120_2_TrK : fieldO Tryz.prog 120 2 = some 2 := by kernel_rfl
theorem fo_146_1_TrK : fieldO Tryz.prog 146 1 = some 1 := by kernel_rfl
theorem sz_116_TrK : tsize Tryz.prog 116 = some 2 := by kernel_rfl
theorem sz_120_TrK : tsize Tryz.prog 120 = some 3 := by kernel_rfl
theorem un_34_TrK : Tryz.prog.underlying 34 = some (.pointer 146) := by kernel_rfl
theorem zc_116_TrK : zcells Tryz.prog 116 = some ([.bool false, .slice none 0 0]) := by kernel_rfl
attribute [local irreducible] Wops W Wq Wt

theorem parseO_ne {b : Byt} {i : Bool} {l : List It} (h : parseO b = some (i, l)) : l ≠ [] := by
  unfold parseO at h
  split at h
  · unfold finG at h
    split at h
    · split at h
      · rename_i h5
        injection h with h; injection h with h6 h7
        rw [← h7]; exact h5.2
      · cases h
    · cases h
  · cases h
theorem parseG_len {i : Bool} {b : Byt} : ∀ {n at' : Nat} {r : List It × Nat}, parseG i b n at' = some r → r.1.length = n
  | 0, at', r, h => by cases h; rfl
  | n + 1, at', r, h => by
    cases h1 : oneO i b at' with
    | none => rw [parseG_none h1] at h; cases h
    | some x =>
      obtain ⟨x, m⟩ := x
      rw [parseG_some h1] at h
      cases h2 : parseG i b n m with
      | none => rw [h2] at h; cases h
      | some r2 =>
        rw [h2] at h
        cases h
        show r2.1.length + 1 = n + 1
        rw [parseG_len h2]
theorem parseO_len {b : Byt} {i : Bool} {l : List It} (h : parseO b = some (i, l)) : l.length ≤ 65535 := by
  unfold parseO at h
  split at h
  · unfold finG at h
    split at h
    · rename_i r hr
      split at h
      · injection h with h; injection h with h6 h7
        have h8 := parseG_len hr
        have h9 := numN_lt ((bodyB b).take 2)
        have h10 : 256 ^ ((bodyB b).take 2).length ≤ 256 ^ 2 := Nat.pow_le_pow_right (by omega) (by rw [List.length_take]; omega)
        rw [← h7, h8]; omega
      · cases h
    · cases h
  · cases h
theorem readT_some {A : Dev} {fr sz : Nat} {page depth : Int} {i : Bool} {l : List It} (h : (readT A fr sz page depth).2 = some (i, l)) : (readT A fr sz page depth).1 = 0 ∧ l ≠ [] ∧ depth ≤ 16 ∧ 0 ≤ page ∧ page < (sz : Int) ∧ l.length ≤ 65535 := by
  unfold readT at h ⊢
  split at h
  · cases h
  · rename_i h1
    rw [if_neg h1]
    split at h
    · rename_i h2
      rw [if_pos h2]
      split at h
      · cases h
      · rename_i n hn
        injection h with h
        subst h
        exact ⟨rfl, parseO_ne hn, by omega, by omega, by omega, parseO_len hn⟩
    · cases h
theorem readT_none {A : Dev} {fr sz : Nat} {page depth : Int} (h : (readT A fr sz page depth).2 = none) : (readT A fr sz page depth).1 ≠ 0 := by
  unfold readT at h ⊢
  split
  · decide
  · rename_i h1
    rw [if_neg h1] at h
    split
    · rename_i h2
      rw [if_pos h2] at h
      split
      · decide
      · rename_i n hn
        rw [hn] at h; cases h
    · rename_i h2; exact h2
theorem belowN_lt {l : List It} (h : l ≠ []) (key : Byt) : belowN l key < l.length := by
  unfold belowN
  have h1 := List.takeWhile_prefix (l := l.tail) (fun x : It => decide (cmpB x.key key ≤ 0)) |>.length_le
  have h2 := List.length_pos_iff.2 h
  rw [List.length_tail] at h1
  omega
theorem bsN_le (L : List It) (key : Byt) : ∀ (n i j : Nat), j - i ≤ n → i ≤ j → i ≤ bsN L key i j ∧ bsN L key i j ≤ j
  | 0, i, j, h, hij => by rw [bsN_end (by omega)]; omega
  | n + 1, i, j, h, hij => by
    by_cases hlt : i < j
    · rw [bsN_lt hlt]
      split
      · have := bsN_le L key n ((i + j) / 2 + 1) j (by omega) (by omega); omega
      · have := bsN_le L key n i ((i + j) / 2) (by omega) (by omega); omega
    · rw [bsN_end (by omega)]; omega
theorem placeN_le (L : List It) (key : Byt) : placeN L key ≤ L.length := (bsN_le L key _ 0 L.length (Nat.le_refl _) (Nat.zero_le _)).2
theorem placeB_get {L : List It} {key : Byt} (h : placeB L key = true) : ∃ x, L[placeN L key]? = some x ∧ x.key = key := by
  unfold placeB at h
  cases hx : L[placeN L key]? with
  | none => rw [hx] at h; cases h
  | some x => rw [hx] at h; exact ⟨x, rfl, cmpB_eq (of_decide_eq_true h)⟩

def mayE (sz root : Int) : Int := if root < -1 ∨ sz ≤ root then 1 else 0
def rightK (k v : Nat) : Bool := decide (1 ≤ k) && (decide (k ≤ 32) && decide (v ≤ 128))
/-- What is found below a page. -/
def getG (A : Dev) (fr sz : Nat) (key : Byt) : Nat → Int → Int → Int × Option Byt
  | 0, _, _ => (9, none)
  | n + 1, page, depth =>
    if page = -1 then (0, none) else match (readT A fr sz page depth).2 with
    | none => ((readT A fr sz page depth).1, none)
    | some (true, l) => getG A fr sz key n (((l[belowN l key]?.map (·.page)).getD 0 : Nat) : Int) (depth + 1)
    | some (false, l) => if placeB l key = true then (0, some ((l[placeN l key]?.map (·.val)).getD [])) else (0, none)
def getT (A : Dev) (fr sz : Nat) (root : Int) (key : Byt) : Int × Option Byt :=
  if mayE sz root ≠ 0 then (1, none) else if rightK key.length 0 = true then getG A fr sz key 18 root 0 else (1, none)

theorem right7_ok (a b : Option Addr) (n m c d : Nat) (w : World) : Ret Tryz.prog 65 #[.slice a n c, .slice b m d] w fun v w' => v = .bool (rightK n m) ∧ w = w' := by
  obtain ⟨w0, rfl⟩ : ∃ w0, w0 = w := ⟨_, rfl⟩
  refine ret_of_W (fn := Tryz.f65) Tryz.func65 rfl [.slice a n c, .slice b m d] rfl (by kernel_rfl) ?_
  refine W_rseq ?_
  refine op_assign rfl (.bool _) rfl ?_
  refine op_nil (at_then ?_)
  refine W_rseq ?_
  refine op_move rfl (.slice _ _ _) rfl ?_
  refine op_len rfl el_23 rfl ?_
  refine op_geq rfl rfl rfl ?_
  refine op_move rfl (.bool _) rfl ?_
  refine Wops_split 8 rfl ?_ ?_
  · intro h1
    replace h1 := dec_t h1
    refine op_move rfl (.slice _ _ _) rfl ?_
    refine op_len rfl el_23 rfl ?_
    refine op_leq rfl rfl rfl ?_
    refine op_pick1 rfl rfl (.bool _) rfl ?_
    refine op_move rfl (.bool _) rfl ?_
    refine Wops_split 13 rfl ?_ ?_
    · intro h2
      replace h2 := dec_t h2
      refine op_move rfl (.slice _ _ _) rfl ?_
      refine op_len rfl el_23 rfl ?_
      refine op_leq rfl rfl rfl ?_
      refine op_pick1 rfl rfl (.bool _) rfl ?_
      refine op_assign rfl (.bool _) rfl ?_
      refine op_nil (at_then ?_)
      refine W_ret (leave1 (v := (.bool _)) rfl rfl rfl ?_)
      exact ⟨congrArg Value.bool (by unfold rightK; rw [Bool.eq_iff_iff]; simp; omega), rfl⟩
    · intro h3
      replace h3 := dec_f h3
      refine op_skip rfl ?_
      refine op_skip rfl ?_
      refine op_skip rfl ?_
      refine op_pick0 rfl rfl (.bool _) rfl ?_
      refine op_assign rfl (.bool _) rfl ?_
      refine op_nil (at_then ?_)
      refine W_ret (leave1 (v := (.bool _)) rfl rfl rfl ?_)
      exact ⟨congrArg Value.bool (by unfold rightK; rw [Bool.eq_iff_iff]; simp; omega), rfl⟩
  · intro h4
    replace h4 := dec_f h4
    refine op_skip rfl ?_
    refine op_skip rfl ?_
    refine op_skip rfl ?_
    refine op_pick0 rfl rfl (.bool _) rfl ?_
    refine op_move rfl (.bool _) rfl ?_
    refine op_skip rfl ?_
    refine op_skip rfl ?_
    refine op_skip rfl ?_
    refine op_pick0 rfl rfl (.bool _) rfl ?_
    refine op_assign rfl (.bool _) rfl ?_
    refine op_nil (at_then ?_)
    refine W_ret (leave1 (v := (.bool _)) rfl rfl rfl ?_)
    exact ⟨congrArg Value.bool (by unfold rightK; rw [Bool.eq_iff_iff]; simp; omega), rfl⟩
section
variable {w : World} {bt bd bp ba fr : Nat} {A : Dev} {P : List Nat} {F : Mut} {L : List (Nat × Obj)}
theorem may7_ok (T : Tx w bt bd bp ba fr A P F L) (root : Int) : Ret Tryz.prog 64 #[ptr bt, .int .i64 root] w fun v w' => v = .int .i64 (mayE P.length root) ∧ w = w' := by
  obtain ⟨w0, rfl⟩ : ∃ w0, w0 = w := ⟨_, rfl⟩
  refine ret_of_W (fn := Tryz.f64) Tryz.func64 rfl [.pointer (some ⟨bt, 0, none⟩), .int .i64 root] rfl (by kernel_rfl) ?_
  refine W_rseq ?_
  refine op_assign rfl (.int _ _) rfl ?_
  refine op_nil (at_then ?_)
  refine W_seq ?_
  refine W_block ?_
  refine W_rseq ?_
  refine op_move rfl (.pointer _) rfl ?_
  refine op_eqlptr rfl un_34_TrK rfl ?_
  refine op_assign rfl (.bool _) rfl ?_
  refine op_nil (at_then ?_)
  refine W_cond0 rfl ?_
  refine W_rseq (Wops_join (α := Unit) 1048320 (fun _ => [(8, .bool (decide (root < -1) || decide ((P.length : Int) ≤ root)))]) (fun _ w' => w0 = w') rfl ?_ ?_)
  · refine op_move rfl (.int _ _) rfl ?_
    refine op_lss rfl rfl rfl ?_
    refine op_move rfl (.bool _) rfl ?_
    refine Wops_split 11 rfl ?_ ?_
    · intro h1
      replace h1 := dec_t h1
      refine op_skip rfl ?_
      refine op_skip rfl ?_
      refine op_skip rfl ?_
      refine op_skip rfl ?_
      refine op_skip rfl ?_
      refine op_skip rfl ?_
      refine op_skip rfl ?_
      refine op_pick1 rfl rfl (.bool _) rfl ?_
      refine op_assign rfl (.bool _) rfl ?_
      refine op_nil ?_
      exact ⟨rfl, (), rfl, ⟨congrArg Value.bool (by rw [Bool.eq_iff_iff]; simp; omega), trivial⟩, rfl⟩
    · intro h2
      replace h2 := dec_f h2
      refine op_move rfl (.int _ _) rfl ?_
      refine op_move rfl (.pointer _) rfl ?_
      refine op_nilCheck rfl rfl ?_
      refine op_fieldAddr rfl fo_146_1_TrK rfl ?_
      first | refine op_ldb rfl ag_33_TrK rfl H (by first | exact at0 | exact at1 | exact at2 | exact at3 | exact at4 | exact at5 | exact at6 | exact at7 | exact at8 | exact at9) rfl ?_ | refine op_ld rfl ag_33_TrK rfl (cell_bl T.tr (0 + 1)) ?_
      refine op_call rfl ca_69_TrK (psize_ok T.pg) rfl ?_
      rintro v w ⟨rfl, rfl⟩
      refine op_geq rfl rfl rfl ?_
      refine op_pick0 rfl rfl (.bool _) rfl ?_
      refine op_assign rfl (.bool _) rfl ?_
      refine op_nil ?_
      exact ⟨rfl, (), rfl, ⟨congrArg Value.bool (by rw [Bool.eq_iff_iff]; simp; omega), trivial⟩, rfl⟩
  rintro - j8 w rfl
  refine W_cond _ rfl ?_ ?_
  · intro h1
    refine W_rseq ?_
    refine op_assign rfl (.int _ _) rfl ?_
    refine op_nil (at_then ?_)
    refine W_ret (ret_block (ret_then (leave1 (v := (.int _ _)) rfl rfl rfl ?_)))
    exact ⟨by rw [mayE, if_pos (by simpa using h1)], rfl⟩
  · intro h1
    have hn1 : ¬ (root < -1 ∨ (P.length : Int) ≤ root) := (by intro h5; have h6 : (decide (root < -1) || decide ((P.length : Int) ≤ root)) = true := (by simpa using h5); rw [h1] at h6; cases h6)
    refine W_skip (at_block (at_then ?_))
    refine W_rseq ?_
    refine op_assign rfl (.int _ _) rfl ?_
    refine op_nil (at_then ?_)
    refine W_ret (leave1 (v := (.int _ _)) rfl rfl rfl ?_)
    exact ⟨by rw [mayE, if_neg hn1], rfl⟩
theorem getG_1 {A : Dev} {fr sz : Nat} {key : Byt} {n : Nat} {page depth : Int} : getG A fr sz key (n + 1) page depth = if page = -1 then (0, none) else match (readT A fr sz page depth).2 with
    | none => ((readT A fr sz page depth).1, none)
    | some (true, l) => getG A fr sz key n (((l[belowN l key]?.map (·.page)).getD 0 : Nat) : Int) (depth + 1)
    | some (false, l) => if placeB l key = true then (0, some ((l[placeN l key]?.map (·.val)).getD [])) else (0, none) := by rw [getG]

set_option maxRecDepth 20000 in
set_option maxHeartbeats 4000000 in
theorem get7_ok (T : Tx w bt bd bp ba fr A P F L) (hfr : fr ≤ 5000) (root : Int) (hr : -9223372036854775808 ≤ root ∧ root ≤ 9223372036854775807) (ka : Option Addr) (kc kn : Nat) (key : Byt) (Rk : Rd w ka 1 B8 key) (hk : key.length = kn) {mx : Nat} (hfew : Few A mx) (hmx : mx ≤ 1000000000) :
    Ret Tryz.prog 17 #[ptr bt, .int .i64 root, .slice ka kn kc] w fun v w' => ∃ va vc u, v = .tuple #[.slice va (List.length u) vc, .bool (getT A fr P.length root key).2.isSome, .int .i64 (getT A fr P.length root key).1] ∧ Ext [] w w' ∧ Rdx w' (Old w) va u ∧ u.length ≤ vc ∧ u = (getT A fr P.length root key).2.getD [] := by
  subst hk
  obtain ⟨w0, rfl⟩ : ∃ w0, w0 = w := ⟨_, rfl⟩
  obtain ⟨rg, hrg⟩ : ∃ rg, rg = getT A fr P.length root key := ⟨_, rfl⟩
  rw [← hrg]
  unfold getT at hrg
  refine ret_of_W (fn := Tryz.f17) Tryz.func17 rfl [.pointer (some ⟨bt, 0, none⟩), .int .i64 root, .slice ka key.length kc] rfl (by kernel_rfl) ?_
  refine W_rseq ?_
  refine op_assign rfl (.slice _ _ _) rfl ?_
  refine op_assign rfl (.bool _) rfl ?_
  refine op_assign rfl (.int _ _) rfl ?_
  refine op_nil (at_then ?_)
  refine W_seq ?_
  refine W_rseq ?_
  refine op_move rfl (.pointer _) rfl ?_
  refine op_move rfl (.int _ _) rfl ?_
  refine op_call rfl ca_64_TrK (may7_ok T root) rfl ?_
  rintro v w ⟨rfl, rfl⟩
  refine op_assign rfl (.int _ _) rfl ?_
  refine op_nil (at_then ?_)
  refine W_rseq ?_
  refine op_move rfl (.int _ _) rfl ?_
  refine op_neq rfl rfl rfl ?_
  refine op_nil (at_then ?_)
  refine W_cond _ rfl ?_ ?_
  · intro h1
    replace h1 := ndec_t h1
    rw [if_pos h1] at hrg
    have he : mayE P.length root = 1 := by unfold mayE at h1 ⊢; split <;> simp_all
    refine W_rseq ?_
    refine op_move rfl (.int _ _) rfl ?_
    refine op_assign rfl (.slice _ _ _) rfl ?_
    refine op_assign rfl (.bool _) rfl ?_
    refine op_assign rfl (.int _ _) rfl ?_
    refine op_nil (at_then ?_)
    refine W_ret (ret_then (leave3 (v1 := (.slice _ _ _)) (v2 := (.bool _)) (v3 := (.int _ _)) rfl rfl rfl rfl rfl ?_))
    exact ⟨none, 0, [], by rw [hrg, he]; rfl, .refl _ _, Rdx.nil, Nat.le_refl _, by rw [hrg]; rfl⟩
  · intro h1
    replace h1 := ndec_f h1
    rw [if_neg (by simpa using h1)] at hrg
    refine W_skip (at_then ?_)
    refine W_seq ?_
    refine W_rseq ?_
    refine op_move rfl (.slice _ _ _) rfl ?_
    refine op_call rfl ca_65_TrK (right7_ok ka none _ 0 kc 0 _) rfl ?_
    rintro v w ⟨rfl, rfl⟩
    refine op_not rfl rfl ?_
    refine op_nil (at_then ?_)
    refine W_cond _ rfl ?_ ?_
    · intro h2
      replace h2 := nvar_t h2
      rw [if_neg (by simpa using h2)] at hrg
      refine W_rseq ?_
      refine op_assign rfl (.slice _ _ _) rfl ?_
      refine op_assign rfl (.bool _) rfl ?_
      refine op_assign rfl (.int _ _) rfl ?_
      refine op_nil (at_then ?_)
      refine W_ret (ret_then (leave3 (v1 := (.slice _ _ _)) (v2 := (.bool _)) (v3 := (.int _ _)) rfl rfl rfl rfl rfl ?_))
      exact ⟨none, 0, [], by rw [hrg]; rfl, .refl _ _, Rdx.nil, Nat.le_refl _, by rw [hrg]; rfl⟩
    · intro h2
      replace h2 := nvar_f h2
      rw [if_pos (by simpa using h2)] at hrg
      refine W_skip (at_then ?_)
      refine W_seq ?_
      refine W_rseq ?_
      refine op_move rfl (.int _ _) rfl ?_
      refine op_assign rfl (.int _ _) rfl ?_
      refine op_assign rfl (.int _ _) rfl ?_
      refine op_nil (at_then ?_)
      refine W_block ?_
      refine W_loop 73786976294771162560 (α := Int × Nat) (fun s => [(10, .int .i64 s.1), (11, .int .i64 (s.2 : Int))]) (fun s w' => Ext [] w0 w' ∧ s.2 ≤ 17 ∧ (-9223372036854775808 ≤ s.1 ∧ s.1 ≤ 9223372036854775807) ∧ getG A fr P.length key (18 - s.2) s.1 (s.2 : Int) = rg) (fun s => 18 - s.2) (root, 0) rfl ?_ ?_ ?_
      · exact ⟨rfl, rfl, trivial⟩
      · exact ⟨.refl _ _, Nat.zero_le _, hr, hrg.symm⟩
      · rintro ⟨page, d⟩ j w ⟨hx, hd, hpg, hg⟩; dsimp only at hx hd hpg hg; dsimp only
        rw [show 18 - d = (17 - d) + 1 by omega, getG_1] at hg
        refine W_seq ?_
        refine W_rseq ?_
        refine op_move rfl (.int _ _) rfl ?_
        refine op_neq rfl rfl rfl ?_
        refine op_nil (at_then ?_)
        refine W_cond _ rfl ?_ ?_
        · intro h3
          replace h3 := ndec_t h3
          rw [if_neg (by simpa using h3)] at hg
          have Tw := T.call hx
          refine W_skip (at_then ?_)
          refine W_seq ?_
          refine W_block ?_
          refine W_rseq ?_
          refine op_move rfl (.pointer _) rfl ?_
          refine op_move rfl (.int _ _) rfl ?_
          refine op_move rfl (.int _ _) rfl ?_
          refine op_call rfl ca_66_TrK (read7_ok Tw hfr page (d : Int) hpg hfew hmx) rfl ?_
          rintro v w2 ⟨inner, aa, nn, cc, rfl, hx34, hits⟩
          have H := Ctx.start w2 []
          refine op_move rfl (.tuple _) rfl ?_
          refine op_extract rfl rfl rfl ?_
          refine op_extract rfl rfl rfl ?_
          refine op_alloc rfl zc_116_TrK H ?_
          rintro b12 w - H
          refine op_stb0 rfl sz_116_TrK rfl rfl rfl (by simp [oneCell]) H (by first | exact at0 | exact at1 | exact at2 | exact at3 | exact at4 | exact at5 | exact at6 | exact at7 | exact at8 | exact at9) rfl ?_
          rintro w H
          refine op_assign rfl (.int _ _) rfl ?_
          refine op_nil (at_then ?_)
          refine W_seq ?_
          refine W_rseq ?_
          refine op_move rfl (.int _ _) rfl ?_
          refine op_neq rfl rfl rfl ?_
          refine op_nil (at_then ?_)
          refine W_cond _ rfl ?_ ?_
          · intro h4
            replace h4 := ndec_t h4
            have hnone : (readT A fr P.length page (d : Int)).2 = none := by
              cases h5 : (readT A fr P.length page (d : Int)).2 with
              | none => rfl
              | some r => obtain ⟨i, l⟩ := r; exact absurd (readT_some h5).1 (by simpa using h4)
            rw [hnone] at hg
            dsimp only at hg
            refine W_rseq ?_
            refine op_move rfl (.int _ _) rfl ?_
            refine op_assign rfl (.slice _ _ _) rfl ?_
            refine op_assign rfl (.bool _) rfl ?_
            refine op_assign rfl (.int _ _) rfl ?_
            refine op_nil (at_then ?_)
            refine W_ret (ret_then (ret_block (ret_then (ret_then (ret_block (ret_then (leave3 (v1 := (.slice _ _ _)) (v2 := (.bool _)) (v3 := (.int _ _)) rfl rfl rfl rfl rfl ?_)))))))
            exact ⟨none, 0, [], by rw [← hg]; rfl, hx.trans (hx34.trans H.ext), Rdx.nil, Nat.le_refl _, by rw [← hg]; rfl⟩
          · intro h4
            replace h4 := ndec_f h4
            obtain ⟨⟨i, l⟩, hsome⟩ : ∃ r, (readT A fr P.length page (d : Int)).2 = some r := by
              cases h5 : (readT A fr P.length page (d : Int)).2 with
              | none => exact absurd (by simpa using h4) (readT_none h5)
              | some r => exact ⟨r, rfl⟩
            obtain ⟨-, hne, hd16, -, -, hll⟩ := readT_some hsome
            obtain ⟨rfl, I, hb⟩ := hits i l hsome
            rw [hsome] at hg
            have hxw := hx.trans hx34
            have hnum := I.num
            refine W_skip (at_then ?_)
            refine W_seq ?_
            refine W_rseq ?_
            refine op_fieldAddr rfl fo_116_0_TrK rfl ?_
            refine op_ldb rfl ag_4 rfl H (by first | exact at0 | exact at1 | exact at2 | exact at3 | exact at4 | exact at5 | exact at6 | exact at7 | exact at8 | exact at9) rfl ?_
            refine op_nil (at_then ?_)
            refine W_cond _ rfl ?_ ?_
            · intro h5
              subst h5
              dsimp only at hg
              have hb12 := H.get at0
              have hx12 := H.ext
              obtain ⟨wr, rfl⟩ : ∃ wr, wr = w := ⟨_, rfl⟩
              have hkeep : ∀ {z : World}, Ext [] wr z → z.heap[b12]? = some (Bl 116 [.bool true, .slice aa nn cc]) := fun {z} h => by rw [h.block b12 (heap_lt hb12) (by simp)]; exact hb12
              have Ir := I.call hx12
              obtain ⟨ms, R, -, hl, hok⟩ := Ir.ex
              have hml : ms.length = nn := by rw [hnum, ← hl, List.length_map]
              have hbl := belowN_lt hne key
              obtain ⟨x, hx1⟩ := get_some (l := ms) (i := belowN l key) (by omega)
              have hxL := Im.at hl hx1
              have hxb := hb x.it (List.mem_of_getElem? hxL)
              rw [hxL] at hg
              simp only [Option.map_some, Option.getD_some] at hg
              have hRR : ∀ {z : World}, Ext [] wr z → Rd z aa 3 Im.enc ms := fun {z} h => R.ext0 h
              have hx0r : Ext [] w0 wr := hxw.trans hx12
              refine W_sseqz [([0, 1, 2, 3, 4], 5), ([6, 7, 8], 9)] (fun z => Ext [] wr z) [] mixed (by kernel_rfl) (Ext.drew [] wr) ?_
              refine seg_cons rfl rfl ?_
              refine t_fieldAddr rfl fo_116_1_TrK rfl ?_
              first | refine t_ldb rfl ag_114_TrK rfl (fun _ _ => Ctx.start _ []) (by first | exact at0 | exact at1 | exact at2 | exact at3 | exact at4 | exact at5 | exact at6 | exact at7 | exact at8 | exact at9) rfl ?_ | refine t_ld rfl ag_114_TrK rfl (fun _ hx => cell_bl (hkeep hx) (0 + 1)) ?_ | refine t_ld rfl ag_114_TrK rfl (fun _ hx => (hRR hx).fld hx1 rfl (j := 2) rfl) ?_
              refine t_fieldAddr rfl fo_116_1_TrK rfl ?_
              first | refine t_ldb rfl ag_114_TrK rfl (fun _ _ => Ctx.start _ []) (by first | exact at0 | exact at1 | exact at2 | exact at3 | exact at4 | exact at5 | exact at6 | exact at7 | exact at8 | exact at9) rfl ?_ | refine t_ld rfl ag_114_TrK rfl (fun _ hx => cell_bl (hkeep hx) (0 + 1)) ?_ | refine t_ld rfl ag_114_TrK rfl (fun _ hx => (hRR hx).fld hx1 rfl (j := 2) rfl) ?_
              refine t_move rfl (.slice _ _ _) rfl ?_
              refine t_nil ?_
              skip
              refine op_call rfl ca_67_TrK (below_ok (Ir.call (Ext.drew [] wr)) ka kc _ key (Rk.ext0 (hx0r.trans (Ext.drew [] wr))) rfl (by omega)) rfl ?_
              rintro v w5 ⟨rfl, rfl⟩
              refine op_nil (at_seg ((Ext.drew [] wr)) ?_)
              refine seg_cons rfl rfl ?_
              first | refine t_indexRd R rfl el_114_TrK sz_120_TrK rfl rfl (by omega) (by omega) (by first | rfl | omega) ?_ | refine t_indexAddr rfl el_114_TrK sz_120_TrK rfl rfl (by omega) (by omega) ?_
              refine t_fieldAddr rfl fo_120_2_TrK rfl ?_
              first | refine t_ldb rfl ag_3 rfl (fun _ _ => Ctx.start _ []) (by first | exact at0 | exact at1 | exact at2 | exact at3 | exact at4 | exact at5 | exact at6 | exact at7 | exact at8 | exact at9) rfl ?_ | refine t_ld rfl ag_3 rfl (fun _ hx => cell_bl (hkeep hx) (0 + 1)) ?_ | refine t_ld rfl ag_3 rfl (fun _ hx => (hRR hx).fld hx1 rfl (j := 2) rfl) ?_
              refine t_nil ?_
              refine op_assign rfl (.int _ _) rfl ?_
              refine op_nil (at_seg ((Ext.drew [] wr)) ?_)
              refine seg_nil ?_
              refine W_exit (exit_then (exit_here (at_then ?_)))
              refine W_region ?_
              refine op_move rfl (.int _ _) rfl ?_
              refine op_add_i64 rfl rfl rfl (by omega) (by omega) ?_
              refine op_assign rfl (.int _ _) rfl ?_
              refine op_nil (at_then ?_)
              exact ⟨(((x.it.page : Nat) : Int), d + 1), rfl, ⟨rfl, rfl, trivial⟩, ⟨hx0r.trans (Ext.drew [] wr), by dsimp only; omega, by dsimp only; omega, by dsimp only; rw [show 18 - (d + 1) = 17 - d by omega]; exact hg⟩, by dsimp only; omega⟩
            · intro h5
              subst h5
              dsimp only at hg
              have hx12 := H.ext
              have Ir := I.call hx12
              obtain ⟨ms, R, -, hl, hok⟩ := Ir.ex
              have hml : ms.length = nn := by rw [hnum, ← hl, List.length_map]
              refine W_skip (at_then ?_)
              refine W_rseq ?_
              refine op_fieldAddr rfl fo_116_1_TrK rfl ?_
              first | refine op_ldb rfl ag_114_TrK rfl H (by first | exact at0 | exact at1 | exact at2 | exact at3 | exact at4 | exact at5 | exact at6 | exact at7 | exact at8 | exact at9) rfl ?_ | refine op_ld rfl ag_114_TrK rfl (cell_bl (hkeep hx) (0 + 1)) ?_ | refine op_ld rfl ag_114_TrK rfl ((hRR hx).fld hx1 rfl (j := 2) rfl) ?_
              refine op_move rfl (.slice _ _ _) rfl ?_
              refine op_call rfl ca_68_TrK (place_ok Ir ka kc _ key (Rk.ext0 (hxw.trans hx12)) rfl (by omega)) rfl ?_
              rintro v w5 ⟨rfl, hx55⟩
              replace H := H.call hx55
              refine op_move rfl (.tuple _) rfl ?_
              refine op_extract rfl rfl rfl ?_
              refine op_extract rfl rfl rfl ?_
              refine op_assign rfl (.int _ _) rfl ?_
              refine op_assign rfl (.bool _) rfl ?_
              refine op_nil (at_then ?_)
              refine W_seq ?_
              refine W_rseq ?_
              refine op_move rfl (.bool _) rfl ?_
              refine op_not rfl rfl ?_
              refine op_nil (at_then ?_)
              refine W_cond _ rfl ?_ ?_
              · intro h6
                replace h6 := nvar_t h6
                rw [if_neg (by simpa using h6)] at hg
                refine W_rseq ?_
                refine op_assign rfl (.slice _ _ _) rfl ?_
                refine op_assign rfl (.bool _) rfl ?_
                refine op_assign rfl (.int _ _) rfl ?_
                refine op_nil (at_then ?_)
                refine W_ret (ret_then (ret_block (ret_then (ret_then (ret_block (ret_then (leave3 (v1 := (.slice _ _ _)) (v2 := (.bool _)) (v3 := (.int _ _)) rfl rfl rfl rfl rfl ?_)))))))
                exact ⟨none, 0, [], by rw [← hg]; rfl, hxw.trans H.ext, Rdx.nil, Nat.le_refl _, by rw [← hg]; rfl⟩
              · intro h6
                replace h6 := nvar_f h6
                have h6' : placeB l key = true := by simpa using h6
                rw [if_pos h6'] at hg
                obtain ⟨y, hy, -⟩ := placeB_get h6'
                have hpl := (List.getElem?_eq_some_iff.1 hy).1
                obtain ⟨x, hx1⟩ := get_some (l := ms) (i := placeN l key) (by omega)
                have hxL := Im.at hl hx1
                rw [hxL] at hg
                simp only [Option.map_some, Option.getD_some] at hg
                have hxo := (hok x (List.mem_of_getElem? hx1)).call hx55
                refine W_skip (at_then ?_)
                refine W_rseq ?_
                refine op_fieldAddr rfl fo_116_1_TrK rfl ?_
                first | refine op_ldb rfl ag_114_TrK rfl H (by first | exact at0 | exact at1 | exact at2 | exact at3 | exact at4 | exact at5 | exact at6 | exact at7 | exact at8 | exact at9) rfl ?_ | refine op_ld rfl ag_114_TrK rfl ((R.ext0 hx55).fld hx1 rfl (j := 1) rfl) ?_
                refine op_move rfl (.int _ _) rfl ?_
                first | refine op_indexRd R rfl el_114_TrK sz_120_TrK rfl rfl (by omega) (by omega) (by first | rfl | omega) ?_ | refine op_indexRd R rfl el_114_TrK sz_120_TrK rfl rfl (by omega) (by omega) (by first | rfl | omega) ?_ | refine op_indexAddr rfl el_114_TrK sz_120_TrK rfl rfl (by omega) (by omega) ?_
                refine op_fieldAddr rfl fo_120_1_TrK rfl ?_
                first | refine op_ldb rfl ag_23 rfl H (by first | exact at0 | exact at1 | exact at2 | exact at3 | exact at4 | exact at5 | exact at6 | exact at7 | exact at8 | exact at9) rfl ?_ | refine op_ld rfl ag_23 rfl ((R.ext0 hx55).fld hx1 rfl (j := 1) rfl) ?_
                refine op_assign rfl (.slice _ _ _) rfl ?_
                refine op_assign rfl (.bool _) rfl ?_
                refine op_assign rfl (.int _ _) rfl ?_
                refine op_nil (at_then ?_)
                refine W_ret (ret_block (ret_then (ret_then (ret_block (ret_then (leave3 (v1 := (.slice _ _ _)) (v2 := (.bool _)) (v3 := (.int _ _)) rfl rfl rfl rfl rfl ?_))))))
                refine ⟨x.va, x.vc, x.it.val, by rw [← hg]; rfl, hxw.trans H.ext, hxo.v.weak (Old.mono hx), hxo.vc, by rw [← hg]; rfl⟩
        · intro h3
          replace h3 := ndec_f h3
          have h3' : page = -1 := by simpa using h3
          rw [if_pos h3'] at hg
          refine W_exit (exit_then (exit_then (exit_here (at_then ?_))))
          refine W_rseq ?_
          refine op_assign rfl (.slice _ _ _) rfl ?_
          refine op_assign rfl (.bool _) rfl ?_
          refine op_assign rfl (.int _ _) rfl ?_
          refine op_nil (at_then ?_)
          refine W_ret (leave3 (v1 := (.slice _ _ _)) (v2 := (.bool _)) (v3 := (.int _ _)) rfl rfl rfl rfl rfl ?_)
          exact ⟨none, 0, [], by rw [← hg]; rfl, hx, Rdx.nil, Nat.le_refl _, by rw [← hg]; rfl⟩
end

end Go.Proofs.YtbkadlngijkmmaaGreatDoor

/- What a node has, in one or two. -/
namespace Go.Proofs.YtbkadlngijkmmaaGreatDoor
open Go.GV
theorem ag_114_TrL : aggB Tryz.prog 114 = some false := by kernel_rfl
theorem ag_116_TrL : aggB Tryz.prog 116 = some true := by kernel_rfl
theorem ag_120_TrL : aggB Tryz.prog 120 = some true := by kernel_rfl
theorem ca_137_TrL : callable Tryz.prog 137 = true := by kernel_rfl
theorem ca_138_TrL : callable Tryz.prog 138 = true := by kernel_rfl
theorem el_114_TrL : elemT Tryz.prog 114 = some 120 := by kernel_rfl
theorem el_137_TrL : elemT Tryz.prog 137 = some 116 := by kernel_rfl
theorem fo_116_0_TrL : fieldO Tryz.prog 116 0 = some 0 := by kernel_rfl
theorem fo_116_1_TrL : fieldO Tryz.prog 116 1 = some 1 := by kernel_rfl
theorem pl_116_TrL : placesB Tryz.prog 116 = some [(0, 1), (1, 1)] := by kernel_rfl
theorem sz_116_TrL : tsize Tryz.prog 116 = some 2 := by kernel_rfl
theorem sz_120_TrL : tsize Tryz.prog 120 = some 3 := by kernel_rfl
theorem zc_116_TrL : zcells Tryz.prog 116 = some ([.bool false, .slice none 0 0]) := by kernel_rfl
attribute [local irreducible] Wops W Wq Wt

def halfG (inner : Bool) (half : Nat) : List It → Nat → Nat
  | [], _ => 0
  | x :: l, sum => if sum < half then halfG inner half l (sum + sizeI inner x) + 1 else 0
/-- How many items the first half has. -/
def halfK (inner : Bool) (L : List It) : Nat := halfG inner (totalI inner L / 2) L 0
def halvesN (inner : Bool) (L : List It) : List (List It) := if totalI inner L ≤ 503 then [L] else [L.take (halfK inner L), L.drop (halfK inner L)]
abbrev SN := Option Addr × List It × Nat
def encN (inner : Bool) (x : SN) : List Value := [.bool inner, .slice x.1 x.2.1.length x.2.2]
/-- A slice of nodes. -/
structure Nds (w : World) (M : Mut) (inner : Bool) (a : Option Addr) (n c : Nat) (Ls : List (List It)) : Prop where
  ex : ∃ ms : List SN, Rd w a 2 (encN inner) ms ∧ (ms = [] ∨ ¬ M (adr a).block) ∧ ms.map (fun x => x.2.1) = Ls ∧ ∀ m ∈ ms, Its w M m.1 m.2.1.length m.2.2 m.2.1
  num : n = Ls.length
theorem Nds.turn {w w' : World} {M M' : Mut} {inner : Bool} {a : Option Addr} {n c : Nat} {Ls : List (List It)} (h : Nds w M inner a n c Ls) (t : Grown M M' w w') : Nds w' M' inner a n c Ls := by
  obtain ⟨ms, R, hs, hl, hm⟩ := h.ex
  refine ⟨⟨ms, ?_, ?_, hl, fun m hx => (hm m hx).turn t⟩, h.num⟩
  · rcases hs with rfl | hs
    · exact Rd.nil
    · obtain ⟨⟨S, hS, hx⟩, _⟩ := t
      exact R.ext hx fun h => hs (hS _ h)
  · rcases hs with rfl | hs
    · exact .inl rfl
    · rcases rd_ltN R (by decide) (fun x _ => rfl) with h0 | h0
      · exact .inl h0
      · exact .inr fun h5 => (t.2 _ h5).elim hs fun h6 => by omega
theorem total_take_le (inner : Bool) (L : List It) (k : Nat) : totalI inner (L.take k) ≤ totalI inner L := by
  have h := totalI_append inner (L.take k) (L.drop k)
  rw [List.take_append_drop] at h
  omega

set_option maxRecDepth 20000 in
set_option maxHeartbeats 4000000 in
theorem halves_ok {w : World} {M : Mut} (hM : ∀ x, M x → x < w.heap.size) (inner : Bool) {a : Option Addr} {n c : Nat} {L : List It} (I : Its w M a n c L) (hm : n ≤ 1000000) (hsz : ∀ x ∈ L, x.key.length ≤ 65535 ∧ x.val.length ≤ 65535) :
    Ret Tryz.prog 200 #[.agg #[.bool inner, .slice a n c]] w fun v w' => ∃ a' n' c', v = .slice a' n' c' ∧ Nds w' M inner a' n' c' (halvesN inner L) ∧ Ext [] w w' := by
  obtain ⟨w0, rfl⟩ : ∃ w0, w0 = w := ⟨_, rfl⟩
  have H := Ctx.start w0 []
  obtain ⟨ms, R, -, hl, hok⟩ := I.ex
  have hnum := I.num
  have hcap := I.le
  have hml : ms.length = n := by rw [hnum, ← hl, List.length_map]
  have htl := total_le (inner := inner) hsz
  refine ret_of_W (fn := Tryz.f200) Tryz.func200 rfl [.agg #[.bool inner, .slice a n c]] rfl (by kernel_rfl) ?_
  refine W_rseq ?_
  refine op_box rfl [.bool inner, .slice a n c] (.agg _) rfl rfl H ?_
  rintro b1 w - H
  refine op_assign rfl (.slice _ _ _) rfl ?_
  refine op_nil (at_then ?_)
  refine W_seq ?_
  refine W_rseq ?_
  refine op_ldbN rfl ag_116_TrL sz_116_TrL rfl H (by first | exact at0 | exact at1 | exact at2 | exact at3 | exact at4 | exact at5 | exact at6 | exact at7 | exact at8 | exact at9) rfl ?_
  refine op_call rfl ca_137_TrL (total_ok inner (I.call H.ext) hm hsz) rfl ?_
  rintro v w ⟨rfl, hx7⟩
  replace H := H.call hx7
  refine op_leq rfl rfl rfl ?_
  refine op_nil (at_then ?_)
  refine W_cond _ rfl ?_ ?_
  · intro h1
    replace h1 := dec_t h1
    have hh : halvesN inner L = [L] := by rw [halvesN, if_pos (by omega)]
    have hxb := H.ext
    refine W_rseq ?_
    refine op_ldbN rfl ag_116_TrL sz_116_TrL rfl H (by first | exact at0 | exact at1 | exact at2 | exact at3 | exact at4 | exact at5 | exact at6 | exact at7 | exact at8 | exact at9) rfl ?_
    refine op_build1 _ (.agg _) rfl el_137_TrL sz_116_TrL zc_116_TrL rfl (by decide) (by decide) rfl rfl rfl H ?_
    rintro b10 w - H
    refine op_assign rfl (.slice _ _ _) rfl ?_
    refine op_nil (at_then ?_)
    refine W_ret (ret_then (leave1 (v := (.slice _ _ _)) rfl rfl rfl ?_))
    refine ⟨some ⟨b10, 0, none⟩, 1, 1, rfl, ⟨⟨[(a, L, c)], Rd.of_bl (r := []) (H.get at0) ?_ (fun _ _ => rfl), .inr fun hq => ?_, by rw [hh]; rfl, fun m hm => ?_⟩, by rw [hh]; rfl⟩, H.ext⟩
    · rw [List.flatMap_singleton, List.append_nil, encN, ← hnum]
    · have := hM _ hq
      have h5 := (H.own _ (List.mem_cons_self ..)).elim (fun h => by cases h) id
      dsimp only [adr] at this h5
      omega
    · rw [List.mem_singleton.1 hm]
      have := I.call H.ext
      rw [hnum] at this
      exact this
  · intro h1
    replace h1 := dec_f h1
    have hh : halvesN inner L = [L.take (halfK inner L), L.drop (halfK inner L)] := by rw [halvesN, if_neg (by omega)]
    refine W_skip (at_then ?_)
    refine W_rseq ?_
    refine op_ldbN rfl ag_116_TrL sz_116_TrL rfl H (by first | exact at0 | exact at1 | exact at2 | exact at3 | exact at4 | exact at5 | exact at6 | exact at7 | exact at8 | exact at9) rfl ?_
    refine op_call rfl ca_137_TrL (total_ok inner (I.call H.ext) hm hsz) rfl ?_
    rintro v w ⟨rfl, hx12⟩
    replace H := H.call hx12
    refine op_quo rfl rfl rfl (by omega) (by omega) (show _ ≤ (9223372036854775807 : Int) by omega) ?_
    rw [show (totalI inner L : Int) / 2 = ((totalI inner L / 2 : Nat) : Int) by omega]
    refine op_assign rfl (.int _ _) rfl ?_
    refine op_assign rfl (.int _ _) rfl ?_
    refine op_assign rfl (.int _ _) rfl ?_
    refine op_nil (at_then ?_)
    refine W_seq ?_
    refine W_block ?_
    obtain ⟨wb, rfl⟩ : ∃ wb, wb = w := ⟨_, rfl⟩
    have hb1 := H.get at0
    have hxb := H.ext
    have hnode : ∀ {z : World}, Ext [] wb z → z.heap[b1]? = some (Bl 116 [.bool inner, .slice a n c]) := fun {z} h => by rw [h.block b1 (heap_lt hb1) (by simp)]; exact hb1
    have hRR : ∀ {z : World}, Ext [] wb z → Rd z a 3 Im.enc ms := fun {z} h => R.ext0 (hxb.trans h)
    refine W_loop 268419120 (α := Nat) (fun k => [(4, .int .i64 (totalI inner (L.take k) : Int)), (5, .int .i64 (k : Int))]) (fun k w' => k ≤ n ∧ Ext [] wb w' ∧ halfG inner (totalI inner L / 2) (L.drop k) (totalI inner (L.take k)) + k = halfK inner L) (fun k => n - k) 0 rfl ?_ ?_ ?_
    · exact ⟨rfl, rfl, trivial⟩
    · exact ⟨Nat.zero_le _, .refl _ _, rfl⟩
    · rintro k j w ⟨hk, hxl, hg⟩
      have htk := total_take_le inner L k
      refine W_seq ?_
      refine W_rseq ?_
      refine op_move rfl (.int _ _) rfl ?_
      refine op_move rfl (.int _ _) rfl ?_
      refine op_lss rfl rfl rfl ?_
      refine op_nil (at_then ?_)
      refine W_cond _ rfl ?_ ?_
      · intro h2
        replace h2 := dec_t h2
        have hkn : k < n := by
          rcases Nat.lt_or_ge k n with h3 | h3
          · exact h3
          · rw [List.take_of_length_le (by omega)] at h2; omega
        obtain ⟨x, hx1⟩ := get_some (l := ms) (i := k) (by omega)
        have hxL := Im.at hl hx1
        have hxo := hok x (List.mem_of_getElem? hx1)
        have hxs := hsz x.it (List.mem_of_getElem? hxL)
        have hts := total_snoc (inner := inner) hxL
        have htk2 := total_take_le inner L (k + 1)
        rw [drop_cons hxL, halfG, if_pos (by omega), ← hts] at hg
        have hD := Ext.drew [] w
        have hoD := hxo.call ((hxb.trans hxl).trans hD)
        refine W_skip (at_then ?_)
        refine W_block ?_
        refine W_sseqz [([0, 1, 2, 3, 4, 5, 6], 7), ([8], 9)] (fun z => Ext [] w z) [] mixed (by kernel_rfl) (hD) ?_
        refine seg_cons rfl rfl ?_
        refine t_move rfl (.int _ _) rfl ?_
        first | refine t_ldN _ rfl ag_116_TrL sz_116_TrL rfl rfl (fun _ hx => (fun j v hv => by rw [cell_bl (hnode (hxl.trans hx)), Nat.zero_add]; exact hv)) ?_ | refine t_ldN _ rfl ag_116_TrL sz_116_TrL rfl rfl (fun _ hx => (hRR (hxl.trans hx)).row hx1 rfl) ?_ | refine t_ldbN rfl ag_116_TrL sz_116_TrL rfl (fun _ _ => Ctx.start _ []) (by first | exact at0 | exact at1 | exact at2 | exact at3 | exact at4 | exact at5 | exact at6 | exact at7 | exact at8 | exact at9) rfl ?_
        refine t_fieldAddr rfl fo_116_1_TrL rfl ?_
        first | refine t_ldb rfl ag_114_TrL rfl (fun _ _ => Ctx.start _ []) (by first | exact at0 | exact at1 | exact at2 | exact at3 | exact at4 | exact at5 | exact at6 | exact at7 | exact at8 | exact at9) rfl ?_ | refine t_ld rfl ag_114_TrL rfl (fun _ hx => cell_bl (hnode (hxl.trans hx)) (0 + 1)) ?_
        refine t_move rfl (.int _ _) rfl ?_
        first | refine t_indexRd R rfl el_114_TrL sz_120_TrL rfl rfl (by omega) (by omega) (by first | rfl | omega) ?_ | refine t_indexAddr rfl el_114_TrL sz_120_TrL rfl rfl (by omega) (by omega) ?_
        first | refine t_ldN _ rfl ag_120_TrL sz_120_TrL rfl rfl (fun _ hx => (fun j v hv => by rw [cell_bl (hnode (hxl.trans hx)), Nat.zero_add]; exact hv)) ?_ | refine t_ldN _ rfl ag_120_TrL sz_120_TrL rfl rfl (fun _ hx => (hRR (hxl.trans hx)).row hx1 rfl) ?_ | refine t_ldbN rfl ag_120_TrL sz_120_TrL rfl (fun _ _ => Ctx.start _ []) (by first | exact at0 | exact at1 | exact at2 | exact at3 | exact at4 | exact at5 | exact at6 | exact at7 | exact at8 | exact at9) rfl ?_
        refine t_nil ?_
        skip
        refine op_call rfl ca_138_TrL (size_ok7 inner a n c hoD (by omega) (by omega)) rfl ?_
        rintro v w5 ⟨rfl, hx24⟩
        have hx5 := hD.trans hx24
        refine op_nil (at_seg (hx5) ?_)
        refine seg_cons rfl rfl ?_
        refine t_add_i64 rfl rfl rfl (by omega) (by omega) ?_
        refine t_nil ?_
        refine op_assign rfl (.int _ _) rfl ?_
        refine op_nil (at_seg (hx5) ?_)
        refine seg_nil ?_
        refine W_region ?_
        refine op_move rfl (.int _ _) rfl ?_
        refine op_add_i64 rfl rfl rfl (by omega) (by omega) ?_
        refine op_assign rfl (.int _ _) rfl ?_
        refine op_nil (at_block (at_then ?_))
        exact ⟨k + 1, rfl, ⟨by show Value.int .i64 _ = Value.int .i64 _; congr 1; rw [hts]; omega, rfl, trivial⟩, ⟨by omega, hxl.trans hx5, by rw [← hg]; omega⟩, by omega⟩
      · intro h2
        replace h2 := dec_f h2
        have hK : halfK inner L = k := by
          have h0 : halfG inner (totalI inner L / 2) (L.drop k) (totalI inner (L.take k)) = 0 := by
            cases hd : L.drop k with
            | nil => rfl
            | cons x l => rw [halfG, if_neg (by omega)]
          omega
        have hD := Ext.drew [] w
        have H := (Ctx.start w []).drew
        refine W_exit (exit_then (exit_then (exit_here (at_then ?_))))
        refine W_sseqz [([0, 1, 2, 3, 4, 5, 6, 7, 8, 9, 10, 11, 12, 13], 14), ([], 15)] (fun z => Ext [] w z) [] mixed (by kernel_rfl) (hD) ?_
        refine seg_cons rfl rfl ?_
        refine t_fieldAddr rfl fo_116_0_TrL rfl ?_
        first | refine t_ldb rfl ag_4 rfl (fun _ _ => Ctx.start _ []) (by first | exact at0 | exact at1 | exact at2 | exact at3 | exact at4 | exact at5 | exact at6 | exact at7 | exact at8 | exact at9) rfl ?_ | refine t_ld rfl ag_4 rfl (fun _ hx => cell_bl (hnode (hxl.trans hx)) (0 + 0)) ?_ | refine t_ld rfl ag_4 rfl (fun _ hx => cell_bl (hnode (hxl.trans hx)) (0 + 1)) ?_
        refine t_fieldAddr rfl fo_116_1_TrL rfl ?_
        first | refine t_ldb rfl ag_114_TrL rfl (fun _ _ => Ctx.start _ []) (by first | exact at0 | exact at1 | exact at2 | exact at3 | exact at4 | exact at5 | exact at6 | exact at7 | exact at8 | exact at9) rfl ?_ | refine t_ld rfl ag_114_TrL rfl (fun _ hx => cell_bl (hnode (hxl.trans hx)) (0 + 0)) ?_ | refine t_ld rfl ag_114_TrL rfl (fun _ hx => cell_bl (hnode (hxl.trans hx)) (0 + 1)) ?_
        refine t_move rfl (.int _ _) rfl ?_
        refine t_slice_hi rfl el_114_TrL sz_120_TrL rfl rfl (by omega) (by omega) ?_
        refine t_buildS [.bool inner, .slice a k c] rfl pl_116_TrL zc_116_TrL (by kernel_rfl) ?_
        refine t_fieldAddr rfl fo_116_0_TrL rfl ?_
        first | refine t_ldb rfl ag_4 rfl (fun _ _ => Ctx.start _ []) (by first | exact at0 | exact at1 | exact at2 | exact at3 | exact at4 | exact at5 | exact at6 | exact at7 | exact at8 | exact at9) rfl ?_ | refine t_ld rfl ag_4 rfl (fun _ hx => cell_bl (hnode (hxl.trans hx)) (0 + 0)) ?_ | refine t_ld rfl ag_4 rfl (fun _ hx => cell_bl (hnode (hxl.trans hx)) (0 + 1)) ?_
        refine t_fieldAddr rfl fo_116_1_TrL rfl ?_
        first | refine t_ldb rfl ag_114_TrL rfl (fun _ _ => Ctx.start _ []) (by first | exact at0 | exact at1 | exact at2 | exact at3 | exact at4 | exact at5 | exact at6 | exact at7 | exact at8 | exact at9) rfl ?_ | refine t_ld rfl ag_114_TrL rfl (fun _ hx => cell_bl (hnode (hxl.trans hx)) (0 + 0)) ?_ | refine t_ld rfl ag_114_TrL rfl (fun _ hx => cell_bl (hnode (hxl.trans hx)) (0 + 1)) ?_
        refine t_move rfl (.int _ _) rfl ?_
        refine t_slice_lo rfl el_114_TrL sz_120_TrL rfl rfl (by omega) (by omega) ?_
        refine t_buildS [.bool inner, .slice (cutA a c k 3) (n - k) (c - k)] rfl pl_116_TrL zc_116_TrL (by kernel_rfl) ?_
        refine t_nil ?_
        skip
        refine op_buildL [.bool inner, .slice a k c, .bool inner, .slice (cutA a c k 3) (n - k) (c - k)] rfl el_137_TrL sz_116_TrL zc_116_TrL (by decide) (by decide) (by kernel_rfl) H ?_
        rintro b42 w5 - H
        refine op_nil (at_seg (H.ext) ?_)
        refine seg_cons rfl rfl ?_
        refine t_nil ?_
        refine op_assign rfl (.slice _ _ _) rfl ?_
        refine op_nil (at_seg (H.ext) ?_)
        refine seg_nil ?_
        refine W_ret (leave1 (v := (.slice _ _ _)) rfl rfl rfl ?_)
        have hx5 := (hxb.trans hxl).trans H.ext
        have I5 := I.call hx5
        have hlt : (L.take k).length = k := by rw [List.length_take]; omega
        have hld : (L.drop k).length = n - k := by rw [List.length_drop]; omega
        refine ⟨some ⟨b42, 0, none⟩, 2, 2, rfl, ⟨⟨[(a, L.take k, c), (cutA a c k 3, L.drop k, c - k)], Rd.of_bl (r := []) (H.get at0) ?_ (fun _ _ => rfl), .inr fun hq => ?_, by rw [hh, hK]; rfl, fun m hm => ?_⟩, by rw [hh]; rfl⟩, hx5⟩
        · simp [encN, hlt, hld]
        · have := hM _ hq
          have h5 := (H.own _ (List.mem_cons_self ..)).elim (fun h => by cases h) id
          have h6 := (hxb.trans hxl).size
          dsimp only [adr] at this h5
          omega
        · rcases List.mem_cons.1 hm with rfl | hm
          · have := I5.take (k := k) hk
            rw [← hlt] at this
            simpa [hlt] using this
          · rw [List.mem_singleton.1 hm]
            have := I5.drop (k := k) hk
            rw [← hld] at this
            simpa [hld] using this

end Go.Proofs.YtbkadlngijkmmaaGreatDoor
