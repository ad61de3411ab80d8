/- Part 5 of the proof. The last text: ShadowKeeps: for every input the law answers true, and turns nothing. The tables that its row lists are premises, and tied to the text by its card. -/
import Derived.Test.YtkmbcpgnafmnpaaDoorPart4
import Derived.Test.YtkmbcpgnafmnpaaDoorPart2
import Derived.Test.YtkmbcpgnafmnpaaDoorCards
import Derived.Test.YtkmbcpgnafmnpaaDoorTie
import Derived.WalkKit
import Derived.ProofKit
import Derived.OpenShut
import Derived.Deep.DeepHandedRow
/- Plain law of stage 8: what is loaded behind a crash. -/
namespace Go.Proofs.YtkmbcpgnafmnpaaDoor
open Go.GV
attribute [local irreducible] Wops W Wq Wt

theorem set_same' {α : Type} {l : List α} {i : Nat} {x : α} (h : l[i]? = some x) : l.set i x = l := set_same h

/-- The last root is that one. -/
structure Inv (B : List Byt) (gen : Nat) (body : Byt) : Prop where
  len : B.length = 3
  ok : body.length ≤ 480
  g1 : 1 ≤ gen
  g2 : gen ≤ 4611686018427387904
  at' : B[gen % 2]? = some (rootB gen body)
  other : rootG (slot (gen + 1)) (B.getD ((gen + 1) % 2) zeros) < gen

theorem Inv.load {B : List Byt} {gen : Nat} {body : Byt} (h : Inv B gen body) (left : Int) : loadE (calm B left) = 0 ∧ loadG (calm B left) = gen ∧ loadL (calm B left) = body := by
  have hl := h.len
  have hr := rootG_root h.ok h.g1 h.g2
  have hL := rootL_root h.ok h.g1 h.g2
  have hg := h.g1
  have ho := h.other
  have ha : B.getD (gen % 2) zeros = rootB gen body := by rw [List.getD_eq_getElem?_getD, h.at']; rfl
  rcases Nat.mod_two_eq_zero_or_one gen with hm | hm
  · have hs : slot gen = 0 := by unfold slot; omega
    have hs1 : slot (gen + 1) = 1 := by unfold slot; omega
    have hm1 : (gen + 1) % 2 = 1 := by omega
    rw [hs] at hr hL
    rw [hs1, hm1] at ho
    rw [hm] at ha
    obtain ⟨h1, h2, h3⟩ := load_two (left := left) (g0 := gen) (g1 := rootG 1 (B.getD 1 zeros)) (l0 := body) (l1 := rootL 1 (B.getD 1 zeros)) (by omega) (by rw [ha]; exact hr) rfl (fun _ => by rw [ha]; exact hL) (fun _ _ => rfl)
    rw [if_neg (by omega)] at h1
    rw [if_pos ho] at h2 h3
    exact ⟨h1, h2, h3⟩
  · have hs : slot gen = 1 := by unfold slot; omega
    have hs1 : slot (gen + 1) = 0 := by unfold slot; omega
    have hm1 : (gen + 1) % 2 = 0 := by omega
    rw [hs] at hr hL
    rw [hs1, hm1] at ho
    rw [hm] at ha
    obtain ⟨h1, h2, h3⟩ := load_two (left := left) (g0 := rootG 0 (B.getD 0 zeros)) (g1 := gen) (l0 := rootL 0 (B.getD 0 zeros)) (l1 := body) (by omega) rfl (by rw [ha]; exact hr) (fun _ => rfl) (fun _ _ => by rw [ha]; exact hL)
    rw [if_neg (by omega)] at h1
    rw [if_neg (by omega)] at h2 h3
    rw [if_neg (by omega)] at h3
    exact ⟨h1, h2, h3⟩
theorem Inv.next {B : List Byt} {gen : Nat} {body b : Byt} (h : Inv B gen body) (hb : b.length ≤ 480) (hg : gen + 1 ≤ 4611686018427387904) : Inv (B.set ((gen + 1) % 2) (rootB (gen + 1) b)) (gen + 1) b := by
  have hl := h.len
  refine ⟨by rw [List.length_set]; exact hl, hb, by omega, hg, List.getElem?_set_self (by omega), ?_⟩
  have hne : (gen + 1) % 2 ≠ (gen + 1 + 1) % 2 := by omega
  have hm : (gen + 1 + 1) % 2 = gen % 2 := by omega
  have hs : slot (gen + 1 + 1) = slot gen := by unfold slot; omega
  rw [List.getD_eq_getElem?_getD, List.getElem?_set_ne hne, hm, h.at', hs]
  have := rootG_root h.ok h.g1 h.g2
  show rootG (slot gen) (rootB gen body) < gen + 1
  omega

theorem keepB_calm (B : List Byt) (picks : List Int) : keepB (B.map fun b => (b, ([] : List Byt))) picks = B.map fun b => (b, []) := by
  induction B generalizing picks with
  | nil => rfl
  | cons b B ih => rw [List.map_cons, keepB, if_pos rfl, ih]
theorem keepB_loosed {B : List Byt} {k : Nat} (hk : k < B.length) (r : Byt) (picks : List Int) : ∃ t : Bool, keepB ((B.map fun b => (b, ([] : List Byt))).modify k fun p => (p.1, p.2 ++ [r])) picks = (if t then B.set k r else B).map fun b => (b, []) := by
  induction B generalizing k picks with
  | nil => exact absurd hk (Nat.not_lt_zero _)
  | cons b B ih =>
    cases k with
    | zero =>
      rw [List.map_cons, List.modify_zero_cons, List.nil_append, keepB, if_neg (by simp), keepB_calm]
      by_cases h : pickN (b, [r]) picks = 0
      · refine ⟨false, ?_⟩
        rw [h]; rfl
      · refine ⟨true, ?_⟩
        have h2 : pickN (b, [r]) picks = 1 := by
          cases picks with
          | nil => exact absurd rfl h
          | cons y l =>
            have := Nat.mod_lt (max y 0).toNat (show 0 < 2 by decide)
            have h3 : pickN (b, [r]) (y :: l) = (max y 0).toNat % 2 := rfl
            omega
        rw [h2]; rfl
    | succ k =>
      obtain ⟨t, ht⟩ := ih (k := k) (by simpa using hk) picks
      refine ⟨t, ?_⟩
      rw [List.map_cons, List.modify_succ_cons, keepB, if_pos rfl, ht]
      cases t <;> rfl

theorem on_calm {A : Dev} {B : List Byt} (picks : List Int) (h : A.on = false) (hB : keepB A.B picks = B.map fun b => (b, [])) : onD A picks = calm B (-1) := by
  unfold onD calm
  rw [h, hB]; rfl

/-- One round. -/
theorem keeps_step {B : List Byt} {gen : Nat} {body b : Byt} {left : Int} (h : Inv B gen body) (hb : b.length ≤ 480) (hg : gen + 1 ≤ 4611686018427387904) (hl : -1 ≤ left) (picks : List Int) :
    (saveE (calm B left) (gen + 1) b = 0 ∧ ∃ B', onD (offD (saveD (calm B left) (gen + 1) b)) picks = calm B' (-1) ∧ Inv B' (gen + 1) b) ∨
    (saveE (calm B left) (gen + 1) b = 8 ∧ (saveD (calm B left) (gen + 1) b).on = false ∧ ∃ (t : Bool) (B' : List Byt), onD (saveD (calm B left) (gen + 1) b) picks = calm B' (-1) ∧ Inv B' (if t then gen + 1 else gen) (if t then b else body)) := by
  have hlen := h.len
  obtain ⟨h1, h2⟩ := save_calm (B := B) (gen := gen + 1) (body := b) (left := left) (by omega) (by omega) hg hb hl
  rw [h1, h2]
  by_cases h0 : left = 0
  · subst h0
    refine .inr ⟨rfl, rfl, false, B, on_calm picks rfl (keepB_calm B picks), h⟩
  · by_cases h9 : left = 1
    · subst h9
      obtain ⟨t, ht⟩ := keepB_loosed (B := B) (k := (gen + 1) % 2) (by omega) (rootB (gen + 1) b) picks
      refine .inr ⟨rfl, rfl, t, _, on_calm picks rfl ht, ?_⟩
      cases t
      · exact h
      · exact h.next hb hg
    · rw [if_neg (by omega), if_neg h0, if_neg h9]
      exact .inl ⟨rfl, _, on_calm picks rfl (keepB_calm _ picks), h.next hb hg⟩

theorem first_inv {gen : Nat} {body : Byt} (h1 : 1 ≤ gen) (h2 : gen ≤ 4611686018427387904) (hb : body.length ≤ 480) : Inv ([zeros, zeros, zeros].set (gen % 2) (rootB gen body)) gen body := by
  refine ⟨by simp, hb, h1, h2, List.getElem?_set_self (by simp; omega), ?_⟩
  have hne : gen % 2 ≠ (gen + 1) % 2 := by omega
  have hz : ([zeros, zeros, zeros].set (gen % 2) (rootB gen body)).getD ((gen + 1) % 2) zeros = zeros := by
    rw [List.getD_eq_getElem?_getD, List.getElem?_set_ne hne]
    rcases Nat.mod_two_eq_zero_or_one (gen + 1) with h | h <;> rw [h] <;> rfl
  rw [hz, rootG_zeros]
  exact h1

end Go.Proofs.YtkmbcpgnafmnpaaDoor

/- The steps of the laws of roots; whether there is too much of them; a block of one's own. -/
namespace Go.Proofs.YtkmbcpgnafmnpaaDoor
open Go.GV
theorem ag_45_StH1 : aggB Tryd.prog 45 = some false := by kernel_rfl
theorem el_40_StH1 : elemT Tryd.prog 40 = some 47 := by kernel_rfl
theorem fo_47_2_StH1 : fieldO Tryd.prog 47 2 = some 2 := by kernel_rfl
theorem fo_47_6_StH1 : fieldO Tryd.prog 47 6 = some 6 := by kernel_rfl
theorem sz_47_StH1 : tsize Tryd.prog 47 = some 7 := by kernel_rfl
attribute [local irreducible] Wops W Wq Wt

structure Stp where
  op : Int
  gen : Nat
  ba : Option Addr
  bc : Nat
  b : Byt
  n : Int
  pos : Nat
  by' : UInt8
  pa : Option Addr
  pc : Nat
  picks : List Int
abbrev I64 : Int → List Value := fun x => [.int .i64 x]
def Stp.enc (x : Stp) : List Value := [.int .i64 x.op, .int .u64 (x.gen : Int), .slice x.ba x.b.length x.bc, .int .i64 x.n, .int .u16 (x.pos : Int), bv x.by', .slice x.pa x.picks.length x.pc]
structure Stp.Ok (w : World) (x : Stp) : Prop where
  rb : Rd w x.ba 1 B8 x.b
  rp : Rd w x.pa 1 I64 x.picks
  cb : x.b.length ≤ x.bc
  cp : x.picks.length ≤ x.pc
  mb : x.b.length ≤ 140737488351232
  mp : x.picks.length ≤ 140737488351232
  gen : x.gen < 18446744073709551616
  n1 : -9223372036854775808 ≤ x.n
  n2 : x.n ≤ 9223372036854775807
  pos : x.pos < 65536
  picks : ∀ i ∈ x.picks, -9223372036854775808 ≤ i ∧ i ≤ 9223372036854775807

def sumH (l : List Stp) : Nat := (l.map fun x => x.b.length + x.picks.length).sum
def heavyB (l : List Stp) : Bool := decide (40 < l.length) || decide (20000 < sumH (l.take 100))
theorem sumH_snoc (l : List Stp) (x : Stp) : sumH (l ++ [x]) = sumH l + (x.b.length + x.picks.length) := by simp [sumH]
theorem sumH_mem {l : List Stp} {x : Stp} (h : x ∈ l) : x.b.length + x.picks.length ≤ sumH l := by
  induction l with
  | nil => cases h
  | cons y l ih =>
    unfold sumH
    rw [List.map_cons, List.sum_cons]
    rcases List.mem_cons.1 h with rfl | h
    · omega
    · have := ih h; unfold sumH at this; omega
theorem sumH_le {l : List Stp} (h : ∀ x ∈ l, x.b.length + x.picks.length ≤ 281474976702464) : sumH l ≤ l.length * 281474976702464 := by
  induction l with
  | nil => exact Nat.zero_le _
  | cons y l ih =>
    have h1 := ih fun x hx => h x (List.mem_cons_of_mem _ hx)
    have h2 := h y (List.mem_cons_self ..)
    unfold sumH at h1 ⊢
    rw [List.map_cons, List.sum_cons, List.length_cons]
    omega
theorem not_heavy {l : List Stp} (h : heavyB l = false) : l.length ≤ 40 ∧ ∀ x ∈ l, x.b.length + x.picks.length ≤ 20000 := by
  unfold heavyB at h
  simp only [Bool.or_eq_false_iff, decide_eq_false_iff_not] at h
  have hl : l.length ≤ 40 := by omega
  refine ⟨hl, fun x hx => ?_⟩
  rw [List.take_of_length_le (by omega)] at h
  have := sumH_mem hx
  omega

set_option maxRecDepth 20000 in
theorem heavy_ok (a : Option Addr) (c : Nat) (l : List Stp) (w : World) (R : Rd w a 7 Stp.enc l) (hok : ∀ x ∈ l, x.Ok w) (hm : l.length ≤ 9223372036854775807) : Ret Tryd.prog 17 #[.slice a l.length c] w fun v w' => v = .bool (heavyB l) ∧ Ext [] w w' := by
  obtain ⟨w0, rfl⟩ : ∃ w0, w0 = w := ⟨_, rfl⟩
  have H := Ctx.start w0 []
  refine ret_of_W (fn := Tryd.f17) Tryd.func17 rfl [.slice a l.length c] rfl (by kernel_rfl) ?_
  refine W_rseq ?_
  refine op_assign rfl (.bool _) rfl ?_
  refine op_nil (at_then ?_)
  refine W_rseq ?_
  refine op_assign rfl (.int _ _) rfl ?_
  refine op_nil (at_then ?_)
  refine W_seq ?_
  refine W_rseq ?_
  refine op_assign rfl (.int _ _) rfl ?_
  refine op_nil (at_then ?_)
  refine W_block ?_
  refine W_loop 1073741816 (α := Nat) (fun i => [(4, .int .i64 i), (3, .int .i64 (sumH (l.take i) : Int))]) (fun i w' => i ≤ l.length ∧ i ≤ 100 ∧ Ctx w0 [] w' []) (fun i => 100 - i) 0 rfl ?_ ?_ ?_
  · exact ⟨rfl, rfl, trivial⟩
  · exact ⟨Nat.zero_le _, Nat.zero_le _, H⟩
  · rintro i j w ⟨hi, hi1, H⟩
    have hs : sumH (l.take i) ≤ i * 281474976702464 := by
      have h1 := sumH_le (l := l.take i) fun x hx => by have := hok x (List.mem_of_mem_take hx); have := this.mb; have := (hok x (List.mem_of_mem_take hx)).mp; omega
      rw [List.length_take, Nat.min_eq_left hi] at h1
      exact h1
    have hs2 : i * 281474976702464 ≤ 100 * 281474976702464 := Nat.mul_le_mul_right _ hi1
    refine W_seq ?_
    refine W_rseq (Wops_join (α := Unit) 8160 (fun _ => [(12, .bool (decide (i < l.length) && decide (i < 100)))]) (fun _ w' => Ctx w0 [] w' []) rfl ?_ ?_)
    · refine op_move rfl (.int _ _) rfl ?_
      refine op_move rfl (.slice _ _ _) rfl ?_
      refine op_len rfl el_40_StH1 rfl ?_
      refine op_lss rfl rfl rfl ?_
      refine op_move rfl (.bool _) rfl ?_
      refine Wops_split 9 rfl ?_ ?_
      · intro h1
        replace h1 := dec_t h1
        refine op_move rfl (.int _ _) rfl ?_
        refine op_lss rfl rfl rfl ?_
        refine op_pick1 rfl rfl (.bool _) rfl ?_
        refine op_nil ?_
        exact ⟨rfl, (), rfl, ⟨congrArg Value.bool (by rw [Bool.eq_iff_iff]; simp_all; try omega), trivial⟩, H⟩
      · intro h2
        replace h2 := dec_f h2
        refine op_skip rfl ?_
        refine op_skip rfl ?_
        refine op_pick0 rfl rfl (.bool _) rfl ?_
        refine op_nil ?_
        exact ⟨rfl, (), rfl, ⟨congrArg Value.bool (by rw [Bool.eq_iff_iff]; simp_all; try omega), trivial⟩, H⟩
    rintro - j12 w H
    refine W_cond _ rfl ?_ ?_
    · intro h1
      simp only [Bool.and_eq_true, decide_eq_true_eq] at h1
      obtain ⟨x, hx⟩ := get_some (l := l) (i := i) (by omega)
      have hox := hok x (List.mem_of_getElem? hx)
      have hmb := hox.mb
      have hmp := hox.mp
      refine W_skip (at_then ?_)
      refine W_seq ?_
      refine W_block ?_
      refine W_quiet (fun x => x = _) mixed (by kernel_rfl) rfl ?_
      refine q_move rfl (.int _ _) rfl ?_
      refine q_move rfl (.slice _ _ _) rfl ?_
      refine q_move rfl (.int _ _) rfl ?_
      first | refine q_indexRd R rfl el_40_StH1 sz_47_StH1 rfl rfl (by omega) (by omega) (by first | rfl | omega) ?_ | refine q_indexAddr rfl el_40_StH1 sz_47_StH1 rfl rfl (by omega) (by omega) ?_
      refine q_fieldAddr rfl fo_47_2_StH1 rfl ?_
      first | refine q_ldb rfl ag_23 rfl (by rintro _ rfl; exact H.drew) (by first | exact at0 | exact at1 | exact at2 | exact at3 | exact at4 | exact at5 | exact at6 | exact at7 | exact at8 | exact at9) rfl ?_ | refine q_ld rfl ag_23 rfl (by rintro _ rfl; exact ((R.ext0 H.drew.ext).fld hx rfl (j := 2) rfl)) ?_ | refine q_ld rfl ag_23 rfl (by rintro _ rfl; exact ((R.ext0 H.drew.ext).fld hx rfl (j := 6) rfl)) ?_
      refine q_len rfl el_23 rfl ?_
      refine q_add_i64 rfl rfl rfl (by omega) (by omega) ?_
      refine q_move rfl (.slice _ _ _) rfl ?_
      refine q_move rfl (.int _ _) rfl ?_
      first | refine q_indexRd R rfl el_40_StH1 sz_47_StH1 rfl rfl (by omega) (by omega) (by first | rfl | omega) ?_ | refine q_indexAddr rfl el_40_StH1 sz_47_StH1 rfl rfl (by omega) (by omega) ?_
      refine q_fieldAddr rfl fo_47_6_StH1 rfl ?_
      first | refine q_ldb rfl ag_45_StH1 rfl (by rintro _ rfl; exact H.drew) (by first | exact at0 | exact at1 | exact at2 | exact at3 | exact at4 | exact at5 | exact at6 | exact at7 | exact at8 | exact at9) rfl ?_ | refine q_ld rfl ag_45_StH1 rfl (by rintro _ rfl; exact ((R.ext0 H.drew.ext).fld hx rfl (j := 2) rfl)) ?_ | refine q_ld rfl ag_45_StH1 rfl (by rintro _ rfl; exact ((R.ext0 H.drew.ext).fld hx rfl (j := 6) rfl)) ?_
      refine q_len rfl el_45 rfl ?_
      refine q_add_i64 rfl rfl rfl (by omega) (by omega) ?_
      refine q_assign rfl (.int _ _) rfl ?_
      refine q_nil ?_
      rintro _ rfl
      replace H := H.drew
      refine at_block (at_then ?_)
      refine W_region ?_
      refine op_move rfl (.int _ _) rfl ?_
      refine op_add_i64 rfl rfl rfl (by omega) (by omega) ?_
      refine op_assign rfl (.int _ _) rfl ?_
      refine op_nil (at_then ?_)
      refine ⟨i + 1, rfl, ⟨rfl, ?_, trivial⟩, ⟨by omega, by omega, H⟩, by omega⟩
      rw [take_snoc hx, sumH_snoc]
      exact congrArg (Value.int .i64) (by omega)
    · intro h1
      simp only [Bool.and_eq_false_iff, decide_eq_false_iff_not] at h1
      have hd : decide (20000 < sumH (l.take i)) = decide (20000 < sumH (l.take 100)) ∨ 40 < l.length := by
        rcases h1 with h1 | h1
        · left; rw [List.take_of_length_le (l := l) (i := i) (by omega), List.take_of_length_le (l := l) (i := 100) (by omega)]
        · right; omega
      refine W_exit (exit_then (exit_then (exit_here (at_then ?_))))
      refine W_rseq ?_
      refine op_move rfl (.slice _ _ _) rfl ?_
      refine op_len rfl el_40_StH1 rfl ?_
      refine op_gtr rfl rfl rfl ?_
      refine op_move rfl (.bool _) rfl ?_
      refine Wops_split 33 rfl ?_ ?_
      · intro h2
        replace h2 := dec_t h2
        refine op_skip rfl ?_
        refine op_skip rfl ?_
        refine op_pick1 rfl rfl (.bool _) rfl ?_
        refine op_assign rfl (.bool _) rfl ?_
        refine op_nil (at_then ?_)
        refine W_ret (leave1 (v := (.bool _)) rfl rfl rfl ?_)
        exact ⟨by rw [heavyB, decide_eq_true (show 40 < l.length by omega)]; rfl, H.ext⟩
      · intro h2
        replace h2 := dec_f h2
        refine op_move rfl (.int _ _) rfl ?_
        refine op_gtr rfl rfl rfl ?_
        refine op_pick0 rfl rfl (.bool _) rfl ?_
        refine op_assign rfl (.bool _) rfl ?_
        refine op_nil (at_then ?_)
        refine W_ret (leave1 (v := (.bool _)) rfl rfl rfl ?_)
        rcases hd with hd | hd
        · refine ⟨?_, H.ext⟩
          rw [heavyB, decide_eq_false (show ¬ 40 < l.length by omega), ← hd, Bool.false_or]
          congr 1
          rw [Bool.eq_iff_iff]; simp only [decide_eq_true_eq]; omega
        · omega

end Go.Proofs.YtkmbcpgnafmnpaaDoor

/- The block of a step. -/
namespace Go.Proofs.YtkmbcpgnafmnpaaDoor
open Go.GV
theorem ag_24_StH2 : aggB Tryd.prog 24 = some false := by kernel_rfl
theorem fo_47_1_StH2 : fieldO Tryd.prog 47 1 = some 1 := by kernel_rfl
theorem fo_47_2_StH2 : fieldO Tryd.prog 47 2 = some 2 := by kernel_rfl
theorem fo_47_4_StH2 : fieldO Tryd.prog 47 4 = some 4 := by kernel_rfl
theorem fo_47_5_StH2 : fieldO Tryd.prog 47 5 = some 5 := by kernel_rfl
theorem un_24_StH2 : Tryd.prog.underlying 24 = some (.int .u16) := by kernel_rfl
attribute [local irreducible] Wops W Wq Wt

def rawBase (x : Stp) : Byt := if x.b.length ≤ 497 then rootB x.gen x.b else zeros
def rawB (x : Stp) : Byt := (rawBase x).modify (x.pos % 512) fun c => c ^^^ x.by'
theorem rawBase_len (x : Stp) : (rawBase x).length = 512 := by
  unfold rawBase
  split
  · exact seal_len (by rw [List.length_append, putN_len]; omega)
  · exact List.length_replicate
theorem rawB_len (x : Stp) : (rawB x).length = 512 := by rw [rawB, List.length_modify, rawBase_len]

theorem bv_xor (a b : UInt8) : Value.int .u8 ((a.toNat ^^^ b.toNat : Nat) : Int) = bv (a ^^^ b) := by
  rw [bv, UInt8.toNat_xor]

theorem seal_cases {w0 w w' : World} {L : List (Nat × Obj)} {v : Value} {k : UInt8} {l : Byt} (H : Ctx w0 [] w L)
    (P : (sealE k l ≠ 0 ∧ v = .tuple #[.slice none 0 0, .int .i64 (sealE k l)] ∧ Ext [] w w') ∨ (sealE k l = 0 ∧ ∃ s, v = .tuple #[s, .int .i64 0] ∧ Fresh w w' 5 1 s ((sealB k l).map bv))) :
    ∃ a n c full, v = .tuple #[.slice a n c, .int .i64 (sealE k l)] ∧ Ctx w0 [] w' (L ++ ent a 5 full) ∧ (sealE k l = 0 → OS a n c 1 full ((sealB k l).map bv)) := by
  rcases P with ⟨h, rfl, hx⟩ | ⟨h, s, rfl, F⟩
  · exact ⟨none, 0, 0, [], rfl, by simpa [ent] using H.call hx, fun h' => absurd h' h⟩
  · obtain ⟨a, n, c, full, rfl, O, hb⟩ := F.ex
    exact ⟨a, n, c, full, by rw [h], H.callEnt F.ext hb ent_nd, fun _ => O⟩

set_option maxRecDepth 20000 in
set_option maxHeartbeats 2000000 in
theorem raw_ok (x : Stp) (w : World) (hx : x.Ok w) (hb20 : x.b.length ≤ 20000) : Ret Tryd.prog 26 #[.agg x.enc.toArray] w fun v w' => Fresh w w' 5 1 v ((rawB x).map bv) := by
  obtain ⟨w0, rfl⟩ : ∃ w0, w0 = w := ⟨_, rfl⟩
  have H := Ctx.start w0 []
  have hmb := hx.mb
  have hpos := hx.pos
  have hlr : (putN x.gen 8 ++ x.b).length = 8 + x.b.length := by rw [List.length_append, putN_len]
  have hse : sealE 1 (putN x.gen 8 ++ x.b) = bif decide (x.b.length ≤ 497) then 0 else 6 := by
    rw [sealE, decide_eq_false (show ¬ (1 : UInt8).toNat = 0 by decide), cond_false, hlr]
    by_cases h : x.b.length ≤ 497
    · rw [decide_eq_true h, decide_eq_false (show ¬ 505 < 8 + x.b.length by omega)]; rfl
    · rw [decide_eq_false h, decide_eq_true (show 505 < 8 + x.b.length by omega)]; rfl
  refine ret_of_W (fn := Tryd.f26) Tryd.func26 rfl [.agg x.enc.toArray] rfl (by kernel_rfl) ?_
  refine W_rseq ?_
  refine op_box rfl x.enc (.agg _) rfl rfl H ?_
  rintro b1 w - H
  refine op_assign rfl (.slice _ _ _) rfl ?_
  refine op_nil (at_then ?_)
  refine W_rseq ?_
  refine op_fieldAddr rfl fo_47_1_StH2 rfl ?_
  refine op_ldb rfl ag_22 rfl H (by first | exact at0 | exact at1 | exact at2 | exact at3 | exact at4 | exact at5 | exact at6 | exact at7 | exact at8 | exact at9) rfl ?_
  refine op_fieldAddr rfl fo_47_2_StH2 rfl ?_
  refine op_ldb rfl ag_23 rfl H (by first | exact at0 | exact at1 | exact at2 | exact at3 | exact at4 | exact at5 | exact at6 | exact at7 | exact at8 | exact at9) rfl ?_
  have H10 := H
  refine op_call rfl ca_57 (root_ok x.gen x.ba x.bc x.b.length x.b _ (hx.rb.ext0 H.ext) rfl (by omega) hx.gen) rfl ?_
  rintro v w F10
  obtain ⟨a10, c10, rfl, R10, hc10⟩ := Fresh.rdB F10
  replace H := H.call F10.ext
  refine op_call rfl ca_56 (seal4_ok 1 a10 c10 _ _ _ R10 rfl (by rw [hlr]; omega)) rfl ?_
  rintro v w P11
  obtain ⟨a11, n11, c11, full11, rfl, H11, O11⟩ := seal_cases H P11
  rw [hse] at O11 ⊢
  refine op_move rfl (.tuple _) rfl ?_
  refine op_extract rfl rfl rfl ?_
  refine op_extract rfl rfl rfl ?_
  refine op_assign rfl (.slice _ _ _) rfl ?_
  refine op_assign rfl (.int _ _) rfl ?_
  refine op_nil (at_then ?_)
  refine W_seq ?_
  refine W_rseq ?_
  refine op_move rfl (.int _ _) rfl ?_
  refine op_neq rfl rfl rfl ?_
  refine op_nil (at_then ?_)
  refine W_joinK 65544 (α := Nat × Nat × List Value) (fun s => [(3, .slice (some ⟨s.1, 0, none⟩) 512 s.2.1)]) (fun s w' => Ctx w0 [] w' [(b1, Bl 47 x.enc), (s.1, Bl 5 s.2.2)] ∧ s.2.2.take 512 = (rawBase x).map bv ∧ s.2.2.length = s.2.1 ∧ 512 ≤ s.2.1) rfl ?_ ?_
  · skip
    refine W_cond _ rfl ?_ ?_
    · intro h1
      replace h1 := ndec_t h1
      have hgt : ¬ x.b.length ≤ 497 := fun h => by rw [decide_eq_true h] at h1; exact h1 rfl
      have H : Ctx w0 [] w [(b1, Bl 47 x.enc)] := Ctx.left H11
      refine W_region ?_
      refine op_make rfl el_23 sz_5 by_5 zc_5 rfl rfl (by omega) (by omega) (by omega) (by omega) H ?_
      rintro b16 w - H
      refine op_assign rfl (.slice _ _ _) rfl ?_
      refine op_nil (at_then ?_)
      refine ⟨(b16, 512, List.replicate 512 (.int .u8 0)), rfl, ⟨rfl, trivial⟩, H.perm (List.Perm.swap ..), ?_, by rw [List.length_replicate], Nat.le_refl _⟩
      rw [rawBase, if_neg hgt]; rfl
    · intro h1
      replace h1 := ndec_f h1
      have hle : x.b.length ≤ 497 := Classical.byContradiction fun h => by rw [decide_eq_false h] at h1; cases h1
      refine W_skip (at_then ?_)
      have O := O11 h1
      have h5 : (rootB x.gen x.b).length = 512 := seal_len (by rw [hlr]; omega)
      have hn5 : n11 = 512 := by have h9 := O.llen; rw [List.length_map] at h9; have h8 : (sealB 1 (putN x.gen 8 ++ x.b)).length = 512 := h5; omega
      subst hn5
      obtain ⟨b, hb⟩ := O.form (by decide)
      subst hb
      refine ⟨(b, c11, full11), rfl, ⟨rfl, trivial⟩, H11, ?_, by have h7 := O.len; rw [Nat.mul_one] at h7; exact h7, O.le⟩
      rw [rawBase, if_pos hle]
      exact O.pre
  · rintro ⟨b, c, full⟩ j w ⟨H, hfull, hlen, hc⟩
    dsimp only at H hfull hlen hc
    dsimp only
    have hb1 := H.get at0
    have hbb := H.get at1
    have ho := H.own _ (List.mem_cons_of_mem _ (List.mem_cons_self ..))
    have hne := H.ne at0 at1 (by decide)
    have hbl := rawBase_len x
    have hq : x.pos % 512 < 512 := Nat.mod_lt _ (by decide)
    obtain ⟨y, hy⟩ := get_some (l := rawBase x) (i := x.pos % 512) (by omega)
    have hfy : full[x.pos % 512]? = some (bv y) := by
      have h1 : (full.take 512)[x.pos % 512]? = some (bv y) := by rw [hfull, List.getElem?_map, hy]; rfl
      rwa [List.getElem?_take, if_pos hq] at h1
    have H0 := H
    have hyl := y.toNat_lt
    have hbyl := x.by'.toNat_lt
    have HT : ∀ z, Ext [] w z → Ctx w [] z [] := fun z hz => (Ctx.start w []).call hz
    refine W_sseqz [([0, 1, 2, 3, 4, 5, 6, 7, 8, 9, 10, 11, 12], 13)] (fun z => Ext [] w z) 13 mixed (by kernel_rfl) (Ext.drew _ w) ?_
    refine seg_cons rfl rfl ?_
    refine t_move rfl (.slice _ _ _) rfl ?_
    refine t_fieldAddr rfl fo_47_4_StH2 rfl ?_
    first | refine t_ldb rfl ag_24_StH2 rfl HT (by first | exact at0 | exact at1 | exact at2 | exact at3 | exact at4 | exact at5 | exact at6 | exact at7 | exact at8 | exact at9) rfl ?_ | refine t_ld rfl ag_24_StH2 rfl (fun _ hx => hx.cell (cell_bl hb1 (0 + 4)) (by simp)) ?_ | refine t_ld rfl ag_24_StH2 rfl (fun _ hx => hx.cell (cell_bl hb1 (0 + 5)) (by simp)) ?_ | refine t_ld rfl ag_24_StH2 rfl (fun _ hx => hx.cell ((cell_bl hbb (0 + (x.pos % 512) * 1)).trans (by rw [Nat.zero_add, Nat.mul_one]; exact hfy)) (by simp)) ?_
    refine t_conv_i64 rfl rfl un_24_StH2 un_3 (by omega) (by omega) ?_
    refine t_move rfl (.slice _ _ _) rfl ?_
    refine t_len rfl el_23 rfl ?_
    refine t_rem rfl rfl rfl (by omega) (by omega) ?_
    rw [show ((x.pos : Int) % ((512 : Nat) : Int)) = ((x.pos % 512 : Nat) : Int) by omega]
    refine t_indexAddr rfl el_23 sz_5 rfl rfl (by omega) (by omega) ?_
    first | refine t_ldb rfl ag_5 rfl HT (by first | exact at0 | exact at1 | exact at2 | exact at3 | exact at4 | exact at5 | exact at6 | exact at7 | exact at8 | exact at9) rfl ?_ | refine t_ld rfl ag_5 rfl (fun _ hx => hx.cell (cell_bl hb1 (0 + 4)) (by simp)) ?_ | refine t_ld rfl ag_5 rfl (fun _ hx => hx.cell (cell_bl hb1 (0 + 5)) (by simp)) ?_ | refine t_ld rfl ag_5 rfl (fun _ hx => hx.cell ((cell_bl hbb (0 + (x.pos % 512) * 1)).trans (by rw [Nat.zero_add, Nat.mul_one]; exact hfy)) (by simp)) ?_
    refine t_fieldAddr rfl fo_47_5_StH2 rfl ?_
    first | refine t_ldb rfl ag_5 rfl HT (by first | exact at0 | exact at1 | exact at2 | exact at3 | exact at4 | exact at5 | exact at6 | exact at7 | exact at8 | exact at9) rfl ?_ | refine t_ld rfl ag_5 rfl (fun _ hx => hx.cell (cell_bl hb1 (0 + 4)) (by simp)) ?_ | refine t_ld rfl ag_5 rfl (fun _ hx => hx.cell (cell_bl hb1 (0 + 5)) (by simp)) ?_ | refine t_ld rfl ag_5 rfl (fun _ hx => hx.cell ((cell_bl hbb (0 + (x.pos % 512) * 1)).trans (by rw [Nat.zero_add, Nat.mul_one]; exact hfy)) (by simp)) ?_
    refine t_xor_u8 (a := y.toNat) (b := x.by'.toNat) rfl rfl rfl (by omega) (by omega) ?_
    rw [bv_xor]
    refine t_indexAddr rfl el_23 sz_5 rfl rfl (by omega) (by omega) ?_
    refine t_nil ?_
    skip
    refine op_stb (bv _) rfl sz_5 rfl rfl rfl (Ctx.start1 (show (World.drew w).heap[b]? = _ from hbb)) at0 (by omega) ?_
    rintro wE HE
    refine op_nil (at_segz ?_)
    refine seg_nil ?_
    refine W_rseq ?_
    refine op_move rfl (.slice _ _ _) rfl ?_
    refine op_assign rfl (.slice _ _ _) rfl ?_
    refine op_nil (at_then ?_)
    refine W_ret (leave1 (v := (.slice _ _ _)) rfl rfl rfl ?_)
    have hbn : w0.heap.size ≤ b := ho.elim (fun h => by cases h) id
    refine ⟨⟨some ⟨b, 0, none⟩, 512, c, full.set (0 + ((x.pos % 512 : Nat) : Int).toNat * 1) (bv (y ^^^ x.by')), rfl, ⟨(fun p hp => by cases hp; rfl), (fun h => by cases h), (by rw [List.length_set]; omega), hc, ?_⟩, fun z hz => by rw [List.mem_singleton.1 hz]; exact ⟨HE.get at0, hbn⟩⟩, H0.ext.then ((Ext.drew [b] w).trans HE.ext) fun z hz => .inr (by rw [List.mem_singleton.1 hz]; exact hbn)⟩
    rw [Nat.mul_one, Nat.zero_add, Nat.mul_one, List.take_set, hfull, set_map, rawB, modify_set hy, Int.toNat_natCast]

end Go.Proofs.YtkmbcpgnafmnpaaDoor

/- Two devices side by side: the program's and the document's. -/
namespace Go.Proofs.YtkmbcpgnafmnpaaDoor
open Go.GV
attribute [local irreducible] Wops W Wq Wt

structure Two (w0 w : World) (bd rd : Nat) (A B : Dev) (F G : Nat → Prop) : Prop where
  ext : Ext [] w0 w
  dev : DevAt w bd A F
  ref : RefAt w rd B G
  f : ∀ x, F x → w0.heap.size ≤ x ∧ x < w.heap.size
  g : ∀ x, G x → w0.heap.size ≤ x ∧ x < w.heap.size
  fg : ∀ x, F x → ¬ G x

/-- Blocks that are neither's stay so, and stay as they are. -/
structure Still (F G F' G' : Nat → Prop) (w w' : World) : Prop where
  blk : ∀ b, b < w.heap.size → ¬ F b → ¬ G b → w'.heap[b]? = w.heap[b]?
  fg : ∀ b, b < w.heap.size → ¬ F b → ¬ G b → ¬ F' b ∧ ¬ G' b
  size : w.heap.size ≤ w'.heap.size
def Free (w : World) (F G : Nat → Prop) (b : Nat) : Prop := b < w.heap.size ∧ ¬ F b ∧ ¬ G b
theorem Free.go {w w' : World} {F G F' G' : Nat → Prop} {b : Nat} (h : Free w F G b) (s : Still F G F' G' w w') : Free w' F' G' b :=
  ⟨Nat.lt_of_lt_of_le h.1 s.size, s.fg b h.1 h.2.1 h.2.2⟩
theorem Rd.same {w w' : World} {α : Type} {a : Option Addr} {s : Nat} {enc : α → List Value} {l : List α} (R : Rd w a s enc l) (h : w'.heap[(adr a).block]? = w.heap[(adr a).block]?) : Rd w' a s enc l :=
  ⟨R.some', fun i x hx j v hv hj => by
    have h1 := R.cell i x hx j v hv hj
    unfold World.cell? at h1 ⊢
    rw [h]; exact h1⟩
/-- What is read, and lies elsewhere. -/
def RdF {α : Type} (w : World) (F G : Nat → Prop) (a : Option Addr) (s : Nat) (enc : α → List Value) (l : List α) : Prop := Rd w a s enc l ∧ (l = [] ∨ Free w F G (adr a).block)
theorem RdF.go {α : Type} {w w' : World} {F G F' G' : Nat → Prop} {a : Option Addr} {s : Nat} {enc : α → List Value} {l : List α} (h : RdF w F G a s enc l) (t : Still F G F' G' w w') : RdF w' F' G' a s enc l := by
  obtain ⟨R, hn⟩ := h
  rcases hn with rfl | hn
  · exact ⟨Rd.nil, .inl rfl⟩
  · exact ⟨Rd.same R (t.blk _ hn.1 hn.2.1 hn.2.2), .inr (hn.go t)⟩
def BlF (w : World) (F G : Nat → Prop) (b : Nat) (o : Obj) : Prop := w.heap[b]? = some o ∧ Free w F G b
theorem BlF.go {w w' : World} {F G F' G' : Nat → Prop} {b : Nat} {o : Obj} (h : BlF w F G b o) (t : Still F G F' G' w w') : BlF w' F' G' b o :=
  ⟨by rw [t.blk _ h.2.1 h.2.2.1 h.2.2.2]; exact h.1, h.2.go t⟩
theorem Still.call {w w' : World} {F G : Nat → Prop} (hx : Ext [] w w') : Still F G F G w w' := ⟨fun b hb _ _ => hx.block b hb (by simp), fun _ _ h1 h2 => ⟨h1, h2⟩, hx.size⟩

theorem rd_lt {w : World} {α : Type} {a : Option Addr} {s : Nat} {enc : α → List Value} {l : List α} (R : Rd w a s enc l) (hs : 0 < s) (he : ∀ x ∈ l, (enc x).length = s) : l = [] ∨ (adr a).block < w.heap.size := by
  cases l with
  | nil => exact .inl rfl
  | cons x l =>
    obtain ⟨v, hv⟩ := get_some (l := enc x) (i := 0) (by have := he x (List.mem_cons_self ..); omega)
    have h9 := World.block_lt_of_cell? w ⟨(adr a).block, _, none⟩ (R.cell 0 x rfl 0 _ hv hs)
    exact .inr h9

section
variable {w0 w w' : World} {bd rd : Nat} {A B A' B' : Dev} {F G : Nat → Prop}

theorem Two.call (T : Two w0 w bd rd A B F G) (hx : Ext [] w w') : Two w0 w' bd rd A B F G :=
  ⟨T.ext.trans hx, T.dev.keep0 hx, T.ref.keep0 hx, fun x h => by have := T.f x h; have := hx.size; omega, fun x h => by have := T.g x h; have := hx.size; omega, T.fg⟩
theorem Two.devg (T : Two w0 w bd rd A B F G) (h : DevAt w' bd A' (grow F w w')) (t : Turn F w w') : Two w0 w' bd rd A' B (grow F w w') G ∧ Still F G (grow F w w') G w w' := by
  have h1 := t.size
  have h2 := T.ext.size
  have hx0 := t.new T.ext fun x h => (T.f x h).1
  obtain ⟨S, hS, hx⟩ := t
  have hgr : ∀ x, grow F w w' x → (w0.heap.size ≤ x ∧ x < w'.heap.size) := fun x hx => by
    rcases hx with hx | hx
    · have := T.f x hx; omega
    · omega
  refine ⟨⟨hx0, h, T.ref.keep hx fun x h => T.fg x (hS x h), hgr, fun x h => by have := T.g x h; omega, fun x hx hg => ?_⟩, ⟨fun b hb hF _ => hx.block b hb fun h => hF (hS b h), fun b hb hF hG => ⟨fun h => h.elim hF fun h => by omega, hG⟩, h1⟩⟩
  rcases hx with hx | hx
  · exact T.fg x hx hg
  · have := T.g x hg; omega
theorem Two.devs (T : Two w0 w bd rd A B F G) (h : DevAt w' bd A' F) (t : Turn F w w') : Two w0 w' bd rd A' B F G ∧ Still F G F G w w' := by
  have h1 := t.size
  have hx0 := t.new T.ext fun x h => (T.f x h).1
  obtain ⟨S, hS, hx⟩ := t
  exact ⟨⟨hx0, h, T.ref.keep hx fun x h => T.fg x (hS x h), fun x h => by have := T.f x h; omega, fun x h => by have := T.g x h; omega, T.fg⟩, ⟨fun b hb hF _ => hx.block b hb fun h => hF (hS b h), fun b _ hF hG => ⟨hF, hG⟩, h1⟩⟩
theorem Two.refg (T : Two w0 w bd rd A B F G) (h : RefAt w' rd B' (grow G w w')) (t : Turn G w w') : Two w0 w' bd rd A B' F (grow G w w') ∧ Still F G F (grow G w w') w w' := by
  have h1 := t.size
  have h2 := T.ext.size
  have hx0 := t.new T.ext fun x h => (T.g x h).1
  obtain ⟨S, hS, hx⟩ := t
  have hgr : ∀ x, grow G w w' x → (w0.heap.size ≤ x ∧ x < w'.heap.size) := fun x hx => by
    rcases hx with hx | hx
    · have := T.g x hx; omega
    · omega
  refine ⟨⟨hx0, T.dev.keep hx fun x h hF => T.fg x hF (hS x h), h, fun x h => by have := T.f x h; omega, hgr, fun x hF hg => ?_⟩, ⟨fun b hb _ hG => hx.block b hb fun h => hG (hS b h), fun b hb hF hG => ⟨hF, fun h => h.elim hG fun h => by omega⟩, h1⟩⟩
  rcases hg with hg | hg
  · exact T.fg x hF hg
  · have := T.f x hF; omega
theorem Two.refs (T : Two w0 w bd rd A B F G) (h : RefAt w' rd B' G) (t : Turn G w w') : Two w0 w' bd rd A B' F G ∧ Still F G F G w w' := by
  have h1 := t.size
  have hx0 := t.new T.ext fun x h => (T.g x h).1
  obtain ⟨S, hS, hx⟩ := t
  exact ⟨⟨hx0, T.dev.keep hx fun x h hF => T.fg x hF (hS x h), h, fun x h => by have := T.f x h; omega, fun x h => by have := T.g x h; omega, T.fg⟩, ⟨fun b hb _ hG => hx.block b hb fun h => hG (hS b h), fun b _ hF hG => ⟨hF, hG⟩, h1⟩⟩
/-- An argument lies elsewhere. -/
theorem Two.old {α : Type} {a : Option Addr} {s : Nat} {enc : α → List Value} {l : List α} (T : Two w0 w bd rd A B F G) (R : Rd w0 a s enc l) (hs : 0 < s) (he : ∀ x ∈ l, (enc x).length = s) : RdF w F G a s enc l :=
  ⟨R.ext0 T.ext, (rd_lt R hs he).imp id fun h => ⟨Nat.lt_of_lt_of_le h T.ext.size, fun h' => by have := T.f _ h'; omega, fun h' => by have := T.g _ h'; omega⟩⟩
/-- A block that is newer. -/
theorem Two.newer (T : Two w0 w bd rd A B F G) {b : Nat} (h1 : w.heap.size ≤ b) (h2 : b < w'.heap.size) : Free w' F G b :=
  ⟨h2, fun h => by have := T.f _ h; omega, fun h => by have := T.g _ h; omega⟩

/-! ### What is done to both -/
theorem two_save (T : Two w0 w bd rd A B F G) (gen : Nat) (hgen : gen < 18446744073709551616) (a : Option Addr) (c n : Nat) (body : Byt) (R : Rd w a 1 B8 body) (hn : body.length = n) (hm : n ≤ 140737488351231) {mx : Nat} (hfew : Few A mx) (hmx : mx < 1000000000000) :
    Ret Tryd.prog 13 #[ptr bd, .int .u64 (gen : Int), .slice a n c] w fun v w' => v = .int .i64 (saveE A gen body) ∧ ∃ F', Two w0 w' bd rd (saveD A gen body) B F' G ∧ Still F G F' G w w' :=
  (save_ok gen hgen a c n body R hn hm (fun x h => (T.f x h).2) hfew hmx T.dev).mono fun _ _ ⟨hv, hd, ht⟩ => ⟨hv, _, T.devg hd ht⟩
theorem two_rsave (T : Two w0 w bd rd A B F G) (gen : Nat) (hgen : gen < 18446744073709551616) (a : Option Addr) (c n : Nat) (body : Byt) (R : Rd w a 1 B8 body) (hn : body.length = n) (hm : n ≤ 140737488351231) {mx : Nat} (hfew : Few B mx) (hmx : mx < 1000000000000) :
    Ret Tryd.prog 19 #[ptr rd, .int .u64 (gen : Int), .slice a n c] w fun v w' => v = .int .i64 (saveE B gen body) ∧ ∃ G', Two w0 w' bd rd A (saveD B gen body) F G' ∧ Still F G F G' w w' :=
  (rsave_ok gen hgen a c n body R hn hm (fun x h => (T.g x h).2) hfew hmx T.ref).mono fun _ _ ⟨hv, hd, ht⟩ => ⟨hv, _, T.refg hd ht⟩
theorem two_write (T : Two w0 w bd rd A B F G) (k : Int) (a : Option Addr) (c n : Nat) (l : Byt) (R : RdF w F G a 1 B8 l) (hn : l.length = n) (hm : n ≤ 140737488351232) {mx : Nat} (hfew : Few A mx) (hmx : mx ≤ 1000000000000) :
    Ret Tryd.prog 15 #[ptr bd, .int .i64 k, .slice a n c] w fun v w' => v = .int .i64 (writeE A k l) ∧ ∃ F', Two w0 w' bd rd (writeD A k l) B F' G ∧ Still F G F' G w w' :=
  (dwrite_ok k a c n l R.1 hn hm (R.2.imp id fun h => h.2.1) hfew hmx T.dev).mono fun _ _ ⟨hv, hd, ht⟩ => ⟨hv, _, T.devg hd ht⟩
theorem two_rwrite (T : Two w0 w bd rd A B F G) (k : Int) (a : Option Addr) (c n : Nat) (l : Byt) (R : RdF w F G a 1 B8 l) (hn : l.length = n) {mx : Nat} (hfew : Few B mx) (hmx : mx ≤ 1000000000000) :
    Ret Tryd.prog 27 #[ptr rd, .int .i64 k, .slice a n c] w fun v w' => v = .int .i64 (writeE B k l) ∧ ∃ G', Two w0 w' bd rd A (writeD B k l) F G' ∧ Still F G F G' w w' :=
  (rwrite_ok k a c n l R.1 hn (R.2.imp id fun h => h.2.2) hfew hmx T.ref).mono fun _ _ ⟨hv, hd, ht⟩ => ⟨hv, _, T.refg hd ht⟩
theorem two_arm (T : Two w0 w bd rd A B F G) (n : Int) (hn : n ≤ 9223372036854775807) :
    Ret Tryd.prog 20 #[ptr bd, .int .i64 n] w fun v w' => v = .int .i64 (armE A) ∧ Two w0 w' bd rd (armD A n) B F G ∧ Still F G F G w w' :=
  (darm_ok n hn T.dev).mono fun _ _ ⟨hv, hd, ht⟩ => ⟨hv, T.devs hd ht⟩
theorem two_rarm (T : Two w0 w bd rd A B F G) (n : Int) (hn : n ≤ 9223372036854775807) :
    Ret Tryd.prog 21 #[ptr rd, .int .i64 n] w fun v w' => v = .int .i64 (armE B) ∧ Two w0 w' bd rd A (armD B n) F G ∧ Still F G F G w w' :=
  (rarm_ok n hn T.ref).mono fun _ _ ⟨hv, hd, ht⟩ => ⟨hv, T.refs hd ht⟩
theorem two_off (T : Two w0 w bd rd A B F G) :
    Ret Tryd.prog 22 #[ptr bd] w fun v w' => v = .int .i64 (armE A) ∧ Two w0 w' bd rd (offD A) B F G ∧ Still F G F G w w' :=
  (doff_ok T.dev).mono fun _ _ ⟨hv, hd, ht⟩ => ⟨hv, T.devs hd ht⟩
theorem two_roff (T : Two w0 w bd rd A B F G) :
    Ret Tryd.prog 23 #[ptr rd] w fun v w' => v = .int .i64 (armE B) ∧ Two w0 w' bd rd A (offD B) F G ∧ Still F G F G w w' :=
  (roff_ok T.ref).mono fun _ _ ⟨hv, hd, ht⟩ => ⟨hv, T.refs hd ht⟩
theorem two_on (T : Two w0 w bd rd A B F G) (a : Option Addr) (c n : Nat) (picks : List Int) (R : RdF w F G a 1 I64 picks) (hn : picks.length = n) (hm : n ≤ 9223372036854775000) (hc : n ≤ c) (hi64 : ∀ x ∈ picks, -9223372036854775808 ≤ x ∧ x ≤ 9223372036854775807) {mx : Nat} (hfew : Few A mx) (hmx : mx ≤ 1000000000000) :
    Ret Tryd.prog 24 #[ptr bd, .slice a n c] w fun v w' => v = .int .i64 (onE A) ∧ Two w0 w' bd rd (onD A picks) B F G ∧ Still F G F G w w' :=
  (donp_ok a c n picks R.1 hn hm hc (R.2.imp id fun h => h.2.1) hi64 hfew hmx T.dev).mono fun _ _ ⟨hv, hd, ht⟩ => ⟨hv, T.devs hd ht⟩
theorem two_comes (T : Two w0 w bd rd A B F G) (a : Option Addr) (c n : Nat) (picks : List Int) (R : RdF w F G a 1 I64 picks) (hn : picks.length = n) (hm : n ≤ 9223372036854775000) (hi64 : ∀ x ∈ picks, -9223372036854775808 ≤ x ∧ x ≤ 9223372036854775807) {mx : Nat} (hfew : Few B mx) (hmx : mx ≤ 1000000000000) :
    Ret Tryd.prog 25 #[ptr rd, .slice a n c] w fun v w' => v = .int .i64 (onE B) ∧ Two w0 w' bd rd A (onD B picks) F G ∧ Still F G F G w w' :=
  (rcomes_ok a c n picks R.1 hn hm (R.2.imp id fun h => h.2.2) hi64 hfew hmx T.ref).mono fun _ _ ⟨hv, hd, ht⟩ => ⟨hv, T.refs hd ht⟩
end

theorem Stp.one (x : Stp) : ∀ v ∈ x.enc, oneCell v = true := fun v hv => by
  simp only [Stp.enc, bv, List.mem_cons, List.not_mem_nil, or_false] at hv
  rcases hv with rfl | rfl | rfl | rfl | rfl | rfl | rfl <;> rfl
theorem Stp.Ok.ext {w w' : World} {x : Stp} (h : x.Ok w) (hx : Ext [] w w') : x.Ok w' := ⟨h.rb.ext0 hx, h.rp.ext0 hx, h.cb, h.cp, h.mb, h.mp, h.gen, h.n1, h.n2, h.pos, h.picks⟩

end Go.Proofs.YtkmbcpgnafmnpaaDoor

/- ShadowKeeps: the walk. -/
namespace Go.Proofs.YtkmbcpgnafmnpaaDoor
open Go.GV
theorem ag_45_StK2 : aggB Tryd.prog 45 = some false := by kernel_rfl
theorem ag_47_StK2 : aggB Tryd.prog 47 = some true := by kernel_rfl
theorem ca_11_StK2 : callable Tryd.prog 11 = true := by kernel_rfl
theorem ca_12_StK2 : callable Tryd.prog 12 = true := by kernel_rfl
theorem ca_13_StK2 : callable Tryd.prog 13 = true := by kernel_rfl
theorem ca_16_StK2 : callable Tryd.prog 16 = true := by kernel_rfl
theorem ca_17_StK2 : callable Tryd.prog 17 = true := by kernel_rfl
theorem ca_20_StK2 : callable Tryd.prog 20 = true := by kernel_rfl
theorem ca_22_StK2 : callable Tryd.prog 22 = true := by kernel_rfl
theorem ca_24_StK2 : callable Tryd.prog 24 = true := by kernel_rfl
theorem el_40_StK2 : elemT Tryd.prog 40 = some 47 := by kernel_rfl
theorem fo_47_2_StK2 : fieldO Tryd.prog 47 2 = some 2 := by kernel_rfl
theorem fo_47_3_StK2 : fieldO Tryd.prog 47 3 = some 3 := by kernel_rfl
theorem fo_47_6_StK2 : fieldO Tryd.prog 47 6 = some 6 := by kernel_rfl
theorem sz_47_StK2 : tsize Tryd.prog 47 = some 7 := by kernel_rfl
theorem zc_47_StK2 : zcells Tryd.prog 47 = some ([.int .i64 0, .int .u64 0, .slice none 0 0, .int .i64 0, .int .u16 0, .int .u8 0, .slice none 0 0]) := by kernel_rfl
attribute [local irreducible] Wops W Wq Wt

theorem new3 : newD 3 = calm [zeros, zeros, zeros] (-1) := new_calm 3
theorem arm_calm (B : List Byt) (left n : Int) : armD (calm B left) n = calm B (max n (-1)) := rfl
theorem Rdx.of {w0 w : World} {bd : Nat} {A : Dev} {F : Nat → Prop} {l : List Int} {a : Option Addr} (O : Own w0 w bd A F) (R : Rd w0 a 1 I64 l) : Rd w a 1 (fun x : Int => [.int .i64 x]) l ∧ (l = [] ∨ ¬ F (adr a).block) :=
  ⟨R.ext0 O.ext, (rd_lt R (by decide) (fun _ _ => rfl)).imp id fun h hF => by have := O.own _ hF; omega⟩

def BlX (w : World) (F : Nat → Prop) (b : Nat) (o : Obj) : Prop := w.heap[b]? = some o ∧ ¬ F b
theorem BlX.turn {w w' : World} {F F' : Nat → Prop} {b : Nat} {o : Obj} (h : BlX w F b o) (t : Grown F F' w w') : BlX w' F' b o := by
  obtain ⟨⟨S, hS, hx⟩, hF⟩ := t
  have hlt := heap_lt h.1
  exact ⟨by rw [hx.block b hlt fun h' => h.2 (hS b h')]; exact h.1, fun h' => (hF b h').elim h.2 fun h => by omega⟩

set_option maxRecDepth 20000 in
set_option maxHeartbeats 4000000 in
theorem keeps_ok (first : Nat) (hf : first < 18446744073709551616) (a : Option Addr) (c : Nat) (l : List Stp) (w : World) (R : Rd w a 7 Stp.enc l) (hok : ∀ x ∈ l, x.Ok w) (hm : l.length ≤ 9223372036854775807) :
    Ret Tryd.prog 6 #[.int .u64 (first : Int), .slice a l.length c] w fun v w' => v = .bool true ∧ Ext [] w w' := by
  obtain ⟨w0, rfl⟩ : ∃ w0, w0 = w := ⟨_, rfl⟩
  refine ret_of_W (fn := Tryd.f6) Tryd.func6 rfl [.int .u64 (first : Int), .slice a l.length c] rfl (by kernel_rfl) ?_
  refine W_rseq ?_
  refine op_assign rfl (.bool _) rfl ?_
  refine op_nil (at_then ?_)
  refine W_seq ?_
  refine W_rseq (Wops_join (α := Unit) 268173312 (fun _ => [(27, .bool (heavyB l || (decide (first < 1) || decide (2305843009213693952 < first))))]) (fun _ w' => Ext [] w0 w') rfl ?_ ?_)
  · refine op_move rfl (.slice _ _ _) rfl ?_
    refine op_call rfl ca_17_StK2 (heavy_ok a c l w0 R hok hm) rfl ?_
    rintro v w ⟨rfl, hx1⟩
    refine op_move rfl (.bool _) rfl ?_
    refine Wops_split 20 rfl ?_ ?_
    · intro h1
      refine op_skip rfl ?_
      refine op_skip rfl ?_
      refine op_pick1 rfl rfl (.bool _) rfl ?_
      refine op_move rfl (.bool _) rfl ?_
      refine op_skip rfl ?_
      refine op_skip rfl ?_
      refine op_pick1 rfl rfl (.bool _) rfl ?_
      refine op_nil ?_
      exact ⟨rfl, (), rfl, ⟨congrArg Value.bool (by rw [Bool.eq_iff_iff]; simp_all; try omega), trivial⟩, hx1⟩
    · intro h2
      refine op_move rfl (.int _ _) rfl ?_
      refine op_lss rfl rfl rfl ?_
      refine op_pick0 rfl rfl (.bool _) rfl ?_
      refine op_move rfl (.bool _) rfl ?_
      refine Wops_split 24 rfl ?_ ?_
      · intro h3
        replace h3 := dec_t h3
        refine op_skip rfl ?_
        refine op_skip rfl ?_
        refine op_pick1 rfl rfl (.bool _) rfl ?_
        refine op_nil ?_
        exact ⟨rfl, (), rfl, ⟨congrArg Value.bool (by rw [Bool.eq_iff_iff]; simp_all; try omega), trivial⟩, hx1⟩
      · intro h4
        replace h4 := dec_f h4
        refine op_move rfl (.int _ _) rfl ?_
        refine op_gtr rfl rfl rfl ?_
        refine op_pick0 rfl rfl (.bool _) rfl ?_
        refine op_nil ?_
        exact ⟨rfl, (), rfl, ⟨congrArg Value.bool (by rw [Bool.eq_iff_iff]; simp_all; try omega), trivial⟩, hx1⟩
  rintro - j27 w hx1
  refine W_cond _ rfl ?_ ?_
  · intro h1
    refine W_rseq ?_
    refine op_call rfl ca_11_StK2 (works_ok _) rfl ?_
    rintro v w ⟨rfl, hx⟩
    refine op_assign rfl (.bool _) rfl ?_
    refine op_nil (at_then ?_)
    refine W_ret (ret_then (leave1 (v := (.bool _)) rfl rfl rfl ?_))
    exact ⟨rfl, hx1.trans hx⟩
  · intro h1
    simp only [Bool.or_eq_false_iff, decide_eq_false_iff_not] at h1
    obtain ⟨hl, hb20⟩ := not_heavy h1.1
    have hf1 : 1 ≤ first := by omega
    have hf2 : first ≤ 2305843009213693952 := by omega
    have hsv := save_calm (B := [zeros, zeros, zeros]) (left := -1) (gen := first) (body := [102, 105, 114, 115, 116]) (by decide) hf1 (by omega) (by decide) (by decide)
    have hse : saveE (calm [zeros, zeros, zeros] (-1)) first [102, 105, 114, 115, 116] = 0 := hsv.1
    have hsd : saveD (calm [zeros, zeros, zeros] (-1)) first [102, 105, 114, 115, 116] = calm ([zeros, zeros, zeros].set (first % 2) (rootB first [102, 105, 114, 115, 116])) (-1) := hsv.2
    refine W_skip (at_then ?_)
    refine W_rseq ?_
    refine op_call rfl ca_12_StK2 (own_new (by decide) (by decide) _) rfl ?_
    rintro v w ⟨bd, F, rfl, O⟩
    replace O : Own w0 w bd (calm [zeros, zeros, zeros] (-1)) F := ⟨hx1.trans O.ext, O.dev, fun x h => by have := O.own x h; have := hx1.size; omega⟩
    refine op_move rfl (.tuple _) rfl ?_
    refine op_extract rfl rfl rfl ?_
    refine op_extract rfl rfl rfl ?_
    refine op_assign rfl (.pointer _) rfl ?_
    refine op_assign rfl (.int _ _) rfl ?_
    refine op_nil (at_then ?_)
    refine W_seq ?_
    refine W_rseq ?_
    refine op_move rfl (.int _ _) rfl ?_
    refine op_neq rfl rfl rfl ?_
    refine op_move rfl (.bool _) rfl ?_
    refine op_move rfl (.pointer _) rfl ?_
    refine op_eqlptr rfl un_27 rfl ?_
    refine op_pick0 rfl rfl (.bool _) rfl ?_
    refine op_move rfl (.bool _) rfl ?_
    refine op_move rfl (.pointer _) rfl ?_
    refine op_move rfl (.int _ _) rfl ?_
    have H := Ctx.start w []
    refine op_buildL ([102, 105, 114, 115, 116].map bv) rfl el_23 sz_5 zc_5 (by decide) (by decide) (by kernel_rfl) H ?_
    rintro b42 w - H
    refine op_convLit (l := [102, 105, 114, 115, 116]) rfl el_23 un_5 rfl H at0 ?_
    rintro w H R43
    replace O := O.call H.ext
    refine op_call rfl ca_13_StK2 (own_save O first hf _ 5 5 [102, 105, 114, 115, 116] R43 rfl (by decide) (calm_few _ _) (by decide)) rfl ?_
    rintro v w ⟨rfl, F, O, -⟩
    rw [hse]
    rw [hsd] at O
    refine op_neq rfl rfl rfl ?_
    refine op_pick0 rfl rfl (.bool _) rfl ?_
    refine op_nil (at_then ?_)
    refine W_cond0 rfl ?_
    refine W_skip (at_then ?_)
    refine W_rseq ?_
    refine op_move rfl (.int _ _) rfl ?_
    refine op_assign rfl (.int _ _) rfl ?_
    refine op_nil (at_then ?_)
    refine W_rseq ?_
    refine op_assign rfl (.string _) rfl ?_
    refine op_nil (at_then ?_)
    refine W_seq ?_
    refine W_rseq ?_
    refine op_assign rfl (.int _ _) rfl ?_
    refine op_nil (at_then ?_)
    refine W_block ?_
    refine W_loop 365375409332725729550921208179070473439006687120 (α := Nat × List Byt × Nat × Byt × (Nat → Prop)) (fun s => [(9, .int .i64 s.1), (7, .int .u64 s.2.2.1), (8, str s.2.2.2.1)]) (fun s w' => s.1 ≤ l.length ∧ s.2.2.1 ≤ first + s.1 ∧ Inv s.2.1 s.2.2.1 s.2.2.2.1 ∧ Own w0 w' bd (calm s.2.1 (-1)) s.2.2.2.2) (fun s => l.length - s.1) (0, [zeros, zeros, zeros].set (first % 2) (rootB first [102, 105, 114, 115, 116]), first, [102, 105, 114, 115, 116], F) rfl ?_ ?_ ?_
    · exact ⟨rfl, rfl, rfl, trivial⟩
    · exact ⟨Nat.zero_le _, Nat.le_refl _, first_inv hf1 (by omega) (by decide), O⟩
    · clear O hse hsd hsv
      rintro ⟨i, B, gen, body, F⟩ j w ⟨hi, hgi, hI, O⟩; dsimp only at hi hgi hI O; dsimp only
      refine W_seq ?_
      refine W_rseq ?_
      refine op_move rfl (.int _ _) rfl ?_
      refine op_move rfl (.slice _ _ _) rfl ?_
      refine op_len rfl el_40_StK2 rfl ?_
      refine op_lss rfl rfl rfl ?_
      refine op_nil (at_then ?_)
      refine W_cond _ rfl ?_ ?_
      · intro h3
        replace h3 := dec_t h3
        obtain ⟨x, hx⟩ := get_some (l := l) (i := i) (by omega)
        have hmx := List.mem_of_getElem? hx
        have hox := hok x hmx
        have hxb := hb20 x hmx
        have H := Ctx.start w []
        have hO0 := fun y h => (O.own y h).2
        refine W_skip (at_then ?_)
        refine W_seq ?_
        refine W_block ?_
        refine W_rseq ?_
        refine op_move rfl (.slice _ _ _) rfl ?_
        refine op_move rfl (.int _ _) rfl ?_
        first | refine op_indexRd R rfl el_40_StK2 sz_47_StK2 rfl rfl (by omega) (by omega) (by first | rfl | omega) ?_ | refine op_indexAddr rfl el_40_StK2 sz_47_StK2 rfl rfl (by omega) (by omega) ?_
        first | refine op_ldN _ rfl ag_47_StK2 sz_47_StK2 rfl rfl ((R.ext0 (O.ext.trans H.ext)).row hx rfl) ?_ | refine op_ldbN rfl ag_47_StK2 sz_47_StK2 rfl H (by first | exact at0 | exact at1 | exact at2 | exact at3 | exact at4 | exact at5 | exact at6 | exact at7 | exact at8 | exact at9) rfl ?_
        refine op_alloc rfl zc_47_StK2 H ?_
        rintro b10 w - H
        refine op_stb0 rfl sz_47_StK2 rfl rfl rfl (Stp.one x) H at0 rfl ?_
        rintro w H
        refine op_nil (at_then ?_)
        refine W_seq ?_
        refine W_rseq ?_
        refine op_fieldAddr rfl fo_47_2_StK2 rfl ?_
        refine op_ldb rfl ag_23 rfl H (by first | exact at0 | exact at1 | exact at2 | exact at3 | exact at4 | exact at5 | exact at6 | exact at7 | exact at8 | exact at9) rfl ?_
        refine op_len rfl el_23 rfl ?_
        refine op_gtr rfl rfl rfl ?_
        refine op_nil (at_then ?_)
        refine W_cond _ rfl ?_ ?_
        · intro h4
          replace h4 := dec_t h4
          refine W_exit (exit_then (exit_here (at_then ?_)))
          refine W_region ?_
          refine op_move rfl (.int _ _) rfl ?_
          refine op_add_i64 rfl rfl rfl (by omega) (by omega) ?_
          refine op_assign rfl (.int _ _) rfl ?_
          refine op_nil (at_then ?_)
          exact ⟨(i + 1, B, gen, body, F), rfl, ⟨rfl, rfl, rfl, trivial⟩, ⟨by dsimp only; omega, by dsimp only; omega, hI, O.call H.ext⟩, by dsimp only; omega⟩
        · intro h4
          replace h4 := dec_f h4
          have hbl : x.b.length ≤ 480 := by omega
          replace O := O.call H.ext
          have B10 : BlX w F b10 _ := ⟨H.get at0, fun h => by
            have h1 := (H.own _ (List.mem_cons_self ..)).elim (fun h => by cases h) id
            have := O.own _ h; have := hO0 _ h; omega⟩
          have hlt4 : x.n.tmod 4 < 4 := Int.tmod_lt_of_pos x.n (by decide)
          obtain ⟨left, hleft, hle⟩ : ∃ left, left = max (x.n.tmod 4) (-1) ∧ -1 ≤ left := ⟨_, rfl, by omega⟩
          refine W_skip (at_then ?_)
          refine W_seq ?_
          refine W_rseq ?_
          refine op_move rfl (.pointer _) rfl ?_
          refine op_fieldAddr rfl fo_47_3_StK2 rfl ?_
          first | refine op_ldb rfl ag_3 rfl H (by first | exact at0 | exact at1 | exact at2 | exact at3 | exact at4 | exact at5 | exact at6 | exact at7 | exact at8 | exact at9) rfl ?_ | refine op_ld rfl ag_3 rfl (cell_bl B10.1 _) ?_
          refine op_remt rfl rfl rfl (by decide) ?_
          refine op_call rfl ca_20_StK2 (own_arm O (x.n.tmod 4) (by omega)) rfl ?_
          rintro v w ⟨rfl, O, G⟩
          have B10 := B10.turn G
          rw [arm_calm, ← hleft] at O
          rw [show armE (calm B (-1)) = 0 from rfl]
          refine op_neq rfl rfl rfl ?_
          refine op_nil (at_then ?_)
          refine W_cond0 rfl ?_
          refine W_skip (at_then ?_)
          refine W_rseq ?_
          refine op_move rfl (.pointer _) rfl ?_
          refine op_move rfl (.int _ _) rfl ?_
          refine op_add_u64 rfl rfl rfl (by omega) (by omega) ?_
          rw [show ((gen : Int) + 1) = ((gen + 1 : Nat) : Int) by omega]
          refine op_fieldAddr rfl fo_47_2_StK2 rfl ?_
          first | refine op_ldb rfl ag_23 rfl H (by first | exact at0 | exact at1 | exact at2 | exact at3 | exact at4 | exact at5 | exact at6 | exact at7 | exact at8 | exact at9) rfl ?_ | refine op_ld rfl ag_23 rfl (cell_bl B10.1 _) ?_
          refine op_call rfl ca_13_StK2 (own_save O (gen + 1) (by omega) x.ba x.bc x.b.length x.b (O.old hox.rb).1 rfl (by omega) (calm_few _ _) (by decide)) rfl ?_
          rintro v w ⟨rfl, F2, O, G⟩
          have B10 := B10.turn G
          have hst := keeps_step hI hbl (by omega) hle x.picks
          have hfw := save_few (calm_few B left) (gen + 1) x.b
          generalize saveE (calm B left) (gen + 1) x.b = e at hst ⊢
          generalize saveD (calm B left) (gen + 1) x.b = A2 at hst O hfw
          refine op_assign rfl (.int _ _) rfl ?_
          refine op_nil (at_then ?_)
          refine W_seq ?_
          refine W_rseq (Wops_join (α := Unit) 1190036353683150593851392 (fun _ => [(79, .bool (false))]) (fun _ w' => w = w') rfl ?_ ?_)
          · refine op_move rfl (.int _ _) rfl ?_
            refine op_neq rfl rfl rfl ?_
            refine op_move rfl (.bool _) rfl ?_
            refine Wops_split 76 rfl ?_ ?_
            · intro h5
              replace h5 := ndec_t h5
              refine op_move rfl (.int _ _) rfl ?_
              refine op_neq rfl rfl rfl ?_
              refine op_pick1 rfl rfl (.bool _) rfl ?_
              refine op_nil ?_
              exact ⟨rfl, (), rfl, ⟨congrArg Value.bool (by rcases hst with ⟨he, _⟩ | ⟨he, _⟩ <;> subst he <;> simp_all), trivial⟩, rfl⟩
            · intro h6
              replace h6 := ndec_f h6
              refine op_skip rfl ?_
              refine op_skip rfl ?_
              refine op_pick0 rfl rfl (.bool _) rfl ?_
              refine op_nil ?_
              exact ⟨rfl, (), rfl, ⟨congrArg Value.bool (by rcases hst with ⟨he, _⟩ | ⟨he, _⟩ <;> subst he <;> simp_all), trivial⟩, rfl⟩
          rintro - j79 w rfl
          refine W_cond0 rfl ?_
          refine W_skip (at_then ?_)
          refine W_seq ?_
          refine W_rseq ?_
          refine op_move rfl (.int _ _) rfl ?_
          refine op_eql rfl rfl rfl ?_
          refine op_nil (at_then ?_)
          refine W_joinK 614134316364231620750737792 (α := Nat × Byt × Dev × (Nat → Prop)) (fun s => [(7, .int .u64 s.1), (8, str s.2.1)]) (fun s w' => Own w0 w' bd s.2.2.1 s.2.2.2 ∧ BlX w' s.2.2.2 b10 (Bl 47 x.enc) ∧ s.2.2.1.on = false ∧ Few s.2.2.1 1 ∧ ∃ (t : Bool) (B' : List Byt), onD s.2.2.1 x.picks = calm B' (-1) ∧ (t = true → e = 8) ∧ (if t then s.1 + 1 else s.1) ≤ first + (i + 1) ∧ Inv B' (if t then s.1 + 1 else s.1) (if t then x.b else s.2.1)) rfl ?_ ?_
          · skip
            refine W_cond _ rfl ?_ ?_
            · intro g1
              replace g1 := dec_t g1
              rcases hst with ⟨he, B', hB', hI'⟩ | ⟨he, _⟩
              · skip
                refine W_rseq ?_
                refine op_move rfl (.int _ _) rfl ?_
                refine op_add_u64 rfl rfl rfl (by omega) (by omega) ?_
                rw [show ((gen : Int) + 1) = ((gen + 1 : Nat) : Int) by omega]
                refine op_assign rfl (.int _ _) rfl ?_
                refine op_nil (at_then ?_)
                refine W_rseq ?_
                refine op_fieldAddr rfl fo_47_2_StK2 rfl ?_
                first | refine op_ldb rfl ag_23 rfl H (by first | exact at0 | exact at1 | exact at2 | exact at3 | exact at4 | exact at5 | exact at6 | exact at7 | exact at8 | exact at9) rfl ?_ | refine op_ld rfl ag_23 rfl (cell_bl B10.1 _) ?_
                refine op_back (l := x.b) rfl el_23 un_5 un_9 rfl (O.old hox.rb).1 ?_
                refine op_assign rfl (.string _) rfl ?_
                refine op_nil (at_then ?_)
                refine W_region ?_
                refine op_move rfl (.pointer _) rfl ?_
                refine op_call rfl ca_22_StK2 (own_off O) rfl ?_
                rintro v w ⟨rfl, O, G⟩
                have B10 := B10.turn G
                refine op_nil (at_then ?_)
                exact ⟨(gen + 1, x.b, offD A2, F2), rfl, ⟨rfl, rfl, trivial⟩, O, B10, rfl, off_few hfw, false, B', hB', (fun h => by cases h), by dsimp only; rw [if_neg (by decide)]; omega, hI'⟩
              · omega
            · intro g1
              replace g1 := dec_f g1
              rcases hst with ⟨he, _⟩ | ⟨he, hon, t, B', hB', hI'⟩
              · exact absurd he g1
              · refine W_skip (at_then ?_)
                exact ⟨(gen, body, A2, F2), rfl, ⟨rfl, rfl, trivial⟩, O, B10, hon, hfw, t, B', hB', fun _ => he, by dsimp only; split <;> omega, hI'⟩
          · clear O hst hfw
            rintro ⟨g', b', A', F'⟩ j3 w ⟨O, B10, hon, hfw, t, B', hB', ht8, hg', hI'⟩
            dsimp only at O B10 hon hfw hB' hg' hI'
            dsimp only
            obtain ⟨gg, hgg⟩ : ∃ gg, gg = (if t then g' + 1 else g') := ⟨_, rfl⟩
            obtain ⟨bb, hbb⟩ : ∃ bb, bb = (if t then x.b else b') := ⟨_, rfl⟩
            rw [← hgg] at hg' hI'
            rw [← hbb] at hI'
            obtain ⟨hE, hG, hL⟩ := hI'.load (-1)
            have hg2 := hI'.g2
            have hgl : g' ≤ gg := by rw [hgg]; split <;> omega
            refine W_seq ?_
            refine W_rseq ?_
            refine op_move rfl (.pointer _) rfl ?_
            refine op_fieldAddr rfl fo_47_6_StK2 rfl ?_
            first | refine op_ldb rfl ag_45_StK2 rfl H (by first | exact at0 | exact at1 | exact at2 | exact at3 | exact at4 | exact at5 | exact at6 | exact at7 | exact at8 | exact at9) rfl ?_ | refine op_ld rfl ag_45_StK2 rfl (cell_bl B10.1 _) ?_
            refine op_call rfl ca_24_StK2 (own_on O x.pa x.pc x.picks.length x.picks (Rdx.of O hox.rp).1 rfl (by omega) hox.cp (Rdx.of O hox.rp).2 hox.picks hfw (by decide)) rfl ?_
            rintro v w ⟨rfl, O, G⟩
            have B10 := B10.turn G
            rw [hB'] at O
            rw [show onE A' = 0 from by rw [onE, hon]; rfl]
            refine op_neq rfl rfl rfl ?_
            refine op_nil (at_then ?_)
            refine W_cond0 rfl ?_
            refine W_skip (at_then ?_)
            refine W_rseq ?_
            refine op_move rfl (.pointer _) rfl ?_
            refine op_call rfl ca_16_StK2 (own_load O (calm_few _ _) (by decide)) rfl ?_
            rintro v w ⟨a96, c96, rfl, X1, O, G⟩
            have B10 := B10.turn G
            rw [hE, hG, hL]
            rw [hL] at X1
            refine op_move rfl (.tuple _) rfl ?_
            refine op_extract rfl rfl rfl ?_
            refine op_extract rfl rfl rfl ?_
            refine op_extract rfl rfl rfl ?_
            refine op_assign rfl (.int _ _) rfl ?_
            refine op_assign rfl (.slice _ _ _) rfl ?_
            refine op_assign rfl (.int _ _) rfl ?_
            refine op_nil (at_then ?_)
            refine W_rseq ?_
            refine op_move rfl (.pointer _) rfl ?_
            refine op_call rfl ca_16_StK2 (own_load O (calm_few _ _) (by decide)) rfl ?_
            rintro v w ⟨a102, c102, rfl, X2, O, G⟩
            have B10 := B10.turn G
            have X1 := X1.turn G
            rw [hE, hG, hL]
            rw [hL] at X2
            refine op_move rfl (.tuple _) rfl ?_
            refine op_extract rfl rfl rfl ?_
            refine op_extract rfl rfl rfl ?_
            refine op_extract rfl rfl rfl ?_
            refine op_assign rfl (.int _ _) rfl ?_
            refine op_assign rfl (.slice _ _ _) rfl ?_
            refine op_assign rfl (.int _ _) rfl ?_
            refine op_nil (at_then ?_)
            refine W_seq ?_
            refine W_rseq ?_
            refine op_move rfl (.int _ _) rfl ?_
            refine op_neq rfl rfl rfl ?_
            refine op_move rfl (.bool _) rfl ?_
            refine op_move rfl (.int _ _) rfl ?_
            refine op_neq rfl rfl rfl ?_
            refine op_pick0 rfl rfl (.bool _) rfl ?_
            refine op_move rfl (.bool _) rfl ?_
            refine op_move rfl (.int _ _) rfl ?_
            refine op_move rfl (.int _ _) rfl ?_
            refine op_neq rfl rfl rfl ?_
            rw [show decide ((gg : Int) = (gg : Int)) = true from decide_eq_true rfl]
            refine op_pick0 rfl rfl (.bool _) rfl ?_
            refine op_move rfl (.bool _) rfl ?_
            refine op_move rfl (.slice _ _ _) rfl ?_
            refine op_back (l := bb) rfl el_23 un_5 un_9 rfl X1.1 ?_
            refine op_move rfl (.slice _ _ _) rfl ?_
            refine op_back (l := bb) rfl el_23 un_5 un_9 rfl X2.1 ?_
            refine op_strne (l := bb) (m := bb) rfl rfl rfl ?_
            rw [show decide (bb = bb) = true from decide_eq_true rfl]
            refine op_pick0 rfl rfl (.bool _) rfl ?_
            refine op_nil (at_then ?_)
            refine W_cond0 rfl ?_
            refine W_skip (at_then ?_)
            refine W_seq ?_
            refine W_rseq (Wops_join (α := Unit) 1393775307260231387692015931127558108610560 (fun _ => [(139, .bool (t))]) (fun _ w' => w = w') rfl ?_ ?_)
            · refine op_move rfl (.int _ _) rfl ?_
              refine op_move rfl (.int _ _) rfl ?_
              refine op_add_u64 rfl rfl rfl (by omega) (by omega) ?_
              refine op_eql rfl rfl rfl ?_
              refine op_move rfl (.bool _) rfl ?_
              refine Wops_split 128 rfl ?_ ?_
              · intro h7
                replace h7 := dec_t h7
                refine op_move rfl (.int _ _) rfl ?_
                refine op_eql rfl rfl rfl ?_
                refine op_pick1 rfl rfl (.bool _) rfl ?_
                refine op_move rfl (.bool _) rfl ?_
                refine Wops_split 132 rfl ?_ ?_
                · intro h8
                  replace h8 := dec_t h8
                  refine op_move rfl (.slice _ _ _) rfl ?_
                  refine op_back (l := bb) rfl el_23 un_5 un_9 rfl X1.1 ?_
                  refine op_fieldAddr rfl fo_47_2_StK2 rfl ?_
                  first | refine op_ldb rfl ag_23 rfl H (by first | exact at0 | exact at1 | exact at2 | exact at3 | exact at4 | exact at5 | exact at6 | exact at7 | exact at8 | exact at9) rfl ?_ | refine op_ld rfl ag_23 rfl (cell_bl B10.1 _) ?_
                  refine op_back (l := x.b) rfl el_23 un_5 un_9 rfl (O.old hox.rb).1 ?_
                  refine op_streq (l := bb) (m := x.b) rfl rfl rfl ?_
                  refine op_pick1 rfl rfl (.bool _) rfl ?_
                  refine op_nil ?_
                  exact ⟨rfl, (), rfl, ⟨congrArg Value.bool (by clear hI' hE hG hL X1 X2 B10 O hB' hx; cases t <;> simp_all <;> omega), trivial⟩, rfl⟩
                · intro h9
                  replace h9 := dec_f h9
                  refine op_skip rfl ?_
                  refine op_skip rfl ?_
                  refine op_skip rfl ?_
                  refine op_skip rfl ?_
                  refine op_skip rfl ?_
                  refine op_skip rfl ?_
                  refine op_pick0 rfl rfl (.bool _) rfl ?_
                  refine op_nil ?_
                  exact ⟨rfl, (), rfl, ⟨congrArg Value.bool (by clear hI' hE hG hL X1 X2 B10 O hB' hx; cases t <;> simp_all <;> omega), trivial⟩, rfl⟩
              · intro h10
                replace h10 := dec_f h10
                refine op_skip rfl ?_
                refine op_skip rfl ?_
                refine op_pick0 rfl rfl (.bool _) rfl ?_
                refine op_move rfl (.bool _) rfl ?_
                refine op_skip rfl ?_
                refine op_skip rfl ?_
                refine op_skip rfl ?_
                refine op_skip rfl ?_
                refine op_skip rfl ?_
                refine op_skip rfl ?_
                refine op_pick0 rfl rfl (.bool _) rfl ?_
                refine op_nil ?_
                exact ⟨rfl, (), rfl, ⟨congrArg Value.bool (by clear hI' hE hG hL X1 X2 B10 O hB' hx; cases t <;> simp_all <;> omega), trivial⟩, rfl⟩
            rintro - j139 w rfl
            refine W_cond _ rfl ?_ ?_
            · intro g2
              rw [g2, if_pos rfl] at hgg hbb
              have hs := save_calm (B := B') (left := -1) (gen := gg) (body := x.b) (by rw [hI'.len]; decide) hI'.g1 hI'.g2 hbl (by decide)
              have hs1 : saveE (calm B' (-1)) gg x.b = 0 := hs.1
              have hs2 : saveD (calm B' (-1)) gg x.b = calm B' (-1) := hs.2.trans (by rw [← hbb, set_same hI'.at']; rfl)
              refine W_rseq ?_
              refine op_move rfl (.int _ _) rfl ?_
              refine op_assign rfl (.int _ _) rfl ?_
              refine op_nil (at_then ?_)
              refine W_rseq ?_
              refine op_move rfl (.slice _ _ _) rfl ?_
              refine op_back (l := bb) rfl el_23 un_5 un_9 rfl X1.1 ?_
              refine op_assign rfl (.string _) rfl ?_
              refine op_nil (at_then ?_)
              refine W_seq ?_
              refine W_rseq ?_
              refine op_move rfl (.pointer _) rfl ?_
              refine op_move rfl (.int _ _) rfl ?_
              refine op_fieldAddr rfl fo_47_2_StK2 rfl ?_
              first | refine op_ldb rfl ag_23 rfl H (by first | exact at0 | exact at1 | exact at2 | exact at3 | exact at4 | exact at5 | exact at6 | exact at7 | exact at8 | exact at9) rfl ?_ | refine op_ld rfl ag_23 rfl (cell_bl B10.1 _) ?_
              refine op_call rfl ca_13_StK2 (own_save O gg (by omega) x.ba x.bc x.b.length x.b (O.old hox.rb).1 rfl (by omega) (calm_few _ _) (by decide)) rfl ?_
              rintro v w ⟨rfl, F5, O, G⟩
              rw [hs1]
              rw [hs2] at O
              refine op_neq rfl rfl rfl ?_
              refine op_nil (at_then ?_)
              refine W_cond0 rfl ?_
              refine W_skip (at_then ?_)
              refine W_exit (exit_then (exit_here (at_then ?_)))
              refine W_region ?_
              refine op_move rfl (.int _ _) rfl ?_
              refine op_add_i64 rfl rfl rfl (by omega) (by omega) ?_
              refine op_assign rfl (.int _ _) rfl ?_
              refine op_nil (at_then ?_)
              exact ⟨(i + 1, B', gg, bb, F5), rfl, ⟨rfl, rfl, rfl, trivial⟩, ⟨by dsimp only; omega, by dsimp only; omega, hI', O⟩, by dsimp only; omega⟩
            · intro g2
              rw [g2, if_neg (by decide)] at hgg hbb
              refine W_skip (at_then ?_)
              refine W_rseq ?_
              refine op_move rfl (.int _ _) rfl ?_
              refine op_move rfl (.int _ _) rfl ?_
              refine op_neq rfl rfl rfl ?_
              rw [show decide ((gg : Int) = (g' : Int)) = true from decide_eq_true (by rw [hgg])]
              refine op_move rfl (.bool _) rfl ?_
              refine op_move rfl (.slice _ _ _) rfl ?_
              refine op_back (l := bb) rfl el_23 un_5 un_9 rfl X1.1 ?_
              refine op_move rfl (.string _) rfl ?_
              refine op_strne (l := bb) (m := b') rfl rfl rfl ?_
              rw [show decide (bb = b') = true from decide_eq_true hbb]
              refine op_pick0 rfl rfl (.bool _) rfl ?_
              refine op_nil (at_then ?_)
              refine W_cond0 rfl ?_
              refine W_skip (at_block (at_then ?_))
              refine W_region ?_
              refine op_move rfl (.int _ _) rfl ?_
              refine op_add_i64 rfl rfl rfl (by omega) (by omega) ?_
              refine op_assign rfl (.int _ _) rfl ?_
              refine op_nil (at_then ?_)
              rw [hgg, hbb] at hI'
              exact ⟨(i + 1, B', g', b', _), rfl, ⟨rfl, rfl, rfl, trivial⟩, ⟨by dsimp only; omega, by dsimp only; omega, hI', O⟩, by dsimp only; omega⟩
      · intro h3
        replace h3 := dec_f h3
        refine W_exit (exit_then (exit_then (exit_here (at_then ?_))))
        refine W_rseq ?_
        refine op_call rfl ca_11_StK2 (works_ok _) rfl ?_
        rintro v w ⟨rfl, hx⟩
        refine op_assign rfl (.bool _) rfl ?_
        refine op_nil (at_then ?_)
        refine W_ret (leave1 (v := (.bool _)) rfl rfl rfl ?_)
        exact ⟨rfl, O.ext.trans hx⟩

end Go.Proofs.YtkmbcpgnafmnpaaDoor

/- The rows of this seat: the world of the witnesses, in which the laid tables lie. -/
namespace Go.Proofs.YtkmbcpgnafmnpaaDoor
open Go.GV Go.ChangeShapes Go.WideShapes Go.ChangeAt Go.RowKit

theorem own : ownKnob Tryd.prog.godebug = none := by kernel_rfl
theorem laidOut : laidOutB Tryd.prog = true := by kernel_rfl

def rangeZ : List Nat := [128, 191, 160, 191, 128, 159, 144, 191, 128, 143] ++ List.replicate 22 0
def layO (l : List Nat) : Obj → Obj
  | .cells _ t frozen => .cells (l.map fun (n : Nat) => Value.int .u8 (n : Int)).toArray t frozen
  | o => o
/-- A world in which the tables lie (blocks 0 and 1). -/
noncomputable def laidWorld (os : Os) : World :=
  { World.holding Tryd.prog os ⟨#[], #[], []⟩ with heap := ((World.holding Tryd.prog os ⟨#[], #[], []⟩).heap.modify 0 (layO Go.Pinned.utf8FirstZ)).modify 1 (layO rangeZ) }

theorem dec_byte {H : Type} {enc : TypeId × Value → H} {w : World} {base : Nat} {spare : Nat → Bool} {held : Bool} : ∀ n cs y, DataW.trod enc Tryd.prog w base spare held n 5 cs = some y → ∃ b : UInt8, cs = B8 b ∧ True := by
  intro n cs y h
  obtain ⟨d, rfl, h1, h2⟩ := dec_int Tryd.underlying5 n cs y h
  have h1 : (0 : Int) ≤ d := h1
  have h2 : d ≤ 255 := h2
  refine ⟨UInt8.ofNat d.toNat, ?_, trivial⟩
  have : (UInt8.ofNat d.toNat).toNat = d.toNat := by simp [UInt8.toNat_ofNat']; omega
  rw [B8, bv, this, Int.toNat_of_nonneg h1]
theorem byteCells : Tryd.prog.cellsOf 5 = 1 := by kernel_rfl

end Go.Proofs.YtkmbcpgnafmnpaaDoor

/- What the form reads of the steps of the laws of roots. -/
namespace Go.Proofs.YtkmbcpgnafmnpaaDoor
open Go.GV Go.ChangeShapes Go.WideShapes Go.ChangeAt Go.RowKit

theorem stepStruct : ∃ fs, Tryd.prog.underlying 47 = some (.struct fs) ∧ (List.range 7).map (fun i => fs[i]?.map fun f => (f.type, f.offset)) = [some (3, 0), some (22, 1), some (23, 2), some (3, 3), some (24, 4), some (5, 5), some (45, 6)] := ⟨_, Tryd.underlying47, by kernel_rfl⟩
theorem stepCells : Tryd.prog.cellsOf 47 = 7 := by kernel_rfl
theorem bytesCells : Tryd.prog.cellsOf 23 = 1 := by kernel_rfl
theorem intsCells : Tryd.prog.cellsOf 45 = 1 := by kernel_rfl
theorem intCells : Tryd.prog.cellsOf 3 = 1 := by kernel_rfl
theorem byteBytes : Tryd.prog.bytesOf 5 = 1 := by kernel_rfl
theorem intBytes : Tryd.prog.bytesOf 3 = 8 := by kernel_rfl

theorem nat_of {k : Int} {m : Nat} (h1 : 0 ≤ k) (h2 : k ≤ m) : ∃ n : Nat, k = n ∧ n ≤ m := ⟨k.toNat, by omega, by omega⟩

set_option maxRecDepth 100000 in
theorem dec_step {H : Type} {enc : TypeId × Value → H} {w : World} {base : Nat} {spare : Nat → Bool} {held : Bool} : ∀ n cs y, DataW.trod enc Tryd.prog w base spare held n 47 cs = some y → Light Tryd.prog 47 y.1 → ∃ d : Stp, cs = d.enc ∧ d.Ok w := by
  intro n cs y h hL
  obtain ⟨fs, ht, hf⟩ := stepStruct
  have hl := trod_slen ht h
  rw [stepCells] at hl
  simp only [List.range, List.range.loop, List.map_cons, List.map_nil, List.cons.injEq, and_true] at hf
  obtain ⟨f0, f1, f2, f3, f4, f5, f6⟩ := hf
  obtain ⟨a, ha, _⟩ := fld_int ht h 0 0 f0 Tryd.underlying3
  obtain ⟨b, hb, b1, b2⟩ := fld_int ht h 1 1 f1 Tryd.underlying22
  obtain ⟨ca, cc, cl, hc, cR, cle, _, cw, _⟩ := fld_slice ht h hL 2 2 f2 Tryd.underlying23 bytesCells byteCells (by decide) (fun n cs y h _ => dec_byte n cs y h)
  obtain ⟨d, hd, d1, d2⟩ := fld_int ht h 3 3 f3 Tryd.underlying3
  obtain ⟨e, he, e1, e2⟩ := fld_int ht h 4 4 f4 Tryd.underlying24
  obtain ⟨f, hf, g1, g2⟩ := fld_int ht h 5 5 f5 Tryd.underlying5
  obtain ⟨ga, gc, gl, hg, gR, gle, _, gw, gi⟩ := fld_slice ht h hL 6 6 f6 Tryd.underlying45 intsCells intCells (by decide) (fun n cs y h _ => dec_int Tryd.underlying3 n cs y h)
  obtain ⟨b, rfl, hb2⟩ := nat_of (m := 18446744073709551615) b1 b2
  obtain ⟨e, rfl, he2⟩ := nat_of (m := 65535) e1 e2
  obtain ⟨f, rfl, hf2⟩ := nat_of (m := 255) g1 g2
  rw [byteBytes] at cw
  rw [intBytes] at gw
  unfold reachBytes at cw gw
  refine ⟨⟨a, b, ca, cc, cl, d, e, UInt8.ofNat f, ga, gc, gl⟩, ?_, ⟨cR, gR, cle, gle, by dsimp only; omega, by dsimp only; omega, by dsimp only; omega, d1, d2, by dsimp only; omega, fun i hi => gi i hi⟩⟩
  have hff : bv (UInt8.ofNat f) = .int .u8 (f : Int) := by
    have h9 : (UInt8.ofNat f).toNat = f := by rw [UInt8.toNat_ofNat']; omega
    rw [bv, h9]
  match cs, hl with
  | [_, _, _, _, _, _, _], _ =>
    simp at ha hb hc hd he hf hg
    simp [Stp.enc, hff, ha, hb, hc, hd, he, hf, hg]

end Go.Proofs.YtkmbcpgnafmnpaaDoor

/- ShadowKeeps: for every input the law answers true, and turns nothing. The tables that its row lists are premises, and tied to the text by its card. -/
namespace Go.Proofs.YtkmbcpgnafmnpaaDoor.shadowKeeps
open Go.GV Go.ChangeShapes Go.WideShapes Go.ChangeAt Go.RowKit

theorem laid_met (os : Os) : laidMet Tryd.prog Rows.shadowKeepsRow.laid ((laidWorld os).forCall (fun _ _ => 0) ⟨#[], #[.int .u64 0, .slice none 0 0], []⟩).memory :=
  laidMet_of_run' 8 (by kernel_rfl) (by kernel_rfl)
theorem reads (os : Os) {H : Type} (enc : TypeId × Value → H) : ∃ ds places, DataW.whole enc Tryd.prog ((laidWorld os).forCall (fun _ _ => 0) ⟨#[], #[.int .u64 0, .slice none 0 0], []⟩).memory Tryd.f6.params.toList Rows.shadowKeepsSpec.vars false (#[.int .u64 0, .slice none 0 0] : Array Value).toList 8 = some (ds, [], places) :=
  ⟨[.lit (.int .u64 0), .nil], [], by kernel_rfl⟩

set_option maxRecDepth 100000 in
theorem lifted (os : Os) (started : os.Started) (H : Type) (enc : TypeId × Value → H) (F : Stop.Interp) :
    ReturnsInHanded {} Tryd.checked os 6 .any ((OpenSpec.ofChange Rows.shadowKeepsSpec).preRow enc Tryd.prog Tryd.f6 Rows.shadowKeepsRow.domain false Rows.shadowKeepsRow.laid) (((OpenSpec.ofChange Rows.shadowKeepsSpec).at F).post enc Tryd.prog Tryd.f6 false true false false) := by
  obtain ⟨ds, places, hx⟩ := reads os enc
  refine returnsInHanded_of_row (C := Tryd.checked) (s := OpenSpec.ofChange Rows.shadowKeepsSpec) own started (by kernel_rfl) Tryd.func6
    (witness_row_at (enc := enc) (C := Tryd.checked) false (laidWorld os) #[.int .u64 0, .slice none 0 0] rfl (by kernel_rfl) (by kernel_rfl) (by kernel_rfl)
      (OpenSpec.preRow_of_cond 8 hx (by kernel_rfl) (fun k hk => by cases hk) (by kernel_rfl) (laid_met os))) ?_
  intro W base args ds gs before hval0 hW _ _ hLt _ _ _
  have hval : ∀ (j : Nat) t v, Tryd.f6.params[j]? = some t → args[j]? = some v → Value.okWide Tryd.prog W .any base t v := hval0
  have hW' := hW
  obtain ⟨p, q, hA0, hV, rfl, hfz, hnd⟩ := hW
  have hA : DataW.TrodAll enc Tryd.prog W 0 (fun _ => true) true Tryd.f6.params.toList args.toList ds p := hA0
  rw [Tryd.params6] at hA hval
  obtain ⟨v0, vs0, d0, ds0, p0, q0, hargs, rfl, rfl, h0, r0⟩ := trodAll_cons hA
  obtain ⟨v1, vs1, d1, ds1, p1, q1, rfl, rfl, rfl, h1, r1⟩ := trodAll_cons r0
  obtain ⟨rfl, rfl, rfl⟩ := trodAll_nil r1
  obtain rfl : args = #[v0, v1] := by cases args; simp_all
  obtain ⟨k0, rfl, rfl, rfl, hg0⟩ := open_int Tryd.underlying22 (hval 0 _ v0 rfl rfl) h0
  obtain ⟨n0, rfl, hb0⟩ := nat_of (m := 18446744073709551615) (wf_bounds hg0).1 (wf_bounds hg0).2
  have hL1 : Light Tryd.prog 40 d1 := light_of hLt (i := 1) rfl rfl
  obtain ⟨a1, c1, l1, rfl, R1, hc1, hm1, hw1, H1⟩ := rdw_of_T Tryd.underlying40 stepCells (by decide) dec_step (okWide_slice Tryd.underlying40 (hval 1 _ v1 rfl rfl)) h1 hL1
  unfold maxLen at hm1
  refine (keeps_ok n0 (by omega) a1 c1 l1 W R1 H1 (by omega)).calls.mono ?_
  rintro e W' ⟨v, rfl, rfl, hx⟩
  exact ⟨_, rfl, law_post laidOut rfl (by kernel_rfl) rfl Tryd.underlying4 (fun ds h => match ds, h with | [_, _], _ => rfl) hW' hx⟩

theorem said : Rows.ShadowKeepsSaid :=
  OpenClaim.holds_of_cond 6 Tryd.f6 rfl rfl rfl rfl rfl rfl rfl ⟨rfl, rfl, rfl, rfl, rfl⟩ rfl rfl rfl rfl rfl (by kernel_rfl) Tryd.func6 (by kernel_rfl)
    (of_decide_eq_true (by kernel_rfl)) (by unfold Func.isWrapper; first | (rw [if_pos (by decide +kernel)]; kernel_rfl) | (rw [if_neg (by decide +kernel)]; exact ⟨rfl, rfl⟩))
    (fun os started H enc _ F => by rw [OpenClaim.pre_eq_preRow]; exact lifted os started H enc F)

theorem plain (f : FuncId) (fn : Func) (hf : Tryd.pinned.checked.prog.funcNamed "gablet/gabletlaw08.ShadowKeeps" = some f) (hfn : Tryd.pinned.checked.prog.funcs[f]? = some fn) :
    false = Tryd.pinned.checked.prog.looks [] ∧ ∀ (j : Nat) t, fn.params[j]? = some t → Tryd.pinned.checked.prog.wantsStandIn t = false := by
  obtain rfl : f = 6 := Option.some.inj ((show Tryd.prog.funcNamed "gablet/gabletlaw08.ShadowKeeps" = some 6 by kernel_rfl).symm.trans hf) |>.symm
  obtain rfl : fn = Tryd.f6 := (Option.some.inj (Tryd.func6.symm.trans hfn)).symm
  refine ⟨by kernel_rfl, fun j t ht => ?_⟩
  rw [Tryd.params6] at ht
  have hm := Array.mem_of_getElem? ht
  exact List.all_eq_true.1 (show (Tryd.f6.params.toList.all fun t => !Tryd.prog.wantsStandIn t) = true by kernel_rfl) t (by rw [Tryd.params6]; simpa using hm) |> fun h => (Bool.not_eq_true' _).mp h

theorem card : Rows.ShadowKeepsCardSaid :=
  Claim7.holds_tied_plain_at .later [] _ _ _ _ said (fun _ h => by cases h) (by kernel_rfl) (fun _ h => by cases h) shadowKeeps_row_tie rfl ⟨rfl, rfl⟩ (by kernel_rfl) rfl plain (by kernel_rfl)
end Go.Proofs.YtkmbcpgnafmnpaaDoor.shadowKeeps
namespace Go.Proofs.YtkmbcpgnafmnpaaDoor
theorem shadowKeeps_holds : Rows.ShadowKeepsCardSaid := shadowKeeps.card
#print axioms shadowKeeps_holds
end Go.Proofs.YtkmbcpgnafmnpaaDoor
