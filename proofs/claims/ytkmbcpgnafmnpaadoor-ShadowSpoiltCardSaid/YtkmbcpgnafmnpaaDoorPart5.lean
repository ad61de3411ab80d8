/- Part 5 of the proof. The last text: ShadowSpoilt: for every input the law answers true, and turns nothing. The tables that its row lists are premises, and tied to the text by its card. -/
import Derived.Test.YtkmbcpgnafmnpaaDoorPart4
import Derived.Test.YtkmbcpgnafmnpaaDoorPart2
import Derived.Test.YtkmbcpgnafmnpaaDoorCards
import Derived.Test.YtkmbcpgnafmnpaaDoorTie
import Derived.WalkKit
import Derived.ProofKit
import Derived.OpenShut
import Derived.Deep.DeepHandedRow
/- Plain law of a spoilt root: bits that are turned within 32 in a row are seen. -/
namespace Go.Proofs.YtkmbcpgnafmnpaaDoor
open Go.GV
attribute [local irreducible] Wops W Wq Wt

theorem fold_lin : ∀ (l : List UInt8) (w v : BitVec 32), l.foldl takeW (w ^^^ v) = l.foldl takeW w ^^^ stepsW (8 * l.length) v
  | [], w, v => rfl
  | x :: l, w, v => by
    have h1 : takeW (w ^^^ v) x = takeW w x ^^^ stepsW 8 v := by
      unfold takeW
      rw [show w ^^^ v ^^^ byteW x = (w ^^^ byteW x) ^^^ v by ac_rfl, steps_xor]
    rw [List.foldl_cons, List.foldl_cons, h1, fold_lin l, steps_add]
    congr 2
    rw [List.length_cons]; omega
theorem fold_turn : ∀ (l : List UInt8) (p : Nat) (c : UInt8) (w : BitVec 32), p < l.length → (l.modify p fun x => x ^^^ c).foldl takeW w = l.foldl takeW w ^^^ stepsW (8 * (l.length - p)) (byteW c)
  | [], p, c, w, h => absurd h (Nat.not_lt_zero _)
  | x :: l, 0, c, w, _ => by
    have h1 : takeW w (x ^^^ c) = takeW w x ^^^ stepsW 8 (byteW c) := by
      unfold takeW
      rw [byte_xor, show w ^^^ (byteW x ^^^ byteW c) = (w ^^^ byteW x) ^^^ byteW c by ac_rfl, steps_xor]
    rw [List.modify_zero_cons, List.foldl_cons, List.foldl_cons, h1, fold_lin, steps_add]
    congr 2
    rw [List.length_cons]; omega
  | x :: l, p + 1, c, w, h => by
    rw [List.modify_succ_cons, List.foldl_cons, List.foldl_cons, fold_turn l p c _ (by simpa using h)]
    congr 2
    rw [List.length_cons]; omega

theorem bit_byte : ∀ k, k < 8 → byteW (UInt8.ofNat (2 ^ k)) = 1#32 <<< k := by decide
theorem steps_bit {n : Nat} (h : n < 32) : stepsW n (1#32 <<< n) = 1#32 := by
  rw [steps_low n _ (fun i hi => by simp [BitVec.getLsbD_shiftLeft, hi])]
  apply BitVec.eq_of_getLsbD_eq
  intro i hi
  rw [BitVec.getLsbD_ushiftRight, BitVec.getLsbD_shiftLeft]
  by_cases h0 : i = 0
  · subst h0; simp [h]
  · have h1 : (1#32).getLsbD i = false := by
      rw [BitVec.getLsbD_one]; simp [h0]
    rw [h1, show n + i - n = i by omega, h1, Bool.and_false]

/-- The block with i of the bits turned. -/
def turnB (b : Byt) (f by' : Nat) : Nat → Byt
  | 0 => b
  | i + 1 => if by'.testBit i then (turnB b f by' i).modify ((f + i) / 8) (fun x => x ^^^ UInt8.ofNat (2 ^ ((f + i) % 8))) else turnB b f by' i
theorem turnB_len (b : Byt) (f by' i : Nat) : (turnB b f by' i).length = b.length := by
  induction i with
  | zero => rfl
  | succ i ih => unfold turnB; split <;> simp [ih]
theorem turn_fold {b : Byt} (hb : b.length = 512) {f by' : Nat} (hf : f + 32 ≤ 4096) (w : BitVec 32) : ∀ i, i ≤ 32 → (turnB b f by' i).foldl takeW w = b.foldl takeW w ^^^ stepsW (4096 - f) (BitVec.ofNat 32 (by' % 2 ^ i))
  | 0, _ => by
    rw [Nat.pow_zero, Nat.mod_one, show BitVec.ofNat 32 0 = 0#32 from rfl, steps_zero, BitVec.xor_zero]; rfl
  | i + 1, hi => by
    have ih := turn_fold hb hf w i (by omega) (by' := by')
    unfold turnB
    have hm : by' % 2 ^ (i + 1) = by' % 2 ^ i + (if by'.testBit i then 2 ^ i else 0) := by
      rw [Nat.mod_pow_succ, Nat.testBit_eq_decide_div_mod_eq]
      have h2 : by' / 2 ^ i % 2 = 0 ∨ by' / 2 ^ i % 2 = 1 := by omega
      rcases h2 with h2 | h2 <;> rw [h2] <;> simp
    split
    · rename_i ht
      rw [if_pos ht] at hm
      have hp : (f + i) / 8 < 512 := by omega
      have hk : (f + i) % 8 < 8 := by omega
      rw [fold_turn _ _ _ _ (by rw [turnB_len, hb]; exact hp), ih, turnB_len, hb, bit_byte _ hk, BitVec.xor_assoc]
      congr 1
      have h1 : stepsW (8 * (512 - (f + i) / 8)) (1#32 <<< ((f + i) % 8)) = stepsW (4096 - (f + i)) 1#32 := by
        rw [show 8 * (512 - (f + i) / 8) = (f + i) % 8 + (4096 - (f + i)) by omega, ← steps_add, steps_bit (by omega)]
      have h2 : stepsW (4096 - f) (1#32 <<< i) = stepsW (4096 - (f + i)) 1#32 := by
        rw [show 4096 - f = i + (4096 - (f + i)) by omega, ← steps_add, steps_bit (by omega)]
      have h3 : BitVec.ofNat 32 (by' % 2 ^ (i + 1)) = BitVec.ofNat 32 (by' % 2 ^ i) ^^^ (1#32 <<< i) := by
        apply BitVec.eq_of_getLsbD_eq
        intro j hj
        rw [BitVec.getLsbD_xor, BitVec.getLsbD_shiftLeft, BitVec.getLsbD_ofNat, BitVec.getLsbD_ofNat, BitVec.getLsbD_one, Nat.testBit_mod_two_pow, Nat.testBit_mod_two_pow]
        rcases Nat.lt_trichotomy j i with h4 | h4 | h4
        · simp [hj, h4, show j < i + 1 by omega]
        · subst h4; simp [hj, ht]
        · simp [hj, show ¬ j < i + 1 by omega, show ¬ j < i by omega, show ¬ j - i = 0 by omega]
      rw [h1, ← h2, ← steps_xor, h3]
    · rename_i ht
      rw [if_neg ht, Nat.add_zero] at hm
      rw [hm]; exact ih

/-- What the sum of a whole block, its own sum with it, comes to. -/
def wholeW : BitVec 32 := stepsW 32 (~~~ 0#32)
theorem xor_add {x n : Nat} (z : Nat) (h : x < 2 ^ n) : x ^^^ (z * 2 ^ n) = x + z * 2 ^ n := by
  rw [Nat.add_comm, Nat.mul_comm, Nat.two_pow_add_eq_or_of_lt h]
  apply Nat.eq_of_testBit_eq
  intro i
  rw [Nat.testBit_xor, Nat.testBit_or, Nat.testBit_two_pow_mul]
  by_cases hi : i < n
  · rw [decide_eq_false (show ¬ n ≤ i by omega)]; simp
  · rw [Nat.testBit_lt_two_pow (Nat.lt_of_lt_of_le h (Nat.pow_le_pow_right (by decide) (by omega)))]; simp
theorem word_want {a b c d : UInt8} : (wordW a b c d).toNat = wantN [a, b, c, d] := by
  have ha := a.toNat_lt
  have hb := b.toNat_lt
  have hc := c.toNat_lt
  have hd := d.toNat_lt
  unfold wordW
  rw [BitVec.toNat_xor, BitVec.toNat_xor, BitVec.toNat_xor, BitVec.toNat_shiftLeft, BitVec.toNat_shiftLeft, BitVec.toNat_shiftLeft, byte_nat, byte_nat, byte_nat, byte_nat, Nat.shiftLeft_eq, Nat.shiftLeft_eq, Nat.shiftLeft_eq,
    Nat.mod_eq_of_lt (show b.toNat * 2 ^ 8 < 2 ^ 32 by omega), Nat.mod_eq_of_lt (show c.toNat * 2 ^ 16 < 2 ^ 32 by omega), Nat.mod_eq_of_lt (show d.toNat * 2 ^ 24 < 2 ^ 32 by omega),
    xor_add (n := 8) _ (by omega), xor_add (n := 16) _ (by omega), xor_add (n := 24) _ (by omega)]
  simp only [wantN]
  omega
theorem right_whole {b : Byt} (hb : b.length = 512) : rightW b = true ↔ b.foldl takeW (~~~ 0#32) = wholeW := by
  obtain ⟨b1, b2, c0, c1, c2, c3, _, _, _, hd, _⟩ := block_parts hb
  have hs : b = b.take 508 ++ [c0, c1, c2, c3] := by rw [← hd, List.take_append_drop]
  have hf : b.foldl takeW (~~~ 0#32) = stepsW 32 ((b.take 508).foldl takeW (~~~ 0#32) ^^^ wordW c0 c1 c2 c3) := by
    conv => lhs; rw [hs]
    rw [List.foldl_append, four]
  have hr : rightW b = decide ((sumW (b.take 508)).toNat = wantN [c0, c1, c2, c3]) := by
    unfold rightW
    rw [hb, show 512 - 4 = 508 from rfl, hd]; rfl
  rw [hr, hf, decide_eq_true_eq, ← word_want]
  unfold wholeW sumW moreW
  generalize (b.take 508).foldl takeW (~~~ 0#32) = s
  generalize wordW c0 c1 c2 c3 = v
  constructor
  · intro h
    have h1 : ~~~ s = v := BitVec.eq_of_toNat_eq h
    rw [← h1]
    congr 1
    apply BitVec.eq_of_getLsbD_eq
    intro i hi
    rw [BitVec.getLsbD_xor, BitVec.getLsbD_not, BitVec.getLsbD_not, BitVec.getLsbD_zero]
    cases s.getLsbD i <;> simp [hi]
  · intro h
    have h1 := steps_inj h
    have h2 : v = ~~~ s := by
      have h3 : s ^^^ (s ^^^ v) = s ^^^ ~~~ 0#32 := by rw [h1]
      rw [← BitVec.xor_assoc, BitVec.xor_self, BitVec.zero_xor] at h3
      rw [h3]
      apply BitVec.eq_of_getLsbD_eq
      intro i hi
      rw [BitVec.getLsbD_xor, BitVec.getLsbD_not, BitVec.getLsbD_not, BitVec.getLsbD_zero]
      cases s.getLsbD i <;> simp [hi]
    rw [h2]

theorem turned_wrong {b : Byt} (hb : b.length = 512) (hr : rightW b = true) {f by' : Nat} (hf : f + 32 ≤ 4096) (hby : by' < 4294967296) (h0 : by' ≠ 0) : rightW (turnB b f by' 32) = false := by
  rw [Bool.eq_false_iff]
  intro h
  have hl : (turnB b f by' 32).length = 512 := by rw [turnB_len, hb]
  have h1 := (right_whole hl).1 h
  rw [turn_fold hb hf _ 32 (Nat.le_refl _), (right_whole hb).1 hr] at h1
  have h2 : stepsW (4096 - f) (BitVec.ofNat 32 (by' % 2 ^ 32)) = stepsW (4096 - f) 0#32 := by
    rw [steps_zero]
    have h3 : wholeW ^^^ (wholeW ^^^ stepsW (4096 - f) (BitVec.ofNat 32 (by' % 2 ^ 32))) = wholeW ^^^ wholeW := by rw [h1]
    rwa [← BitVec.xor_assoc, BitVec.xor_self, BitVec.zero_xor] at h3
  have h4 := congrArg BitVec.toNat (steps_inj h2)
  rw [BitVec.toNat_ofNat, Nat.mod_mod, Nat.mod_eq_of_lt hby] at h4
  exact h0 h4
theorem turn_none (b : Byt) (f i : Nat) : turnB b f 0 i = b := by
  induction i with
  | zero => rfl
  | succ i ih => unfold turnB; rw [if_neg (by simp), ih]

end Go.Proofs.YtkmbcpgnafmnpaaDoor

/- The steps of the laws of roots; whether there is too much of them; a block of one's own. -/
namespace Go.Proofs.YtkmbcpgnafmnpaaDoor
open Go.GV
theorem ag_45_StH1 : aggB Tryd.prog 45 = some false := by kernel_rfl
theorem el_40_StH1 : elemT Tryd.prog 40 = some 47 := by kernel_rfl
theorem fo_47_2_StH1 : fieldO Tryd.prog 47 2 = some 2 := by kernel_rfl
theorem fo_47_6_StH1 : fieldO Tryd.prog 47 6 = some 6 := by kernel_rfl
theorem sz_47_StH1 : tsize Tryd.prog 47 = some 7 := by kernel_rfl
attribute [local irreducible] Wops W Wq Wt

structure Stp where
  op : Int
  gen : Nat
  ba : Option Addr
  bc : Nat
  b : Byt
  n : Int
  pos : Nat
  by' : UInt8
  pa : Option Addr
  pc : Nat
  picks : List Int
abbrev I64 : Int → List Value := fun x => [.int .i64 x]
def Stp.enc (x : Stp) : List Value := [.int .i64 x.op, .int .u64 (x.gen : Int), .slice x.ba x.b.length x.bc, .int .i64 x.n, .int .u16 (x.pos : Int), bv x.by', .slice x.pa x.picks.length x.pc]
structure Stp.Ok (w : World) (x : Stp) : Prop where
  rb : Rd w x.ba 1 B8 x.b
  rp : Rd w x.pa 1 I64 x.picks
  cb : x.b.length ≤ x.bc
  cp : x.picks.length ≤ x.pc
  mb : x.b.length ≤ 140737488351232
  mp : x.picks.length ≤ 140737488351232
  gen : x.gen < 18446744073709551616
  n1 : -9223372036854775808 ≤ x.n
  n2 : x.n ≤ 9223372036854775807
  pos : x.pos < 65536
  picks : ∀ i ∈ x.picks, -9223372036854775808 ≤ i ∧ i ≤ 9223372036854775807

def sumH (l : List Stp) : Nat := (l.map fun x => x.b.length + x.picks.length).sum
def heavyB (l : List Stp) : Bool := decide (40 < l.length) || decide (20000 < sumH (l.take 100))
theorem sumH_snoc (l : List Stp) (x : Stp) : sumH (l ++ [x]) = sumH l + (x.b.length + x.picks.length) := by simp [sumH]
theorem sumH_mem {l : List Stp} {x : Stp} (h : x ∈ l) : x.b.length + x.picks.length ≤ sumH l := by
  induction l with
  | nil => cases h
  | cons y l ih =>
    unfold sumH
    rw [List.map_cons, List.sum_cons]
    rcases List.mem_cons.1 h with rfl | h
    · omega
    · have := ih h; unfold sumH at this; omega
theorem sumH_le {l : List Stp} (h : ∀ x ∈ l, x.b.length + x.picks.length ≤ 281474976702464) : sumH l ≤ l.length * 281474976702464 := by
  induction l with
  | nil => exact Nat.zero_le _
  | cons y l ih =>
    have h1 := ih fun x hx => h x (List.mem_cons_of_mem _ hx)
    have h2 := h y (List.mem_cons_self ..)
    unfold sumH at h1 ⊢
    rw [List.map_cons, List.sum_cons, List.length_cons]
    omega
theorem not_heavy {l : List Stp} (h : heavyB l = false) : l.length ≤ 40 ∧ ∀ x ∈ l, x.b.length + x.picks.length ≤ 20000 := by
  unfold heavyB at h
  simp only [Bool.or_eq_false_iff, decide_eq_false_iff_not] at h
  have hl : l.length ≤ 40 := by omega
  refine ⟨hl, fun x hx => ?_⟩
  rw [List.take_of_length_le (by omega)] at h
  have := sumH_mem hx
  omega

set_option maxRecDepth 20000 in
theorem heavy_ok (a : Option Addr) (c : Nat) (l : List Stp) (w : World) (R : Rd w a 7 Stp.enc l) (hok : ∀ x ∈ l, x.Ok w) (hm : l.length ≤ 9223372036854775807) : Ret Tryd.prog 17 #[.slice a l.length c] w fun v w' => v = .bool (heavyB l) ∧ Ext [] w w' := by
  obtain ⟨w0, rfl⟩ : ∃ w0, w0 = w := ⟨_, rfl⟩
  have H := Ctx.start w0 []
  refine ret_of_W (fn := Tryd.f17) Tryd.func17 rfl [.slice a l.length c] rfl (by kernel_rfl) ?_
  refine W_rseq ?_
  refine op_assign rfl (.bool _) rfl ?_
  refine op_nil (at_then ?_)
  refine W_rseq ?_
  refine op_assign rfl (.int _ _) rfl ?_
  refine op_nil (at_then ?_)
  refine W_seq ?_
  refine W_rseq ?_
  refine op_assign rfl (.int _ _) rfl ?_
  refine op_nil (at_then ?_)
  refine W_block ?_
  refine W_loop 1073741816 (α := Nat) (fun i => [(4, .int .i64 i), (3, .int .i64 (sumH (l.take i) : Int))]) (fun i w' => i ≤ l.length ∧ i ≤ 100 ∧ Ctx w0 [] w' []) (fun i => 100 - i) 0 rfl ?_ ?_ ?_
  · exact ⟨rfl, rfl, trivial⟩
  · exact ⟨Nat.zero_le _, Nat.zero_le _, H⟩
  · rintro i j w ⟨hi, hi1, H⟩
    have hs : sumH (l.take i) ≤ i * 281474976702464 := by
      have h1 := sumH_le (l := l.take i) fun x hx => by have := hok x (List.mem_of_mem_take hx); have := this.mb; have := (hok x (List.mem_of_mem_take hx)).mp; omega
      rw [List.length_take, Nat.min_eq_left hi] at h1
      exact h1
    have hs2 : i * 281474976702464 ≤ 100 * 281474976702464 := Nat.mul_le_mul_right _ hi1
    refine W_seq ?_
    refine W_rseq (Wops_join (α := Unit) 8160 (fun _ => [(12, .bool (decide (i < l.length) && decide (i < 100)))]) (fun _ w' => Ctx w0 [] w' []) rfl ?_ ?_)
    · refine op_move rfl (.int _ _) rfl ?_
      refine op_move rfl (.slice _ _ _) rfl ?_
      refine op_len rfl el_40_StH1 rfl ?_
      refine op_lss rfl rfl rfl ?_
      refine op_move rfl (.bool _) rfl ?_
      refine Wops_split 9 rfl ?_ ?_
      · intro h1
        replace h1 := dec_t h1
        refine op_move rfl (.int _ _) rfl ?_
        refine op_lss rfl rfl rfl ?_
        refine op_pick1 rfl rfl (.bool _) rfl ?_
        refine op_nil ?_
        exact ⟨rfl, (), rfl, ⟨congrArg Value.bool (by rw [Bool.eq_iff_iff]; simp_all; try omega), trivial⟩, H⟩
      · intro h2
        replace h2 := dec_f h2
        refine op_skip rfl ?_
        refine op_skip rfl ?_
        refine op_pick0 rfl rfl (.bool _) rfl ?_
        refine op_nil ?_
        exact ⟨rfl, (), rfl, ⟨congrArg Value.bool (by rw [Bool.eq_iff_iff]; simp_all; try omega), trivial⟩, H⟩
    rintro - j12 w H
    refine W_cond _ rfl ?_ ?_
    · intro h1
      simp only [Bool.and_eq_true, decide_eq_true_eq] at h1
      obtain ⟨x, hx⟩ := get_some (l := l) (i := i) (by omega)
      have hox := hok x (List.mem_of_getElem? hx)
      have hmb := hox.mb
      have hmp := hox.mp
      refine W_skip (at_then ?_)
      refine W_seq ?_
      refine W_block ?_
      refine W_quiet (fun x => x = _) mixed (by kernel_rfl) rfl ?_
      refine q_move rfl (.int _ _) rfl ?_
      refine q_move rfl (.slice _ _ _) rfl ?_
      refine q_move rfl (.int _ _) rfl ?_
      first | refine q_indexRd R rfl el_40_StH1 sz_47_StH1 rfl rfl (by omega) (by omega) (by first | rfl | omega) ?_ | refine q_indexAddr rfl el_40_StH1 sz_47_StH1 rfl rfl (by omega) (by omega) ?_
      refine q_fieldAddr rfl fo_47_2_StH1 rfl ?_
      first | refine q_ldb rfl ag_23 rfl (by rintro _ rfl; exact H.drew) (by first | exact at0 | exact at1 | exact at2 | exact at3 | exact at4 | exact at5 | exact at6 | exact at7 | exact at8 | exact at9) rfl ?_ | refine q_ld rfl ag_23 rfl (by rintro _ rfl; exact ((R.ext0 H.drew.ext).fld hx rfl (j := 2) rfl)) ?_ | refine q_ld rfl ag_23 rfl (by rintro _ rfl; exact ((R.ext0 H.drew.ext).fld hx rfl (j := 6) rfl)) ?_
      refine q_len rfl el_23 rfl ?_
      refine q_add_i64 rfl rfl rfl (by omega) (by omega) ?_
      refine q_move rfl (.slice _ _ _) rfl ?_
      refine q_move rfl (.int _ _) rfl ?_
      first | refine q_indexRd R rfl el_40_StH1 sz_47_StH1 rfl rfl (by omega) (by omega) (by first | rfl | omega) ?_ | refine q_indexAddr rfl el_40_StH1 sz_47_StH1 rfl rfl (by omega) (by omega) ?_
      refine q_fieldAddr rfl fo_47_6_StH1 rfl ?_
      first | refine q_ldb rfl ag_45_StH1 rfl (by rintro _ rfl; exact H.drew) (by first | exact at0 | exact at1 | exact at2 | exact at3 | exact at4 | exact at5 | exact at6 | exact at7 | exact at8 | exact at9) rfl ?_ | refine q_ld rfl ag_45_StH1 rfl (by rintro _ rfl; exact ((R.ext0 H.drew.ext).fld hx rfl (j := 2) rfl)) ?_ | refine q_ld rfl ag_45_StH1 rfl (by rintro _ rfl; exact ((R.ext0 H.drew.ext).fld hx rfl (j := 6) rfl)) ?_
      refine q_len rfl el_45 rfl ?_
      refine q_add_i64 rfl rfl rfl (by omega) (by omega) ?_
      refine q_assign rfl (.int _ _) rfl ?_
      refine q_nil ?_
      rintro _ rfl
      replace H := H.drew
      refine at_block (at_then ?_)
      refine W_region ?_
      refine op_move rfl (.int _ _) rfl ?_
      refine op_add_i64 rfl rfl rfl (by omega) (by omega) ?_
      refine op_assign rfl (.int _ _) rfl ?_
      refine op_nil (at_then ?_)
      refine ⟨i + 1, rfl, ⟨rfl, ?_, trivial⟩, ⟨by omega, by omega, H⟩, by omega⟩
      rw [take_snoc hx, sumH_snoc]
      exact congrArg (Value.int .i64) (by omega)
    · intro h1
      simp only [Bool.and_eq_false_iff, decide_eq_false_iff_not] at h1
      have hd : decide (20000 < sumH (l.take i)) = decide (20000 < sumH (l.take 100)) ∨ 40 < l.length := by
        rcases h1 with h1 | h1
        · left; rw [List.take_of_length_le (l := l) (i := i) (by omega), List.take_of_length_le (l := l) (i := 100) (by omega)]
        · right; omega
      refine W_exit (exit_then (exit_then (exit_here (at_then ?_))))
      refine W_rseq ?_
      refine op_move rfl (.slice _ _ _) rfl ?_
      refine op_len rfl el_40_StH1 rfl ?_
      refine op_gtr rfl rfl rfl ?_
      refine op_move rfl (.bool _) rfl ?_
      refine Wops_split 33 rfl ?_ ?_
      · intro h2
        replace h2 := dec_t h2
        refine op_skip rfl ?_
        refine op_skip rfl ?_
        refine op_pick1 rfl rfl (.bool _) rfl ?_
        refine op_assign rfl (.bool _) rfl ?_
        refine op_nil (at_then ?_)
        refine W_ret (leave1 (v := (.bool _)) rfl rfl rfl ?_)
        exact ⟨by rw [heavyB, decide_eq_true (show 40 < l.length by omega)]; rfl, H.ext⟩
      · intro h2
        replace h2 := dec_f h2
        refine op_move rfl (.int _ _) rfl ?_
        refine op_gtr rfl rfl rfl ?_
        refine op_pick0 rfl rfl (.bool _) rfl ?_
        refine op_assign rfl (.bool _) rfl ?_
        refine op_nil (at_then ?_)
        refine W_ret (leave1 (v := (.bool _)) rfl rfl rfl ?_)
        rcases hd with hd | hd
        · refine ⟨?_, H.ext⟩
          rw [heavyB, decide_eq_false (show ¬ 40 < l.length by omega), ← hd, Bool.false_or]
          congr 1
          rw [Bool.eq_iff_iff]; simp only [decide_eq_true_eq]; omega
        · omega

end Go.Proofs.YtkmbcpgnafmnpaaDoor

/- The block of a step. -/
namespace Go.Proofs.YtkmbcpgnafmnpaaDoor
open Go.GV
theorem ag_24_StH2 : aggB Tryd.prog 24 = some false := by kernel_rfl
theorem fo_47_1_StH2 : fieldO Tryd.prog 47 1 = some 1 := by kernel_rfl
theorem fo_47_2_StH2 : fieldO Tryd.prog 47 2 = some 2 := by kernel_rfl
theorem fo_47_4_StH2 : fieldO Tryd.prog 47 4 = some 4 := by kernel_rfl
theorem fo_47_5_StH2 : fieldO Tryd.prog 47 5 = some 5 := by kernel_rfl
theorem un_24_StH2 : Tryd.prog.underlying 24 = some (.int .u16) := by kernel_rfl
attribute [local irreducible] Wops W Wq Wt

def rawBase (x : Stp) : Byt := if x.b.length ≤ 497 then rootB x.gen x.b else zeros
def rawB (x : Stp) : Byt := (rawBase x).modify (x.pos % 512) fun c => c ^^^ x.by'
theorem rawBase_len (x : Stp) : (rawBase x).length = 512 := by
  unfold rawBase
  split
  · exact seal_len (by rw [List.length_append, putN_len]; omega)
  · exact List.length_replicate
theorem rawB_len (x : Stp) : (rawB x).length = 512 := by rw [rawB, List.length_modify, rawBase_len]

theorem bv_xor (a b : UInt8) : Value.int .u8 ((a.toNat ^^^ b.toNat : Nat) : Int) = bv (a ^^^ b) := by
  rw [bv, UInt8.toNat_xor]

theorem seal_cases {w0 w w' : World} {L : List (Nat × Obj)} {v : Value} {k : UInt8} {l : Byt} (H : Ctx w0 [] w L)
    (P : (sealE k l ≠ 0 ∧ v = .tuple #[.slice none 0 0, .int .i64 (sealE k l)] ∧ Ext [] w w') ∨ (sealE k l = 0 ∧ ∃ s, v = .tuple #[s, .int .i64 0] ∧ Fresh w w' 5 1 s ((sealB k l).map bv))) :
    ∃ a n c full, v = .tuple #[.slice a n c, .int .i64 (sealE k l)] ∧ Ctx w0 [] w' (L ++ ent a 5 full) ∧ (sealE k l = 0 → OS a n c 1 full ((sealB k l).map bv)) := by
  rcases P with ⟨h, rfl, hx⟩ | ⟨h, s, rfl, F⟩
  · exact ⟨none, 0, 0, [], rfl, by simpa [ent] using H.call hx, fun h' => absurd h' h⟩
  · obtain ⟨a, n, c, full, rfl, O, hb⟩ := F.ex
    exact ⟨a, n, c, full, by rw [h], H.callEnt F.ext hb ent_nd, fun _ => O⟩

set_option maxRecDepth 20000 in
set_option maxHeartbeats 2000000 in
theorem raw_ok (x : Stp) (w : World) (hx : x.Ok w) (hb20 : x.b.length ≤ 20000) : Ret Tryd.prog 26 #[.agg x.enc.toArray] w fun v w' => Fresh w w' 5 1 v ((rawB x).map bv) := by
  obtain ⟨w0, rfl⟩ : ∃ w0, w0 = w := ⟨_, rfl⟩
  have H := Ctx.start w0 []
  have hmb := hx.mb
  have hpos := hx.pos
  have hlr : (putN x.gen 8 ++ x.b).length = 8 + x.b.length := by rw [List.length_append, putN_len]
  have hse : sealE 1 (putN x.gen 8 ++ x.b) = bif decide (x.b.length ≤ 497) then 0 else 6 := by
    rw [sealE, decide_eq_false (show ¬ (1 : UInt8).toNat = 0 by decide), cond_false, hlr]
    by_cases h : x.b.length ≤ 497
    · rw [decide_eq_true h, decide_eq_false (show ¬ 505 < 8 + x.b.length by omega)]; rfl
    · rw [decide_eq_false h, decide_eq_true (show 505 < 8 + x.b.length by omega)]; rfl
  refine ret_of_W (fn := Tryd.f26) Tryd.func26 rfl [.agg x.enc.toArray] rfl (by kernel_rfl) ?_
  refine W_rseq ?_
  refine op_box rfl x.enc (.agg _) rfl rfl H ?_
  rintro b1 w - H
  refine op_assign rfl (.slice _ _ _) rfl ?_
  refine op_nil (at_then ?_)
  refine W_rseq ?_
  refine op_fieldAddr rfl fo_47_1_StH2 rfl ?_
  refine op_ldb rfl ag_22 rfl H (by first | exact at0 | exact at1 | exact at2 | exact at3 | exact at4 | exact at5 | exact at6 | exact at7 | exact at8 | exact at9) rfl ?_
  refine op_fieldAddr rfl fo_47_2_StH2 rfl ?_
  refine op_ldb rfl ag_23 rfl H (by first | exact at0 | exact at1 | exact at2 | exact at3 | exact at4 | exact at5 | exact at6 | exact at7 | exact at8 | exact at9) rfl ?_
  have H10 := H
  refine op_call rfl ca_57 (root_ok x.gen x.ba x.bc x.b.length x.b _ (hx.rb.ext0 H.ext) rfl (by omega) hx.gen) rfl ?_
  rintro v w F10
  obtain ⟨a10, c10, rfl, R10, hc10⟩ := Fresh.rdB F10
  replace H := H.call F10.ext
  refine op_call rfl ca_56 (seal4_ok 1 a10 c10 _ _ _ R10 rfl (by rw [hlr]; omega)) rfl ?_
  rintro v w P11
  obtain ⟨a11, n11, c11, full11, rfl, H11, O11⟩ := seal_cases H P11
  rw [hse] at O11 ⊢
  refine op_move rfl (.tuple _) rfl ?_
  refine op_extract rfl rfl rfl ?_
  refine op_extract rfl rfl rfl ?_
  refine op_assign rfl (.slice _ _ _) rfl ?_
  refine op_assign rfl (.int _ _) rfl ?_
  refine op_nil (at_then ?_)
  refine W_seq ?_
  refine W_rseq ?_
  refine op_move rfl (.int _ _) rfl ?_
  refine op_neq rfl rfl rfl ?_
  refine op_nil (at_then ?_)
  refine W_joinK 65544 (α := Nat × Nat × List Value) (fun s => [(3, .slice (some ⟨s.1, 0, none⟩) 512 s.2.1)]) (fun s w' => Ctx w0 [] w' [(b1, Bl 47 x.enc), (s.1, Bl 5 s.2.2)] ∧ s.2.2.take 512 = (rawBase x).map bv ∧ s.2.2.length = s.2.1 ∧ 512 ≤ s.2.1) rfl ?_ ?_
  · skip
    refine W_cond _ rfl ?_ ?_
    · intro h1
      replace h1 := ndec_t h1
      have hgt : ¬ x.b.length ≤ 497 := fun h => by rw [decide_eq_true h] at h1; exact h1 rfl
      have H : Ctx w0 [] w [(b1, Bl 47 x.enc)] := Ctx.left H11
      refine W_region ?_
      refine op_make rfl el_23 sz_5 by_5 zc_5 rfl rfl (by omega) (by omega) (by omega) (by omega) H ?_
      rintro b16 w - H
      refine op_assign rfl (.slice _ _ _) rfl ?_
      refine op_nil (at_then ?_)
      refine ⟨(b16, 512, List.replicate 512 (.int .u8 0)), rfl, ⟨rfl, trivial⟩, H.perm (List.Perm.swap ..), ?_, by rw [List.length_replicate], Nat.le_refl _⟩
      rw [rawBase, if_neg hgt]; rfl
    · intro h1
      replace h1 := ndec_f h1
      have hle : x.b.length ≤ 497 := Classical.byContradiction fun h => by rw [decide_eq_false h] at h1; cases h1
      refine W_skip (at_then ?_)
      have O := O11 h1
      have h5 : (rootB x.gen x.b).length = 512 := seal_len (by rw [hlr]; omega)
      have hn5 : n11 = 512 := by have h9 := O.llen; rw [List.length_map] at h9; have h8 : (sealB 1 (putN x.gen 8 ++ x.b)).length = 512 := h5; omega
      subst hn5
      obtain ⟨b, hb⟩ := O.form (by decide)
      subst hb
      refine ⟨(b, c11, full11), rfl, ⟨rfl, trivial⟩, H11, ?_, by have h7 := O.len; rw [Nat.mul_one] at h7; exact h7, O.le⟩
      rw [rawBase, if_pos hle]
      exact O.pre
  · rintro ⟨b, c, full⟩ j w ⟨H, hfull, hlen, hc⟩
    dsimp only at H hfull hlen hc
    dsimp only
    have hb1 := H.get at0
    have hbb := H.get at1
    have ho := H.own _ (List.mem_cons_of_mem _ (List.mem_cons_self ..))
    have hne := H.ne at0 at1 (by decide)
    have hbl := rawBase_len x
    have hq : x.pos % 512 < 512 := Nat.mod_lt _ (by decide)
    obtain ⟨y, hy⟩ := get_some (l := rawBase x) (i := x.pos % 512) (by omega)
    have hfy : full[x.pos % 512]? = some (bv y) := by
      have h1 : (full.take 512)[x.pos % 512]? = some (bv y) := by rw [hfull, List.getElem?_map, hy]; rfl
      rwa [List.getElem?_take, if_pos hq] at h1
    have H0 := H
    have hyl := y.toNat_lt
    have hbyl := x.by'.toNat_lt
    have HT : ∀ z, Ext [] w z → Ctx w [] z [] := fun z hz => (Ctx.start w []).call hz
    refine W_sseqz [([0, 1, 2, 3, 4, 5, 6, 7, 8, 9, 10, 11, 12], 13)] (fun z => Ext [] w z) 13 mixed (by kernel_rfl) (Ext.drew _ w) ?_
    refine seg_cons rfl rfl ?_
    refine t_move rfl (.slice _ _ _) rfl ?_
    refine t_fieldAddr rfl fo_47_4_StH2 rfl ?_
    first | refine t_ldb rfl ag_24_StH2 rfl HT (by first | exact at0 | exact at1 | exact at2 | exact at3 | exact at4 | exact at5 | exact at6 | exact at7 | exact at8 | exact at9) rfl ?_ | refine t_ld rfl ag_24_StH2 rfl (fun _ hx => hx.cell (cell_bl hb1 (0 + 4)) (by simp)) ?_ | refine t_ld rfl ag_24_StH2 rfl (fun _ hx => hx.cell (cell_bl hb1 (0 + 5)) (by simp)) ?_ | refine t_ld rfl ag_24_StH2 rfl (fun _ hx => hx.cell ((cell_bl hbb (0 + (x.pos % 512) * 1)).trans (by rw [Nat.zero_add, Nat.mul_one]; exact hfy)) (by simp)) ?_
    refine t_conv_i64 rfl rfl un_24_StH2 un_3 (by omega) (by omega) ?_
    refine t_move rfl (.slice _ _ _) rfl ?_
    refine t_len rfl el_23 rfl ?_
    refine t_rem rfl rfl rfl (by omega) (by omega) ?_
    rw [show ((x.pos : Int) % ((512 : Nat) : Int)) = ((x.pos % 512 : Nat) : Int) by omega]
    refine t_indexAddr rfl el_23 sz_5 rfl rfl (by omega) (by omega) ?_
    first | refine t_ldb rfl ag_5 rfl HT (by first | exact at0 | exact at1 | exact at2 | exact at3 | exact at4 | exact at5 | exact at6 | exact at7 | exact at8 | exact at9) rfl ?_ | refine t_ld rfl ag_5 rfl (fun _ hx => hx.cell (cell_bl hb1 (0 + 4)) (by simp)) ?_ | refine t_ld rfl ag_5 rfl (fun _ hx => hx.cell (cell_bl hb1 (0 + 5)) (by simp)) ?_ | refine t_ld rfl ag_5 rfl (fun _ hx => hx.cell ((cell_bl hbb (0 + (x.pos % 512) * 1)).trans (by rw [Nat.zero_add, Nat.mul_one]; exact hfy)) (by simp)) ?_
    refine t_fieldAddr rfl fo_47_5_StH2 rfl ?_
    first | refine t_ldb rfl ag_5 rfl HT (by first | exact at0 | exact at1 | exact at2 | exact at3 | exact at4 | exact at5 | exact at6 | exact at7 | exact at8 | exact at9) rfl ?_ | refine t_ld rfl ag_5 rfl (fun _ hx => hx.cell (cell_bl hb1 (0 + 4)) (by simp)) ?_ | refine t_ld rfl ag_5 rfl (fun _ hx => hx.cell (cell_bl hb1 (0 + 5)) (by simp)) ?_ | refine t_ld rfl ag_5 rfl (fun _ hx => hx.cell ((cell_bl hbb (0 + (x.pos % 512) * 1)).trans (by rw [Nat.zero_add, Nat.mul_one]; exact hfy)) (by simp)) ?_
    refine t_xor_u8 (a := y.toNat) (b := x.by'.toNat) rfl rfl rfl (by omega) (by omega) ?_
    rw [bv_xor]
    refine t_indexAddr rfl el_23 sz_5 rfl rfl (by omega) (by omega) ?_
    refine t_nil ?_
    skip
    refine op_stb (bv _) rfl sz_5 rfl rfl rfl (Ctx.start1 (show (World.drew w).heap[b]? = _ from hbb)) at0 (by omega) ?_
    rintro wE HE
    refine op_nil (at_segz ?_)
    refine seg_nil ?_
    refine W_rseq ?_
    refine op_move rfl (.slice _ _ _) rfl ?_
    refine op_assign rfl (.slice _ _ _) rfl ?_
    refine op_nil (at_then ?_)
    refine W_ret (leave1 (v := (.slice _ _ _)) rfl rfl rfl ?_)
    have hbn : w0.heap.size ≤ b := ho.elim (fun h => by cases h) id
    refine ⟨⟨some ⟨b, 0, none⟩, 512, c, full.set (0 + ((x.pos % 512 : Nat) : Int).toNat * 1) (bv (y ^^^ x.by')), rfl, ⟨(fun p hp => by cases hp; rfl), (fun h => by cases h), (by rw [List.length_set]; omega), hc, ?_⟩, fun z hz => by rw [List.mem_singleton.1 hz]; exact ⟨HE.get at0, hbn⟩⟩, H0.ext.then ((Ext.drew [b] w).trans HE.ext) fun z hz => .inr (by rw [List.mem_singleton.1 hz]; exact hbn)⟩
    rw [Nat.mul_one, Nat.zero_add, Nat.mul_one, List.take_set, hfull, set_map, rawB, modify_set hy, Int.toNat_natCast]

end Go.Proofs.YtkmbcpgnafmnpaaDoor

/- ShadowSpoilt: what is loaded, and the walk. -/
namespace Go.Proofs.YtkmbcpgnafmnpaaDoor
open Go.GV
attribute [local irreducible] Wops W Wq Wt

/-- What two roots tell, by the parity of their generation. -/
theorem load_pair {A : Dev} (ho : A.on = true) (hl : 2 ≤ A.B.length) {gen x y : Nat} {l m : Byt} (hx : rootG (slot gen) (at' A (gen % 2)) = x) (hy : rootG (slot (gen + 1)) (at' A ((gen + 1) % 2)) = y) (hxy : x ≠ y)
    (hxl : y < x → rootL (slot gen) (at' A (gen % 2)) = l) (hyl : x < y → rootL (slot (gen + 1)) (at' A ((gen + 1) % 2)) = m) : loadE A = 0 ∧ loadG A = (if y < x then x else y) ∧ loadL A = (if y < x then l else m) := by
  have he0 : loadE A = bif decide (rootG 0 (at' A 0) = 0) && decide (rootG 1 (at' A 1) = 0) then 4 else 0 := by
    unfold loadE
    rw [ho, decide_eq_false (show ¬ A.B.length < 2 by omega)]; rfl
  rcases Nat.mod_two_eq_zero_or_one gen with hm | hm
  · have hs : slot gen = 0 := by unfold slot; omega
    have hs1 : slot (gen + 1) = 1 := by unfold slot; omega
    have hm1 : (gen + 1) % 2 = 1 := by omega
    rw [hs, hm] at hx hxl
    rw [hs1, hm1] at hy hyl
    have he : loadE A = 0 := by
      rw [he0, hx, hy]
      by_cases h0 : x = 0
      · rw [decide_eq_false (show ¬ y = 0 by omega), Bool.and_false]; rfl
      · rw [decide_eq_false h0]; rfl
    refine ⟨he, ?_, ?_⟩
    · rw [loadG, he, hx, hy]
      by_cases h : y < x <;> simp [h]
    · rw [loadL, he, hx, hy]
      by_cases h : y < x
      · simp [h, hxl h]
      · simp [h, hyl (by omega)]
  · have hs : slot gen = 1 := by unfold slot; omega
    have hs1 : slot (gen + 1) = 0 := by unfold slot; omega
    have hm1 : (gen + 1) % 2 = 0 := by omega
    rw [hs, hm] at hx hxl
    rw [hs1, hm1] at hy hyl
    have he : loadE A = 0 := by
      rw [he0, hx, hy]
      by_cases h0 : x = 0
      · rw [decide_eq_false (show ¬ y = 0 by omega), Bool.false_and]; rfl
      · rw [decide_eq_false h0, Bool.and_false]; rfl
    refine ⟨he, ?_, ?_⟩
    · rw [loadG, he, hx, hy]
      by_cases h : y < x
      · simp [h, show ¬ x < y by omega]
      · simp [h, show x < y by omega]
    · rw [loadL, he, hx, hy]
      by_cases h : y < x
      · simp [h, show ¬ x < y by omega, hxl h]
      · simp [h, show x < y by omega, hyl (by omega)]

theorem loosed_at {B : List Byt} {k : Nat} {b : Byt} {left : Int} {on : Bool} (hk : k < B.length) (j : Nat) : at' (loosed B k b left on) j = if j = k then b else B.getD j zeros := by
  unfold at' loosed
  simp only [List.getD_eq_getElem?_getD, List.getElem?_modify, List.getElem?_map]
  by_cases hj : j = k
  · subst hj
    rw [List.getElem?_eq_getElem hk]
    simp [stands]
  · rw [if_neg hj]
    cases B[j]? with
    | none => rfl
    | some x => simp [Ne.symm hj, stands]
theorem loosed_len {B : List Byt} {k : Nat} {b : Byt} {left : Int} {on : Bool} : (loosed B k b left on).B.length = B.length := by simp [loosed]

def spB1 (gen : Nat) (one : Byt) : List Byt := [zeros, zeros].set (gen % 2) (rootB gen one)
def spB2 (gen : Nat) (one two : Byt) : List Byt := (spB1 gen one).set ((gen + 1) % 2) (rootB (gen + 1) two)
theorem spB2_len (gen : Nat) (one two : Byt) : (spB2 gen one two).length = 2 := by simp [spB2, spB1]
theorem spB2_new (gen : Nat) (one two : Byt) : (spB2 gen one two).getD ((gen + 1) % 2) zeros = rootB (gen + 1) two := by
  rw [spB2, List.getD_eq_getElem?_getD, List.getElem?_set_self (by simp [spB1]; omega)]; rfl
theorem spB2_old (gen : Nat) (one two : Byt) : (spB2 gen one two).getD (gen % 2) zeros = rootB gen one := by
  rw [spB2, List.getD_eq_getElem?_getD, List.getElem?_set_ne (by omega), spB1, List.getElem?_set_self (by simp; omega)]; rfl
theorem turned_gen {gen : Nat} {body : Byt} (hb : body.length ≤ 480) (h1 : 1 ≤ gen) (hg : gen ≤ 4611686018427387904) {f by' : Nat} (hf : f + 32 ≤ 4096) (hby : by' < 4294967296) :
    (by' = 0 → turnB (rootB gen body) f by' 32 = rootB gen body) ∧ (by' ≠ 0 → rootG (slot gen) (turnB (rootB gen body) f by' 32) = 0) :=
  ⟨fun h => by rw [h, turn_none], fun h => rootG_spoilt (turned_wrong (rootB_len gen hb) (right_seal 1 (root_len gen hb)) hf hby h)⟩

theorem spoilt_load {gen : Nat} {one two : Byt} (h1 : one.length ≤ 480) (h2 : two.length ≤ 480) (hg1 : 1 ≤ gen) (hg2 : gen + 1 ≤ 4611686018427387904) (older : Bool) {f by' : Nat} (hf : f + 32 ≤ 4096) (hby : by' < 4294967296) {A : Dev}
    (hA : A = loosed (spB2 gen one two) ((if older then gen else gen + 1) % 2) (turnB (rootB (if older then gen else gen + 1) (if older then one else two)) f by' 32) (-1) true) :
    loadE A = 0 ∧ loadG A = (if (!older && !decide (by' = 0)) then gen else gen + 1) ∧ loadL A = (if (!older && !decide (by' = 0)) then one else two) := by
  have hlen := spB2_len gen one two
  have ho : A.on = true := by rw [hA]; rfl
  have hl : 2 ≤ A.B.length := by rw [hA, loosed_len, hlen]; exact Nat.le_refl _
  have hgn := rootG_root h2 (show 1 ≤ gen + 1 by omega) hg2
  have hgo := rootG_root h1 hg1 (by omega)
  have hLn := rootL_root h2 (show 1 ≤ gen + 1 by omega) hg2
  have hLo := rootL_root h1 hg1 (by omega)
  have hat : ∀ j, at' A j = if j = (if older then gen else gen + 1) % 2 then turnB (rootB (if older then gen else gen + 1) (if older then one else two)) f by' 32 else (spB2 gen one two).getD j zeros := fun j => by
    rw [hA]; exact loosed_at (by rw [hlen]; omega) j
  cases older
  · have ha1 : at' A ((gen + 1) % 2) = turnB (rootB (gen + 1) two) f by' 32 := by rw [hat]; exact if_pos rfl
    have ha0 : at' A (gen % 2) = rootB gen one := by rw [hat, ← spB2_old gen one two]; exact if_neg (by show ¬ gen % 2 = (gen + 1) % 2; omega)
    obtain ⟨hz, hn⟩ := turned_gen h2 (show 1 ≤ gen + 1 by omega) hg2 hf hby
    by_cases h0 : by' = 0
    · have := load_pair (x := gen) (y := gen + 1) (l := one) (m := two) ho hl (by rw [ha0]; exact hgo) (by rw [ha1, hz h0]; exact hgn) (by omega) (fun h => by omega) (fun _ => by rw [ha1, hz h0]; exact hLn)
      rw [if_neg (by omega), if_neg (by omega)] at this
      subst h0
      exact this
    · have := load_pair (x := gen) (y := 0) (l := one) (m := two) ho hl (by rw [ha0]; exact hgo) (by rw [ha1]; exact hn h0) (by omega) (fun _ => by rw [ha0]; exact hLo) (fun h => by omega)
      rw [if_pos (by omega), if_pos (by omega)] at this
      rw [decide_eq_false h0]
      exact this
  · have ha0 : at' A (gen % 2) = turnB (rootB gen one) f by' 32 := by rw [hat]; exact if_pos rfl
    have ha1 : at' A ((gen + 1) % 2) = rootB (gen + 1) two := by rw [hat, ← spB2_new gen one two]; exact if_neg (by show ¬ (gen + 1) % 2 = gen % 2; omega)
    obtain ⟨hz, hn⟩ := turned_gen h1 hg1 (by omega) hf hby
    have hlt : rootG (slot gen) (at' A (gen % 2)) < gen + 1 := by
      rw [ha0]
      by_cases h0 : by' = 0
      · rw [hz h0, hgo]; omega
      · rw [hn h0]; omega
    have := load_pair (y := gen + 1) (l := one) (m := two) ho hl rfl (by rw [ha1]; exact hgn) (by omega) (fun h => by omega) (fun _ => by rw [ha1]; exact hLn)
    rw [if_neg (by omega), if_neg (by omega)] at this
    exact this

theorem own_write {w0 w : World} {bd : Nat} {A : Dev} {F : Nat → Prop} (O : Own w0 w bd A F) (k : Int) (a : Option Addr) (c n : Nat) (l : Byt) (X : Rdx w F a l) (hn : l.length = n) (hm : n ≤ 140737488351232) {mx : Nat} (hfew : Few A mx) (hmx : mx ≤ 1000000000000) :
    Ret Tryd.prog 15 #[ptr bd, .int .i64 k, .slice a n c] w fun v w' => v = .int .i64 (writeE A k l) ∧ ∃ F', Own w0 w' bd (writeD A k l) F' ∧ Grown F F' w w' :=
  (dwrite_ok k a c n l X.1 hn hm X.2 hfew hmx O.dev).mono fun _ _ ⟨hv, hd, ht⟩ => ⟨hv, _, O.grow hd ht⟩
theorem Own.other {w0 w w' : World} {bd : Nat} {A : Dev} {F : Nat → Prop} (O : Own w0 w bd A F) {b : Nat} (hx : Ext [b] w w') (hb : w0.heap.size ≤ b) (hn : ¬ F b) : Own w0 w' bd A F :=
  ⟨O.ext.then hx fun x h => .inr (by rw [List.mem_singleton.1 h]; exact hb), O.dev.keep hx fun x h => by rw [List.mem_singleton.1 h]; exact hn, fun x h => by have := O.own x h; have := hx.size; omega⟩
theorem bit_dec (b i : Nat) : decide (((b / 2 ^ i &&& 1 : Nat) : Int) = 1) = b.testBit i := by
  rw [Nat.testBit_eq_decide_div_mod_eq, Nat.and_one_is_mod, Bool.eq_iff_iff]
  simp only [decide_eq_true_eq]
  omega

end Go.Proofs.YtkmbcpgnafmnpaaDoor

/- ShadowSpoilt: the walk. -/
namespace Go.Proofs.YtkmbcpgnafmnpaaDoor
open Go.GV
theorem ca_11_StB3 : callable Tryd.prog 11 = true := by kernel_rfl
theorem ca_12_StB3 : callable Tryd.prog 12 = true := by kernel_rfl
theorem ca_13_StB3 : callable Tryd.prog 13 = true := by kernel_rfl
theorem ca_14_StB3 : callable Tryd.prog 14 = true := by kernel_rfl
theorem ca_15_StB3 : callable Tryd.prog 15 = true := by kernel_rfl
theorem ca_16_StB3 : callable Tryd.prog 16 = true := by kernel_rfl
theorem un_24_StB3 : Tryd.prog.underlying 24 = some (.int .u16) := by kernel_rfl
attribute [local irreducible] Wops W Wq Wt

theorem flat8 (l : Byt) : l.flatMap B8 = l.map bv := by
  induction l with
  | nil => rfl
  | cons x l ih => rw [List.flatMap_cons, ih]; rfl

set_option maxRecDepth 20000 in
set_option maxHeartbeats 4000000 in
theorem spoilt_ok (gen : Nat) (hgen : gen < 18446744073709551616) (a1 a2 : Option Addr) (c1 c2 : Nat) (one two : Byt) (older : Bool) (at0' by' : Nat) (hat : at0' < 65536) (hby : by' < 4294967296) (w : World) (R1 : Rd w a1 1 B8 one) (R2 : Rd w a2 1 B8 two) :
    Ret Tryd.prog 3 #[.int .u64 (gen : Int), .slice a1 one.length c1, .slice a2 two.length c2, .bool older, .int .u16 (at0' : Int), .int .u32 (by' : Int)] w fun v w' => v = .bool true ∧ Ext [] w w' := by
  obtain ⟨w0, rfl⟩ : ∃ w0, w0 = w := ⟨_, rfl⟩
  refine ret_of_W (fn := Tryd.f3) Tryd.func3 rfl [.int .u64 (gen : Int), .slice a1 one.length c1, .slice a2 two.length c2, .bool older, .int .u16 (at0' : Int), .int .u32 (by' : Int)] rfl (by kernel_rfl) ?_
  refine W_rseq ?_
  refine op_assign rfl (.bool _) rfl ?_
  refine op_nil (at_then ?_)
  refine W_seq ?_
  refine W_rseq (Wops_join (α := Unit) 2198989701120 (fun _ => [(40, .bool (decide (480 < one.length) || (decide (480 < two.length) || (decide (gen < 1) || decide (2305843009213693952 < gen)))))]) (fun _ w' => w0 = w') rfl ?_ ?_)
  · refine op_move rfl (.slice _ _ _) rfl ?_
    refine op_len rfl el_23 rfl ?_
    refine op_gtr rfl rfl rfl ?_
    refine op_move rfl (.bool _) rfl ?_
    refine Wops_split 28 rfl ?_ ?_
    · intro h1
      replace h1 := dec_t h1
      refine op_skip rfl ?_
      refine op_skip rfl ?_
      refine op_skip rfl ?_
      refine op_pick1 rfl rfl (.bool _) rfl ?_
      refine op_move rfl (.bool _) rfl ?_
      refine op_skip rfl ?_
      refine op_skip rfl ?_
      refine op_pick1 rfl rfl (.bool _) rfl ?_
      refine op_move rfl (.bool _) rfl ?_
      refine op_skip rfl ?_
      refine op_skip rfl ?_
      refine op_pick1 rfl rfl (.bool _) rfl ?_
      refine op_nil ?_
      exact ⟨rfl, (), rfl, ⟨congrArg Value.bool (by rw [Bool.eq_iff_iff]; simp_all; try omega), trivial⟩, rfl⟩
    · intro h2
      replace h2 := dec_f h2
      refine op_move rfl (.slice _ _ _) rfl ?_
      refine op_len rfl el_23 rfl ?_
      refine op_gtr rfl rfl rfl ?_
      refine op_pick0 rfl rfl (.bool _) rfl ?_
      refine op_move rfl (.bool _) rfl ?_
      refine Wops_split 33 rfl ?_ ?_
      · intro h3
        replace h3 := dec_t h3
        refine op_skip rfl ?_
        refine op_skip rfl ?_
        refine op_pick1 rfl rfl (.bool _) rfl ?_
        refine op_move rfl (.bool _) rfl ?_
        refine op_skip rfl ?_
        refine op_skip rfl ?_
        refine op_pick1 rfl rfl (.bool _) rfl ?_
        refine op_nil ?_
        exact ⟨rfl, (), rfl, ⟨congrArg Value.bool (by rw [Bool.eq_iff_iff]; simp_all; try omega), trivial⟩, rfl⟩
      · intro h4
        replace h4 := dec_f h4
        refine op_move rfl (.int _ _) rfl ?_
        refine op_lss rfl rfl rfl ?_
        refine op_pick0 rfl rfl (.bool _) rfl ?_
        refine op_move rfl (.bool _) rfl ?_
        refine Wops_split 37 rfl ?_ ?_
        · intro h5
          replace h5 := dec_t h5
          refine op_skip rfl ?_
          refine op_skip rfl ?_
          refine op_pick1 rfl rfl (.bool _) rfl ?_
          refine op_nil ?_
          exact ⟨rfl, (), rfl, ⟨congrArg Value.bool (by rw [Bool.eq_iff_iff]; simp_all; try omega), trivial⟩, rfl⟩
        · intro h6
          replace h6 := dec_f h6
          refine op_move rfl (.int _ _) rfl ?_
          refine op_gtr rfl rfl rfl ?_
          refine op_pick0 rfl rfl (.bool _) rfl ?_
          refine op_nil ?_
          exact ⟨rfl, (), rfl, ⟨congrArg Value.bool (by rw [Bool.eq_iff_iff]; simp_all; try omega), trivial⟩, rfl⟩
  rintro - j40 w rfl
  refine W_cond _ rfl ?_ ?_
  · intro h1
    refine W_rseq ?_
    refine op_call rfl ca_11_StB3 (works_ok _) rfl ?_
    rintro v w ⟨rfl, hx⟩
    refine op_assign rfl (.bool _) rfl ?_
    refine op_nil (at_then ?_)
    refine W_ret (ret_then (leave1 (v := (.bool _)) rfl rfl rfl ?_))
    exact ⟨rfl, hx⟩
  · intro h1
    simp only [Bool.or_eq_false_iff, decide_eq_false_iff_not] at h1
    have hl1 : one.length ≤ 480 := by omega
    have hl2 : two.length ≤ 480 := by omega
    have hg1 : 1 ≤ gen := by omega
    have hg2 : gen + 1 ≤ 4611686018427387904 := by omega
    have hs1 := save_calm (B := [zeros, zeros]) (left := -1) (gen := gen) (body := one) (by decide) hg1 (by omega) hl1 (by decide)
    have hs2 := save_calm (B := spB1 gen one) (left := -1) (gen := gen + 1) (body := two) (by simp [spB1]) (by omega) hg2 hl2 (by decide)
    have e1 : saveE (calm [zeros, zeros] (-1)) gen one = 0 := hs1.1
    have d1 : saveD (calm [zeros, zeros] (-1)) gen one = calm (spB1 gen one) (-1) := hs1.2
    have e2 : saveE (calm (spB1 gen one) (-1)) (gen + 1) two = 0 := hs2.1
    have d2 : saveD (calm (spB1 gen one) (-1)) (gen + 1) two = calm (spB2 gen one two) (-1) := hs2.2
    clear hs1 hs2
    have hlen := spB2_len gen one two
    obtain ⟨g, hg⟩ : ∃ g, g = if older then gen else gen + 1 := ⟨_, rfl⟩
    obtain ⟨bd', hbd⟩ : ∃ b, b = if older then one else two := ⟨_, rfl⟩
    have hgr : 1 ≤ g ∧ g ≤ 4611686018427387904 := by rw [hg]; split <;> omega
    have hbl : bd'.length ≤ 480 := by rw [hbd]; split <;> assumption
    have hrb : (spB2 gen one two).getD (g % 2) zeros = rootB g bd' := by
      rw [hg, hbd]
      cases older
      · exact spB2_new gen one two
      · exact spB2_old gen one two
    refine W_skip (at_then ?_)
    refine W_rseq ?_
    refine op_call rfl ca_12_StB3 (own_new (by decide) (by decide) _) rfl ?_
    rintro v w ⟨bd, F, rfl, O⟩
    replace O : Own w0 w bd (calm [zeros, zeros] (-1)) F := O
    refine op_move rfl (.tuple _) rfl ?_
    refine op_extract rfl rfl rfl ?_
    refine op_extract rfl rfl rfl ?_
    refine op_assign rfl (.pointer _) rfl ?_
    refine op_assign rfl (.int _ _) rfl ?_
    refine op_nil (at_then ?_)
    refine W_seq ?_
    refine W_rseq ?_
    refine op_move rfl (.int _ _) rfl ?_
    refine op_neq rfl rfl rfl ?_
    refine op_move rfl (.bool _) rfl ?_
    refine op_move rfl (.pointer _) rfl ?_
    refine op_eqlptr rfl un_27 rfl ?_
    refine op_pick0 rfl rfl (.bool _) rfl ?_
    refine op_move rfl (.bool _) rfl ?_
    refine op_move rfl (.pointer _) rfl ?_
    refine op_move rfl (.int _ _) rfl ?_
    refine op_move rfl (.slice _ _ _) rfl ?_
    refine op_call rfl ca_13_StB3 (own_save O gen hgen a1 c1 one.length one (O.old R1).1 rfl (by omega) (calm_few _ _) (by decide)) rfl ?_
    rintro v w ⟨rfl, F, O, -⟩
    rw [e1]
    rw [d1] at O
    refine op_neq rfl rfl rfl ?_
    refine op_pick0 rfl rfl (.bool _) rfl ?_
    refine op_move rfl (.bool _) rfl ?_
    refine op_move rfl (.pointer _) rfl ?_
    refine op_move rfl (.int _ _) rfl ?_
    refine op_add_u64 rfl rfl rfl (by omega) (by omega) ?_
    rw [show ((gen : Int) + 1) = ((gen + 1 : Nat) : Int) by omega]
    refine op_move rfl (.slice _ _ _) rfl ?_
    refine op_call rfl ca_13_StB3 (own_save O (gen + 1) (by omega) a2 c2 two.length two (O.old R2).1 rfl (by omega) (calm_few _ _) (by decide)) rfl ?_
    rintro v w ⟨rfl, F, O, -⟩
    rw [e2]
    rw [d2] at O
    refine op_neq rfl rfl rfl ?_
    refine op_pick0 rfl rfl (.bool _) rfl ?_
    refine op_nil (at_then ?_)
    refine W_cond0 rfl ?_
    refine W_skip (at_then ?_)
    refine W_rseq ?_
    refine op_move rfl (.int _ _) rfl ?_
    refine op_add_u64 rfl rfl rfl (by omega) (by omega) ?_
    rw [show ((gen : Int) + 1) = ((gen + 1 : Nat) : Int) by omega]
    refine op_rem rfl rfl rfl (by omega) (by omega) ?_
    rw [show ((gen + 1 : Nat) : Int) % 2 = slot (gen + 1) from by unfold slot; omega]
    refine op_conv_i64 rfl rfl un_22 un_3 (by unfold slot; omega) (by unfold slot; omega) ?_
    refine op_assign rfl (.int _ _) rfl ?_
    refine op_nil (at_then ?_)
    refine W_seq ?_
    refine W_rseq ?_
    refine op_move rfl (.bool _) rfl ?_
    refine op_nil (at_then ?_)
    refine W_joinK 33056565380087516528640 (α := Unit) (fun _ => [(15, .int .i64 (slot g))]) (fun _ w' => w' = w) rfl ?_ ?_
    · skip
      refine W_cond _ rfl ?_ ?_
      · intro h2
        refine W_region ?_
        refine op_move rfl (.int _ _) rfl ?_
        refine op_rem rfl rfl rfl (by omega) (by omega) ?_
        rw [show (gen : Int) % 2 = slot gen from by unfold slot; omega]
        refine op_conv_i64 rfl rfl un_22 un_3 (by unfold slot; omega) (by unfold slot; omega) ?_
        refine op_assign rfl (.int _ _) rfl ?_
        refine op_nil (at_then ?_)
        exact ⟨(), rfl, ⟨congrArg (Value.int .i64) (by rw [hg, if_pos h2]), trivial⟩, rfl⟩
      · intro h2
        refine W_skip (at_then ?_)
        exact ⟨(), rfl, ⟨congrArg (Value.int .i64) (by rw [hg, h2]; rfl), trivial⟩, rfl⟩
    · rintro - j15 w' rfl
      have hrE : readE (calm (spB2 gen one two) (-1)) (slot g) = 0 := by
        unfold readE; rw [calm_has g (by omega)]; rfl
      have hrB : readB (calm (spB2 gen one two) (-1)) (slot g) = rootB g bd' := by
        unfold readB
        rw [hrE, slot_nat, ← hrb, ← calm_at _ (-1)]; rfl
      have h5 := rootB_len g hbl
      refine W_rseq ?_
      refine op_move rfl (.pointer _) rfl ?_
      refine op_move rfl (.int _ _) rfl ?_
      refine op_call rfl ca_14_StB3 (dread_ok (slot g) (calm_few _ _) (by decide) O.dev) rfl ?_
      rintro v w ⟨s, rfl, F78⟩
      rw [hrB] at F78
      rw [hrE]
      obtain ⟨a78, n78, c78, full78, rfl, O78, hb78⟩ := F78.ex
      obtain rfl : n78 = 512 := by have h9 := O78.llen; rw [List.length_map] at h9; omega
      refine op_move rfl (.tuple _) rfl ?_
      refine op_extract rfl rfl rfl ?_
      refine op_extract rfl rfl rfl ?_
      refine op_assign rfl (.slice _ _ _) rfl ?_
      refine op_assign rfl (.int _ _) rfl ?_
      refine op_nil (at_then ?_)
      refine W_seq ?_
      refine W_rseq ?_
      refine op_move rfl (.int _ _) rfl ?_
      refine op_neq rfl rfl rfl ?_
      refine op_move rfl (.bool _) rfl ?_
      refine op_move rfl (.slice _ _ _) rfl ?_
      refine op_len rfl el_23 rfl ?_
      refine op_neq rfl rfl rfl ?_
      refine op_pick0 rfl rfl (.bool _) rfl ?_
      refine op_nil (at_then ?_)
      refine W_cond0 rfl ?_
      refine W_skip (at_then ?_)
      refine W_rseq ?_
      refine op_move rfl (.int _ _) rfl ?_
      refine op_conv_i64 rfl rfl un_24_StB3 un_3 (by omega) (by omega) ?_
      refine op_move rfl (.slice _ _ _) rfl ?_
      refine op_len rfl el_23 rfl ?_
      refine op_mul_i64 rfl rfl rfl (by omega) (by omega) ?_
      refine op_sub_i64 rfl rfl rfl (by omega) (by omega) ?_
      refine op_rem rfl rfl rfl (by omega) (by omega) ?_
      rw [show ((at0' : Int) % ((8 : Int) * ((512 : Nat) : Int) - 31)) = ((at0' % 4065 : Nat) : Int) by omega]
      refine op_assign rfl (.int _ _) rfl ?_
      refine op_nil (at_then ?_)
      refine W_seq ?_
      refine W_rseq ?_
      refine op_assign rfl (.int _ _) rfl ?_
      refine op_nil (at_then ?_)
      refine W_block ?_
      obtain ⟨b, hb⟩ := O78.form (by decide)
      subst hb
      obtain ⟨hbb, hbn⟩ := hb78 _ (List.mem_singleton.2 rfl)
      have hbn : w'.heap.size ≤ b := hbn
      have hbb : w.heap[b]? = some (Bl 5 full78) := hbb
      have hlb := heap_lt hbb
      have O0 := O
      replace O := O.call F78.ext
      have hnF : ¬ F b := fun h => by have h7 := O0.own _ h; omega
      have hw0 : w0.heap.size ≤ b := Nat.le_trans O0.ext.size hbn
      obtain ⟨f, hf⟩ : ∃ f, f = at0' % 4065 := ⟨_, rfl⟩
      have hf2 : f + 32 ≤ 4096 := by omega
      rw [← hf]
      have hc78 := O78.le
      have hfl := O78.len
      rw [Nat.mul_one] at hfl
      refine W_loop 1329227956170834615771638263508893696 (α := Nat × List Value) (fun s => [(19, .int .i64 s.1)]) (fun s w' => s.1 ≤ 32 ∧ Ctx w [b] w' [(b, Bl 5 s.2)] ∧ s.2.take 512 = (turnB (rootB g bd') f by' s.1).map bv ∧ s.2.length = c78) (fun s => 32 - s.1) (0, full78) rfl ?_ ?_ ?_
      · exact ⟨rfl, trivial⟩
      · exact ⟨Nat.zero_le _, Ctx.start1 hbb, by have h9 := O78.pre; rwa [Nat.mul_one] at h9, hfl⟩
      · rintro ⟨i, full⟩ j w' ⟨hi, H, hT, hlf⟩; dsimp only at hi H hT hlf; dsimp only
        have htl := turnB_len (rootB g bd') f by' i
        refine W_seq ?_
        refine W_rseq ?_
        refine op_move rfl (.int _ _) rfl ?_
        refine op_lss rfl rfl rfl ?_
        refine op_nil (at_then ?_)
        refine W_cond _ rfl ?_ ?_
        · intro h3
          replace h3 := dec_t h3
          have hq : (f + i) / 8 < 512 := by omega
          have hk8 : (f + i) % 8 < 8 := Nat.mod_lt _ (by decide)
          obtain ⟨y, hy⟩ := get_some (l := turnB (rootB g bd') f by' i) (i := (f + i) / 8) (by omega)
          have hfy : full[(f + i) / 8]? = some (bv y) := by
            have h1 : (full.take 512)[(f + i) / 8]? = some (bv y) := by rw [hT, List.getElem?_map, hy]; rfl
            rwa [List.getElem?_take, if_pos hq] at h1
          have hyl := y.toNat_lt
          have hml := (UInt8.ofNat (2 ^ ((f + i) % 8))).toNat_lt
          have hnx : turnB (rootB g bd') f by' (i + 1) = if by'.testBit i then (turnB (rootB g bd') f by' i).modify ((f + i) / 8) (fun x => x ^^^ UInt8.ofNat (2 ^ ((f + i) % 8))) else turnB (rootB g bd') f by' i := rfl
          refine W_skip (at_then ?_)
          refine W_seq ?_
          refine W_block ?_
          refine W_rseq ?_
          refine op_move rfl (.int _ _) rfl ?_
          refine op_move rfl (.int _ _) rfl ?_
          refine op_conv_u64 rfl rfl un_3 un_34 (by omega) (by omega) ?_
          refine op_shr_u32 rfl rfl rfl (by omega) ?_
          refine op_and_u32 (a := by' / 2 ^ i) (b := 1) rfl rfl rfl (Nat.lt_of_le_of_lt (Nat.div_le_self _ _) (by omega)) (by decide) ?_
          refine op_eql rfl rfl rfl ?_
          rw [bit_dec]
          refine op_nil (at_then ?_)
          refine W_cond _ rfl ?_ ?_
          · intro h4
            rw [if_pos (by simpa using h4)] at hnx
            refine W_region ?_
            refine op_move rfl (.slice _ _ _) rfl ?_
            refine op_move rfl (.int _ _) rfl ?_
            refine op_move rfl (.int _ _) rfl ?_
            refine op_add_i64 rfl rfl rfl (by omega) (by omega) ?_
            refine op_quo rfl rfl rfl (by omega) (by omega) (show _ ≤ (9223372036854775807 : Int) by omega) ?_
            rw [show (((f : Int) + (i : Int)) / 8) = (((f + i) / 8 : Nat) : Int) by omega]
            refine op_indexAddr rfl el_23 sz_5 rfl rfl (by omega) (by omega) ?_
            first | refine op_ldb rfl ag_5 rfl H (by first | exact at0 | exact at1 | exact at2 | exact at3 | exact at4 | exact at5 | exact at6 | exact at7 | exact at8 | exact at9) rfl ?_ | refine op_ld rfl ag_5 rfl ((cell_bl (H.get at0) (0 + ((f + i) / 8) * 1)).trans (by rw [Nat.zero_add, Nat.mul_one]; exact hfy)) ?_
            refine op_move rfl (.int _ _) rfl ?_
            refine op_move rfl (.int _ _) rfl ?_
            refine op_add_i64 rfl rfl rfl (by omega) (by omega) ?_
            refine op_rem rfl rfl rfl (by omega) (by omega) ?_
            rw [show (((f : Int) + (i : Int)) % 8) = (((f + i) % 8 : Nat) : Int) by omega]
            refine op_conv_u64 rfl rfl un_3 un_34 (by omega) (by omega) ?_
            refine op_shl_u8 (a := 1) rfl rfl rfl (by omega) ?_
            rw [Nat.one_mul, ofNat_val]
            refine op_xor_u8 (a := y.toNat) (b := (UInt8.ofNat (2 ^ ((f + i) % 8))).toNat) rfl rfl rfl (by omega) (by omega) ?_
            rw [bv_xor]
            refine op_indexAddr rfl el_23 sz_5 rfl rfl (by omega) (by omega) ?_
            refine op_stb (.int _ _) rfl sz_5 rfl rfl rfl H (by first | exact at0 | exact at1 | exact at2 | exact at3 | exact at4 | exact at5 | exact at6 | exact at7 | exact at8 | exact at9) (by first | decide | (simp; done) | (simp; omega)) ?_
            rintro w H
            refine op_nil (at_block (at_then ?_))
            refine W_region ?_
            refine op_move rfl (.int _ _) rfl ?_
            refine op_add_i64 rfl rfl rfl (by omega) (by omega) ?_
            refine op_assign rfl (.int _ _) rfl ?_
            refine op_nil (at_then ?_)
            refine ⟨(i + 1, _), rfl, ⟨rfl, trivial⟩, ⟨by dsimp only; omega, H, ?_, by dsimp only; rw [List.length_set]; exact hlf⟩, by dsimp only; omega⟩
            dsimp only
            rw [Nat.zero_add, Nat.mul_one, List.take_set, hT]
            exact (set_map _ _ _).trans (by rw [hnx, modify_set hy, Int.toNat_natCast])
          · intro h4
            rw [if_neg (by simpa using h4)] at hnx
            refine W_skip (at_block (at_then ?_))
            refine W_region ?_
            refine op_move rfl (.int _ _) rfl ?_
            refine op_add_i64 rfl rfl rfl (by omega) (by omega) ?_
            refine op_assign rfl (.int _ _) rfl ?_
            refine op_nil (at_then ?_)
            exact ⟨(i + 1, full), rfl, ⟨rfl, trivial⟩, ⟨by dsimp only; omega, H, by dsimp only; rw [hnx]; exact hT, hlf⟩, by dsimp only; omega⟩
        · intro h3
          replace h3 := dec_f h3
          have hi32 : i = 32 := by omega
          subst hi32
          replace O := O.other H.ext hw0 hnF
          have hbw := H.get at0
          have RT : Rdx w' F (some ⟨b, 0, none⟩) (turnB (rootB g bd') f by' 32) := ⟨Rd.of_bl hbw (r := full.drop 512) (by
            rw [show (turnB (rootB g bd') f by' 32).flatMap B8 = (turnB (rootB g bd') f by' 32).map bv from flat8 _, ← hT, List.take_append_drop]) (fun _ _ => rfl), .inr hnF⟩
          have hwc := write_calm (B := spB2 gen one two) (left := -1) g (b := turnB (rootB g bd') f by' 32) (by omega) (by rw [htl, h5])
          have hwE : writeE (calm (spB2 gen one two) (-1)) (slot g) (turnB (rootB g bd') f by' 32) = 0 := hwc.1
          have hwD : writeD (calm (spB2 gen one two) (-1)) (slot g) (turnB (rootB g bd') f by' 32) = loosed (spB2 gen one two) (g % 2) (turnB (rootB g bd') f by' 32) (-1) true := hwc.2
          obtain ⟨hE, hG, hL⟩ := spoilt_load hl1 hl2 hg1 hg2 older hf2 hby (A := loosed (spB2 gen one two) (g % 2) (turnB (rootB g bd') f by' 32) (-1) true) (by rw [hg, hbd])
          refine W_exit (exit_then (exit_then (exit_here (at_then ?_))))
          refine W_seq ?_
          refine W_rseq ?_
          refine op_move rfl (.pointer _) rfl ?_
          refine op_move rfl (.int _ _) rfl ?_
          refine op_move rfl (.slice _ _ _) rfl ?_
          refine op_call rfl ca_15_StB3 (own_write O (slot g) _ c78 512 _ RT (by rw [htl, h5]) (by decide) (calm_few _ _) (by decide)) rfl ?_
          rintro v w ⟨rfl, F2, O, -⟩
          rw [hwE]
          rw [hwD] at O
          refine op_neq rfl rfl rfl ?_
          refine op_nil (at_then ?_)
          refine W_cond0 rfl ?_
          refine W_skip (at_then ?_)
          refine W_rseq ?_
          refine op_move rfl (.pointer _) rfl ?_
          refine op_call rfl ca_16_StB3 (own_load O (loosed_few _ _ _ _ _) (by decide)) rfl ?_
          rintro v w ⟨a127, c127, rfl, X, O, -⟩
          rw [hE, hG, hL]
          rw [hL] at X
          refine op_move rfl (.tuple _) rfl ?_
          refine op_extract rfl rfl rfl ?_
          refine op_extract rfl rfl rfl ?_
          refine op_extract rfl rfl rfl ?_
          refine op_assign rfl (.int _ _) rfl ?_
          refine op_assign rfl (.slice _ _ _) rfl ?_
          refine op_assign rfl (.int _ _) rfl ?_
          refine op_nil (at_then ?_)
          refine W_rseq ?_
          refine op_move rfl (.int _ _) rfl ?_
          refine op_add_u64 rfl rfl rfl (by omega) (by omega) ?_
          rw [show ((gen : Int) + 1) = ((gen + 1 : Nat) : Int) by omega]
          refine op_move rfl (.slice _ _ _) rfl ?_
          refine op_assign rfl (.int _ _) rfl ?_
          refine op_assign rfl (.slice _ _ _) rfl ?_
          refine op_nil (at_then ?_)
          refine W_seq ?_
          refine W_rseq (Wops_join (α := Unit) 1372018503425223884684326417164889428590592 (fun _ => [(139, .bool ((!older && !decide (by' = 0))))]) (fun _ w' => w = w') rfl ?_ ?_)
          · refine op_move rfl (.bool _) rfl ?_
            refine op_not rfl rfl ?_
            refine op_move rfl (.bool _) rfl ?_
            refine Wops_split 136 rfl ?_ ?_
            · intro h7
              replace h7 := nvar_t h7
              refine op_move rfl (.int _ _) rfl ?_
              refine op_neq rfl rfl rfl ?_
              refine op_pick1 rfl rfl (.bool _) rfl ?_
              refine op_nil ?_
              exact ⟨rfl, (), rfl, ⟨congrArg Value.bool (by rw [Bool.eq_iff_iff]; simp_all; try omega), trivial⟩, rfl⟩
            · intro h8
              replace h8 := nvar_f h8
              refine op_skip rfl ?_
              refine op_skip rfl ?_
              refine op_pick0 rfl rfl (.bool _) rfl ?_
              refine op_nil ?_
              exact ⟨rfl, (), rfl, ⟨congrArg Value.bool (by rw [Bool.eq_iff_iff]; simp_all; try omega), trivial⟩, rfl⟩
          rintro - j139 w rfl
          refine W_cond _ rfl ?_ ?_
          · intro h6
            rw [if_pos h6] at X ⊢
            rw [if_pos h6]
            refine W_region ?_
            refine op_move rfl (.int _ _) rfl ?_
            refine op_move rfl (.slice _ _ _) rfl ?_
            refine op_assign rfl (.int _ _) rfl ?_
            refine op_assign rfl (.slice _ _ _) rfl ?_
            refine op_nil (at_then ?_)
            refine W_rseq ?_
            refine op_move rfl (.int _ _) rfl ?_
            refine op_eql rfl rfl rfl ?_
            refine op_move rfl (.bool _) rfl ?_
            refine op_move rfl (.int _ _) rfl ?_
            refine op_move rfl (.int _ _) rfl ?_
            refine op_eql rfl rfl rfl ?_
            rw [show decide ((gen : Int) = (gen : Int)) = true from decide_eq_true rfl]
            refine op_pick1 rfl rfl (.bool _) rfl ?_
            refine op_move rfl (.bool _) rfl ?_
            refine op_move rfl (.slice _ _ _) rfl ?_
            refine op_back (l := one) rfl el_23 un_5 un_9 rfl X.1 ?_
            refine op_move rfl (.slice _ _ _) rfl ?_
            refine op_back (l := one) rfl el_23 un_5 un_9 rfl (O.old R1).1 ?_
            refine op_streq (l := one) (m := one) rfl rfl rfl ?_
            rw [show decide (one = one) = true from decide_eq_true rfl]
            refine op_pick1 rfl rfl (.bool _) rfl ?_
            refine op_move rfl (.bool _) rfl ?_
            refine op_call rfl ca_11_StB3 (works_ok _) rfl ?_
            rintro v w ⟨rfl, hx⟩
            refine op_pick1 rfl rfl (.bool _) rfl ?_
            refine op_assign rfl (.bool _) rfl ?_
            refine op_nil (at_then ?_)
            refine W_ret (leave1 (v := (.bool _)) rfl rfl rfl ?_)
            exact ⟨rfl, O.ext.trans hx⟩
          · intro h6
            rw [if_neg (by rw [h6]; decide)] at X ⊢
            rw [if_neg (by rw [h6]; decide)]
            refine W_skip (at_then ?_)
            refine W_rseq ?_
            refine op_move rfl (.int _ _) rfl ?_
            refine op_eql rfl rfl rfl ?_
            refine op_move rfl (.bool _) rfl ?_
            refine op_move rfl (.int _ _) rfl ?_
            refine op_move rfl (.int _ _) rfl ?_
            refine op_eql rfl rfl rfl ?_
            rw [show decide (((gen + 1 : Nat) : Int) = ((gen + 1 : Nat) : Int)) = true from decide_eq_true rfl]
            refine op_pick1 rfl rfl (.bool _) rfl ?_
            refine op_move rfl (.bool _) rfl ?_
            refine op_move rfl (.slice _ _ _) rfl ?_
            refine op_back (l := two) rfl el_23 un_5 un_9 rfl X.1 ?_
            refine op_move rfl (.slice _ _ _) rfl ?_
            refine op_back (l := two) rfl el_23 un_5 un_9 rfl (O.old R2).1 ?_
            refine op_streq (l := two) (m := two) rfl rfl rfl ?_
            rw [show decide (two = two) = true from decide_eq_true rfl]
            refine op_pick1 rfl rfl (.bool _) rfl ?_
            refine op_move rfl (.bool _) rfl ?_
            refine op_call rfl ca_11_StB3 (works_ok _) rfl ?_
            rintro v w ⟨rfl, hx⟩
            refine op_pick1 rfl rfl (.bool _) rfl ?_
            refine op_assign rfl (.bool _) rfl ?_
            refine op_nil (at_then ?_)
            refine W_ret (leave1 (v := (.bool _)) rfl rfl rfl ?_)
            exact ⟨rfl, O.ext.trans hx⟩

end Go.Proofs.YtkmbcpgnafmnpaaDoor

/- The rows of this seat: the world of the witnesses, in which the laid tables lie. -/
namespace Go.Proofs.YtkmbcpgnafmnpaaDoor
open Go.GV Go.ChangeShapes Go.WideShapes Go.ChangeAt Go.RowKit

theorem own : ownKnob Tryd.prog.godebug = none := by kernel_rfl
theorem laidOut : laidOutB Tryd.prog = true := by kernel_rfl

def rangeZ : List Nat := [128, 191, 160, 191, 128, 159, 144, 191, 128, 143] ++ List.replicate 22 0
def layO (l : List Nat) : Obj → Obj
  | .cells _ t frozen => .cells (l.map fun (n : Nat) => Value.int .u8 (n : Int)).toArray t frozen
  | o => o
/-- A world in which the tables lie (blocks 0 and 1). -/
noncomputable def laidWorld (os : Os) : World :=
  { World.holding Tryd.prog os ⟨#[], #[], []⟩ with heap := ((World.holding Tryd.prog os ⟨#[], #[], []⟩).heap.modify 0 (layO Go.Pinned.utf8FirstZ)).modify 1 (layO rangeZ) }

theorem dec_byte {H : Type} {enc : TypeId × Value → H} {w : World} {base : Nat} {spare : Nat → Bool} {held : Bool} : ∀ n cs y, DataW.trod enc Tryd.prog w base spare held n 5 cs = some y → ∃ b : UInt8, cs = B8 b ∧ True := by
  intro n cs y h
  obtain ⟨d, rfl, h1, h2⟩ := dec_int Tryd.underlying5 n cs y h
  have h1 : (0 : Int) ≤ d := h1
  have h2 : d ≤ 255 := h2
  refine ⟨UInt8.ofNat d.toNat, ?_, trivial⟩
  have : (UInt8.ofNat d.toNat).toNat = d.toNat := by simp [UInt8.toNat_ofNat']; omega
  rw [B8, bv, this, Int.toNat_of_nonneg h1]
theorem byteCells : Tryd.prog.cellsOf 5 = 1 := by kernel_rfl

end Go.Proofs.YtkmbcpgnafmnpaaDoor

/- What the form reads of the steps of the laws of roots. -/
namespace Go.Proofs.YtkmbcpgnafmnpaaDoor
open Go.GV Go.ChangeShapes Go.WideShapes Go.ChangeAt Go.RowKit

theorem stepStruct : ∃ fs, Tryd.prog.underlying 47 = some (.struct fs) ∧ (List.range 7).map (fun i => fs[i]?.map fun f => (f.type, f.offset)) = [some (3, 0), some (22, 1), some (23, 2), some (3, 3), some (24, 4), some (5, 5), some (45, 6)] := ⟨_, Tryd.underlying47, by kernel_rfl⟩
theorem stepCells : Tryd.prog.cellsOf 47 = 7 := by kernel_rfl
theorem bytesCells : Tryd.prog.cellsOf 23 = 1 := by kernel_rfl
theorem intsCells : Tryd.prog.cellsOf 45 = 1 := by kernel_rfl
theorem intCells : Tryd.prog.cellsOf 3 = 1 := by kernel_rfl
theorem byteBytes : Tryd.prog.bytesOf 5 = 1 := by kernel_rfl
theorem intBytes : Tryd.prog.bytesOf 3 = 8 := by kernel_rfl

theorem nat_of {k : Int} {m : Nat} (h1 : 0 ≤ k) (h2 : k ≤ m) : ∃ n : Nat, k = n ∧ n ≤ m := ⟨k.toNat, by omega, by omega⟩

set_option maxRecDepth 100000 in
theorem dec_step {H : Type} {enc : TypeId × Value → H} {w : World} {base : Nat} {spare : Nat → Bool} {held : Bool} : ∀ n cs y, DataW.trod enc Tryd.prog w base spare held n 47 cs = some y → Light Tryd.prog 47 y.1 → ∃ d : Stp, cs = d.enc ∧ d.Ok w := by
  intro n cs y h hL
  obtain ⟨fs, ht, hf⟩ := stepStruct
  have hl := trod_slen ht h
  rw [stepCells] at hl
  simp only [List.range, List.range.loop, List.map_cons, List.map_nil, List.cons.injEq, and_true] at hf
  obtain ⟨f0, f1, f2, f3, f4, f5, f6⟩ := hf
  obtain ⟨a, ha, _⟩ := fld_int ht h 0 0 f0 Tryd.underlying3
  obtain ⟨b, hb, b1, b2⟩ := fld_int ht h 1 1 f1 Tryd.underlying22
  obtain ⟨ca, cc, cl, hc, cR, cle, _, cw, _⟩ := fld_slice ht h hL 2 2 f2 Tryd.underlying23 bytesCells byteCells (by decide) (fun n cs y h _ => dec_byte n cs y h)
  obtain ⟨d, hd, d1, d2⟩ := fld_int ht h 3 3 f3 Tryd.underlying3
  obtain ⟨e, he, e1, e2⟩ := fld_int ht h 4 4 f4 Tryd.underlying24
  obtain ⟨f, hf, g1, g2⟩ := fld_int ht h 5 5 f5 Tryd.underlying5
  obtain ⟨ga, gc, gl, hg, gR, gle, _, gw, gi⟩ := fld_slice ht h hL 6 6 f6 Tryd.underlying45 intsCells intCells (by decide) (fun n cs y h _ => dec_int Tryd.underlying3 n cs y h)
  obtain ⟨b, rfl, hb2⟩ := nat_of (m := 18446744073709551615) b1 b2
  obtain ⟨e, rfl, he2⟩ := nat_of (m := 65535) e1 e2
  obtain ⟨f, rfl, hf2⟩ := nat_of (m := 255) g1 g2
  rw [byteBytes] at cw
  rw [intBytes] at gw
  unfold reachBytes at cw gw
  refine ⟨⟨a, b, ca, cc, cl, d, e, UInt8.ofNat f, ga, gc, gl⟩, ?_, ⟨cR, gR, cle, gle, by dsimp only; omega, by dsimp only; omega, by dsimp only; omega, d1, d2, by dsimp only; omega, fun i hi => gi i hi⟩⟩
  have hff : bv (UInt8.ofNat f) = .int .u8 (f : Int) := by
    have h9 : (UInt8.ofNat f).toNat = f := by rw [UInt8.toNat_ofNat']; omega
    rw [bv, h9]
  match cs, hl with
  | [_, _, _, _, _, _, _], _ =>
    simp at ha hb hc hd he hf hg
    simp [Stp.enc, hff, ha, hb, hc, hd, he, hf, hg]

end Go.Proofs.YtkmbcpgnafmnpaaDoor

/- ShadowSpoilt: for every input the law answers true, and turns nothing. The tables that its row lists are premises, and tied to the text by its card. -/
namespace Go.Proofs.YtkmbcpgnafmnpaaDoor.shadowSpoilt
open Go.GV Go.ChangeShapes Go.WideShapes Go.ChangeAt Go.RowKit

theorem laid_met (os : Os) : laidMet Tryd.prog Rows.shadowSpoiltRow.laid ((laidWorld os).forCall (fun _ _ => 0) ⟨#[], #[.int .u64 0, .slice none 0 0, .slice none 0 0, .bool false, .int .u16 0, .int .u32 0], []⟩).memory :=
  laidMet_of_run' 8 (by kernel_rfl) (by kernel_rfl)
theorem reads (os : Os) {H : Type} (enc : TypeId × Value → H) : ∃ ds places, DataW.whole enc Tryd.prog ((laidWorld os).forCall (fun _ _ => 0) ⟨#[], #[.int .u64 0, .slice none 0 0, .slice none 0 0, .bool false, .int .u16 0, .int .u32 0], []⟩).memory Tryd.f3.params.toList Rows.shadowSpoiltSpec.vars false (#[.int .u64 0, .slice none 0 0, .slice none 0 0, .bool false, .int .u16 0, .int .u32 0] : Array Value).toList 8 = some (ds, [], places) :=
  ⟨[.lit (.int .u64 0), .nil, .nil, .lit (.bool false), .lit (.int .u16 0), .lit (.int .u32 0)], [], by kernel_rfl⟩

set_option maxRecDepth 100000 in
theorem lifted (os : Os) (started : os.Started) (H : Type) (enc : TypeId × Value → H) (F : Stop.Interp) :
    ReturnsInHanded {} Tryd.checked os 3 .any ((OpenSpec.ofChange Rows.shadowSpoiltSpec).preRow enc Tryd.prog Tryd.f3 Rows.shadowSpoiltRow.domain false Rows.shadowSpoiltRow.laid) (((OpenSpec.ofChange Rows.shadowSpoiltSpec).at F).post enc Tryd.prog Tryd.f3 false true false false) := by
  obtain ⟨ds, places, hx⟩ := reads os enc
  refine returnsInHanded_of_row (C := Tryd.checked) (s := OpenSpec.ofChange Rows.shadowSpoiltSpec) own started (by kernel_rfl) Tryd.func3
    (witness_row_at (enc := enc) (C := Tryd.checked) false (laidWorld os) #[.int .u64 0, .slice none 0 0, .slice none 0 0, .bool false, .int .u16 0, .int .u32 0] rfl (by kernel_rfl) (by kernel_rfl) (by kernel_rfl)
      (OpenSpec.preRow_of_cond 8 hx (by kernel_rfl) (fun k hk => by cases hk) (by kernel_rfl) (laid_met os))) ?_
  intro W base args ds gs before hval0 hW _ _ hLt _ _ _
  have hval : ∀ (j : Nat) t v, Tryd.f3.params[j]? = some t → args[j]? = some v → Value.okWide Tryd.prog W .any base t v := hval0
  have hW' := hW
  obtain ⟨p, q, hA0, hV, rfl, hfz, hnd⟩ := hW
  have hA : DataW.TrodAll enc Tryd.prog W 0 (fun _ => true) true Tryd.f3.params.toList args.toList ds p := hA0
  rw [Tryd.params3] at hA hval
  obtain ⟨v0, vs0, d0, ds0, p0, q0, hargs, rfl, rfl, h0, r0⟩ := trodAll_cons hA
  obtain ⟨v1, vs1, d1, ds1, p1, q1, rfl, rfl, rfl, h1, r1⟩ := trodAll_cons r0
  obtain ⟨v2, vs2, d2, ds2, p2, q2, rfl, rfl, rfl, h2, r2⟩ := trodAll_cons r1
  obtain ⟨v3, vs3, d3, ds3, p3, q3, rfl, rfl, rfl, h3, r3⟩ := trodAll_cons r2
  obtain ⟨v4, vs4, d4, ds4, p4, q4, rfl, rfl, rfl, h4, r4⟩ := trodAll_cons r3
  obtain ⟨v5, vs5, d5, ds5, p5, q5, rfl, rfl, rfl, h5, r5⟩ := trodAll_cons r4
  obtain ⟨rfl, rfl, rfl⟩ := trodAll_nil r5
  obtain rfl : args = #[v0, v1, v2, v3, v4, v5] := by cases args; simp_all
  obtain ⟨k0, rfl, rfl, rfl, hg0⟩ := open_int Tryd.underlying22 (hval 0 _ v0 rfl rfl) h0
  obtain ⟨n0, rfl, hb0⟩ := nat_of (m := 18446744073709551615) (wf_bounds hg0).1 (wf_bounds hg0).2
  have hL1 : Light Tryd.prog 23 d1 := light_of hLt (i := 1) rfl rfl
  obtain ⟨a1, c1, l1, rfl, R1, hc1, _, hw1, _⟩ := rdw_of_T Tryd.underlying23 byteCells (by decide) (fun n cs y h _ => dec_byte n cs y h) (okWide_slice Tryd.underlying23 (hval 1 _ v1 rfl rfl)) h1 hL1
  rw [byteBytes] at hw1
  unfold reachBytes at hw1
  have hL2 : Light Tryd.prog 23 d2 := light_of hLt (i := 2) rfl rfl
  obtain ⟨a2, c2, l2, rfl, R2, hc2, _, hw2, _⟩ := rdw_of_T Tryd.underlying23 byteCells (by decide) (fun n cs y h _ => dec_byte n cs y h) (okWide_slice Tryd.underlying23 (hval 2 _ v2 rfl rfl)) h2 hL2
  rw [byteBytes] at hw2
  unfold reachBytes at hw2
  obtain ⟨k3, rfl, rfl, rfl⟩ := open_bool Tryd.underlying4 (hval 3 _ v3 rfl rfl) h3
  obtain ⟨k4, rfl, rfl, rfl, hg4⟩ := open_int Tryd.underlying24 (hval 4 _ v4 rfl rfl) h4
  obtain ⟨n4, rfl, hb4⟩ := nat_of (m := 65535) (wf_bounds hg4).1 (wf_bounds hg4).2
  obtain ⟨k5, rfl, rfl, rfl, hg5⟩ := open_int Tryd.underlying25 (hval 5 _ v5 rfl rfl) h5
  obtain ⟨n5, rfl, hb5⟩ := nat_of (m := 4294967295) (wf_bounds hg5).1 (wf_bounds hg5).2
  refine (spoilt_ok n0 (by omega) a1 a2 c1 c2 l1 l2 k3 n4 n5 (by omega) (by omega) W R1 R2).calls.mono ?_
  rintro e W' ⟨v, rfl, rfl, hx⟩
  exact ⟨_, rfl, law_post laidOut rfl (by kernel_rfl) rfl Tryd.underlying4 (fun ds h => match ds, h with | [_, _, _, _, _, _], _ => rfl) hW' hx⟩

theorem said : Rows.ShadowSpoiltSaid :=
  OpenClaim.holds_of_cond 3 Tryd.f3 rfl rfl rfl rfl rfl rfl rfl ⟨rfl, rfl, rfl, rfl, rfl⟩ rfl rfl rfl rfl rfl (by kernel_rfl) Tryd.func3 (by kernel_rfl)
    (of_decide_eq_true (by kernel_rfl)) (by unfold Func.isWrapper; first | (rw [if_pos (by decide +kernel)]; kernel_rfl) | (rw [if_neg (by decide +kernel)]; exact ⟨rfl, rfl⟩))
    (fun os started H enc _ F => by rw [OpenClaim.pre_eq_preRow]; exact lifted os started H enc F)

theorem plain (f : FuncId) (fn : Func) (hf : Tryd.pinned.checked.prog.funcNamed "gablet/gabletlaw08.ShadowSpoilt" = some f) (hfn : Tryd.pinned.checked.prog.funcs[f]? = some fn) :
    false = Tryd.pinned.checked.prog.looks [] ∧ ∀ (j : Nat) t, fn.params[j]? = some t → Tryd.pinned.checked.prog.wantsStandIn t = false := by
  obtain rfl : f = 3 := Option.some.inj ((show Tryd.prog.funcNamed "gablet/gabletlaw08.ShadowSpoilt" = some 3 by kernel_rfl).symm.trans hf) |>.symm
  obtain rfl : fn = Tryd.f3 := (Option.some.inj (Tryd.func3.symm.trans hfn)).symm
  refine ⟨by kernel_rfl, fun j t ht => ?_⟩
  rw [Tryd.params3] at ht
  have hm := Array.mem_of_getElem? ht
  exact List.all_eq_true.1 (show (Tryd.f3.params.toList.all fun t => !Tryd.prog.wantsStandIn t) = true by kernel_rfl) t (by rw [Tryd.params3]; simpa using hm) |> fun h => (Bool.not_eq_true' _).mp h

theorem card : Rows.ShadowSpoiltCardSaid :=
  Claim7.holds_tied_plain_at .later [] _ _ _ _ said (fun _ h => by cases h) (by kernel_rfl) (fun _ h => by cases h) shadowSpoilt_row_tie rfl ⟨rfl, rfl⟩ (by kernel_rfl) rfl plain (by kernel_rfl)
end Go.Proofs.YtkmbcpgnafmnpaaDoor.shadowSpoilt
namespace Go.Proofs.YtkmbcpgnafmnpaaDoor
theorem shadowSpoilt_holds : Rows.ShadowSpoiltCardSaid := shadowSpoilt.card
#print axioms shadowSpoilt_holds
end Go.Proofs.YtkmbcpgnafmnpaaDoor
