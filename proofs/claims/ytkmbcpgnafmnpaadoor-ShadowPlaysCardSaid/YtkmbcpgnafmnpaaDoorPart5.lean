/- Part 5 of the proof. The last text: ShadowPlays: for every input the law answers true, and turns nothing. The tables that its row lists are premises, and tied to the text by its card. -/
import Derived.Test.YtkmbcpgnafmnpaaDoorPart4
import Derived.Test.YtkmbcpgnafmnpaaDoorPart2
import Derived.Test.YtkmbcpgnafmnpaaDoorCards
import Derived.Test.YtkmbcpgnafmnpaaDoorTie
import Derived.WalkKit
import Derived.ProofKit
import Derived.OpenShut
import Derived.Deep.DeepHandedRow
/- The steps of the laws of roots; whether there is too much of them; a block of one's own. -/
namespace Go.Proofs.YtkmbcpgnafmnpaaDoor
open Go.GV
theorem ag_45_StH1 : aggB Tryd.prog 45 = some false := by kernel_rfl
theorem el_40_StH1 : elemT Tryd.prog 40 = some 47 := by kernel_rfl
theorem fo_47_2_StH1 : fieldO Tryd.prog 47 2 = some 2 := by kernel_rfl
theorem fo_47_6_StH1 : fieldO Tryd.prog 47 6 = some 6 := by kernel_rfl
theorem sz_47_StH1 : tsize Tryd.prog 47 = some 7 := by kernel_rfl
attribute [local irreducible] Wops W Wq Wt

structure Stp where
  op : Int
  gen : Nat
  ba : Option Addr
  bc : Nat
  b : Byt
  n : Int
  pos : Nat
  by' : UInt8
  pa : Option Addr
  pc : Nat
  picks : List Int
abbrev I64 : Int → List Value := fun x => [.int .i64 x]
def Stp.enc (x : Stp) : List Value := [.int .i64 x.op, .int .u64 (x.gen : Int), .slice x.ba x.b.length x.bc, .int .i64 x.n, .int .u16 (x.pos : Int), bv x.by', .slice x.pa x.picks.length x.pc]
structure Stp.Ok (w : World) (x : Stp) : Prop where
  rb : Rd w x.ba 1 B8 x.b
  rp : Rd w x.pa 1 I64 x.picks
  cb : x.b.length ≤ x.bc
  cp : x.picks.length ≤ x.pc
  mb : x.b.length ≤ 140737488351232
  mp : x.picks.length ≤ 140737488351232
  gen : x.gen < 18446744073709551616
  n1 : -9223372036854775808 ≤ x.n
  n2 : x.n ≤ 9223372036854775807
  pos : x.pos < 65536
  picks : ∀ i ∈ x.picks, -9223372036854775808 ≤ i ∧ i ≤ 9223372036854775807

def sumH (l : List Stp) : Nat := (l.map fun x => x.b.length + x.picks.length).sum
def heavyB (l : List Stp) : Bool := decide (40 < l.length) || decide (20000 < sumH (l.take 100))
theorem sumH_snoc (l : List Stp) (x : Stp) : sumH (l ++ [x]) = sumH l + (x.b.length + x.picks.length) := by simp [sumH]
theorem sumH_mem {l : List Stp} {x : Stp} (h : x ∈ l) : x.b.length + x.picks.length ≤ sumH l := by
  induction l with
  | nil => cases h
  | cons y l ih =>
    unfold sumH
    rw [List.map_cons, List.sum_cons]
    rcases List.mem_cons.1 h with rfl | h
    · omega
    · have := ih h; unfold sumH at this; omega
theorem sumH_le {l : List Stp} (h : ∀ x ∈ l, x.b.length + x.picks.length ≤ 281474976702464) : sumH l ≤ l.length * 281474976702464 := by
  induction l with
  | nil => exact Nat.zero_le _
  | cons y l ih =>
    have h1 := ih fun x hx => h x (List.mem_cons_of_mem _ hx)
    have h2 := h y (List.mem_cons_self ..)
    unfold sumH at h1 ⊢
    rw [List.map_cons, List.sum_cons, List.length_cons]
    omega
theorem not_heavy {l : List Stp} (h : heavyB l = false) : l.length ≤ 40 ∧ ∀ x ∈ l, x.b.length + x.picks.length ≤ 20000 := by
  unfold heavyB at h
  simp only [Bool.or_eq_false_iff, decide_eq_false_iff_not] at h
  have hl : l.length ≤ 40 := by omega
  refine ⟨hl, fun x hx => ?_⟩
  rw [List.take_of_length_le (by omega)] at h
  have := sumH_mem hx
  omega

set_option maxRecDepth 20000 in
theorem heavy_ok (a : Option Addr) (c : Nat) (l : List Stp) (w : World) (R : Rd w a 7 Stp.enc l) (hok : ∀ x ∈ l, x.Ok w) (hm : l.length ≤ 9223372036854775807) : Ret Tryd.prog 17 #[.slice a l.length c] w fun v w' => v = .bool (heavyB l) ∧ Ext [] w w' := by
  obtain ⟨w0, rfl⟩ : ∃ w0, w0 = w := ⟨_, rfl⟩
  have H := Ctx.start w0 []
  refine ret_of_W (fn := Tryd.f17) Tryd.func17 rfl [.slice a l.length c] rfl (by kernel_rfl) ?_
  refine W_rseq ?_
  refine op_assign rfl (.bool _) rfl ?_
  refine op_nil (at_then ?_)
  refine W_rseq ?_
  refine op_assign rfl (.int _ _) rfl ?_
  refine op_nil (at_then ?_)
  refine W_seq ?_
  refine W_rseq ?_
  refine op_assign rfl (.int _ _) rfl ?_
  refine op_nil (at_then ?_)
  refine W_block ?_
  refine W_loop 1073741816 (α := Nat) (fun i => [(4, .int .i64 i), (3, .int .i64 (sumH (l.take i) : Int))]) (fun i w' => i ≤ l.length ∧ i ≤ 100 ∧ Ctx w0 [] w' []) (fun i => 100 - i) 0 rfl ?_ ?_ ?_
  · exact ⟨rfl, rfl, trivial⟩
  · exact ⟨Nat.zero_le _, Nat.zero_le _, H⟩
  · rintro i j w ⟨hi, hi1, H⟩
    have hs : sumH (l.take i) ≤ i * 281474976702464 := by
      have h1 := sumH_le (l := l.take i) fun x hx => by have := hok x (List.mem_of_mem_take hx); have := this.mb; have := (hok x (List.mem_of_mem_take hx)).mp; omega
      rw [List.length_take, Nat.min_eq_left hi] at h1
      exact h1
    have hs2 : i * 281474976702464 ≤ 100 * 281474976702464 := Nat.mul_le_mul_right _ hi1
    refine W_seq ?_
    refine W_rseq (Wops_join (α := Unit) 8160 (fun _ => [(12, .bool (decide (i < l.length) && decide (i < 100)))]) (fun _ w' => Ctx w0 [] w' []) rfl ?_ ?_)
    · refine op_move rfl (.int _ _) rfl ?_
      refine op_move rfl (.slice _ _ _) rfl ?_
      refine op_len rfl el_40_StH1 rfl ?_
      refine op_lss rfl rfl rfl ?_
      refine op_move rfl (.bool _) rfl ?_
      refine Wops_split 9 rfl ?_ ?_
      · intro h1
        replace h1 := dec_t h1
        refine op_move rfl (.int _ _) rfl ?_
        refine op_lss rfl rfl rfl ?_
        refine op_pick1 rfl rfl (.bool _) rfl ?_
        refine op_nil ?_
        exact ⟨rfl, (), rfl, ⟨congrArg Value.bool (by rw [Bool.eq_iff_iff]; simp_all; try omega), trivial⟩, H⟩
      · intro h2
        replace h2 := dec_f h2
        refine op_skip rfl ?_
        refine op_skip rfl ?_
        refine op_pick0 rfl rfl (.bool _) rfl ?_
        refine op_nil ?_
        exact ⟨rfl, (), rfl, ⟨congrArg Value.bool (by rw [Bool.eq_iff_iff]; simp_all; try omega), trivial⟩, H⟩
    rintro - j12 w H
    refine W_cond _ rfl ?_ ?_
    · intro h1
      simp only [Bool.and_eq_true, decide_eq_true_eq] at h1
      obtain ⟨x, hx⟩ := get_some (l := l) (i := i) (by omega)
      have hox := hok x (List.mem_of_getElem? hx)
      have hmb := hox.mb
      have hmp := hox.mp
      refine W_skip (at_then ?_)
      refine W_seq ?_
      refine W_block ?_
      refine W_quiet (fun x => x = _) mixed (by kernel_rfl) rfl ?_
      refine q_move rfl (.int _ _) rfl ?_
      refine q_move rfl (.slice _ _ _) rfl ?_
      refine q_move rfl (.int _ _) rfl ?_
      first | refine q_indexRd R rfl el_40_StH1 sz_47_StH1 rfl rfl (by omega) (by omega) (by first | rfl | omega) ?_ | refine q_indexAddr rfl el_40_StH1 sz_47_StH1 rfl rfl (by omega) (by omega) ?_
      refine q_fieldAddr rfl fo_47_2_StH1 rfl ?_
      first | refine q_ldb rfl ag_23 rfl (by rintro _ rfl; exact H.drew) (by first | exact at0 | exact at1 | exact at2 | exact at3 | exact at4 | exact at5 | exact at6 | exact at7 | exact at8 | exact at9) rfl ?_ | refine q_ld rfl ag_23 rfl (by rintro _ rfl; exact ((R.ext0 H.drew.ext).fld hx rfl (j := 2) rfl)) ?_ | refine q_ld rfl ag_23 rfl (by rintro _ rfl; exact ((R.ext0 H.drew.ext).fld hx rfl (j := 6) rfl)) ?_
      refine q_len rfl el_23 rfl ?_
      refine q_add_i64 rfl rfl rfl (by omega) (by omega) ?_
      refine q_move rfl (.slice _ _ _) rfl ?_
      refine q_move rfl (.int _ _) rfl ?_
      first | refine q_indexRd R rfl el_40_StH1 sz_47_StH1 rfl rfl (by omega) (by omega) (by first | rfl | omega) ?_ | refine q_indexAddr rfl el_40_StH1 sz_47_StH1 rfl rfl (by omega) (by omega) ?_
      refine q_fieldAddr rfl fo_47_6_StH1 rfl ?_
      first | refine q_ldb rfl ag_45_StH1 rfl (by rintro _ rfl; exact H.drew) (by first | exact at0 | exact at1 | exact at2 | exact at3 | exact at4 | exact at5 | exact at6 | exact at7 | exact at8 | exact at9) rfl ?_ | refine q_ld rfl ag_45_StH1 rfl (by rintro _ rfl; exact ((R.ext0 H.drew.ext).fld hx rfl (j := 2) rfl)) ?_ | refine q_ld rfl ag_45_StH1 rfl (by rintro _ rfl; exact ((R.ext0 H.drew.ext).fld hx rfl (j := 6) rfl)) ?_
      refine q_len rfl el_45 rfl ?_
      refine q_add_i64 rfl rfl rfl (by omega) (by omega) ?_
      refine q_assign rfl (.int _ _) rfl ?_
      refine q_nil ?_
      rintro _ rfl
      replace H := H.drew
      refine at_block (at_then ?_)
      refine W_region ?_
      refine op_move rfl (.int _ _) rfl ?_
      refine op_add_i64 rfl rfl rfl (by omega) (by omega) ?_
      refine op_assign rfl (.int _ _) rfl ?_
      refine op_nil (at_then ?_)
      refine ⟨i + 1, rfl, ⟨rfl, ?_, trivial⟩, ⟨by omega, by omega, H⟩, by omega⟩
      rw [take_snoc hx, sumH_snoc]
      exact congrArg (Value.int .i64) (by omega)
    · intro h1
      simp only [Bool.and_eq_false_iff, decide_eq_false_iff_not] at h1
      have hd : decide (20000 < sumH (l.take i)) = decide (20000 < sumH (l.take 100)) ∨ 40 < l.length := by
        rcases h1 with h1 | h1
        · left; rw [List.take_of_length_le (l := l) (i := i) (by omega), List.take_of_length_le (l := l) (i := 100) (by omega)]
        · right; omega
      refine W_exit (exit_then (exit_then (exit_here (at_then ?_))))
      refine W_rseq ?_
      refine op_move rfl (.slice _ _ _) rfl ?_
      refine op_len rfl el_40_StH1 rfl ?_
      refine op_gtr rfl rfl rfl ?_
      refine op_move rfl (.bool _) rfl ?_
      refine Wops_split 33 rfl ?_ ?_
      · intro h2
        replace h2 := dec_t h2
        refine op_skip rfl ?_
        refine op_skip rfl ?_
        refine op_pick1 rfl rfl (.bool _) rfl ?_
        refine op_assign rfl (.bool _) rfl ?_
        refine op_nil (at_then ?_)
        refine W_ret (leave1 (v := (.bool _)) rfl rfl rfl ?_)
        exact ⟨by rw [heavyB, decide_eq_true (show 40 < l.length by omega)]; rfl, H.ext⟩
      · intro h2
        replace h2 := dec_f h2
        refine op_move rfl (.int _ _) rfl ?_
        refine op_gtr rfl rfl rfl ?_
        refine op_pick0 rfl rfl (.bool _) rfl ?_
        refine op_assign rfl (.bool _) rfl ?_
        refine op_nil (at_then ?_)
        refine W_ret (leave1 (v := (.bool _)) rfl rfl rfl ?_)
        rcases hd with hd | hd
        · refine ⟨?_, H.ext⟩
          rw [heavyB, decide_eq_false (show ¬ 40 < l.length by omega), ← hd, Bool.false_or]
          congr 1
          rw [Bool.eq_iff_iff]; simp only [decide_eq_true_eq]; omega
        · omega

end Go.Proofs.YtkmbcpgnafmnpaaDoor

/- The block of a step. -/
namespace Go.Proofs.YtkmbcpgnafmnpaaDoor
open Go.GV
theorem ag_24_StH2 : aggB Tryd.prog 24 = some false := by kernel_rfl
theorem fo_47_1_StH2 : fieldO Tryd.prog 47 1 = some 1 := by kernel_rfl
theorem fo_47_2_StH2 : fieldO Tryd.prog 47 2 = some 2 := by kernel_rfl
theorem fo_47_4_StH2 : fieldO Tryd.prog 47 4 = some 4 := by kernel_rfl
theorem fo_47_5_StH2 : fieldO Tryd.prog 47 5 = some 5 := by kernel_rfl
theorem un_24_StH2 : Tryd.prog.underlying 24 = some (.int .u16) := by kernel_rfl
attribute [local irreducible] Wops W Wq Wt

def rawBase (x : Stp) : Byt := if x.b.length ≤ 497 then rootB x.gen x.b else zeros
def rawB (x : Stp) : Byt := (rawBase x).modify (x.pos % 512) fun c => c ^^^ x.by'
theorem rawBase_len (x : Stp) : (rawBase x).length = 512 := by
  unfold rawBase
  split
  · exact seal_len (by rw [List.length_append, putN_len]; omega)
  · exact List.length_replicate
theorem rawB_len (x : Stp) : (rawB x).length = 512 := by rw [rawB, List.length_modify, rawBase_len]

theorem bv_xor (a b : UInt8) : Value.int .u8 ((a.toNat ^^^ b.toNat : Nat) : Int) = bv (a ^^^ b) := by
  rw [bv, UInt8.toNat_xor]

theorem seal_cases {w0 w w' : World} {L : List (Nat × Obj)} {v : Value} {k : UInt8} {l : Byt} (H : Ctx w0 [] w L)
    (P : (sealE k l ≠ 0 ∧ v = .tuple #[.slice none 0 0, .int .i64 (sealE k l)] ∧ Ext [] w w') ∨ (sealE k l = 0 ∧ ∃ s, v = .tuple #[s, .int .i64 0] ∧ Fresh w w' 5 1 s ((sealB k l).map bv))) :
    ∃ a n c full, v = .tuple #[.slice a n c, .int .i64 (sealE k l)] ∧ Ctx w0 [] w' (L ++ ent a 5 full) ∧ (sealE k l = 0 → OS a n c 1 full ((sealB k l).map bv)) := by
  rcases P with ⟨h, rfl, hx⟩ | ⟨h, s, rfl, F⟩
  · exact ⟨none, 0, 0, [], rfl, by simpa [ent] using H.call hx, fun h' => absurd h' h⟩
  · obtain ⟨a, n, c, full, rfl, O, hb⟩ := F.ex
    exact ⟨a, n, c, full, by rw [h], H.callEnt F.ext hb ent_nd, fun _ => O⟩

set_option maxRecDepth 20000 in
set_option maxHeartbeats 2000000 in
theorem raw_ok (x : Stp) (w : World) (hx : x.Ok w) (hb20 : x.b.length ≤ 20000) : Ret Tryd.prog 26 #[.agg x.enc.toArray] w fun v w' => Fresh w w' 5 1 v ((rawB x).map bv) := by
  obtain ⟨w0, rfl⟩ : ∃ w0, w0 = w := ⟨_, rfl⟩
  have H := Ctx.start w0 []
  have hmb := hx.mb
  have hpos := hx.pos
  have hlr : (putN x.gen 8 ++ x.b).length = 8 + x.b.length := by rw [List.length_append, putN_len]
  have hse : sealE 1 (putN x.gen 8 ++ x.b) = bif decide (x.b.length ≤ 497) then 0 else 6 := by
    rw [sealE, decide_eq_false (show ¬ (1 : UInt8).toNat = 0 by decide), cond_false, hlr]
    by_cases h : x.b.length ≤ 497
    · rw [decide_eq_true h, decide_eq_false (show ¬ 505 < 8 + x.b.length by omega)]; rfl
    · rw [decide_eq_false h, decide_eq_true (show 505 < 8 + x.b.length by omega)]; rfl
  refine ret_of_W (fn := Tryd.f26) Tryd.func26 rfl [.agg x.enc.toArray] rfl (by kernel_rfl) ?_
  refine W_rseq ?_
  refine op_box rfl x.enc (.agg _) rfl rfl H ?_
  rintro b1 w - H
  refine op_assign rfl (.slice _ _ _) rfl ?_
  refine op_nil (at_then ?_)
  refine W_rseq ?_
  refine op_fieldAddr rfl fo_47_1_StH2 rfl ?_
  refine op_ldb rfl ag_22 rfl H (by first | exact at0 | exact at1 | exact at2 | exact at3 | exact at4 | exact at5 | exact at6 | exact at7 | exact at8 | exact at9) rfl ?_
  refine op_fieldAddr rfl fo_47_2_StH2 rfl ?_
  refine op_ldb rfl ag_23 rfl H (by first | exact at0 | exact at1 | exact at2 | exact at3 | exact at4 | exact at5 | exact at6 | exact at7 | exact at8 | exact at9) rfl ?_
  have H10 := H
  refine op_call rfl ca_57 (root_ok x.gen x.ba x.bc x.b.length x.b _ (hx.rb.ext0 H.ext) rfl (by omega) hx.gen) rfl ?_
  rintro v w F10
  obtain ⟨a10, c10, rfl, R10, hc10⟩ := Fresh.rdB F10
  replace H := H.call F10.ext
  refine op_call rfl ca_56 (seal4_ok 1 a10 c10 _ _ _ R10 rfl (by rw [hlr]; omega)) rfl ?_
  rintro v w P11
  obtain ⟨a11, n11, c11, full11, rfl, H11, O11⟩ := seal_cases H P11
  rw [hse] at O11 ⊢
  refine op_move rfl (.tuple _) rfl ?_
  refine op_extract rfl rfl rfl ?_
  refine op_extract rfl rfl rfl ?_
  refine op_assign rfl (.slice _ _ _) rfl ?_
  refine op_assign rfl (.int _ _) rfl ?_
  refine op_nil (at_then ?_)
  refine W_seq ?_
  refine W_rseq ?_
  refine op_move rfl (.int _ _) rfl ?_
  refine op_neq rfl rfl rfl ?_
  refine op_nil (at_then ?_)
  refine W_joinK 65544 (α := Nat × Nat × List Value) (fun s => [(3, .slice (some ⟨s.1, 0, none⟩) 512 s.2.1)]) (fun s w' => Ctx w0 [] w' [(b1, Bl 47 x.enc), (s.1, Bl 5 s.2.2)] ∧ s.2.2.take 512 = (rawBase x).map bv ∧ s.2.2.length = s.2.1 ∧ 512 ≤ s.2.1) rfl ?_ ?_
  · skip
    refine W_cond _ rfl ?_ ?_
    · intro h1
      replace h1 := ndec_t h1
      have hgt : ¬ x.b.length ≤ 497 := fun h => by rw [decide_eq_true h] at h1; exact h1 rfl
      have H : Ctx w0 [] w [(b1, Bl 47 x.enc)] := Ctx.left H11
      refine W_region ?_
      refine op_make rfl el_23 sz_5 by_5 zc_5 rfl rfl (by omega) (by omega) (by omega) (by omega) H ?_
      rintro b16 w - H
      refine op_assign rfl (.slice _ _ _) rfl ?_
      refine op_nil (at_then ?_)
      refine ⟨(b16, 512, List.replicate 512 (.int .u8 0)), rfl, ⟨rfl, trivial⟩, H.perm (List.Perm.swap ..), ?_, by rw [List.length_replicate], Nat.le_refl _⟩
      rw [rawBase, if_neg hgt]; rfl
    · intro h1
      replace h1 := ndec_f h1
      have hle : x.b.length ≤ 497 := Classical.byContradiction fun h => by rw [decide_eq_false h] at h1; cases h1
      refine W_skip (at_then ?_)
      have O := O11 h1
      have h5 : (rootB x.gen x.b).length = 512 := seal_len (by rw [hlr]; omega)
      have hn5 : n11 = 512 := by have h9 := O.llen; rw [List.length_map] at h9; have h8 : (sealB 1 (putN x.gen 8 ++ x.b)).length = 512 := h5; omega
      subst hn5
      obtain ⟨b, hb⟩ := O.form (by decide)
      subst hb
      refine ⟨(b, c11, full11), rfl, ⟨rfl, trivial⟩, H11, ?_, by have h7 := O.len; rw [Nat.mul_one] at h7; exact h7, O.le⟩
      rw [rawBase, if_pos hle]
      exact O.pre
  · rintro ⟨b, c, full⟩ j w ⟨H, hfull, hlen, hc⟩
    dsimp only at H hfull hlen hc
    dsimp only
    have hb1 := H.get at0
    have hbb := H.get at1
    have ho := H.own _ (List.mem_cons_of_mem _ (List.mem_cons_self ..))
    have hne := H.ne at0 at1 (by decide)
    have hbl := rawBase_len x
    have hq : x.pos % 512 < 512 := Nat.mod_lt _ (by decide)
    obtain ⟨y, hy⟩ := get_some (l := rawBase x) (i := x.pos % 512) (by omega)
    have hfy : full[x.pos % 512]? = some (bv y) := by
      have h1 : (full.take 512)[x.pos % 512]? = some (bv y) := by rw [hfull, List.getElem?_map, hy]; rfl
      rwa [List.getElem?_take, if_pos hq] at h1
    have H0 := H
    have hyl := y.toNat_lt
    have hbyl := x.by'.toNat_lt
    have HT : ∀ z, Ext [] w z → Ctx w [] z [] := fun z hz => (Ctx.start w []).call hz
    refine W_sseqz [([0, 1, 2, 3, 4, 5, 6, 7, 8, 9, 10, 11, 12], 13)] (fun z => Ext [] w z) 13 mixed (by kernel_rfl) (Ext.drew _ w) ?_
    refine seg_cons rfl rfl ?_
    refine t_move rfl (.slice _ _ _) rfl ?_
    refine t_fieldAddr rfl fo_47_4_StH2 rfl ?_
    first | refine t_ldb rfl ag_24_StH2 rfl HT (by first | exact at0 | exact at1 | exact at2 | exact at3 | exact at4 | exact at5 | exact at6 | exact at7 | exact at8 | exact at9) rfl ?_ | refine t_ld rfl ag_24_StH2 rfl (fun _ hx => hx.cell (cell_bl hb1 (0 + 4)) (by simp)) ?_ | refine t_ld rfl ag_24_StH2 rfl (fun _ hx => hx.cell (cell_bl hb1 (0 + 5)) (by simp)) ?_ | refine t_ld rfl ag_24_StH2 rfl (fun _ hx => hx.cell ((cell_bl hbb (0 + (x.pos % 512) * 1)).trans (by rw [Nat.zero_add, Nat.mul_one]; exact hfy)) (by simp)) ?_
    refine t_conv_i64 rfl rfl un_24_StH2 un_3 (by omega) (by omega) ?_
    refine t_move rfl (.slice _ _ _) rfl ?_
    refine t_len rfl el_23 rfl ?_
    refine t_rem rfl rfl rfl (by omega) (by omega) ?_
    rw [show ((x.pos : Int) % ((512 : Nat) : Int)) = ((x.pos % 512 : Nat) : Int) by omega]
    refine t_indexAddr rfl el_23 sz_5 rfl rfl (by omega) (by omega) ?_
    first | refine t_ldb rfl ag_5 rfl HT (by first | exact at0 | exact at1 | exact at2 | exact at3 | exact at4 | exact at5 | exact at6 | exact at7 | exact at8 | exact at9) rfl ?_ | refine t_ld rfl ag_5 rfl (fun _ hx => hx.cell (cell_bl hb1 (0 + 4)) (by simp)) ?_ | refine t_ld rfl ag_5 rfl (fun _ hx => hx.cell (cell_bl hb1 (0 + 5)) (by simp)) ?_ | refine t_ld rfl ag_5 rfl (fun _ hx => hx.cell ((cell_bl hbb (0 + (x.pos % 512) * 1)).trans (by rw [Nat.zero_add, Nat.mul_one]; exact hfy)) (by simp)) ?_
    refine t_fieldAddr rfl fo_47_5_StH2 rfl ?_
    first | refine t_ldb rfl ag_5 rfl HT (by first | exact at0 | exact at1 | exact at2 | exact at3 | exact at4 | exact at5 | exact at6 | exact at7 | exact at8 | exact at9) rfl ?_ | refine t_ld rfl ag_5 rfl (fun _ hx => hx.cell (cell_bl hb1 (0 + 4)) (by simp)) ?_ | refine t_ld rfl ag_5 rfl (fun _ hx => hx.cell (cell_bl hb1 (0 + 5)) (by simp)) ?_ | refine t_ld rfl ag_5 rfl (fun _ hx => hx.cell ((cell_bl hbb (0 + (x.pos % 512) * 1)).trans (by rw [Nat.zero_add, Nat.mul_one]; exact hfy)) (by simp)) ?_
    refine t_xor_u8 (a := y.toNat) (b := x.by'.toNat) rfl rfl rfl (by omega) (by omega) ?_
    rw [bv_xor]
    refine t_indexAddr rfl el_23 sz_5 rfl rfl (by omega) (by omega) ?_
    refine t_nil ?_
    skip
    refine op_stb (bv _) rfl sz_5 rfl rfl rfl (Ctx.start1 (show (World.drew w).heap[b]? = _ from hbb)) at0 (by omega) ?_
    rintro wE HE
    refine op_nil (at_segz ?_)
    refine seg_nil ?_
    refine W_rseq ?_
    refine op_move rfl (.slice _ _ _) rfl ?_
    refine op_assign rfl (.slice _ _ _) rfl ?_
    refine op_nil (at_then ?_)
    refine W_ret (leave1 (v := (.slice _ _ _)) rfl rfl rfl ?_)
    have hbn : w0.heap.size ≤ b := ho.elim (fun h => by cases h) id
    refine ⟨⟨some ⟨b, 0, none⟩, 512, c, full.set (0 + ((x.pos % 512 : Nat) : Int).toNat * 1) (bv (y ^^^ x.by')), rfl, ⟨(fun p hp => by cases hp; rfl), (fun h => by cases h), (by rw [List.length_set]; omega), hc, ?_⟩, fun z hz => by rw [List.mem_singleton.1 hz]; exact ⟨HE.get at0, hbn⟩⟩, H0.ext.then ((Ext.drew [b] w).trans HE.ext) fun z hz => .inr (by rw [List.mem_singleton.1 hz]; exact hbn)⟩
    rw [Nat.mul_one, Nat.zero_add, Nat.mul_one, List.take_set, hfull, set_map, rawB, modify_set hy, Int.toNat_natCast]

end Go.Proofs.YtkmbcpgnafmnpaaDoor

/- Two devices side by side: the program's and the document's. -/
namespace Go.Proofs.YtkmbcpgnafmnpaaDoor
open Go.GV
attribute [local irreducible] Wops W Wq Wt

structure Two (w0 w : World) (bd rd : Nat) (A B : Dev) (F G : Nat → Prop) : Prop where
  ext : Ext [] w0 w
  dev : DevAt w bd A F
  ref : RefAt w rd B G
  f : ∀ x, F x → w0.heap.size ≤ x ∧ x < w.heap.size
  g : ∀ x, G x → w0.heap.size ≤ x ∧ x < w.heap.size
  fg : ∀ x, F x → ¬ G x

/-- Blocks that are neither's stay so, and stay as they are. -/
structure Still (F G F' G' : Nat → Prop) (w w' : World) : Prop where
  blk : ∀ b, b < w.heap.size → ¬ F b → ¬ G b → w'.heap[b]? = w.heap[b]?
  fg : ∀ b, b < w.heap.size → ¬ F b → ¬ G b → ¬ F' b ∧ ¬ G' b
  size : w.heap.size ≤ w'.heap.size
def Free (w : World) (F G : Nat → Prop) (b : Nat) : Prop := b < w.heap.size ∧ ¬ F b ∧ ¬ G b
theorem Free.go {w w' : World} {F G F' G' : Nat → Prop} {b : Nat} (h : Free w F G b) (s : Still F G F' G' w w') : Free w' F' G' b :=
  ⟨Nat.lt_of_lt_of_le h.1 s.size, s.fg b h.1 h.2.1 h.2.2⟩
theorem Rd.same {w w' : World} {α : Type} {a : Option Addr} {s : Nat} {enc : α → List Value} {l : List α} (R : Rd w a s enc l) (h : w'.heap[(adr a).block]? = w.heap[(adr a).block]?) : Rd w' a s enc l :=
  ⟨R.some', fun i x hx j v hv hj => by
    have h1 := R.cell i x hx j v hv hj
    unfold World.cell? at h1 ⊢
    rw [h]; exact h1⟩
/-- What is read, and lies elsewhere. -/
def RdF {α : Type} (w : World) (F G : Nat → Prop) (a : Option Addr) (s : Nat) (enc : α → List Value) (l : List α) : Prop := Rd w a s enc l ∧ (l = [] ∨ Free w F G (adr a).block)
theorem RdF.go {α : Type} {w w' : World} {F G F' G' : Nat → Prop} {a : Option Addr} {s : Nat} {enc : α → List Value} {l : List α} (h : RdF w F G a s enc l) (t : Still F G F' G' w w') : RdF w' F' G' a s enc l := by
  obtain ⟨R, hn⟩ := h
  rcases hn with rfl | hn
  · exact ⟨Rd.nil, .inl rfl⟩
  · exact ⟨Rd.same R (t.blk _ hn.1 hn.2.1 hn.2.2), .inr (hn.go t)⟩
def BlF (w : World) (F G : Nat → Prop) (b : Nat) (o : Obj) : Prop := w.heap[b]? = some o ∧ Free w F G b
theorem BlF.go {w w' : World} {F G F' G' : Nat → Prop} {b : Nat} {o : Obj} (h : BlF w F G b o) (t : Still F G F' G' w w') : BlF w' F' G' b o :=
  ⟨by rw [t.blk _ h.2.1 h.2.2.1 h.2.2.2]; exact h.1, h.2.go t⟩
theorem Still.call {w w' : World} {F G : Nat → Prop} (hx : Ext [] w w') : Still F G F G w w' := ⟨fun b hb _ _ => hx.block b hb (by simp), fun _ _ h1 h2 => ⟨h1, h2⟩, hx.size⟩

theorem rd_lt {w : World} {α : Type} {a : Option Addr} {s : Nat} {enc : α → List Value} {l : List α} (R : Rd w a s enc l) (hs : 0 < s) (he : ∀ x ∈ l, (enc x).length = s) : l = [] ∨ (adr a).block < w.heap.size := by
  cases l with
  | nil => exact .inl rfl
  | cons x l =>
    obtain ⟨v, hv⟩ := get_some (l := enc x) (i := 0) (by have := he x (List.mem_cons_self ..); omega)
    have h9 := World.block_lt_of_cell? w ⟨(adr a).block, _, none⟩ (R.cell 0 x rfl 0 _ hv hs)
    exact .inr h9

section
variable {w0 w w' : World} {bd rd : Nat} {A B A' B' : Dev} {F G : Nat → Prop}

theorem Two.call (T : Two w0 w bd rd A B F G) (hx : Ext [] w w') : Two w0 w' bd rd A B F G :=
  ⟨T.ext.trans hx, T.dev.keep0 hx, T.ref.keep0 hx, fun x h => by have := T.f x h; have := hx.size; omega, fun x h => by have := T.g x h; have := hx.size; omega, T.fg⟩
theorem Two.devg (T : Two w0 w bd rd A B F G) (h : DevAt w' bd A' (grow F w w')) (t : Turn F w w') : Two w0 w' bd rd A' B (grow F w w') G ∧ Still F G (grow F w w') G w w' := by
  have h1 := t.size
  have h2 := T.ext.size
  have hx0 := t.new T.ext fun x h => (T.f x h).1
  obtain ⟨S, hS, hx⟩ := t
  have hgr : ∀ x, grow F w w' x → (w0.heap.size ≤ x ∧ x < w'.heap.size) := fun x hx => by
    rcases hx with hx | hx
    · have := T.f x hx; omega
    · omega
  refine ⟨⟨hx0, h, T.ref.keep hx fun x h => T.fg x (hS x h), hgr, fun x h => by have := T.g x h; omega, fun x hx hg => ?_⟩, ⟨fun b hb hF _ => hx.block b hb fun h => hF (hS b h), fun b hb hF hG => ⟨fun h => h.elim hF fun h => by omega, hG⟩, h1⟩⟩
  rcases hx with hx | hx
  · exact T.fg x hx hg
  · have := T.g x hg; omega
theorem Two.devs (T : Two w0 w bd rd A B F G) (h : DevAt w' bd A' F) (t : Turn F w w') : Two w0 w' bd rd A' B F G ∧ Still F G F G w w' := by
  have h1 := t.size
  have hx0 := t.new T.ext fun x h => (T.f x h).1
  obtain ⟨S, hS, hx⟩ := t
  exact ⟨⟨hx0, h, T.ref.keep hx fun x h => T.fg x (hS x h), fun x h => by have := T.f x h; omega, fun x h => by have := T.g x h; omega, T.fg⟩, ⟨fun b hb hF _ => hx.block b hb fun h => hF (hS b h), fun b _ hF hG => ⟨hF, hG⟩, h1⟩⟩
theorem Two.refg (T : Two w0 w bd rd A B F G) (h : RefAt w' rd B' (grow G w w')) (t : Turn G w w') : Two w0 w' bd rd A B' F (grow G w w') ∧ Still F G F (grow G w w') w w' := by
  have h1 := t.size
  have h2 := T.ext.size
  have hx0 := t.new T.ext fun x h => (T.g x h).1
  obtain ⟨S, hS, hx⟩ := t
  have hgr : ∀ x, grow G w w' x → (w0.heap.size ≤ x ∧ x < w'.heap.size) := fun x hx => by
    rcases hx with hx | hx
    · have := T.g x hx; omega
    · omega
  refine ⟨⟨hx0, T.dev.keep hx fun x h hF => T.fg x hF (hS x h), h, fun x h => by have := T.f x h; omega, hgr, fun x hF hg => ?_⟩, ⟨fun b hb _ hG => hx.block b hb fun h => hG (hS b h), fun b hb hF hG => ⟨hF, fun h => h.elim hG fun h => by omega⟩, h1⟩⟩
  rcases hg with hg | hg
  · exact T.fg x hF hg
  · have := T.f x hF; omega
theorem Two.refs (T : Two w0 w bd rd A B F G) (h : RefAt w' rd B' G) (t : Turn G w w') : Two w0 w' bd rd A B' F G ∧ Still F G F G w w' := by
  have h1 := t.size
  have hx0 := t.new T.ext fun x h => (T.g x h).1
  obtain ⟨S, hS, hx⟩ := t
  exact ⟨⟨hx0, T.dev.keep hx fun x h hF => T.fg x hF (hS x h), h, fun x h => by have := T.f x h; omega, fun x h => by have := T.g x h; omega, T.fg⟩, ⟨fun b hb _ hG => hx.block b hb fun h => hG (hS b h), fun b _ hF hG => ⟨hF, hG⟩, h1⟩⟩
/-- An argument lies elsewhere. -/
theorem Two.old {α : Type} {a : Option Addr} {s : Nat} {enc : α → List Value} {l : List α} (T : Two w0 w bd rd A B F G) (R : Rd w0 a s enc l) (hs : 0 < s) (he : ∀ x ∈ l, (enc x).length = s) : RdF w F G a s enc l :=
  ⟨R.ext0 T.ext, (rd_lt R hs he).imp id fun h => ⟨Nat.lt_of_lt_of_le h T.ext.size, fun h' => by have := T.f _ h'; omega, fun h' => by have := T.g _ h'; omega⟩⟩
/-- A block that is newer. -/
theorem Two.newer (T : Two w0 w bd rd A B F G) {b : Nat} (h1 : w.heap.size ≤ b) (h2 : b < w'.heap.size) : Free w' F G b :=
  ⟨h2, fun h => by have := T.f _ h; omega, fun h => by have := T.g _ h; omega⟩

/-! ### What is done to both -/
theorem two_save (T : Two w0 w bd rd A B F G) (gen : Nat) (hgen : gen < 18446744073709551616) (a : Option Addr) (c n : Nat) (body : Byt) (R : Rd w a 1 B8 body) (hn : body.length = n) (hm : n ≤ 140737488351231) {mx : Nat} (hfew : Few A mx) (hmx : mx < 1000000000000) :
    Ret Tryd.prog 13 #[ptr bd, .int .u64 (gen : Int), .slice a n c] w fun v w' => v = .int .i64 (saveE A gen body) ∧ ∃ F', Two w0 w' bd rd (saveD A gen body) B F' G ∧ Still F G F' G w w' :=
  (save_ok gen hgen a c n body R hn hm (fun x h => (T.f x h).2) hfew hmx T.dev).mono fun _ _ ⟨hv, hd, ht⟩ => ⟨hv, _, T.devg hd ht⟩
theorem two_rsave (T : Two w0 w bd rd A B F G) (gen : Nat) (hgen : gen < 18446744073709551616) (a : Option Addr) (c n : Nat) (body : Byt) (R : Rd w a 1 B8 body) (hn : body.length = n) (hm : n ≤ 140737488351231) {mx : Nat} (hfew : Few B mx) (hmx : mx < 1000000000000) :
    Ret Tryd.prog 19 #[ptr rd, .int .u64 (gen : Int), .slice a n c] w fun v w' => v = .int .i64 (saveE B gen body) ∧ ∃ G', Two w0 w' bd rd A (saveD B gen body) F G' ∧ Still F G F G' w w' :=
  (rsave_ok gen hgen a c n body R hn hm (fun x h => (T.g x h).2) hfew hmx T.ref).mono fun _ _ ⟨hv, hd, ht⟩ => ⟨hv, _, T.refg hd ht⟩
theorem two_write (T : Two w0 w bd rd A B F G) (k : Int) (a : Option Addr) (c n : Nat) (l : Byt) (R : RdF w F G a 1 B8 l) (hn : l.length = n) (hm : n ≤ 140737488351232) {mx : Nat} (hfew : Few A mx) (hmx : mx ≤ 1000000000000) :
    Ret Tryd.prog 15 #[ptr bd, .int .i64 k, .slice a n c] w fun v w' => v = .int .i64 (writeE A k l) ∧ ∃ F', Two w0 w' bd rd (writeD A k l) B F' G ∧ Still F G F' G w w' :=
  (dwrite_ok k a c n l R.1 hn hm (R.2.imp id fun h => h.2.1) hfew hmx T.dev).mono fun _ _ ⟨hv, hd, ht⟩ => ⟨hv, _, T.devg hd ht⟩
theorem two_rwrite (T : Two w0 w bd rd A B F G) (k : Int) (a : Option Addr) (c n : Nat) (l : Byt) (R : RdF w F G a 1 B8 l) (hn : l.length = n) {mx : Nat} (hfew : Few B mx) (hmx : mx ≤ 1000000000000) :
    Ret Tryd.prog 27 #[ptr rd, .int .i64 k, .slice a n c] w fun v w' => v = .int .i64 (writeE B k l) ∧ ∃ G', Two w0 w' bd rd A (writeD B k l) F G' ∧ Still F G F G' w w' :=
  (rwrite_ok k a c n l R.1 hn (R.2.imp id fun h => h.2.2) hfew hmx T.ref).mono fun _ _ ⟨hv, hd, ht⟩ => ⟨hv, _, T.refg hd ht⟩
theorem two_arm (T : Two w0 w bd rd A B F G) (n : Int) (hn : n ≤ 9223372036854775807) :
    Ret Tryd.prog 20 #[ptr bd, .int .i64 n] w fun v w' => v = .int .i64 (armE A) ∧ Two w0 w' bd rd (armD A n) B F G ∧ Still F G F G w w' :=
  (darm_ok n hn T.dev).mono fun _ _ ⟨hv, hd, ht⟩ => ⟨hv, T.devs hd ht⟩
theorem two_rarm (T : Two w0 w bd rd A B F G) (n : Int) (hn : n ≤ 9223372036854775807) :
    Ret Tryd.prog 21 #[ptr rd, .int .i64 n] w fun v w' => v = .int .i64 (armE B) ∧ Two w0 w' bd rd A (armD B n) F G ∧ Still F G F G w w' :=
  (rarm_ok n hn T.ref).mono fun _ _ ⟨hv, hd, ht⟩ => ⟨hv, T.refs hd ht⟩
theorem two_off (T : Two w0 w bd rd A B F G) :
    Ret Tryd.prog 22 #[ptr bd] w fun v w' => v = .int .i64 (armE A) ∧ Two w0 w' bd rd (offD A) B F G ∧ Still F G F G w w' :=
  (doff_ok T.dev).mono fun _ _ ⟨hv, hd, ht⟩ => ⟨hv, T.devs hd ht⟩
theorem two_roff (T : Two w0 w bd rd A B F G) :
    Ret Tryd.prog 23 #[ptr rd] w fun v w' => v = .int .i64 (armE B) ∧ Two w0 w' bd rd A (offD B) F G ∧ Still F G F G w w' :=
  (roff_ok T.ref).mono fun _ _ ⟨hv, hd, ht⟩ => ⟨hv, T.refs hd ht⟩
theorem two_on (T : Two w0 w bd rd A B F G) (a : Option Addr) (c n : Nat) (picks : List Int) (R : RdF w F G a 1 I64 picks) (hn : picks.length = n) (hm : n ≤ 9223372036854775000) (hc : n ≤ c) (hi64 : ∀ x ∈ picks, -9223372036854775808 ≤ x ∧ x ≤ 9223372036854775807) {mx : Nat} (hfew : Few A mx) (hmx : mx ≤ 1000000000000) :
    Ret Tryd.prog 24 #[ptr bd, .slice a n c] w fun v w' => v = .int .i64 (onE A) ∧ Two w0 w' bd rd (onD A picks) B F G ∧ Still F G F G w w' :=
  (donp_ok a c n picks R.1 hn hm hc (R.2.imp id fun h => h.2.1) hi64 hfew hmx T.dev).mono fun _ _ ⟨hv, hd, ht⟩ => ⟨hv, T.devs hd ht⟩
theorem two_comes (T : Two w0 w bd rd A B F G) (a : Option Addr) (c n : Nat) (picks : List Int) (R : RdF w F G a 1 I64 picks) (hn : picks.length = n) (hm : n ≤ 9223372036854775000) (hi64 : ∀ x ∈ picks, -9223372036854775808 ≤ x ∧ x ≤ 9223372036854775807) {mx : Nat} (hfew : Few B mx) (hmx : mx ≤ 1000000000000) :
    Ret Tryd.prog 25 #[ptr rd, .slice a n c] w fun v w' => v = .int .i64 (onE B) ∧ Two w0 w' bd rd A (onD B picks) F G ∧ Still F G F G w w' :=
  (rcomes_ok a c n picks R.1 hn hm (R.2.imp id fun h => h.2.2) hi64 hfew hmx T.ref).mono fun _ _ ⟨hv, hd, ht⟩ => ⟨hv, T.refs hd ht⟩
end

theorem Stp.one (x : Stp) : ∀ v ∈ x.enc, oneCell v = true := fun v hv => by
  simp only [Stp.enc, bv, List.mem_cons, List.not_mem_nil, or_false] at hv
  rcases hv with rfl | rfl | rfl | rfl | rfl | rfl | rfl <;> rfl
theorem Stp.Ok.ext {w w' : World} {x : Stp} (h : x.Ok w) (hx : Ext [] w w') : x.Ok w' := ⟨h.rb.ext0 hx, h.rp.ext0 hx, h.cb, h.cp, h.mb, h.mp, h.gen, h.n1, h.n2, h.pos, h.picks⟩

end Go.Proofs.YtkmbcpgnafmnpaaDoor

/- ShadowPlays: the walk. -/
namespace Go.Proofs.YtkmbcpgnafmnpaaDoor
open Go.GV
theorem ag_45_StP2 : aggB Tryd.prog 45 = some false := by kernel_rfl
theorem ag_47_StP2 : aggB Tryd.prog 47 = some true := by kernel_rfl
theorem ca_11_StP2 : callable Tryd.prog 11 = true := by kernel_rfl
theorem ca_12_StP2 : callable Tryd.prog 12 = true := by kernel_rfl
theorem ca_13_StP2 : callable Tryd.prog 13 = true := by kernel_rfl
theorem ca_15_StP2 : callable Tryd.prog 15 = true := by kernel_rfl
theorem ca_16_StP2 : callable Tryd.prog 16 = true := by kernel_rfl
theorem ca_17_StP2 : callable Tryd.prog 17 = true := by kernel_rfl
theorem ca_18_StP2 : callable Tryd.prog 18 = true := by kernel_rfl
theorem ca_19_StP2 : callable Tryd.prog 19 = true := by kernel_rfl
theorem ca_20_StP2 : callable Tryd.prog 20 = true := by kernel_rfl
theorem ca_21_StP2 : callable Tryd.prog 21 = true := by kernel_rfl
theorem ca_22_StP2 : callable Tryd.prog 22 = true := by kernel_rfl
theorem ca_23_StP2 : callable Tryd.prog 23 = true := by kernel_rfl
theorem ca_24_StP2 : callable Tryd.prog 24 = true := by kernel_rfl
theorem ca_25_StP2 : callable Tryd.prog 25 = true := by kernel_rfl
theorem ca_26_StP2 : callable Tryd.prog 26 = true := by kernel_rfl
theorem ca_28_StP2 : callable Tryd.prog 28 = true := by kernel_rfl
theorem el_40_StP2 : elemT Tryd.prog 40 = some 47 := by kernel_rfl
theorem fo_47_0_StP2 : fieldO Tryd.prog 47 0 = some 0 := by kernel_rfl
theorem fo_47_1_StP2 : fieldO Tryd.prog 47 1 = some 1 := by kernel_rfl
theorem fo_47_2_StP2 : fieldO Tryd.prog 47 2 = some 2 := by kernel_rfl
theorem fo_47_3_StP2 : fieldO Tryd.prog 47 3 = some 3 := by kernel_rfl
theorem fo_47_6_StP2 : fieldO Tryd.prog 47 6 = some 6 := by kernel_rfl
theorem sz_47_StP2 : tsize Tryd.prog 47 = some 7 := by kernel_rfl
theorem un_42_StP2 : Tryd.prog.underlying 42 = some (.pointer 96) := by kernel_rfl
theorem un_4_StP2 : Tryd.prog.underlying 4 = some (.bool) := by kernel_rfl
theorem zc_47_StP2 : zcells Tryd.prog 47 = some ([.int .i64 0, .int .u64 0, .slice none 0 0, .int .i64 0, .int .u16 0, .int .u8 0, .slice none 0 0]) := by kernel_rfl
attribute [local irreducible] Wops W Wq Wt

theorem dnew_uni {w w' : World} {n : Int} {v : Value} (h : (newE n = 1 ∧ v = .tuple #[.pointer none, .int .i64 1]) ∨
      (newE n = 0 ∧ 1 ≤ n ∧ n ≤ 4096 ∧ ∃ bd, v = .tuple #[ptr bd, .int .i64 0] ∧ DevAt w' bd (newD n.toNat) fun x => w.heap.size ≤ x ∧ x < w'.heap.size)) :
    ∃ p, v = .tuple #[.pointer p, .int .i64 (newE n)] ∧ p.isNone = decide (newE n = 1) ∧ (newE n ≠ 1 → 1 ≤ n ∧ n ≤ 4096 ∧ ∃ bd, p = some ⟨bd, 0, none⟩ ∧ DevAt w' bd (newD n.toNat) fun x => w.heap.size ≤ x ∧ x < w'.heap.size) := by
  rcases h with ⟨h, rfl⟩ | ⟨h, h1, h2, bd, rfl, D⟩
  · exact ⟨none, by rw [h], by rw [h]; rfl, fun h' => absurd h h'⟩
  · exact ⟨some ⟨bd, 0, none⟩, by rw [h]; rfl, by rw [h]; rfl, fun _ => ⟨h1, h2, bd, rfl, D⟩⟩
theorem rnew_uni {w w' : World} {n : Int} {v : Value} (h : (newE n = 1 ∧ v = .tuple #[.pointer none, .int .i64 1]) ∨
      (newE n = 0 ∧ 1 ≤ n ∧ n ≤ 4096 ∧ ∃ rd, v = .tuple #[ptr rd, .int .i64 0] ∧ RefAt w' rd (newD n.toNat) fun x => w.heap.size ≤ x ∧ x < w'.heap.size)) :
    ∃ p, v = .tuple #[.pointer p, .int .i64 (newE n)] ∧ p.isNone = decide (newE n = 1) ∧ (newE n ≠ 1 → ∃ rd, p = some ⟨rd, 0, none⟩ ∧ RefAt w' rd (newD n.toNat) fun x => w.heap.size ≤ x ∧ x < w'.heap.size) := by
  rcases h with ⟨h, rfl⟩ | ⟨h, h1, h2, rd, rfl, D⟩
  · exact ⟨none, by rw [h], by rw [h]; rfl, fun h' => absurd h h'⟩
  · exact ⟨some ⟨rd, 0, none⟩, by rw [h]; rfl, by rw [h]; rfl, fun _ => ⟨rd, rfl, D⟩⟩

set_option maxRecDepth 20000 in
set_option maxHeartbeats 4000000 in
theorem plays_ok (n : Int) (hn : -9223372036854775808 ≤ n ∧ n ≤ 9223372036854775807) (a : Option Addr) (c : Nat) (l : List Stp) (w : World) (R : Rd w a 7 Stp.enc l) (hok : ∀ x ∈ l, x.Ok w) (hm : l.length ≤ 9223372036854775807) :
    Ret Tryd.prog 5 #[.int .i64 n, .slice a l.length c] w fun v w' => v = .bool true ∧ Ext [] w w' := by
  obtain ⟨w0, rfl⟩ : ∃ w0, w0 = w := ⟨_, rfl⟩
  refine ret_of_W (fn := Tryd.f5) Tryd.func5 rfl [.int .i64 n, .slice a l.length c] rfl (by kernel_rfl) ?_
  refine W_rseq ?_
  refine op_assign rfl (.bool _) rfl ?_
  refine op_nil (at_then ?_)
  refine W_seq ?_
  refine W_rseq (Wops_join (α := Unit) 268173312 (fun _ => [(27, .bool (heavyB l || (decide (20 < n) && decide (n ≤ 4096))))]) (fun _ w' => Ext [] w0 w') rfl ?_ ?_)
  · refine op_move rfl (.slice _ _ _) rfl ?_
    refine op_call rfl ca_17_StP2 (heavy_ok a c l w0 R hok hm) rfl ?_
    rintro v w ⟨rfl, hx1⟩
    refine op_move rfl (.bool _) rfl ?_
    refine Wops_split 20 rfl ?_ ?_
    · intro h1
      refine op_skip rfl ?_
      refine op_skip rfl ?_
      refine op_skip rfl ?_
      refine op_skip rfl ?_
      refine op_skip rfl ?_
      refine op_skip rfl ?_
      refine op_pick1 rfl rfl (.bool _) rfl ?_
      refine op_nil ?_
      exact ⟨rfl, (), rfl, ⟨congrArg Value.bool (by rw [Bool.eq_iff_iff]; simp_all; try omega), trivial⟩, hx1⟩
    · intro h2
      refine op_move rfl (.int _ _) rfl ?_
      refine op_gtr rfl rfl rfl ?_
      refine op_move rfl (.bool _) rfl ?_
      refine Wops_split 23 rfl ?_ ?_
      · intro h3
        replace h3 := dec_t h3
        refine op_move rfl (.int _ _) rfl ?_
        refine op_leq rfl rfl rfl ?_
        refine op_pick1 rfl rfl (.bool _) rfl ?_
        refine op_pick0 rfl rfl (.bool _) rfl ?_
        refine op_nil ?_
        exact ⟨rfl, (), rfl, ⟨congrArg Value.bool (by rw [Bool.eq_iff_iff]; simp_all; try omega), trivial⟩, hx1⟩
      · intro h4
        replace h4 := dec_f h4
        refine op_skip rfl ?_
        refine op_skip rfl ?_
        refine op_pick0 rfl rfl (.bool _) rfl ?_
        refine op_pick0 rfl rfl (.bool _) rfl ?_
        refine op_nil ?_
        exact ⟨rfl, (), rfl, ⟨congrArg Value.bool (by rw [Bool.eq_iff_iff]; simp_all; try omega), trivial⟩, hx1⟩
  rintro - j27 w hx1
  refine W_cond _ rfl ?_ ?_
  · intro h1
    refine W_rseq ?_
    refine op_call rfl ca_11_StP2 (works_ok _) rfl ?_
    rintro v w ⟨rfl, hx⟩
    refine op_assign rfl (.bool _) rfl ?_
    refine op_nil (at_then ?_)
    refine W_ret (ret_then (leave1 (v := (.bool _)) rfl rfl rfl ?_))
    exact ⟨rfl, hx1.trans hx⟩
  · intro h1
    simp only [Bool.or_eq_false_iff] at h1
    obtain ⟨hl, hb20⟩ := not_heavy h1.1
    refine W_skip (at_then ?_)
    refine W_rseq ?_
    refine op_move rfl (.int _ _) rfl ?_
    refine op_call rfl ca_12_StP2 (dnew_ok n _) rfl ?_
    rintro v w ⟨hxn, P31⟩
    obtain ⟨p, rfl, hp, hP⟩ := dnew_uni P31
    have hs0 := hx1.size
    replace hx1 := hx1.trans hxn
    refine op_move rfl (.tuple _) rfl ?_
    refine op_extract rfl rfl rfl ?_
    refine op_extract rfl rfl rfl ?_
    refine op_assign rfl (.pointer _) rfl ?_
    refine op_assign rfl (.int _ _) rfl ?_
    refine op_nil (at_then ?_)
    refine W_rseq ?_
    refine op_move rfl (.int _ _) rfl ?_
    refine op_call rfl ca_18_StP2 (rnew_ok n _) rfl ?_
    rintro v w ⟨hxm, P36⟩
    obtain ⟨q, rfl, hq, hQ⟩ := rnew_uni P36
    refine op_move rfl (.tuple _) rfl ?_
    refine op_extract rfl rfl rfl ?_
    refine op_extract rfl rfl rfl ?_
    refine op_assign rfl (.pointer _) rfl ?_
    refine op_assign rfl (.int _ _) rfl ?_
    refine op_nil (at_then ?_)
    refine W_seq ?_
    refine W_rseq ?_
    refine op_move rfl (.int _ _) rfl ?_
    refine op_move rfl (.int _ _) rfl ?_
    refine op_neq rfl rfl rfl ?_
    rw [show decide (newE n = newE n) = true from decide_eq_true rfl]
    refine op_move rfl (.bool _) rfl ?_
    refine op_move rfl (.pointer _) rfl ?_
    refine op_eqlptr rfl un_27 rfl ?_
    refine op_move rfl (.pointer _) rfl ?_
    refine op_eqlptr rfl un_42_StP2 rfl ?_
    refine op_neqb un_4_StP2 rfl rfl rfl ?_
    rw [hp, hq, show (decide (newE n = 1) == decide (newE n = 1)) = true from beq_self_eq_true _]
    refine op_pick0 rfl rfl (.bool _) rfl ?_
    refine op_nil (at_then ?_)
    refine W_cond0 rfl ?_
    refine W_skip (at_then ?_)
    refine W_seq ?_
    refine W_rseq ?_
    refine op_move rfl (.pointer _) rfl ?_
    refine op_eqlptr rfl un_42_StP2 rfl ?_
    refine op_nil (at_then ?_)
    refine W_cond _ rfl ?_ ?_
    · intro h2
      refine W_rseq ?_
      refine op_call rfl ca_11_StP2 (works_ok _) rfl ?_
      rintro v w ⟨rfl, hx⟩
      refine op_assign rfl (.bool _) rfl ?_
      refine op_nil (at_then ?_)
      refine W_ret (ret_then (leave1 (v := (.bool _)) rfl rfl rfl ?_))
      exact ⟨rfl, (hx1.trans hxm).trans hx⟩
    · intro h2
      have hne : newE n ≠ 1 := by rw [hq] at h2; exact of_decide_eq_false h2
      obtain ⟨hn1, hn2, bd, rfl, DA⟩ := hP hne
      obtain ⟨rd, rfl, DB⟩ := hQ hne
      obtain ⟨F0, G0, T⟩ : ∃ F G, Two w0 w bd rd (newD n.toNat) (newD n.toNat) F G := ⟨_, _, hx1.trans hxm, DA.keep0 hxm, DB, fun x h => by have := hx1.size; have := hxn.size; have := hxm.size; omega, fun x h => by have := hx1.size; have := hxn.size; have := hxm.size; omega, fun x h h' => by omega⟩
      refine W_skip (at_then ?_)
      refine W_seq ?_
      refine W_rseq ?_
      refine op_assign rfl (.int _ _) rfl ?_
      refine op_nil (at_then ?_)
      refine W_block ?_
      refine W_loop 365375409332725729550921208179066251314356026896 (α := Nat × Dev × (Nat → Prop) × (Nat → Prop)) (fun s => [(9, .int .i64 s.1)]) (fun s w' => s.1 ≤ l.length ∧ Few s.2.1 s.1 ∧ Two w0 w' bd rd s.2.1 s.2.1 s.2.2.1 s.2.2.2) (fun s => l.length - s.1) (0, newD n.toNat, F0, G0) rfl ?_ ?_ ?_
      · exact ⟨rfl, trivial⟩
      · exact ⟨Nat.zero_le _, new_few _, T⟩
      · clear T DA DB P31 P36 hP hQ
        rintro ⟨i, A, F, G⟩ j w ⟨hi, hfew, T⟩; dsimp only at hi hfew T; dsimp only
        refine W_seq ?_
        refine W_rseq ?_
        refine op_move rfl (.int _ _) rfl ?_
        refine op_move rfl (.slice _ _ _) rfl ?_
        refine op_len rfl el_40_StP2 rfl ?_
        refine op_lss rfl rfl rfl ?_
        refine op_nil (at_then ?_)
        refine W_cond _ rfl ?_ ?_
        · intro h3
          replace h3 := dec_t h3
          obtain ⟨x, hx⟩ := get_some (l := l) (i := i) (by omega)
          have hmx := List.mem_of_getElem? hx
          have hox := hok x hmx
          have hxb := hb20 x hmx
          have H := Ctx.start w []
          refine W_skip (at_then ?_)
          refine W_seq ?_
          refine W_block ?_
          refine W_rseq ?_
          refine op_move rfl (.slice _ _ _) rfl ?_
          refine op_move rfl (.int _ _) rfl ?_
          first | refine op_indexRd R rfl el_40_StP2 sz_47_StP2 rfl rfl (by omega) (by omega) (by first | rfl | omega) ?_ | refine op_indexAddr rfl el_40_StP2 sz_47_StP2 rfl rfl (by omega) (by omega) ?_
          first | refine op_ldN _ rfl ag_47_StP2 sz_47_StP2 rfl rfl ((R.ext0 (T.ext.trans H.ext)).row hx rfl) ?_ | refine op_ldbN rfl ag_47_StP2 sz_47_StP2 rfl H (by first | exact at0 | exact at1 | exact at2 | exact at3 | exact at4 | exact at5 | exact at6 | exact at7 | exact at8 | exact at9) rfl ?_
          refine op_alloc rfl zc_47_StP2 H ?_
          rintro b10 w - H
          refine op_stb0 rfl sz_47_StP2 rfl rfl rfl (Stp.one x) H at0 rfl ?_
          rintro w H
          refine op_nil (at_then ?_)
          refine W_seq ?_
          refine W_rseq ?_
          refine op_fieldAddr rfl fo_47_0_StP2 rfl ?_
          refine op_ldb rfl ag_3 rfl H (by first | exact at0 | exact at1 | exact at2 | exact at3 | exact at4 | exact at5 | exact at6 | exact at7 | exact at8 | exact at9) rfl ?_
          refine op_nil (at_then ?_)
          refine W_joinK 2722258935367507707688550115380436142096 (α := Dev × (Nat → Prop) × (Nat → Prop)) (fun _ => []) (fun s w' => Few s.1 (i + 1) ∧ Two w0 w' bd rd s.1 s.1 s.2.1 s.2.2) rfl ?_ ?_
          · skip
            refine W_block ?_
            refine W_rseq ?_
            refine op_eql rfl rfl rfl ?_
            refine op_assign rfl (.bool _) rfl ?_
            refine op_nil (at_then ?_)
            refine W_cond _ rfl ?_ ?_
            · intro k1
              replace k1 := dec_t k1
              refine W_rseq ?_
              refine op_build0 rfl el_23 sz_5 H ?_
              rintro b66 w H O
              refine op_fieldAddr rfl fo_47_2_StP2 rfl ?_
              refine op_ldb rfl ag_23 rfl H (by first | exact at0 | exact at1 | exact at2 | exact at3 | exact at4 | exact at5 | exact at6 | exact at7 | exact at8 | exact at9) rfl ?_
              refine op_append (L := [(b10, Bl 47 x.enc)]) rfl el_23 el_23 sz_5 by_5 zc_5 rfl (by decide) (x.b.map bv) rfl rfl H O (by simp) (bv_one x.b) (Rd.appB (hox.rb.ext0 (T.ext.trans H.ext))) (by omega) ?_
              rintro a69 c69 full69 w H O
              rw [List.nil_append, Nat.zero_add] at O
              rw [show 0 + x.b.length = x.b.length from Nat.zero_add _]
              refine op_assign rfl (.slice _ _ _) rfl ?_
              refine op_nil (at_then ?_)
              have T2 := T.call H.ext
              have ho10 := (H.own _ (List.mem_cons_self ..)).elim (fun h => by cases h) id
              have B10 : BlF w F G b10 _ := ⟨H.get at0, T.newer ho10 (H.lt at0)⟩
              have R69 : RdF w F G a69 1 B8 x.b := by
                have R := OS.rdB O (fun y hy => H.blk y (List.mem_append_right _ hy))
                refine ⟨R, ?_⟩
                by_cases h0 : x.b = []
                · exact .inl h0
                · obtain ⟨b, o, rfl⟩ := R.some' h0
                  have hm : (b, Bl 5 full69) ∈ [(b10, Bl 47 x.enc)] ++ ent (some ⟨b, o, none⟩) 5 full69 := List.mem_append_right _ (List.mem_singleton.2 rfl)
                  exact .inr (T.newer ((H.own _ hm).elim (fun h => by cases h) id) (heap_lt (H.blk _ hm)))
              have Rb := T2.old hox.rb (by decide) (fun _ _ => rfl)
              have hdr : Ext [] w w.drew := Ext.drew [] w
              have sd := Still.call (F := F) (G := G) hdr
              refine W_sseqz [([0, 1, 2, 3, 5, 6, 7, 8, 9], 4), ([], 10), ([11, 12, 13, 14, 15, 16, 17, 18], 19)] (fun z => z.heap[b10]? = some (Bl 47 x.enc) ∧ Rd z a69 1 B8 x.b ∧ Rd z x.ba 1 B8 x.b) 9999 mixed (by kernel_rfl) (⟨(B10.go sd).1, (R69.go sd).1, (Rb.go sd).1⟩) ?_
              refine seg_cons rfl rfl ?_
              refine t_move rfl (.pointer _) rfl ?_
              refine t_fieldAddr rfl fo_47_1_StP2 rfl ?_
              first | refine t_ldb rfl ag_22 rfl (fun _ _ => Ctx.start _ []) (by first | exact at0 | exact at1 | exact at2 | exact at3 | exact at4 | exact at5 | exact at6 | exact at7 | exact at8 | exact at9) rfl ?_ | refine t_ld rfl ag_22 rfl (fun _ hx => cell_bl hx.1 (0 + 1)) ?_ | refine t_ld rfl ag_22 rfl (fun _ hx => cell_bl hx.1 (0 + 2)) ?_
              refine t_move rfl (.slice _ _ _) rfl ?_
              refine t_move rfl (.pointer _) rfl ?_
              refine t_fieldAddr rfl fo_47_1_StP2 rfl ?_
              first | refine t_ldb rfl ag_22 rfl (fun _ _ => Ctx.start _ []) (by first | exact at0 | exact at1 | exact at2 | exact at3 | exact at4 | exact at5 | exact at6 | exact at7 | exact at8 | exact at9) rfl ?_ | refine t_ld rfl ag_22 rfl (fun _ hx => cell_bl hx.1 (0 + 1)) ?_ | refine t_ld rfl ag_22 rfl (fun _ hx => cell_bl hx.1 (0 + 2)) ?_
              refine t_fieldAddr rfl fo_47_2_StP2 rfl ?_
              first | refine t_ldb rfl ag_23 rfl (fun _ _ => Ctx.start _ []) (by first | exact at0 | exact at1 | exact at2 | exact at3 | exact at4 | exact at5 | exact at6 | exact at7 | exact at8 | exact at9) rfl ?_ | refine t_ld rfl ag_23 rfl (fun _ hx => cell_bl hx.1 (0 + 1)) ?_ | refine t_ld rfl ag_23 rfl (fun _ hx => cell_bl hx.1 (0 + 2)) ?_
              refine t_nil ?_
              skip
              refine op_call rfl ca_13_StP2 (two_save (T2.call hdr) x.gen hox.gen a69 c69 x.b.length x.b (R69.go sd).1 rfl (by omega) hfew (by omega)) rfl ?_
              rintro v w ⟨rfl, F2, T3, s3⟩
              have B2 := (B10.go sd).go s3
              have R2 := (R69.go sd).go s3
              have Rb2 := (Rb.go sd).go s3
              refine op_nil (at_seg (⟨B2.1, R2.1, Rb2.1⟩) ?_)
              refine seg_cons rfl rfl ?_
              refine t_nil ?_
              refine op_call rfl ca_19_StP2 (two_rsave T3 x.gen hox.gen x.ba x.bc x.b.length x.b Rb2.1 rfl (by omega) hfew (by omega)) rfl ?_
              rintro v w ⟨rfl, G2, T4, s4⟩
              have B4 := B2.go s4
              have R4 := R2.go s4
              have Rb4 := Rb2.go s4
              refine op_nil (at_seg (⟨B4.1, R4.1, Rb4.1⟩) ?_)
              refine seg_cons rfl rfl ?_
              refine t_neq rfl rfl rfl ?_
              rw [show decide (saveE A x.gen x.b = saveE A x.gen x.b) = true from decide_eq_true rfl]
              refine t_move rfl (.bool _) rfl ?_
              refine t_move rfl (.slice _ _ _) rfl ?_
              refine t_back (l := x.b) rfl el_23 un_5 un_9 rfl (fun _ hx => hx.2.1) ?_
              refine t_fieldAddr rfl fo_47_2_StP2 rfl ?_
              first | refine t_ldb rfl ag_23 rfl (fun _ _ => Ctx.start _ []) (by first | exact at0 | exact at1 | exact at2 | exact at3 | exact at4 | exact at5 | exact at6 | exact at7 | exact at8 | exact at9) rfl ?_ | refine t_ld rfl ag_23 rfl (fun _ hx => cell_bl hx.1 (0 + 1)) ?_ | refine t_ld rfl ag_23 rfl (fun _ hx => cell_bl hx.1 (0 + 2)) ?_
              refine t_back (l := x.b) rfl el_23 un_5 un_9 rfl (fun _ hx => hx.2.2) ?_
              refine t_strne (l := x.b) (m := x.b) rfl rfl rfl ?_
              rw [show decide (x.b = x.b) = true from decide_eq_true rfl]
              refine t_nil ?_
              refine op_pick0 rfl rfl (.bool _) rfl ?_
              refine op_nil (at_seg (⟨B4.1, R4.1, Rb4.1⟩) ?_)
              refine seg_nil ?_
              refine W_cond0 rfl ?_
              refine W_skip (at_block (at_then ?_))
              exact ⟨(saveD A x.gen x.b, F2, G2), rfl, trivial, save_few hfew _ _, T4⟩
            · intro k1
              replace k1 := dec_f k1
              refine W_rseq ?_
              refine op_eql rfl rfl rfl ?_
              refine op_assign rfl (.bool _) rfl ?_
              refine op_nil (at_then ?_)
              refine W_cond _ rfl ?_ ?_
              · intro k2
                replace k2 := dec_t k2
                have T2 := T.call H.ext
                have ho10 := (H.own _ (List.mem_cons_self ..)).elim (fun h => by cases h) id
                have B10 : BlF w F G b10 _ := ⟨H.get at0, T.newer ho10 (H.lt at0)⟩
                have hdr : Ext [] w w.drew := Ext.drew [] w
                have sd := Still.call (F := F) (G := G) hdr
                refine W_sseqz [([0, 1, 2, 4, 5, 6], 3), ([], 7), ([], 8)] (fun z => z.heap[b10]? = some (Bl 47 x.enc)) 9999 mixed (by kernel_rfl) ((B10.go sd).1) ?_
                refine seg_cons rfl rfl ?_
                refine t_move rfl (.pointer _) rfl ?_
                refine t_fieldAddr rfl fo_47_3_StP2 rfl ?_
                first | refine t_ldb rfl ag_3 rfl (fun _ _ => Ctx.start _ []) (by first | exact at0 | exact at1 | exact at2 | exact at3 | exact at4 | exact at5 | exact at6 | exact at7 | exact at8 | exact at9) rfl ?_ | refine t_ld rfl ag_3 rfl (fun _ hx => cell_bl hx (0 + 3)) ?_
                refine t_move rfl (.pointer _) rfl ?_
                refine t_fieldAddr rfl fo_47_3_StP2 rfl ?_
                first | refine t_ldb rfl ag_3 rfl (fun _ _ => Ctx.start _ []) (by first | exact at0 | exact at1 | exact at2 | exact at3 | exact at4 | exact at5 | exact at6 | exact at7 | exact at8 | exact at9) rfl ?_ | refine t_ld rfl ag_3 rfl (fun _ hx => cell_bl hx (0 + 3)) ?_
                refine t_nil ?_
                skip
                refine op_call rfl ca_20_StP2 (two_arm (T2.call hdr) x.n hox.n2) rfl ?_
                rintro v w ⟨rfl, T3, s3⟩
                have B2 := (B10.go sd).go s3
                refine op_nil (at_seg (B2.1) ?_)
                refine seg_cons rfl rfl ?_
                refine t_nil ?_
                refine op_call rfl ca_21_StP2 (two_rarm T3 x.n hox.n2) rfl ?_
                rintro v w ⟨rfl, T4, s4⟩
                have B4 := B2.go s4
                refine op_nil (at_seg (B4.1) ?_)
                refine seg_cons rfl rfl ?_
                refine t_nil ?_
                refine op_neq rfl rfl rfl ?_
                rw [show decide (armE A = armE A) = true from decide_eq_true rfl]
                refine op_nil (at_seg (B4.1) ?_)
                refine seg_nil ?_
                refine W_cond0 rfl ?_
                refine W_skip (at_block (at_then ?_))
                exact ⟨(armD A x.n, F, G), rfl, trivial, (arm_few hfew _).mono (by omega), T4⟩
              · intro k2
                replace k2 := dec_f k2
                refine W_rseq ?_
                refine op_eql rfl rfl rfl ?_
                refine op_assign rfl (.bool _) rfl ?_
                refine op_nil (at_then ?_)
                refine W_cond _ rfl ?_ ?_
                · intro k3
                  replace k3 := dec_t k3
                  have T2 := T.call H.ext
                  have ho10 := (H.own _ (List.mem_cons_self ..)).elim (fun h => by cases h) id
                  have B10 : BlF w F G b10 _ := ⟨H.get at0, T.newer ho10 (H.lt at0)⟩
                  have Rp := T2.old hox.rp (by decide) (fun _ _ => rfl)
                  have hfo := off_few hfew
                  refine W_rseq ?_
                  refine op_move rfl (.pointer _) rfl ?_
                  refine op_call rfl ca_22_StP2 (two_off T2) rfl ?_
                  rintro v w ⟨rfl, T3, s3⟩
                  have B3 := B10.go s3
                  have Rp3 := Rp.go s3
                  refine op_nil (at_then ?_)
                  refine W_rseq ?_
                  refine op_move rfl (.pointer _) rfl ?_
                  refine op_call rfl ca_23_StP2 (two_roff T3) rfl ?_
                  rintro v w ⟨rfl, T4, s4⟩
                  have B4 := B3.go s4
                  have Rp4 := Rp3.go s4
                  refine op_nil (at_then ?_)
                  have hdr : Ext [] w w.drew := Ext.drew [] w
                  have sd := Still.call (F := F) (G := G) hdr
                  refine W_sseqz [([0, 1, 2, 4, 5, 6], 3), ([], 7), ([], 8)] (fun z => z.heap[b10]? = some (Bl 47 x.enc)) 9999 mixed (by kernel_rfl) ((B4.go sd).1) ?_
                  refine seg_cons rfl rfl ?_
                  refine t_move rfl (.pointer _) rfl ?_
                  refine t_fieldAddr rfl fo_47_6_StP2 rfl ?_
                  first | refine t_ldb rfl ag_45_StP2 rfl (fun _ _ => Ctx.start _ []) (by first | exact at0 | exact at1 | exact at2 | exact at3 | exact at4 | exact at5 | exact at6 | exact at7 | exact at8 | exact at9) rfl ?_ | refine t_ld rfl ag_45_StP2 rfl (fun _ hx => cell_bl hx (0 + 6)) ?_
                  refine t_move rfl (.pointer _) rfl ?_
                  refine t_fieldAddr rfl fo_47_6_StP2 rfl ?_
                  first | refine t_ldb rfl ag_45_StP2 rfl (fun _ _ => Ctx.start _ []) (by first | exact at0 | exact at1 | exact at2 | exact at3 | exact at4 | exact at5 | exact at6 | exact at7 | exact at8 | exact at9) rfl ?_ | refine t_ld rfl ag_45_StP2 rfl (fun _ hx => cell_bl hx (0 + 6)) ?_
                  refine t_nil ?_
                  skip
                  refine op_call rfl ca_24_StP2 (two_on (T4.call hdr) x.pa x.pc x.picks.length x.picks (Rp4.go sd) rfl (by omega) hox.cp hox.picks hfo (by omega)) rfl ?_
                  rintro v w ⟨rfl, T5, s5⟩
                  have B5 := (B4.go sd).go s5
                  have Rp5 := (Rp4.go sd).go s5
                  refine op_nil (at_seg (B5.1) ?_)
                  refine seg_cons rfl rfl ?_
                  refine t_nil ?_
                  refine op_call rfl ca_25_StP2 (two_comes T5 x.pa x.pc x.picks.length x.picks Rp5 rfl (by omega) hox.picks hfo (by omega)) rfl ?_
                  rintro v w ⟨rfl, T6, s6⟩
                  have B6 := B5.go s6
                  refine op_nil (at_seg (B6.1) ?_)
                  refine seg_cons rfl rfl ?_
                  refine t_nil ?_
                  refine op_neq rfl rfl rfl ?_
                  rw [show decide (onE (offD A) = onE (offD A)) = true from decide_eq_true rfl]
                  refine op_nil (at_seg (B6.1) ?_)
                  refine seg_nil ?_
                  refine W_cond0 rfl ?_
                  refine W_skip (at_block (at_then ?_))
                  exact ⟨(onD (offD A) x.picks, F, G), rfl, trivial, (on_few hfo _).mono (by omega), T6⟩
                · intro k3
                  replace k3 := dec_f k3
                  refine W_rseq ?_
                  refine op_eql rfl rfl rfl ?_
                  refine op_assign rfl (.bool _) rfl ?_
                  refine op_nil (at_then ?_)
                  refine W_cond _ rfl ?_ ?_
                  · intro k4
                    replace k4 := dec_t k4
                    have T2 := T.call H.ext
                    have ho10 := (H.own _ (List.mem_cons_self ..)).elim (fun h => by cases h) id
                    have B10 : BlF w F G b10 _ := ⟨H.get at0, T.newer ho10 (H.lt at0)⟩
                    have hdr : Ext [] w w.drew := Ext.drew [] w
                    have sd := Still.call (F := F) (G := G) hdr
                    have T2d := T2.call hdr
                    have Bd := B10.go sd
                    refine W_sseqz [([0, 1, 2, 3, 6, 7, 8, 9], 4), ([], 5), ([], 10), ([], 11), ([], 12)] (fun z => z.heap[b10]? = some (Bl 47 x.enc)) 9999 mixed (by kernel_rfl) (Bd.1) ?_
                    refine seg_cons rfl rfl ?_
                    refine t_move rfl (.pointer _) rfl ?_
                    refine t_fieldAddr rfl fo_47_3_StP2 rfl ?_
                    first | refine t_ldb rfl ag_3 rfl (fun _ _ => Ctx.start _ []) (by first | exact at0 | exact at1 | exact at2 | exact at3 | exact at4 | exact at5 | exact at6 | exact at7 | exact at8 | exact at9) rfl ?_ | refine t_ld rfl ag_3 rfl (fun _ hx => cell_bl hx (0 + 3)) ?_
                    first | refine t_ldN _ rfl ag_47_StP2 sz_47_StP2 rfl rfl (fun _ hx => fun j v h => by rw [cell_bl hx, Nat.zero_add]; exact h) ?_ | refine t_ldbN rfl ag_47_StP2 sz_47_StP2 rfl (fun _ _ => Ctx.start _ []) (by first | exact at0 | exact at1 | exact at2 | exact at3 | exact at4 | exact at5 | exact at6 | exact at7 | exact at8 | exact at9) rfl ?_
                    refine t_move rfl (.pointer _) rfl ?_
                    refine t_fieldAddr rfl fo_47_3_StP2 rfl ?_
                    first | refine t_ldb rfl ag_3 rfl (fun _ _ => Ctx.start _ []) (by first | exact at0 | exact at1 | exact at2 | exact at3 | exact at4 | exact at5 | exact at6 | exact at7 | exact at8 | exact at9) rfl ?_ | refine t_ld rfl ag_3 rfl (fun _ hx => cell_bl hx (0 + 3)) ?_
                    first | refine t_ldN _ rfl ag_47_StP2 sz_47_StP2 rfl rfl (fun _ hx => fun j v h => by rw [cell_bl hx, Nat.zero_add]; exact h) ?_ | refine t_ldbN rfl ag_47_StP2 sz_47_StP2 rfl (fun _ _ => Ctx.start _ []) (by first | exact at0 | exact at1 | exact at2 | exact at3 | exact at4 | exact at5 | exact at6 | exact at7 | exact at8 | exact at9) rfl ?_
                    refine t_nil ?_
                    skip
                    refine op_call rfl ca_26_StP2 (raw_ok x _ (hox.ext T2d.ext) (by omega)) rfl ?_
                    rintro v w F22
                    obtain ⟨a22, c22, rfl, R22, hc22, hn22, hl22⟩ := Fresh.new512 F22 (rawB_len x)
                    have T3 := T2d.call F22.ext
                    have B3 := Bd.go (Still.call F22.ext)
                    refine op_nil (at_seg (B3.1) ?_)
                    refine seg_cons rfl rfl ?_
                    refine t_nil ?_
                    refine op_call rfl ca_15_StP2 (two_write T3 x.n a22 c22 512 (rawB x) ⟨R22, .inr (T2d.newer hn22 hl22)⟩ (rawB_len x) (by decide) hfew (by omega)) rfl ?_
                    rintro v w ⟨rfl, F2, T4, s4⟩
                    have B4 := B3.go s4
                    refine op_nil (at_seg (B4.1) ?_)
                    refine seg_cons rfl rfl ?_
                    refine t_nil ?_
                    refine op_call rfl ca_26_StP2 (raw_ok x _ (hox.ext T4.ext) (by omega)) rfl ?_
                    rintro v w F28
                    obtain ⟨a28, c28, rfl, R28, hc28, hn28, hl28⟩ := Fresh.new512 F28 (rawB_len x)
                    have T5 := T4.call F28.ext
                    have B5 := B4.go (Still.call F28.ext)
                    refine op_nil (at_seg (B5.1) ?_)
                    refine seg_cons rfl rfl ?_
                    refine t_nil ?_
                    refine op_call rfl ca_27 (two_rwrite T5 x.n a28 c28 512 (rawB x) ⟨R28, .inr (T4.newer hn28 hl28)⟩ (rawB_len x) hfew (by omega)) rfl ?_
                    rintro v w ⟨rfl, G2, T6, s6⟩
                    have B6 := B5.go s6
                    refine op_nil (at_seg (B6.1) ?_)
                    refine seg_cons rfl rfl ?_
                    refine t_nil ?_
                    refine op_neq rfl rfl rfl ?_
                    rw [show decide (writeE A x.n (rawB x) = writeE A x.n (rawB x)) = true from decide_eq_true rfl]
                    refine op_nil (at_seg (B6.1) ?_)
                    refine seg_nil ?_
                    refine W_cond0 rfl ?_
                    refine W_skip (at_block (at_then ?_))
                    exact ⟨(writeD A x.n (rawB x), F2, G2), rfl, trivial, write_few hfew _ _, T6⟩
                  · intro k4
                    replace k4 := dec_f k4
                    refine W_skip (at_block (at_then ?_))
                    exact ⟨(A, F, G), rfl, trivial, hfew.mono (by omega), T.call H.ext⟩
          · rintro ⟨A', F', G'⟩ j2 w ⟨hfew', T⟩
            dsimp only at hfew' T
            refine W_rseq ?_
            refine op_move rfl (.pointer _) rfl ?_
            refine op_call rfl ca_16_StP2 (load_ok hfew' (by omega) T.dev) rfl ?_
            rintro v w ⟨a33, c33, rfl, R33, -, hx33⟩
            have T2 := T.call hx33
            refine op_move rfl (.tuple _) rfl ?_
            refine op_extract rfl rfl rfl ?_
            refine op_extract rfl rfl rfl ?_
            refine op_extract rfl rfl rfl ?_
            refine op_assign rfl (.int _ _) rfl ?_
            refine op_assign rfl (.slice _ _ _) rfl ?_
            refine op_assign rfl (.int _ _) rfl ?_
            refine op_nil (at_then ?_)
            refine W_rseq ?_
            refine op_move rfl (.pointer _) rfl ?_
            refine op_call rfl ca_28_StP2 (rload_ok hfew' (by omega) T2.ref) rfl ?_
            rintro v w ⟨a39, c39, rfl, R39, hx39⟩
            have T3 := T2.call hx39
            replace R33 := R33.ext0 hx39
            refine op_move rfl (.tuple _) rfl ?_
            refine op_extract rfl rfl rfl ?_
            refine op_extract rfl rfl rfl ?_
            refine op_extract rfl rfl rfl ?_
            refine op_assign rfl (.int _ _) rfl ?_
            refine op_assign rfl (.slice _ _ _) rfl ?_
            refine op_assign rfl (.int _ _) rfl ?_
            refine op_nil (at_then ?_)
            refine W_rseq ?_
            refine op_move rfl (.int _ _) rfl ?_
            refine op_move rfl (.int _ _) rfl ?_
            refine op_neq rfl rfl rfl ?_
            rw [show decide ((loadG A' : Int) = (loadG A' : Int)) = true from decide_eq_true rfl]
            refine op_move rfl (.bool _) rfl ?_
            refine op_move rfl (.slice _ _ _) rfl ?_
            refine op_back (l := loadL A') rfl el_23 un_5 un_9 rfl R33 ?_
            refine op_move rfl (.slice _ _ _) rfl ?_
            refine op_back (l := loadL A') rfl el_23 un_5 un_9 rfl R39 ?_
            refine op_strne (l := loadL A') (m := loadL A') rfl rfl rfl ?_
            rw [show decide (loadL A' = loadL A') = true from decide_eq_true rfl]
            refine op_pick0 rfl rfl (.bool _) rfl ?_
            refine op_move rfl (.bool _) rfl ?_
            refine op_move rfl (.int _ _) rfl ?_
            refine op_move rfl (.int _ _) rfl ?_
            refine op_neq rfl rfl rfl ?_
            rw [show decide (loadE A' = loadE A') = true from decide_eq_true rfl]
            refine op_pick0 rfl rfl (.bool _) rfl ?_
            refine op_nil (at_then ?_)
            refine W_cond0 rfl ?_
            refine W_skip (at_block (at_then ?_))
            refine W_region ?_
            refine op_move rfl (.int _ _) rfl ?_
            refine op_add_i64 rfl rfl rfl (by omega) (by omega) ?_
            refine op_assign rfl (.int _ _) rfl ?_
            refine op_nil (at_then ?_)
            exact ⟨(i + 1, A', F', G'), rfl, ⟨rfl, trivial⟩, ⟨by dsimp only; omega, hfew', T3⟩, by dsimp only; omega⟩
        · intro h3
          replace h3 := dec_f h3
          refine W_exit (exit_then (exit_then (exit_here (at_then ?_))))
          refine W_rseq ?_
          refine op_call rfl ca_11_StP2 (works_ok _) rfl ?_
          rintro v w ⟨rfl, hx⟩
          refine op_assign rfl (.bool _) rfl ?_
          refine op_nil (at_then ?_)
          refine W_ret (leave1 (v := (.bool _)) rfl rfl rfl ?_)
          exact ⟨rfl, T.ext.trans hx⟩

end Go.Proofs.YtkmbcpgnafmnpaaDoor

/- The rows of this seat: the world of the witnesses, in which the laid tables lie. -/
namespace Go.Proofs.YtkmbcpgnafmnpaaDoor
open Go.GV Go.ChangeShapes Go.WideShapes Go.ChangeAt Go.RowKit

theorem own : ownKnob Tryd.prog.godebug = none := by kernel_rfl
theorem laidOut : laidOutB Tryd.prog = true := by kernel_rfl

def rangeZ : List Nat := [128, 191, 160, 191, 128, 159, 144, 191, 128, 143] ++ List.replicate 22 0
def layO (l : List Nat) : Obj → Obj
  | .cells _ t frozen => .cells (l.map fun (n : Nat) => Value.int .u8 (n : Int)).toArray t frozen
  | o => o
/-- A world in which the tables lie (blocks 0 and 1). -/
noncomputable def laidWorld (os : Os) : World :=
  { World.holding Tryd.prog os ⟨#[], #[], []⟩ with heap := ((World.holding Tryd.prog os ⟨#[], #[], []⟩).heap.modify 0 (layO Go.Pinned.utf8FirstZ)).modify 1 (layO rangeZ) }

theorem dec_byte {H : Type} {enc : TypeId × Value → H} {w : World} {base : Nat} {spare : Nat → Bool} {held : Bool} : ∀ n cs y, DataW.trod enc Tryd.prog w base spare held n 5 cs = some y → ∃ b : UInt8, cs = B8 b ∧ True := by
  intro n cs y h
  obtain ⟨d, rfl, h1, h2⟩ := dec_int Tryd.underlying5 n cs y h
  have h1 : (0 : Int) ≤ d := h1
  have h2 : d ≤ 255 := h2
  refine ⟨UInt8.ofNat d.toNat, ?_, trivial⟩
  have : (UInt8.ofNat d.toNat).toNat = d.toNat := by simp [UInt8.toNat_ofNat']; omega
  rw [B8, bv, this, Int.toNat_of_nonneg h1]
theorem byteCells : Tryd.prog.cellsOf 5 = 1 := by kernel_rfl

end Go.Proofs.YtkmbcpgnafmnpaaDoor

/- What the form reads of the steps of the laws of roots. -/
namespace Go.Proofs.YtkmbcpgnafmnpaaDoor
open Go.GV Go.ChangeShapes Go.WideShapes Go.ChangeAt Go.RowKit

theorem stepStruct : ∃ fs, Tryd.prog.underlying 47 = some (.struct fs) ∧ (List.range 7).map (fun i => fs[i]?.map fun f => (f.type, f.offset)) = [some (3, 0), some (22, 1), some (23, 2), some (3, 3), some (24, 4), some (5, 5), some (45, 6)] := ⟨_, Tryd.underlying47, by kernel_rfl⟩
theorem stepCells : Tryd.prog.cellsOf 47 = 7 := by kernel_rfl
theorem bytesCells : Tryd.prog.cellsOf 23 = 1 := by kernel_rfl
theorem intsCells : Tryd.prog.cellsOf 45 = 1 := by kernel_rfl
theorem intCells : Tryd.prog.cellsOf 3 = 1 := by kernel_rfl
theorem byteBytes : Tryd.prog.bytesOf 5 = 1 := by kernel_rfl
theorem intBytes : Tryd.prog.bytesOf 3 = 8 := by kernel_rfl

theorem nat_of {k : Int} {m : Nat} (h1 : 0 ≤ k) (h2 : k ≤ m) : ∃ n : Nat, k = n ∧ n ≤ m := ⟨k.toNat, by omega, by omega⟩

set_option maxRecDepth 100000 in
theorem dec_step {H : Type} {enc : TypeId × Value → H} {w : World} {base : Nat} {spare : Nat → Bool} {held : Bool} : ∀ n cs y, DataW.trod enc Tryd.prog w base spare held n 47 cs = some y → Light Tryd.prog 47 y.1 → ∃ d : Stp, cs = d.enc ∧ d.Ok w := by
  intro n cs y h hL
  obtain ⟨fs, ht, hf⟩ := stepStruct
  have hl := trod_slen ht h
  rw [stepCells] at hl
  simp only [List.range, List.range.loop, List.map_cons, List.map_nil, List.cons.injEq, and_true] at hf
  obtain ⟨f0, f1, f2, f3, f4, f5, f6⟩ := hf
  obtain ⟨a, ha, _⟩ := fld_int ht h 0 0 f0 Tryd.underlying3
  obtain ⟨b, hb, b1, b2⟩ := fld_int ht h 1 1 f1 Tryd.underlying22
  obtain ⟨ca, cc, cl, hc, cR, cle, _, cw, _⟩ := fld_slice ht h hL 2 2 f2 Tryd.underlying23 bytesCells byteCells (by decide) (fun n cs y h _ => dec_byte n cs y h)
  obtain ⟨d, hd, d1, d2⟩ := fld_int ht h 3 3 f3 Tryd.underlying3
  obtain ⟨e, he, e1, e2⟩ := fld_int ht h 4 4 f4 Tryd.underlying24
  obtain ⟨f, hf, g1, g2⟩ := fld_int ht h 5 5 f5 Tryd.underlying5
  obtain ⟨ga, gc, gl, hg, gR, gle, _, gw, gi⟩ := fld_slice ht h hL 6 6 f6 Tryd.underlying45 intsCells intCells (by decide) (fun n cs y h _ => dec_int Tryd.underlying3 n cs y h)
  obtain ⟨b, rfl, hb2⟩ := nat_of (m := 18446744073709551615) b1 b2
  obtain ⟨e, rfl, he2⟩ := nat_of (m := 65535) e1 e2
  obtain ⟨f, rfl, hf2⟩ := nat_of (m := 255) g1 g2
  rw [byteBytes] at cw
  rw [intBytes] at gw
  unfold reachBytes at cw gw
  refine ⟨⟨a, b, ca, cc, cl, d, e, UInt8.ofNat f, ga, gc, gl⟩, ?_, ⟨cR, gR, cle, gle, by dsimp only; omega, by dsimp only; omega, by dsimp only; omega, d1, d2, by dsimp only; omega, fun i hi => gi i hi⟩⟩
  have hff : bv (UInt8.ofNat f) = .int .u8 (f : Int) := by
    have h9 : (UInt8.ofNat f).toNat = f := by rw [UInt8.toNat_ofNat']; omega
    rw [bv, h9]
  match cs, hl with
  | [_, _, _, _, _, _, _], _ =>
    simp at ha hb hc hd he hf hg
    simp [Stp.enc, hff, ha, hb, hc, hd, he, hf, hg]

end Go.Proofs.YtkmbcpgnafmnpaaDoor

/- ShadowPlays: for every input the law answers true, and turns nothing. The tables that its row lists are premises, and tied to the text by its card. -/
namespace Go.Proofs.YtkmbcpgnafmnpaaDoor.shadowPlays
open Go.GV Go.ChangeShapes Go.WideShapes Go.ChangeAt Go.RowKit

theorem laid_met (os : Os) : laidMet Tryd.prog Rows.shadowPlaysRow.laid ((laidWorld os).forCall (fun _ _ => 0) ⟨#[], #[.int .i64 0, .slice none 0 0], []⟩).memory :=
  laidMet_of_run' 8 (by kernel_rfl) (by kernel_rfl)
theorem reads (os : Os) {H : Type} (enc : TypeId × Value → H) : ∃ ds places, DataW.whole enc Tryd.prog ((laidWorld os).forCall (fun _ _ => 0) ⟨#[], #[.int .i64 0, .slice none 0 0], []⟩).memory Tryd.f5.params.toList Rows.shadowPlaysSpec.vars false (#[.int .i64 0, .slice none 0 0] : Array Value).toList 8 = some (ds, [], places) :=
  ⟨[.lit (.int .i64 0), .nil], [], by kernel_rfl⟩

set_option maxRecDepth 100000 in
theorem lifted (os : Os) (started : os.Started) (H : Type) (enc : TypeId × Value → H) (F : Stop.Interp) :
    ReturnsInHanded {} Tryd.checked os 5 .any ((OpenSpec.ofChange Rows.shadowPlaysSpec).preRow enc Tryd.prog Tryd.f5 Rows.shadowPlaysRow.domain false Rows.shadowPlaysRow.laid) (((OpenSpec.ofChange Rows.shadowPlaysSpec).at F).post enc Tryd.prog Tryd.f5 false true false false) := by
  obtain ⟨ds, places, hx⟩ := reads os enc
  refine returnsInHanded_of_row (C := Tryd.checked) (s := OpenSpec.ofChange Rows.shadowPlaysSpec) own started (by kernel_rfl) Tryd.func5
    (witness_row_at (enc := enc) (C := Tryd.checked) false (laidWorld os) #[.int .i64 0, .slice none 0 0] rfl (by kernel_rfl) (by kernel_rfl) (by kernel_rfl)
      (OpenSpec.preRow_of_cond 8 hx (by kernel_rfl) (fun k hk => by cases hk) (by kernel_rfl) (laid_met os))) ?_
  intro W base args ds gs before hval0 hW _ _ hLt _ _ _
  have hval : ∀ (j : Nat) t v, Tryd.f5.params[j]? = some t → args[j]? = some v → Value.okWide Tryd.prog W .any base t v := hval0
  have hW' := hW
  obtain ⟨p, q, hA0, hV, rfl, hfz, hnd⟩ := hW
  have hA : DataW.TrodAll enc Tryd.prog W 0 (fun _ => true) true Tryd.f5.params.toList args.toList ds p := hA0
  rw [Tryd.params5] at hA hval
  obtain ⟨v0, vs0, d0, ds0, p0, q0, hargs, rfl, rfl, h0, r0⟩ := trodAll_cons hA
  obtain ⟨v1, vs1, d1, ds1, p1, q1, rfl, rfl, rfl, h1, r1⟩ := trodAll_cons r0
  obtain ⟨rfl, rfl, rfl⟩ := trodAll_nil r1
  obtain rfl : args = #[v0, v1] := by cases args; simp_all
  obtain ⟨k0, rfl, rfl, rfl, hg0⟩ := open_int Tryd.underlying3 (hval 0 _ v0 rfl rfl) h0
  have hb0 : -9223372036854775808 ≤ k0 ∧ k0 ≤ 9223372036854775807 := wf_bounds hg0
  have hL1 : Light Tryd.prog 40 d1 := light_of hLt (i := 1) rfl rfl
  obtain ⟨a1, c1, l1, rfl, R1, hc1, hm1, hw1, H1⟩ := rdw_of_T Tryd.underlying40 stepCells (by decide) dec_step (okWide_slice Tryd.underlying40 (hval 1 _ v1 rfl rfl)) h1 hL1
  unfold maxLen at hm1
  refine (plays_ok k0 hb0 a1 c1 l1 W R1 H1 (by omega)).calls.mono ?_
  rintro e W' ⟨v, rfl, rfl, hx⟩
  exact ⟨_, rfl, law_post laidOut rfl (by kernel_rfl) rfl Tryd.underlying4 (fun ds h => match ds, h with | [_, _], _ => rfl) hW' hx⟩

theorem said : Rows.ShadowPlaysSaid :=
  OpenClaim.holds_of_cond 5 Tryd.f5 rfl rfl rfl rfl rfl rfl rfl ⟨rfl, rfl, rfl, rfl, rfl⟩ rfl rfl rfl rfl rfl (by kernel_rfl) Tryd.func5 (by kernel_rfl)
    (of_decide_eq_true (by kernel_rfl)) (by unfold Func.isWrapper; first | (rw [if_pos (by decide +kernel)]; kernel_rfl) | (rw [if_neg (by decide +kernel)]; exact ⟨rfl, rfl⟩))
    (fun os started H enc _ F => by rw [OpenClaim.pre_eq_preRow]; exact lifted os started H enc F)

theorem plain (f : FuncId) (fn : Func) (hf : Tryd.pinned.checked.prog.funcNamed "gablet/gabletlaw08.ShadowPlays" = some f) (hfn : Tryd.pinned.checked.prog.funcs[f]? = some fn) :
    false = Tryd.pinned.checked.prog.looks [] ∧ ∀ (j : Nat) t, fn.params[j]? = some t → Tryd.pinned.checked.prog.wantsStandIn t = false := by
  obtain rfl : f = 5 := Option.some.inj ((show Tryd.prog.funcNamed "gablet/gabletlaw08.ShadowPlays" = some 5 by kernel_rfl).symm.trans hf) |>.symm
  obtain rfl : fn = Tryd.f5 := (Option.some.inj (Tryd.func5.symm.trans hfn)).symm
  refine ⟨by kernel_rfl, fun j t ht => ?_⟩
  rw [Tryd.params5] at ht
  have hm := Array.mem_of_getElem? ht
  exact List.all_eq_true.1 (show (Tryd.f5.params.toList.all fun t => !Tryd.prog.wantsStandIn t) = true by kernel_rfl) t (by rw [Tryd.params5]; simpa using hm) |> fun h => (Bool.not_eq_true' _).mp h

theorem card : Rows.ShadowPlaysCardSaid :=
  Claim7.holds_tied_plain_at .later [] _ _ _ _ said (fun _ h => by cases h) (by kernel_rfl) (fun _ h => by cases h) shadowPlays_row_tie rfl ⟨rfl, rfl⟩ (by kernel_rfl) rfl plain (by kernel_rfl)
end Go.Proofs.YtkmbcpgnafmnpaaDoor.shadowPlays
namespace Go.Proofs.YtkmbcpgnafmnpaaDoor
theorem shadowPlays_holds : Rows.ShadowPlaysCardSaid := shadowPlays.card
#print axioms shadowPlays_holds
end Go.Proofs.YtkmbcpgnafmnpaaDoor
