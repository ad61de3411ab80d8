/- Part 13 of the proof. The last text: TreeBuild: for every input the law answers true, and turns nothing. The tables that its row lists are premises, and tied to the text by its card. -/
import Derived.Test.YtbkadlngijkmmaaGreatDoorPart11
import Derived.Test.YtbkadlngijkmmaaGreatDoorPart12
import Derived.Test.YtbkadlngijkmmaaGreatDoorPart2
import Derived.ProofKit
import Derived.Deep.Slices
import Derived.OpenShut
import Derived.Test.YtbkadlngijkmmaaGreatDoorPart9
import Derived.Test.YtbkadlngijkmmaaGreatDoorPart3
import Derived.Test.YtbkadlngijkmmaaGreatDoorCards
import Derived.Test.YtbkadlngijkmmaaGreatDoorTie
import Derived.WalkKit
import Derived.Deep.DeepHandedRow
/- The chapter's examples. -/
namespace Go.Proofs.YtbkadlngijkmmaaGreatDoor
open Go.GV
theorem ag_34_TrG5 : aggB Tryz.prog 34 = some false := by kernel_rfl
theorem ca_14_TrG5 : callable Tryz.prog 14 = true := by kernel_rfl
theorem ca_17_TrG5 : callable Tryz.prog 17 = true := by kernel_rfl
theorem ca_26_TrG5 : callable Tryz.prog 26 = true := by kernel_rfl
theorem ca_27_TrG5 : callable Tryz.prog 27 = true := by kernel_rfl
theorem ca_33_TrG5 : callable Tryz.prog 33 = true := by kernel_rfl
theorem fo_36_2_TrG5 : fieldO Tryz.prog 36 2 = some 2 := by kernel_rfl
theorem un_26_TrG5 : Tryz.prog.underlying 26 = some (.pointer 36) := by kernel_rfl
attribute [local irreducible] Wops W Wq Wt

theorem b7_ok (l : Byt) (w : World) : Ret Tryz.prog 33 #[str l] w fun v w' => ∃ b c, v = .slice (some ⟨b, 0, none⟩) l.length c ∧ Rd w' (some ⟨b, 0, none⟩) 1 B8 l ∧ l.length ≤ c ∧ w.heap.size ≤ b ∧ Ext [] w w' := by
  obtain ⟨w0, rfl⟩ : ∃ w0, w0 = w := ⟨_, rfl⟩
  refine ret_of_W (fn := Tryz.f33) Tryz.func33 rfl [str l] rfl (by kernel_rfl) ?_
  refine W_rseq ?_
  refine op_assign rfl (.slice _ _ _) rfl ?_
  refine op_nil (at_then ?_)
  refine W_rseq ?_
  refine op_move rfl (.string _) rfl ?_
  refine op_bytes (l := l) rfl un_9 el_23 un_5 rfl ?_
  rintro b c w hb hc hx R
  refine op_assign rfl (.slice _ _ _) rfl ?_
  refine op_nil (at_then ?_)
  refine W_ret (leave1 (v := (.slice _ _ _)) rfl rfl rfl ?_)
  exact ⟨b, c, rfl, R, hc, hb, hx⟩
theorem Rdx.new {w w1 w2 : World} {M : Mut} {b : Nat} {l : Byt} (R : Rd w2 (some ⟨b, 0, none⟩) 1 B8 l) (hM : ∀ x, M x → x < w.heap.size) (hs : w.heap.size ≤ w1.heap.size) (hb : w1.heap.size ≤ b) : Rdx w2 M (some ⟨b, 0, none⟩) l :=
  ⟨R, .inr fun h => by have : b < w.heap.size := hM _ h; omega⟩
def kA : Byt := [97]
def kB : Byt := [98]
def vA : Byt := [49]

set_option maxRecDepth 20000 in
set_option maxHeartbeats 8000000 in
theorem works7_ok (w : World) : Ret Tryz.prog 13 #[] w fun v w' => v = .bool true ∧ Ext [] w w' := by
  obtain ⟨w0, rfl⟩ : ∃ w0, w0 = w := ⟨_, rfl⟩
  refine ret_of_W (fn := Tryz.f13) Tryz.func13 rfl [] rfl (by kernel_rfl) ?_
  refine W_rseq ?_
  refine op_assign rfl (.bool _) rfl ?_
  refine op_nil (at_then ?_)
  refine W_rseq ?_
  refine op_call rfl ca_14_TrG5 (opened_ok 40 (by omega) (by omega) w0) rfl ?_
  rintro v w ⟨bx, bt, bd, bp, ba, F, rfl, D, hx, hnew, -⟩
  refine op_assign rfl (.pointer _) rfl ?_
  refine op_nil (at_then ?_)
  refine W_seq ?_
  refine W_rseq ?_
  refine op_move rfl (.pointer _) rfl ?_
  refine op_eqlptr rfl un_26_TrG5 rfl ?_
  refine op_nil (at_then ?_)
  refine W_cond0 rfl ?_
  refine W_skip (at_then ?_)
  obtain ⟨w1, rfl⟩ : ∃ z, z = w := ⟨_, rfl⟩
  obtain ⟨A0, hA0⟩ : ∃ A, A = newD (10 + 40) := ⟨_, rfl⟩
  obtain ⟨P0, hP0⟩ : ∃ P, P = List.replicate 40 0 := ⟨_, rfl⟩
  have s1 : Std w0 w1 bx bt bd bp ba 40 (-1) [] 0 A0 P0 F := by
    rw [hA0, hP0]
    exact ⟨D, new_tree 40, rfl, rfl, List.length_replicate .., newD_len _, new_few7 _, Nat.le_refl _, hnew, hx⟩
  have hfree0 : 24 ≤ freeP P0 := by rw [hP0, new_free]; omega
  have hz0 : ∀ s ∈ P0, s = 0 := fun s hs => by rw [hP0] at hs; exact List.eq_of_mem_replicate hs
  have H := Ctx.start w1 []
  refine W_sseqz [([0, 1, 2, 3], 4), ([], 5), ([], 6), ([7, 8, 9, 10], 11)] (fun z => z.heap[bx]? = some (Bl 36 [ptr bd, ptr bp, ptr bt])) [] mixed (by kernel_rfl) (s1.D.dk) ?_
  refine seg_cons rfl rfl ?_
  refine t_move rfl (.pointer _) rfl ?_
  refine t_nilCheck rfl rfl ?_
  refine t_fieldAddr rfl fo_36_2_TrG5 rfl ?_
  first | refine t_ldb rfl ag_34_TrG5 rfl (fun _ _ => Ctx.start _ []) (by first | exact at0 | exact at1 | exact at2 | exact at3 | exact at4 | exact at5 | exact at6 | exact at7 | exact at8 | exact at9) rfl ?_ | refine t_ld rfl ag_34_TrG5 rfl (fun _ hx => (by rw [cell_bl hx]; rfl)) ?_
  refine t_nil ?_
  skip
  refine op_call rfl ca_33_TrG5 (b7_ok kA _) rfl ?_
  rintro v w2 ⟨b2, c2, rfl, R2, hc2, hb2, hx2⟩
  have s2 := (s1.call (Ext.drew [] w1)).call hx2
  refine op_nil (at_seg (s2.D.dk) ?_)
  refine seg_cons rfl rfl ?_
  refine t_nil ?_
  refine op_call rfl ca_33_TrG5 (b7_ok vA _) rfl ?_
  rintro v w3 ⟨b3, c3, rfl, R3, hc3, hb3, hx3⟩
  have s3 := s2.call hx3
  refine op_nil (at_seg (s3.D.dk) ?_)
  refine seg_cons rfl rfl ?_
  refine t_nil ?_
  refine op_call rfl ca_26_TrG5 (s3.put (by omega) (by omega) hfree0 (Rdx.new (R2.ext0 hx3) s1.D.T.mlt (Nat.le_refl _) hb2) (Rdx.new R3 s2.D.T.mlt (Nat.le_refl _) hb3) hc2 hc3 (by decide)) rfl ?_
  rintro v w4 ⟨r4, A4, P4, F4, rfl, s4, af4, -⟩
  refine op_nil (at_seg (s4.D.dk) ?_)
  refine seg_cons rfl rfl ?_
  refine t_move rfl (.tuple _) rfl ?_
  refine t_extract rfl rfl rfl ?_
  refine t_extract rfl rfl rfl ?_
  refine t_assign rfl (.int _ _) rfl ?_
  refine t_nil ?_
  refine op_assign rfl (.int _ _) rfl ?_
  refine op_nil (at_seg (s4.D.dk) ?_)
  refine seg_nil ?_
  have hL4 : putP [] kA vA = [(kA, vA)] := rfl
  rw [hL4] at s4
  have H := Ctx.start w4 []
  refine W_sseqz [([0, 1, 2, 3, 4], 5), ([], 6), ([7, 8, 9, 10, 11, 12], 13)] (fun z => z.heap[bx]? = some (Bl 36 [ptr bd, ptr bp, ptr bt])) [] mixed (by kernel_rfl) (s4.D.dk) ?_
  refine seg_cons rfl rfl ?_
  refine t_move rfl (.pointer _) rfl ?_
  refine t_nilCheck rfl rfl ?_
  refine t_fieldAddr rfl fo_36_2_TrG5 rfl ?_
  first | refine t_ldb rfl ag_34_TrG5 rfl (fun _ _ => Ctx.start _ []) (by first | exact at0 | exact at1 | exact at2 | exact at3 | exact at4 | exact at5 | exact at6 | exact at7 | exact at8 | exact at9) rfl ?_ | refine t_ld rfl ag_34_TrG5 rfl (fun _ hx => (by rw [cell_bl hx]; rfl)) ?_
  refine t_move rfl (.int _ _) rfl ?_
  refine t_nil ?_
  skip
  refine op_call rfl ca_33_TrG5 (b7_ok kA _) rfl ?_
  rintro v w5 ⟨b5, c5, rfl, R5, hc5, hb5, hx5⟩
  have s5 := (s4.call (Ext.drew [] w4)).call hx5
  refine op_nil (at_seg (s5.D.dk) ?_)
  refine seg_cons rfl rfl ?_
  refine t_nil ?_
  refine op_call rfl ca_17_TrG5 (s5.get (by omega) (by omega) R5) rfl ?_
  rintro v w6 ⟨a6, c6, u6, g6, e6, rfl, hx6, R6, h6⟩
  have s6 := s5.call hx6
  refine op_nil (at_seg (s6.D.dk) ?_)
  refine seg_cons rfl rfl ?_
  refine t_move rfl (.tuple _) rfl ?_
  refine t_extract rfl rfl rfl ?_
  refine t_extract rfl rfl rfl ?_
  refine t_extract rfl rfl rfl ?_
  refine t_assign rfl (.slice _ _ _) rfl ?_
  refine t_assign rfl (.bool _) rfl ?_
  refine t_nil ?_
  refine op_assign rfl (.int _ _) rfl ?_
  refine op_nil (at_seg (s6.D.dk) ?_)
  refine seg_nil ?_
  obtain ⟨rfl, hg6, hu6⟩ := h6 (by decide)
  rw [show getP [(kA, vA)] kA = some vA from rfl] at hg6 hu6
  obtain rfl : g6 = true := hg6
  obtain rfl : u6 = vA := hu6
  have H := Ctx.start w6 []
  refine W_sseqz [([0, 1, 2, 3, 4], 5), ([], 6), ([7, 8, 9, 10, 11, 12], 13)] (fun z => z.heap[bx]? = some (Bl 36 [ptr bd, ptr bp, ptr bt])) [] mixed (by kernel_rfl) (s6.D.dk) ?_
  refine seg_cons rfl rfl ?_
  refine t_move rfl (.pointer _) rfl ?_
  refine t_nilCheck rfl rfl ?_
  refine t_fieldAddr rfl fo_36_2_TrG5 rfl ?_
  first | refine t_ldb rfl ag_34_TrG5 rfl (fun _ _ => Ctx.start _ []) (by first | exact at0 | exact at1 | exact at2 | exact at3 | exact at4 | exact at5 | exact at6 | exact at7 | exact at8 | exact at9) rfl ?_ | refine t_ld rfl ag_34_TrG5 rfl (fun _ hx => (by rw [cell_bl hx]; rfl)) ?_
  refine t_move rfl (.int _ _) rfl ?_
  refine t_nil ?_
  skip
  refine op_call rfl ca_33_TrG5 (b7_ok kB _) rfl ?_
  rintro v w7 ⟨b7, c7, rfl, R7, hc7, hb7, hx7⟩
  have s7 := (s6.call (Ext.drew [] w6)).call hx7
  refine op_nil (at_seg (s7.D.dk) ?_)
  refine seg_cons rfl rfl ?_
  refine t_nil ?_
  refine op_call rfl ca_17_TrG5 (s7.get (by omega) (by omega) R7) rfl ?_
  rintro v w8 ⟨a8, c8, u8, g8, e8, rfl, hx8, R8, h8⟩
  have s8 := s7.call hx8
  refine op_nil (at_seg (s8.D.dk) ?_)
  refine seg_cons rfl rfl ?_
  refine t_move rfl (.tuple _) rfl ?_
  refine t_extract rfl rfl rfl ?_
  refine t_extract rfl rfl rfl ?_
  refine t_extract rfl rfl rfl ?_
  refine t_assign rfl (.slice _ _ _) rfl ?_
  refine t_assign rfl (.bool _) rfl ?_
  refine t_nil ?_
  refine op_assign rfl (.int _ _) rfl ?_
  refine op_nil (at_seg (s8.D.dk) ?_)
  refine seg_nil ?_
  obtain ⟨rfl, hg8, hu8⟩ := h8 (by decide)
  rw [show getP [(kA, vA)] kB = none from rfl] at hg8 hu8
  obtain rfl : g8 = false := hg8
  obtain rfl : u8 = [] := hu8
  obtain ⟨S4, td4, hnd4, hS4⟩ := s4.told (by omega)
  have hset := settle_free s4.D.T.pg.ok hnd4 hS4
  rw [free_young af4.back hz0] at hset
  have hlen4 := td4.len
  have hnum4 := s4.num
  rw [show [(kA, vA)].length = 1 from rfl] at hlen4
  have hfree4 : 24 ≤ freeP P4 := by omega
  have hr4 : 0 ≤ r4 := by
    have h1 := td4.rlo
    have h2 : r4 ≠ -1 := fun h => by have h := td4.none.1 h; cases h
    omega
  have H := Ctx.start w8 []
  refine W_sseqz [([0, 1, 2, 3, 4], 5), ([], 6), ([7, 8, 9, 10, 11, 12], 13)] (fun z => z.heap[bx]? = some (Bl 36 [ptr bd, ptr bp, ptr bt])) [] mixed (by kernel_rfl) (s8.D.dk) ?_
  refine seg_cons rfl rfl ?_
  refine t_move rfl (.pointer _) rfl ?_
  refine t_nilCheck rfl rfl ?_
  refine t_fieldAddr rfl fo_36_2_TrG5 rfl ?_
  first | refine t_ldb rfl ag_34_TrG5 rfl (fun _ _ => Ctx.start _ []) (by first | exact at0 | exact at1 | exact at2 | exact at3 | exact at4 | exact at5 | exact at6 | exact at7 | exact at8 | exact at9) rfl ?_ | refine t_ld rfl ag_34_TrG5 rfl (fun _ hx => (by rw [cell_bl hx]; rfl)) ?_
  refine t_move rfl (.int _ _) rfl ?_
  refine t_nil ?_
  skip
  refine op_call rfl ca_33_TrG5 (b7_ok kB _) rfl ?_
  rintro v w9 ⟨b9, c9, rfl, R9, hc9, hb9, hx9⟩
  have s9 := (s8.call (Ext.drew [] w8)).call hx9
  refine op_nil (at_seg (s9.D.dk) ?_)
  refine seg_cons rfl rfl ?_
  refine t_nil ?_
  refine op_call rfl ca_27_TrG5 (s9.cut (by omega) (by omega) hfree4 (Rdx.new R9 s8.D.T.mlt (Nat.le_refl _) hb9) (by decide)) rfl ?_
  rintro v w10 ⟨r10, A10, P10, F10, rfl, s10, af10, hr10, g10⟩
  refine op_nil (at_seg (s10.D.dk) ?_)
  refine seg_cons rfl rfl ?_
  refine t_move rfl (.tuple _) rfl ?_
  refine t_extract rfl rfl rfl ?_
  refine t_extract rfl rfl rfl ?_
  refine t_extract rfl rfl rfl ?_
  refine t_assign rfl (.int _ _) rfl ?_
  refine t_assign rfl (.bool _) rfl ?_
  refine t_nil ?_
  refine op_assign rfl (.int _ _) rfl ?_
  refine op_nil (at_seg (s10.D.dk) ?_)
  refine seg_nil ?_
  obtain rfl : r10 = r4 := hr10 rfl
  rw [show cutP [(kA, vA)] kB = [(kA, vA)] from rfl] at s10
  rw [show (getP [(kA, vA)] kB).isSome = false from rfl]
  obtain ⟨S10, td10, hnd10, hS10⟩ := s10.told (by omega)
  have hset10 := settle_free s10.D.T.pg.ok hnd10 hS10
  rw [free_young (af10.back.trans af4.back) hz0] at hset10
  have hlen10 := td10.len
  have hnum10 := s10.num
  rw [show [(kA, vA)].length = 1 from rfl] at hlen10
  have hfree10 : 24 ≤ freeP P10 := by omega
  have H := Ctx.start w10 []
  refine W_sseqz [([0, 1, 2, 3, 4], 5), ([], 6), ([7, 8, 9, 10, 11, 12], 13)] (fun z => z.heap[bx]? = some (Bl 36 [ptr bd, ptr bp, ptr bt])) [] mixed (by kernel_rfl) (s10.D.dk) ?_
  refine seg_cons rfl rfl ?_
  refine t_move rfl (.pointer _) rfl ?_
  refine t_nilCheck rfl rfl ?_
  refine t_fieldAddr rfl fo_36_2_TrG5 rfl ?_
  first | refine t_ldb rfl ag_34_TrG5 rfl (fun _ _ => Ctx.start _ []) (by first | exact at0 | exact at1 | exact at2 | exact at3 | exact at4 | exact at5 | exact at6 | exact at7 | exact at8 | exact at9) rfl ?_ | refine t_ld rfl ag_34_TrG5 rfl (fun _ hx => (by rw [cell_bl hx]; rfl)) ?_
  refine t_move rfl (.int _ _) rfl ?_
  refine t_nil ?_
  skip
  refine op_call rfl ca_33_TrG5 (b7_ok kA _) rfl ?_
  rintro v w11 ⟨b11, c11, rfl, R11, hc11, hb11, hx11⟩
  have s11 := (s10.call (Ext.drew [] w10)).call hx11
  refine op_nil (at_seg (s11.D.dk) ?_)
  refine seg_cons rfl rfl ?_
  refine t_nil ?_
  refine op_call rfl ca_27_TrG5 (s11.cut (by omega) (by omega) hfree10 (Rdx.new R11 s10.D.T.mlt (Nat.le_refl _) hb11) (by decide)) rfl ?_
  rintro v w12 ⟨r12, A12, P12, F12, rfl, s12, -, -, g12⟩
  refine op_nil (at_seg (s12.D.dk) ?_)
  refine seg_cons rfl rfl ?_
  refine t_move rfl (.tuple _) rfl ?_
  refine t_extract rfl rfl rfl ?_
  refine t_extract rfl rfl rfl ?_
  refine t_extract rfl rfl rfl ?_
  refine t_assign rfl (.int _ _) rfl ?_
  refine t_assign rfl (.bool _) rfl ?_
  refine t_nil ?_
  refine op_assign rfl (.int _ _) rfl ?_
  refine op_nil (at_seg (s12.D.dk) ?_)
  refine seg_nil ?_
  rw [show cutP [(kA, vA)] kA = [] from rfl] at s12
  rw [show (getP [(kA, vA)] kA).isSome = true from rfl]
  obtain ⟨S12, td12, -, -⟩ := s12.told (by omega)
  obtain rfl : r12 = -1 := td12.none.2 rfl
  have X8 := R6.turn (.call0 (((Ext.drew [] w6).trans hx7).trans hx8))
  have X10 := (X8.turn (.call0 ((Ext.drew [] w8).trans hx9))).turn g10
  have X12 := (X10.turn (.call0 ((Ext.drew [] w10).trans hx11))).turn g12
  refine W_rseq ?_
  refine op_move rfl (.int _ _) rfl ?_
  refine op_eql rfl rfl rfl ?_
  refine op_move rfl (.bool _) rfl ?_
  refine op_move rfl (.int _ _) rfl ?_
  refine op_geq rfl rfl rfl ?_
  rw [decide_eq_true hr4]
  refine op_pick1 rfl rfl (.bool _) rfl ?_
  refine op_move rfl (.bool _) rfl ?_
  refine op_move rfl (.slice _ _ _) rfl ?_
  refine op_back (l := vA) rfl el_23 un_5 un_9 rfl X12.1 ?_
  refine op_streq (l := vA) (m := [49]) rfl rfl rfl ?_
  rw [show decide (vA = [49]) = true from rfl]
  refine op_pick1 rfl rfl (.bool _) rfl ?_
  refine op_move rfl (.bool _) rfl ?_
  refine op_move rfl (.bool _) rfl ?_
  refine op_pick1 rfl rfl (.bool _) rfl ?_
  refine op_move rfl (.bool _) rfl ?_
  refine op_move rfl (.int _ _) rfl ?_
  refine op_eql rfl rfl rfl ?_
  refine op_pick1 rfl rfl (.bool _) rfl ?_
  refine op_move rfl (.bool _) rfl ?_
  refine op_move rfl (.bool _) rfl ?_
  refine op_not rfl rfl ?_
  refine op_pick1 rfl rfl (.bool _) rfl ?_
  refine op_move rfl (.bool _) rfl ?_
  refine op_move rfl (.int _ _) rfl ?_
  refine op_eql rfl rfl rfl ?_
  refine op_pick1 rfl rfl (.bool _) rfl ?_
  refine op_move rfl (.bool _) rfl ?_
  refine op_move rfl (.int _ _) rfl ?_
  refine op_move rfl (.int _ _) rfl ?_
  refine op_eql rfl rfl rfl ?_
  rw [show decide (r10 = r10) = true from decide_eq_true rfl]
  refine op_pick1 rfl rfl (.bool _) rfl ?_
  refine op_move rfl (.bool _) rfl ?_
  refine op_move rfl (.bool _) rfl ?_
  refine op_not rfl rfl ?_
  refine op_pick1 rfl rfl (.bool _) rfl ?_
  refine op_move rfl (.bool _) rfl ?_
  refine op_move rfl (.int _ _) rfl ?_
  refine op_eql rfl rfl rfl ?_
  refine op_pick1 rfl rfl (.bool _) rfl ?_
  refine op_move rfl (.bool _) rfl ?_
  refine op_move rfl (.int _ _) rfl ?_
  refine op_eql rfl rfl rfl ?_
  refine op_pick1 rfl rfl (.bool _) rfl ?_
  refine op_move rfl (.bool _) rfl ?_
  refine op_move rfl (.bool _) rfl ?_
  refine op_pick1 rfl rfl (.bool _) rfl ?_
  refine op_move rfl (.bool _) rfl ?_
  refine op_move rfl (.int _ _) rfl ?_
  refine op_eql rfl rfl rfl ?_
  refine op_pick1 rfl rfl (.bool _) rfl ?_
  refine op_assign rfl (.bool _) rfl ?_
  refine op_nil (at_then ?_)
  refine W_ret (leave1 (v := (.bool _)) rfl rfl rfl ?_)
  exact ⟨rfl, s12.hx⟩

end Go.Proofs.YtbkadlngijkmmaaGreatDoor

/- What is done without a tree, and with roots that are none. -/
namespace Go.Proofs.YtbkadlngijkmmaaGreatDoor
open Go.GV
attribute [local irreducible] Wops W Wq Wt

section
variable {w : World} {bt bd bp ba fr : Nat} {A : Dev} {P : List Nat} {F : Mut}
end
end Go.Proofs.YtbkadlngijkmmaaGreatDoor

/- Whatever is put and cut: the walk. -/
namespace Go.Proofs.YtbkadlngijkmmaaGreatDoor
open Go.GV
attribute [local irreducible] Wops W Wq Wt

structure Sv where
  root : Int
  la : Option Addr
  lc : Nat
  L : List Pr
  i : Nat
  A : Dev
  P : List Nat
  F : Mut
/-- A desk that stands between two steps, with room. -/
structure Mid (w0 w : World) (bx bt bd bp ba : Nat) (s : Sv) : Prop where
  std : Std w0 w bx bt bd bp ba 800 s.root s.L s.i s.A s.P s.F
  pl : Prs w (TM s.F ba bt bp []) s.la s.L.length s.lc s.L
  free : 24 ≤ freeP s.P
theorem Mid.of {w0 w : World} {bx bt bd bp ba : Nat} {root : Int} {la : Option Addr} {lc : Nat} {L : List Pr} {i : Nat} {A : Dev} {P : List Nat} {F : Mut} (s : Std w0 w bx bt bd bp ba 800 root L i A P F) (PL : Prs w (TM F ba bt bp []) la L.length lc L) (h : 24 ≤ freeP P) : Mid w0 w bx bt bd bp ba ⟨root, la, lc, L, i, A, P, F⟩ := ⟨s, PL, h⟩
theorem Mid.settle {w0 w w' : World} {bx bt bd bp ba : Nat} {root : Int} {la : Option Addr} {lc : Nat} {L : List Pr} {i : Nat} {A : Dev} {P : List Nat} {F : Mut} (s : Std w0 w bx bt bd bp ba 800 root L i A P F) (PL : Prs w (TM F ba bt bp []) la L.length lc L) (hi : i ≤ 300) (h : PgAt w' bp ba (P.map settleS)) (hx : Ext [ba] w w') :
    Mid w0 w' bx bt bd bp ba ⟨root, la, lc, L, i, A, P.map settleS, F⟩ ∧ Grown (TM F ba bt bp []) (TM F ba bt bp []) w w' := by
  obtain ⟨h1, h2⟩ := s.settle h hx
  refine ⟨⟨h1, PL.turn h2, ?_⟩, h2⟩
  have := s.free (by omega)
  show 24 ≤ freeP (P.map settleS)
  omega

end Go.Proofs.YtbkadlngijkmmaaGreatDoor

/- Pairs that rise are built: the law's walk. -/
namespace Go.Proofs.YtbkadlngijkmmaaGreatDoor
open Go.GV
theorem ag_30_TrBd : aggB Tryz.prog 30 = some true := by kernel_rfl
theorem ag_33_TrBd : aggB Tryz.prog 33 = some false := by kernel_rfl
theorem ag_34_TrBd : aggB Tryz.prog 34 = some false := by kernel_rfl
theorem ca_12_TrBd : callable Tryz.prog 12 = true := by kernel_rfl
theorem ca_13_TrBd : callable Tryz.prog 13 = true := by kernel_rfl
theorem ca_14_TrBd : callable Tryz.prog 14 = true := by kernel_rfl
theorem ca_16_TrBd : callable Tryz.prog 16 = true := by kernel_rfl
theorem ca_20_TrBd : callable Tryz.prog 20 = true := by kernel_rfl
theorem ca_21_TrBd : callable Tryz.prog 21 = true := by kernel_rfl
theorem ca_22_TrBd : callable Tryz.prog 22 = true := by kernel_rfl
theorem ca_28_TrBd : callable Tryz.prog 28 = true := by kernel_rfl
theorem ca_29_TrBd : callable Tryz.prog 29 = true := by kernel_rfl
theorem ca_34_TrBd : callable Tryz.prog 34 = true := by kernel_rfl
theorem ca_35_TrBd : callable Tryz.prog 35 = true := by kernel_rfl
theorem el_22_TrBd : elemT Tryz.prog 22 = some 30 := by kernel_rfl
theorem el_28_TrBd : elemT Tryz.prog 28 = some 70 := by kernel_rfl
theorem fo_36_1_TrBd : fieldO Tryz.prog 36 1 = some 1 := by kernel_rfl
theorem fo_36_2_TrBd : fieldO Tryz.prog 36 2 = some 2 := by kernel_rfl
theorem fo_70_0_TrBd : fieldO Tryz.prog 70 0 = some 0 := by kernel_rfl
theorem fo_70_1_TrBd : fieldO Tryz.prog 70 1 = some 1 := by kernel_rfl
theorem sz_30_TrBd : tsize Tryz.prog 30 = some 4 := by kernel_rfl
theorem sz_70_TrBd : tsize Tryz.prog 70 = some 2 := by kernel_rfl
theorem un_26_TrBd : Tryz.prog.underlying 26 = some (.pointer 36) := by kernel_rfl
attribute [local irreducible] Wops W Wq Wt

theorem putF_fewtk {fr : Nat} {i : Bool} {m : Nat} : ∀ {Hs : List (List It)} {c : Ch} {acc : List It}, Few c.A (m + c.tk.length) → Few (putF fr i Hs c acc).2.1.A (m + (putF fr i Hs c acc).2.1.tk.length)
  | [], _, _, h => h
  | x :: Hs, c, acc, h => by
    unfold putF
    split
    · exact putF_fewtk (wrC_fewtk h)
    · exact wrC_fewtk h
theorem buildC_fewtk {fr m : Nat} : ∀ {n : Nat} {c : Ch} {i : Bool} {M : List It}, Few c.A (m + c.tk.length) → Few (buildC fr n c i M).2.1.A (m + (buildC fr n c i M).2.1.tk.length)
  | 0, _, _, _, h => h
  | n + 1, c, i, M, h => by
    have h1 := putF_fewtk (fr := fr) (i := i) (Hs := fullN i M) (acc := []) h
    unfold buildC
    split
    · exact h
    · split
      · exact h1
      · split
        · exact h1
        · exact buildC_fewtk h1
structure Im.In (w : World) (m : Im) : Prop where
  k : Rd w m.ka 1 B8 m.it.key
  v : Rd w m.va 1 B8 m.it.val
  kc : m.it.key.length ≤ m.kc
  vc : m.it.val.length ≤ m.vc
theorem Im.In.ok {w0 w : World} {M : Mut} {m : Im} (h : m.In w0) (hx : Ext [] w0 w) (hM : ∀ x, M x → w0.heap.size ≤ x) : m.Ok w M := ⟨.of0 h.k hx hM, .of0 h.v hx hM, h.kc, h.vc⟩
theorem prs_in {w0 w : World} {M : Mut} {a : Option Addr} {c : Nat} {l : List Im} (R : Rd w0 a 2 encP l) (hc : l.length ≤ c) (hin : ∀ x ∈ l, x.In w0) (hx : Ext [] w0 w) (hM : ∀ x, M x → w0.heap.size ≤ x) : Prs w M a l.length c (l.map fun m => prI m.it) := by
  refine ⟨⟨l, R.ext0 hx, ?_, rfl, fun m hm => (hin m hm).ok hx hM⟩, by simp, hc⟩
  rcases rd_ltN R (by decide) (fun _ _ => rfl) with h | h
  · exact .inl h
  · exact .inr fun h5 => by have := hM _ h5; omega
/-- What a build leaves. -/
def Bout (w0 : World) (bx bt bd bp ba : Nat) (L : List Pr) (v : Value) (w' : World) : Prop :=
  ∃ (root e : Int) (A' : Dev) (P' : List Nat) (F' : Mut), v = .tuple #[.int .i64 root, .int .i64 e] ∧ Dk w' bx bt bd bp ba A' P' F' ∧ Ext [] w0 w' ∧ (∀ x, TM F' ba bt bp [] x → w0.heap.size ≤ x) ∧
    (((∃ i, i < L.length ∧ ¬ GoodP L i) ∧ e = 1 ∧ freeP P' = 1500) ∨ ((∀ i, i < L.length → GoodP L i) ∧ e = 0 ∧ Std w0 w' bx bt bd bp ba 1500 root L 1000 A' P' F' ∧ ∀ S : List Nat, S.Nodup → (∀ x : Nat, x ∈ S ↔ P'[x]? = some 1 ∨ P'[x]? = some 2) → S.length ≤ mostL L))
theorem held_num {P S S2 : List Nat} (h1 : S.Nodup) (h2 : ∀ x : Nat, x ∈ S ↔ P[x]? = some 1 ∨ P[x]? = some 2) (h3 : S2.Nodup) (h4 : ∀ x : Nat, x ∈ S2 ↔ P[x]? = some 1 ∨ P[x]? = some 2) : S.length = S2.length :=
  ((List.perm_ext_iff_of_nodup h1 h3).2 fun x => (h2 x).trans (h4 x).symm).length_eq

set_option maxRecDepth 20000 in
set_option maxHeartbeats 4000000 in
theorem bld_ok {w0 w : World} {bx bt bd bp ba : Nat} {F : Mut} {a : Option Addr} {c : Nat} {l : List Im} (D : Dk w bx bt bd bp ba (newD (10 + 1500)) (List.replicate 1500 0) F) (hx : Ext [] w0 w) (hnew : ∀ x, TM F ba bt bp [] x → w0.heap.size ≤ x) (PL : Prs w (TM F ba bt bp []) a l.length c (l.map fun m => prI m.it)) (hl : l.length ≤ 1000) :
    Ret Tryz.prog 29 #[ptr bt, .slice a l.length c] w fun v w' => Bout w0 bx bt bd bp ba (l.map fun m => prI m.it) v w' := by
  obtain ⟨L, hL⟩ : ∃ L, L = l.map fun m => prI m.it := ⟨_, rfl⟩
  have hLl : L.length = l.length := by rw [hL, List.length_map]
  rw [← hL] at PL ⊢
  have hB : (∀ i, i < L.length → GoodP L i) → L ≠ [] → _ := fun hg hne => built (n := 1500) rfl (by omega) (good_all hg).1 (good_all hg).2 hne
  refine (build7_ok D.T PL hl (mx := 0) (new_few7 _) (by omega) (fun hg hne => by
    have h := (hB hg hne).1.ok
    rw [h]; decide)).mono fun v w' h => ?_
  rcases h with ⟨hb, rfl, hx2⟩ | ⟨hg, hL0, rfl, hx2⟩ | ⟨hg, hne, F2, rfl, T2, g2⟩
  · exact ⟨_, _, _, _, F, rfl, D.call hx2, hx.trans hx2, hnew, .inl ⟨hb, rfl, new_free 1500⟩⟩
  · have D2 := D.call hx2
    have hT : TreeAt 10 (newD (10 + 1500)) (List.replicate 1500 0) (-1) L := by rw [hL0]; exact new_tree 1500
    refine ⟨_, _, _, _, F, rfl, D2, hx.trans hx2, hnew, .inr ⟨hg, rfl, ⟨D2, hT, rfl, rfl, List.length_replicate .., newD_len _, (new_few7 _).mono (Nat.zero_le _), by rw [hL0]; exact Nat.zero_le _, hnew, hx.trans hx2⟩, fun S h1 h2 => ?_⟩⟩
    have h3 := held_num h1 h2 List.nodup_nil (fun x => ⟨(fun h => by cases h), fun h => by
      exfalso
      rcases h with h | h
      · have := rep0 h; omega
      · have := rep0 h; omega⟩)
    rw [h3]; exact Nat.zero_le _
  · obtain ⟨B, htk⟩ := hB hg hne
    obtain ⟨S2, -, h3, h4, h5⟩ := B.cnt
    have hok := B.ok
    rw [hok] at T2
    have D2 := D.step T2 g2
    have hx2 := g2.1.new hx hnew
    have hn2 : ∀ x, TM F2 ba bt bp [] x → w0.heap.size ≤ x := fun x h => (g2.2 x h).elim (hnew x) fun h => Nat.le_trans hx.size h
    have hfew := buildC_fewtk (fr := 10) (m := 0) (n := 1500) (c := ⟨newD (10 + 1500), List.replicate 1500 0, [], []⟩) (i := false) (M := L.map leafI) (new_few7 _)
    refine ⟨_, _, _, _, F2, rfl, D2, hx2, hn2, .inr ⟨hg, hok, ⟨D2, B.tree, B.on, B.left, B.len.trans (List.length_replicate ..), B.blen.trans (newD_len _), hfew.mono ?_, by omega, hn2, hx2⟩, fun S h1 h2 => ?_⟩⟩
    · have : (buildC 10 1500 ⟨newD (10 + 1500), List.replicate 1500 0, [], []⟩ false (L.map leafI)).2.1.tk.length ≤ 1400 := htk
      omega
    · rw [held_num h1 h2 h3 h4]
      unfold mostL
      rw [if_neg hne]; exact h5

set_option maxRecDepth 20000 in
set_option maxHeartbeats 16000000 in
theorem treeBuild_ok (a b : Option Addr) (c d : Nat) (l : List Im) (m : List Sm) (w : World) (R : Rd w a 2 encP l) (hc : l.length ≤ c) (hin : ∀ x ∈ l, x.In w) (R2 : Rd w b 4 Sm.enc m) (hin2 : ∀ x ∈ m, x.In w) :
    Ret Tryz.prog 5 #[.slice a l.length c, .slice b m.length d] w fun v w' => v = .bool true ∧ Ext [] w w' := by
  obtain ⟨w0, rfl⟩ : ∃ w0, w0 = w := ⟨_, rfl⟩
  refine ret_of_W (fn := Tryz.f5) Tryz.func5 rfl [.slice a l.length c, .slice b m.length d] rfl (by kernel_rfl) ?_
  refine W_rseq ?_
  refine op_assign rfl (.bool _) rfl ?_
  refine op_nil (at_then ?_)
  refine W_seq ?_
  refine W_rseq (Wops_join (α := Unit) 8323072 (fun _ => [(22, .bool (decide (1000 < l.length) || heavy7B m))]) (fun _ w' => w0 = w') rfl ?_ ?_)
  · refine op_move rfl (.slice _ _ _) rfl ?_
    refine op_len rfl el_28_TrBd rfl ?_
    refine op_gtr rfl rfl rfl ?_
    refine op_move rfl (.bool _) rfl ?_
    refine Wops_split 19 rfl ?_ ?_
    · intro h1
      replace h1 := dec_t h1
      refine op_skip rfl ?_
      refine op_skip rfl ?_
      refine op_pick1 rfl rfl (.bool _) rfl ?_
      refine op_nil ?_
      exact ⟨rfl, (), rfl, ⟨congrArg Value.bool (by rw [Bool.eq_iff_iff]; simp_all; try omega), trivial⟩, rfl⟩
    · intro h2
      replace h2 := dec_f h2
      refine op_move rfl (.slice _ _ _) rfl ?_
      refine op_call rfl ca_12_TrBd (heavy7_ok b d m _ R2) rfl ?_
      rintro v w ⟨rfl, rfl⟩
      refine op_pick0 rfl rfl (.bool _) rfl ?_
      refine op_nil ?_
      exact ⟨rfl, (), rfl, ⟨congrArg Value.bool (by rw [Bool.eq_iff_iff]; simp_all; try omega), trivial⟩, rfl⟩
  rintro - j22 w rfl
  refine W_cond _ rfl ?_ ?_
  · intro hA
    refine W_rseq ?_
    refine op_call rfl ca_13_TrBd (works7_ok _) rfl ?_
    rintro v w ⟨rfl, hxw⟩
    refine op_assign rfl (.bool _) rfl ?_
    refine op_nil (at_then ?_)
    refine W_ret (ret_then (leave1 (v := (.bool _)) rfl rfl rfl ?_))
    exact ⟨rfl, hxw⟩
  · intro hA
    rw [Bool.or_eq_false_iff] at hA
    have hl1 : l.length ≤ 1000 := by have := of_decide_eq_false hA.1; omega
    obtain ⟨hm3, hsm2⟩ := light7 hA.2
    refine W_skip (at_then ?_)
    refine W_seq ?_
    refine W_rseq ?_
    refine op_assign rfl (.int _ _) rfl ?_
    refine op_nil (at_then ?_)
    refine W_block ?_
    refine W_loop 140737471578160 (α := Nat) (fun i => [(5, .int .i64 (i : Int))]) (fun i w' => i ≤ l.length ∧ w0 = w' ∧ ∀ (k : Nat) (x : Im), k < i → l[k]? = some x → x.it.key.length ≤ 200 ∧ x.it.val.length ≤ 500) (fun i => l.length - i) 0 rfl ?_ ?_ ?_
    · exact ⟨rfl, trivial⟩
    · exact ⟨Nat.zero_le _, rfl, fun k x h => absurd h (Nat.not_lt_zero _)⟩
    · rintro i j w ⟨hi, rfl, hs⟩
      refine W_seq ?_
      refine W_rseq ?_
      refine op_move rfl (.int _ _) rfl ?_
      refine op_move rfl (.slice _ _ _) rfl ?_
      refine op_len rfl el_28_TrBd rfl ?_
      refine op_lss rfl rfl rfl ?_
      refine op_nil (at_then ?_)
      refine W_cond _ rfl ?_ ?_
      · intro h1
        replace h1 := dec_t h1
        obtain ⟨x, hx1⟩ := get_some (l := l) (i := i) (by omega)
        refine W_skip (at_then ?_)
        refine W_seq ?_
        refine W_block ?_
        refine W_rseq (Wops_join (α := Unit) 70367670435840 (fun _ => [(45, .bool (decide (200 < x.it.key.length) || decide (500 < x.it.val.length)))]) (fun _ w' => w0 = w') rfl ?_ ?_)
        · refine op_move rfl (.slice _ _ _) rfl ?_
          refine op_move rfl (.int _ _) rfl ?_
          first | refine op_indexRd R rfl el_28_TrBd sz_70_TrBd rfl rfl (by omega) (by omega) (by first | rfl | omega) ?_ | refine op_indexAddr rfl el_28_TrBd sz_70_TrBd rfl rfl (by omega) (by omega) ?_
          refine op_fieldAddr rfl fo_70_0_TrBd rfl ?_
          first | refine op_ldb rfl ag_23 rfl H (by first | exact at0 | exact at1 | exact at2 | exact at3 | exact at4 | exact at5 | exact at6 | exact at7 | exact at8 | exact at9) rfl ?_ | refine op_ld rfl ag_23 rfl ((R.fld hx1 rfl (j := 0) rfl)) ?_ | refine op_ld rfl ag_23 rfl ((R.fld hx1 rfl (j := 1) rfl)) ?_
          refine op_len rfl el_23 rfl ?_
          refine op_gtr rfl rfl rfl ?_
          refine op_move rfl (.bool _) rfl ?_
          refine Wops_split 37 rfl ?_ ?_
          · intro h3
            replace h3 := dec_t h3
            refine op_skip rfl ?_
            refine op_skip rfl ?_
            refine op_skip rfl ?_
            refine op_skip rfl ?_
            refine op_skip rfl ?_
            refine op_skip rfl ?_
            refine op_skip rfl ?_
            refine op_pick1 rfl rfl (.bool _) rfl ?_
            refine op_nil ?_
            exact ⟨rfl, (), rfl, ⟨congrArg Value.bool (by rw [Bool.eq_iff_iff]; simp_all; try omega), trivial⟩, rfl⟩
          · intro h4
            replace h4 := dec_f h4
            refine op_move rfl (.slice _ _ _) rfl ?_
            refine op_move rfl (.int _ _) rfl ?_
            first | refine op_indexRd R rfl el_28_TrBd sz_70_TrBd rfl rfl (by omega) (by omega) (by first | rfl | omega) ?_ | refine op_indexAddr rfl el_28_TrBd sz_70_TrBd rfl rfl (by omega) (by omega) ?_
            refine op_fieldAddr rfl fo_70_1_TrBd rfl ?_
            first | refine op_ldb rfl ag_23 rfl H (by first | exact at0 | exact at1 | exact at2 | exact at3 | exact at4 | exact at5 | exact at6 | exact at7 | exact at8 | exact at9) rfl ?_ | refine op_ld rfl ag_23 rfl ((R.fld hx1 rfl (j := 0) rfl)) ?_ | refine op_ld rfl ag_23 rfl ((R.fld hx1 rfl (j := 1) rfl)) ?_
            refine op_len rfl el_23 rfl ?_
            refine op_gtr rfl rfl rfl ?_
            refine op_pick0 rfl rfl (.bool _) rfl ?_
            refine op_nil ?_
            exact ⟨rfl, (), rfl, ⟨congrArg Value.bool (by rw [Bool.eq_iff_iff]; simp_all; try omega), trivial⟩, rfl⟩
        rintro - j45 w rfl
        refine W_cond _ rfl ?_ ?_
        · intro h2
          refine W_rseq ?_
          refine op_call rfl ca_13_TrBd (works7_ok _) rfl ?_
          rintro v w ⟨rfl, hxw⟩
          refine op_assign rfl (.bool _) rfl ?_
          refine op_nil (at_then ?_)
          refine W_ret (ret_block (ret_then (ret_then (ret_block (ret_then (leave1 (v := (.bool _)) rfl rfl rfl ?_))))))
          exact ⟨rfl, hxw⟩
        · intro h2
          simp only [Bool.or_eq_false_iff, decide_eq_false_iff_not] at h2
          refine W_skip (at_block (at_then ?_))
          refine W_region ?_
          refine op_move rfl (.int _ _) rfl ?_
          refine op_add_i64 rfl rfl rfl (by omega) (by omega) ?_
          refine op_assign rfl (.int _ _) rfl ?_
          refine op_nil (at_then ?_)
          refine ⟨i + 1, rfl, ⟨rfl, trivial⟩, ⟨by omega, rfl, fun k y hk hy => ?_⟩, by omega⟩
          rcases Nat.lt_or_ge k i with h7 | h7
          · exact hs k y h7 hy
          · obtain rfl : k = i := by omega
            rw [hx1] at hy
            cases hy
            omega
      · intro h1
        replace h1 := dec_f h1
        have hsz : ∀ x ∈ l, x.it.key.length ≤ 200 ∧ x.it.val.length ≤ 500 := fun x hx => by
          obtain ⟨k, hk⟩ := List.getElem?_of_mem hx
          exact hs k x (by have := (List.getElem?_eq_some_iff.1 hk).1; omega) hk
        obtain ⟨L, hL⟩ : ∃ L, L = l.map fun m => prI m.it := ⟨_, rfl⟩
        have hLl : L.length = l.length := by rw [hL, List.length_map]
        have hLs : ∀ p ∈ L, p.1.length ≤ 200 ∧ p.2.length ≤ 500 := fun p hp => by
          rw [hL] at hp
          obtain ⟨x, hx, rfl⟩ := List.mem_map.1 hp
          exact hsz x hx
        refine W_exit (exit_then (exit_then (exit_here (at_then ?_))))
        refine W_rseq ?_
        refine op_call rfl ca_14_TrBd (opened_ok 1500 (by omega) (by omega) _) rfl ?_
        rintro v w1 ⟨bx, bt, bd, bp, ba, F0, rfl, D, hx, hnew, -⟩
        refine op_assign rfl (.pointer _) rfl ?_
        refine op_nil (at_then ?_)
        refine W_seq ?_
        refine W_rseq ?_
        refine op_move rfl (.pointer _) rfl ?_
        refine op_eqlptr rfl un_26_TrBd rfl ?_
        refine op_nil (at_then ?_)
        refine W_cond0 rfl ?_
        refine W_skip (at_then ?_)
        have PL := prs_in R hc hin hx hnew
        have hdk := D.dk
        obtain ⟨w1, rfl⟩ : ∃ z, z = w1 := ⟨_, rfl⟩
        have H := Ctx.start w1 []
        refine W_rseq ?_
        refine op_move rfl (.pointer _) rfl ?_
        refine op_nilCheck rfl rfl ?_
        refine op_fieldAddr rfl fo_36_2_TrBd rfl ?_
        first | refine op_ldb rfl ag_34_TrBd rfl H (by first | exact at0 | exact at1 | exact at2 | exact at3 | exact at4 | exact at5 | exact at6 | exact at7 | exact at8 | exact at9) rfl ?_ | refine op_ld rfl ag_34_TrBd rfl ((by rw [cell_bl hdk]; rfl)) ?_
        refine op_move rfl (.slice _ _ _) rfl ?_
        refine op_call rfl ca_29_TrBd (bld_ok D hx hnew PL hl1) rfl ?_
        rw [← hL]
        rintro v w2 ⟨root, e, A2, P2, F2, rfl, D2, hx2, hn2, hcase⟩
        refine op_move rfl (.tuple _) rfl ?_
        refine op_extract rfl rfl rfl ?_
        refine op_extract rfl rfl rfl ?_
        refine op_assign rfl (.int _ _) rfl ?_
        refine op_assign rfl (.int _ _) rfl ?_
        refine op_nil (at_then ?_)
        refine W_seq ?_
        have PL2 := prs_in R hc hin hx2 hn2
        rw [← hL] at PL2
        have hrise : ∀ {v : Value} {w' : World}, Ext [] w2 w' ∧ ((v = .bool true ∧ ∀ i, i < L.length → GoodP L i) ∨ (v = .bool false ∧ ∃ i, i < L.length ∧ ¬ GoodP L i)) → ∃ r, v = .bool r ∧ Ext [] w2 w' ∧ (r = true → ∀ i, i < L.length → GoodP L i) ∧ (r = false → ∃ i, i < L.length ∧ ¬ GoodP L i) := fun {v w'} ⟨h1, h2⟩ => by
          rcases h2 with ⟨rfl, h⟩ | ⟨rfl, h⟩
          · exact ⟨true, rfl, h1, fun _ => h, fun h => by cases h⟩
          · exact ⟨false, rfl, h1, (fun h => by cases h), fun _ => h⟩
        refine W_rseq ?_
        refine op_move rfl (.slice _ _ _) rfl ?_
        refine op_call rfl ca_34_TrBd (rise7_ok PL2 (by omega)) rfl ?_
        rintro v w3 h3
        obtain ⟨r, rfl, hx3, hr1, hr0⟩ := hrise h3
        refine op_not rfl rfl ?_
        refine op_nil (at_then ?_)
        refine W_cond _ rfl ?_ ?_
        · intro hR
          replace hR := nvar_t hR
          have hR' : r = false := by simpa using hR
          obtain ⟨i9, q1, q2⟩ := hr0 hR'
          obtain ⟨-, rfl, hfree⟩ : (∃ i, i < L.length ∧ ¬ GoodP L i) ∧ e = 1 ∧ freeP P2 = 1500 := hcase.elim id fun h => absurd (h.1 i9 q1) q2
          have D3 := D2.call hx3
          have hdk3 := D3.dk
          obtain ⟨w3, rfl⟩ : ∃ z, z = w3 := ⟨_, rfl⟩
          have H := Ctx.start w3 []
          refine W_rseq ?_
          refine op_move rfl (.int _ _) rfl ?_
          refine op_eql rfl rfl rfl ?_
          refine op_move rfl (.bool _) rfl ?_
          refine op_move rfl (.pointer _) rfl ?_
          refine op_nilCheck rfl rfl ?_
          refine op_fieldAddr rfl fo_36_1_TrBd rfl ?_
          first | refine op_ldb rfl ag_33_TrBd rfl H (by first | exact at0 | exact at1 | exact at2 | exact at3 | exact at4 | exact at5 | exact at6 | exact at7 | exact at8 | exact at9) rfl ?_ | refine op_ld rfl ag_33_TrBd rfl ((by rw [cell_bl hdk3]; rfl)) ?_
          refine op_call rfl ca_22_TrBd (pfree_ok D3.T.pg) rfl ?_
          rintro v w ⟨rfl, rfl⟩
          rw [hfree]
          refine op_eql rfl rfl rfl ?_
          refine op_pick1 rfl rfl (.bool _) rfl ?_
          refine op_move rfl (.bool _) rfl ?_
          refine op_call rfl ca_13_TrBd (works7_ok _) rfl ?_
          rintro v w ⟨rfl, hxw⟩
          refine op_pick1 rfl rfl (.bool _) rfl ?_
          refine op_assign rfl (.bool _) rfl ?_
          refine op_nil (at_then ?_)
          refine W_ret (ret_then (leave1 (v := (.bool _)) rfl rfl rfl ?_))
          exact ⟨rfl, (hx2.trans hx3).trans hxw⟩
        · intro hR
          replace hR := nvar_f hR
          have hR' : r = true := by simpa using hR
          obtain ⟨hg, rfl, s2, hcnt⟩ : (∀ i, i < L.length → GoodP L i) ∧ e = 0 ∧ Std w0 w2 bx bt bd bp ba 1500 root L 1000 A2 P2 F2 ∧ _ := hcase.elim (fun ⟨⟨i9, q1, q2⟩, _⟩ => absurd (hr1 hR' i9 q1) q2) id
          have s3 := s2.call hx3
          have PL3 := PL2.turn (.call0 (F := TM F2 ba bt bp []) hx3)
          obtain ⟨S3, td3, hnd3, hS3⟩ := s3.told (by omega)
          have hS3l := td3.len
          have hlo := td3.rlo; have hhi := td3.rhi; have hnum := s3.num
          have hwk := td3.walk
          have hcn := hcnt S3 hnd3 hS3
          have hszl : ∀ S : List Nat, (sortZ (S.map fun x : Nat => (x : Int))).length = S.length := fun S => by unfold sortZ; rw [List.length_mergeSort, List.length_map]
          have hdk3 := s3.D.dk
          obtain ⟨w3, rfl⟩ : ∃ z, z = w3 := ⟨_, rfl⟩
          have H := Ctx.start w3 []
          have hbl : 2 * bytesP L / 503 + 1 ≤ 1400 := by
            have : ∀ L : List Pr, (∀ i, i < L.length → GoodP L i) → bytesP L ≤ 164 * L.length := fun L hg => by
              have ho := (good_all hg).1
              clear hg
              induction L with
              | nil => exact Nat.zero_le _
              | cons p L ih =>
                obtain ⟨h1, h2, h3⟩ := ho p (List.mem_cons_self ..)
                have := ih fun q hq => ho q (List.mem_cons_of_mem _ hq)
                unfold bytesP at this ⊢
                rw [List.map_cons, List.sum_cons, List.length_cons]; omega
            have := this L hg
            omega
          refine W_skip (at_then ?_)
          refine W_rseq ?_
          refine op_move rfl (.pointer _) rfl ?_
          refine op_nilCheck rfl rfl ?_
          refine op_fieldAddr rfl fo_36_2_TrBd rfl ?_
          first | refine op_ldb rfl ag_34_TrBd rfl H (by first | exact at0 | exact at1 | exact at2 | exact at3 | exact at4 | exact at5 | exact at6 | exact at7 | exact at8 | exact at9) rfl ?_ | refine op_ld rfl ag_34_TrBd rfl ((by rw [cell_bl hdk3]; rfl)) ?_
          refine op_move rfl (.int _ _) rfl ?_
          refine op_call rfl ca_28_TrBd (walk7_ok (by omega) s3.D.T root (by omega) (by omega) s3.few (by omega) (by rw [td3.num]; omega)) rfl ?_
          rintro v w4 ⟨a9, c9, rfl, -, -, -, hx4⟩
          rw [hwk]
          dsimp only
          rw [hszl]
          have s4 := s3.call hx4
          have PL4 := PL3.turn (.call0 (F := TM F2 ba bt bp []) hx4)
          refine op_move rfl (.tuple _) rfl ?_
          refine op_extract rfl rfl rfl ?_
          refine op_extract rfl rfl rfl ?_
          refine op_assign rfl (.slice _ _ _) rfl ?_
          refine op_assign rfl (.int _ _) rfl ?_
          refine op_nil (at_then ?_)
          refine W_seq ?_
          refine W_rseq ?_
          refine op_move rfl (.int _ _) rfl ?_
          refine op_neq rfl rfl rfl ?_
          refine op_move rfl (.bool _) rfl ?_
          refine op_move rfl (.int _ _) rfl ?_
          refine op_neq rfl rfl rfl ?_
          refine op_pick0 rfl rfl (.bool _) rfl ?_
          refine op_move rfl (.bool _) rfl ?_
          refine op_move rfl (.pointer _) rfl ?_
          refine op_move rfl (.int _ _) rfl ?_
          refine op_move rfl (.slice _ _ _) rfl ?_
          refine op_call rfl ca_21_TrBd (has_ok s4.D td3 (by omega) PL4 (by omega) s4.few (by omega) (by omega)) rfl ?_
          rintro v w5 ⟨rfl, hx5⟩
          rw [decide_eq_true (show L = L from rfl)]
          have s5 := s4.call hx5
          refine op_not rfl rfl ?_
          refine op_pick0 rfl rfl (.bool _) rfl ?_
          refine op_move rfl (.bool _) rfl ?_
          refine op_move rfl (.pointer _) rfl ?_
          refine op_move rfl (.int _ _) rfl ?_
          refine op_call rfl ca_20_TrBd (held_ok s5.D td3 hnd3 hS3 s5.few (by omega) (by omega)) rfl ?_
          rintro v w6 ⟨rfl, hx6⟩
          have s6 := s5.call hx6
          have PL6 := (PL4.turn (.call0 (F := TM F2 ba bt bp []) hx5)).turn (.call0 (F := TM F2 ba bt bp []) hx6)
          refine op_not rfl rfl ?_
          refine op_pick0 rfl rfl (.bool _) rfl ?_
          refine op_move rfl (.bool _) rfl ?_
          refine op_move rfl (.slice _ _ _) rfl ?_
          refine op_len rfl el_57 rfl ?_
          refine op_move rfl (.slice _ _ _) rfl ?_
          refine op_call rfl ca_35_TrBd (most7_ok PL6 (by omega) hLs hbl) rfl ?_
          rintro v w7 ⟨rfl, hx7⟩
          have s7 := s6.call hx7
          have PL7 := PL6.turn (.call0 (F := TM F2 ba bt bp []) hx7)
          refine op_gtr rfl rfl rfl ?_
          rw [decide_eq_false (show ¬ (mostL L : Int) < (S3.length : Int) by omega)]
          refine op_pick0 rfl rfl (.bool _) rfl ?_
          refine op_nil (at_then ?_)
          refine W_cond0 rfl ?_
          refine W_skip (at_then ?_)
          refine W_rseq ?_
          refine op_move rfl (.slice _ _ _) rfl ?_
          refine op_assign rfl (.slice _ _ _) rfl ?_
          refine op_nil (at_then ?_)
          refine W_seq ?_
          refine W_rseq ?_
          refine op_assign rfl (.int _ _) rfl ?_
          refine op_nil (at_then ?_)
          refine W_block ?_
          rw [show l.length = L.length from hLl.symm]
          refine W_loop 2787593147220179463424550969815797023701136 (α := Nat × Sv) (fun s => [(7, .int .i64 s.2.root), (11, .slice s.2.la s.2.L.length s.2.lc), (12, .int .i64 (s.1 : Int))]) (fun s w' => s.1 ≤ m.length ∧ Std w0 w' bx bt bd bp ba 1500 s.2.root s.2.L (1000 + s.1) s.2.A s.2.P s.2.F ∧ Prs w' (TM s.2.F ba bt bp []) s.2.la s.2.L.length s.2.lc s.2.L) (fun s => m.length - s.1) (0, ⟨root, a, c, L, 0, A2, P2, F2⟩) rfl ?_ ?_ ?_
          · exact ⟨rfl, rfl, rfl, trivial⟩
          · exact ⟨Nat.zero_le _, s7, by dsimp only; rw [hLl]; exact PL7⟩
          · rintro ⟨k, r5, a5, c5, L5, z5, A5, P5, F5⟩ j w ⟨hk, s, PLk⟩; dsimp only at hk s PLk; dsimp only
            have hL5 := s.li
            obtain ⟨wb, rfl⟩ : ∃ z, z = w := ⟨_, rfl⟩
            have H := Ctx.start wb []
            have hdk5 := s.D.dk
            refine W_seq ?_
            refine W_rseq (Wops_join (α := Unit) 10631227817850059569416191234078146560 (fun _ => [(122, .bool (decide (k < m.length) && decide (100 ≤ freeP P5)))]) (fun _ w' => wb = w') rfl ?_ ?_)
            · refine op_move rfl (.int _ _) rfl ?_
              refine op_move rfl (.slice _ _ _) rfl ?_
              refine op_len rfl el_22_TrBd rfl ?_
              refine op_lss rfl rfl rfl ?_
              refine op_move rfl (.bool _) rfl ?_
              refine Wops_split 115 rfl ?_ ?_
              · intro h5
                replace h5 := dec_t h5
                refine op_move rfl (.pointer _) rfl ?_
                refine op_nilCheck rfl rfl ?_
                refine op_fieldAddr rfl fo_36_1_TrBd rfl ?_
                first | refine op_ldb rfl ag_33_TrBd rfl H (by first | exact at0 | exact at1 | exact at2 | exact at3 | exact at4 | exact at5 | exact at6 | exact at7 | exact at8 | exact at9) rfl ?_ | refine op_ld rfl ag_33_TrBd rfl ((by rw [cell_bl hdk5]; rfl)) ?_
                refine op_call rfl ca_22_TrBd (pfree_ok s.D.T.pg) rfl ?_
                rintro v w ⟨rfl, rfl⟩
                refine op_geq rfl rfl rfl ?_
                refine op_pick1 rfl rfl (.bool _) rfl ?_
                refine op_nil ?_
                exact ⟨rfl, (), rfl, ⟨congrArg Value.bool (by rw [Bool.eq_iff_iff]; simp_all; try omega), trivial⟩, rfl⟩
              · intro h6
                replace h6 := dec_f h6
                refine op_skip rfl ?_
                refine op_skip rfl ?_
                refine op_skip rfl ?_
                refine op_skip rfl ?_
                refine op_skip rfl ?_
                refine op_skip rfl ?_
                refine op_pick0 rfl rfl (.bool _) rfl ?_
                refine op_nil ?_
                exact ⟨rfl, (), rfl, ⟨congrArg Value.bool (by rw [Bool.eq_iff_iff]; simp_all; try omega), trivial⟩, rfl⟩
            rintro - j122 w rfl
            refine W_cond _ rfl ?_ ?_
            · intro h2
              simp only [Bool.and_eq_true, decide_eq_true_eq] at h2
              obtain ⟨e, he⟩ := get_some (l := m) (i := k) (by omega)
              have hee := List.mem_of_getElem? he
              obtain ⟨hk200, hv500⟩ := hsm2 e hee
              have hei := hin2 e hee
              refine W_skip (at_then ?_)
              refine W_seq ?_
              refine W_block ?_
              refine W_rseq ?_
              refine op_move rfl (.pointer _) rfl ?_
              refine op_move rfl (.int _ _) rfl ?_
              refine op_move rfl (.slice _ _ _) rfl ?_
              refine op_move rfl (.slice _ _ _) rfl ?_
              refine op_move rfl (.int _ _) rfl ?_
              first | refine op_indexRd R rfl el_22_TrBd sz_30_TrBd rfl rfl (by omega) (by omega) (by first | rfl | omega) ?_ | refine op_indexRd R2 rfl el_22_TrBd sz_30_TrBd rfl rfl (by omega) (by omega) (by first | rfl | omega) ?_ | refine op_indexAddr rfl el_22_TrBd sz_30_TrBd rfl rfl (by omega) (by omega) ?_
              first | refine op_ldN _ rfl ag_30_TrBd sz_30_TrBd rfl rfl ((R2.ext0 s.hx).row he rfl) ?_ | refine op_ldbN rfl ag_30_TrBd sz_30_TrBd rfl H (by first | exact at0 | exact at1 | exact at2 | exact at3 | exact at4 | exact at5 | exact at6 | exact at7 | exact at8 | exact at9) rfl ?_
              refine op_call rfl ca_16_TrBd (does_ok s.D s.T s.on s.hl (by rw [s.num]; omega) s.left (by omega) s.few (by omega) PLk (by omega) e (hei.ok hk200 hv500 s.hx s.new)) rfl ?_
              rintro v w8 h8
              obtain ⟨r8, a8, c8, A8, P8, F8, rfl, s8, PL8, g8, -⟩ := s.does h8
              refine op_move rfl (.tuple _) rfl ?_
              refine op_extract rfl rfl rfl ?_
              refine op_extract rfl rfl rfl ?_
              refine op_extract rfl rfl rfl ?_
              refine op_assign rfl (.int _ _) rfl ?_
              refine op_assign rfl (.slice _ _ _) rfl ?_
              refine op_assign rfl (.bool _) rfl ?_
              refine op_nil (at_then ?_)
              refine W_seq ?_
              refine W_rseq ?_
              refine op_move rfl (.bool _) rfl ?_
              refine op_not rfl rfl ?_
              refine op_nil (at_then ?_)
              refine W_cond0 rfl ?_
              refine W_skip (at_then ?_)
              refine W_rseq ?_
              refine op_move rfl (.int _ _) rfl ?_
              refine op_assign rfl (.int _ _) rfl ?_
              refine op_nil (at_then ?_)
              refine W_region ?_
              refine op_move rfl (.slice _ _ _) rfl ?_
              refine op_assign rfl (.slice _ _ _) rfl ?_
              refine op_nil (at_block (at_then ?_))
              refine W_region ?_
              refine op_move rfl (.int _ _) rfl ?_
              refine op_add_i64 rfl rfl rfl (by omega) (by omega) ?_
              refine op_assign rfl (.int _ _) rfl ?_
              refine op_nil (at_then ?_)
              exact ⟨(k + 1, ⟨r8, a8, c8, stepL e.s L5, 0, A8, P8, F8⟩), rfl, ⟨rfl, rfl, rfl, trivial⟩, ⟨by dsimp only; omega, s8, PL8⟩, by dsimp only; omega⟩
            · intro h2
              obtain ⟨S6, td6, hnd6, hS6⟩ := s.told (by omega)
              have hS6l := td6.len
              refine W_exit (exit_then (exit_then (exit_here (at_then ?_))))
              refine W_rseq ?_
              refine op_move rfl (.pointer _) rfl ?_
              refine op_move rfl (.int _ _) rfl ?_
              refine op_move rfl (.slice _ _ _) rfl ?_
              refine op_call rfl ca_21_TrBd (has_ok s.D td6 (by omega) PLk (by omega) s.few (by omega) (by omega)) rfl ?_
              rintro v w6 ⟨rfl, hx6⟩
              rw [decide_eq_true (show L5 = L5 from rfl)]
              have s6 := s.call hx6
              refine op_move rfl (.bool _) rfl ?_
              refine op_move rfl (.pointer _) rfl ?_
              refine op_move rfl (.int _ _) rfl ?_
              refine op_call rfl ca_20_TrBd (held_ok s6.D td6 hnd6 hS6 s6.few (by omega) (by omega)) rfl ?_
              rintro v w7 ⟨rfl, hx7⟩
              refine op_pick1 rfl rfl (.bool _) rfl ?_
              refine op_move rfl (.bool _) rfl ?_
              refine op_call rfl ca_13_TrBd (works7_ok _) rfl ?_
              rintro v w9 ⟨rfl, hx9⟩
              refine op_pick1 rfl rfl (.bool _) rfl ?_
              refine op_assign rfl (.bool _) rfl ?_
              refine op_nil (at_then ?_)
              refine W_ret (leave1 (v := (.bool _)) rfl rfl rfl ?_)
              exact ⟨rfl, (s6.call hx7).hx.trans hx9⟩

end Go.Proofs.YtbkadlngijkmmaaGreatDoor

/- From the form's readings of arguments to ours, and the post of a law that answers true and turns nothing. It holds for every program. -/
namespace Go.GV
open Go Go.ChangeShapes Go.WideShapes Go.RowKit

theorem Ext.below {w w' : World} (h : Ext [] w w') : Below w.heap.size w w' := ⟨h.os, h.tape, h.output, h.size, fun k hk => h.block k hk (by simp)⟩

section
variable {H : Type} {enc : TypeId × Value → H} {P : Program} {w : World} {base : Nat} {spare : Nat → Bool} {held : Bool}

theorem trodAll_length : ∀ {ts : List TypeId} {vs : List Value} {ds : List (DataW H)} {ps : List MemPlace}, DataW.TrodAll enc P w base spare held ts vs ds ps → ds.length = ts.length
  | [], vs, ds, ps, h => by obtain ⟨_, rfl, _⟩ := trodAll_nil h; rfl
  | t :: ts, vs, ds, ps, h => by
    obtain ⟨v, vs', d, ds', p, q, rfl, rfl, rfl, _, hr⟩ := trodAll_cons h
    simp [trodAll_length hr]

theorem trodAll_stays {W W' : World} {sp' : Nat → Bool} (hl : laidOutB P = true) (hsp : ∀ b, b < W.heap.size → sp' b = true) (hb : Below W.heap.size W W') :
    ∀ {ts : List TypeId} {vs : List Value} {ds : List (DataW H)} {ps : List MemPlace}, (∀ t ∈ ts, P.readableRec t = true ∧ t < P.types.size) → (∀ x ∈ ps, x.block < W.heap.size) →
      DataW.TrodAll enc P W 0 (fun _ => true) true ts vs ds ps → DataW.TrodAll enc P W' 0 sp' true ts vs ds ps
  | [], vs, ds, ps, _, _, h => by obtain ⟨rfl, rfl, rfl⟩ := trodAll_nil h; rfl
  | t :: ts, vs, ds, ps, hr, hp, h => by
    obtain ⟨v, vs', d, ds', p, q, rfl, rfl, rfl, h0, h1⟩ := trodAll_cons h
    refine ⟨p, q, WideElems.Trod_stays hl (hr t (by simp)).1 (hr t (by simp)).2 h0 (fun x hx => hb.same (hp x (by simp [hx]))) (fun x hx => hsp _ (hp x (by simp [hx]))), ?_, rfl⟩
    exact trodAll_stays hl hsp hb (fun t ht => hr t (by simp [ht])) (fun x hx => hp x (by simp [hx])) h1

/-- The post of a law. -/
theorem law_post {f : Func} {s : ChangeSpec} {W W' : World} {args : Array Value} {ds gs : List (DataW H)} {before : List MemPlace} {tb : TypeId} (hl : laidOutB P = true) (hv : s.vars = [])
    (hr : (f.params.toList.all fun t => P.readableRec t && decide (t < P.types.size)) = true) (hres : f.resultTypes = #[tb]) (htb : P.underlying tb = some .bool)
    (hs : ∀ ds : List (DataW H), ds.length = f.params.size → s.fn H ds = { results := [.lit (.bool true)], args := ds })
    (hW : DataW.Whole enc P f.params.toList s.vars false W args.toList ds gs before) (hx : Ext [] W W') : s.post enc P f false true false false W args (.bool true) W' := by
  have hW' := hW
  obtain ⟨p, q, hA, hV, rfl, _, _⟩ := hW
  rw [hv] at hV
  obtain ⟨rfl, rfl⟩ := trodVars_none hV
  have hlen : ds.length = f.params.size := by rw [trodAll_length hA]; simp
  refine ⟨ds, [], p ++ [], [], p, [], hW', ?_, ?_, ?_, hx.below.frame _, fun h => by cases h⟩
  · rw [List.append_nil, hs ds hlen, hres]
    exact trodAll_mk1 ⟨1, by simp [DataW.trod, Value.cells, htb]⟩
  · rw [List.append_nil, hs ds hlen]
    refine trodAll_stays hl (fun b hb => by simpa using hb) hx.below (fun t ht => ?_) (fun x hxp => ?_) hA
    · have := List.all_eq_true.1 hr t ht
      simpa using this
    · exact hW'.lt x (by simp [hxp])
  · rw [hv, List.append_nil, hs ds hlen]
    rfl

theorem wf_bounds {k : IntKind} {n : Int} (h : (Lit.int k n).wf = true) : k.min ≤ n ∧ n ≤ k.max := by
  simpa [Lit.wf] using h

/-! ### Decoding -/

/-- What a piece of a struct reads as. -/
theorem trod_fld {fuel : Nat} {t : TypeId} {cs : List Value} {x : DataW H × List MemPlace} {fs : Array Field} (ht : P.underlying t = some (.struct fs)) (h : DataW.trod enc P w base spare held fuel t cs = some x) (i : Nat) (f : Field) (hf : fs[i]? = some f) :
    ∃ n y, DataW.trod enc P w base spare held n f.type ((cs.drop f.offset).take (P.cellsOf f.type)) = some y := by
  obtain ⟨xs, n, _, _, _, hl, hx⟩ := DataW.trod_struct ht h
  have h1 := hx i f hf
  have hi : i < xs.length := by rw [hl]; exact (Array.getElem?_eq_some_iff.1 hf).1
  rw [List.getElem?_eq_getElem hi] at h1
  exact ⟨n, _, h1⟩
theorem trod_slen {fuel : Nat} {t : TypeId} {cs : List Value} {x : DataW H × List MemPlace} {fs : Array Field} (ht : P.underlying t = some (.struct fs)) (h : DataW.trod enc P w base spare held fuel t cs = some x) : cs.length = P.cellsOf t := by
  obtain ⟨xs, n, _, _, hl, _, _⟩ := DataW.trod_struct ht h
  exact hl

theorem take_one {l : List Value} {o m : Nat} {v : Value} (h : (l.drop o).take m = [v]) : l[o]? = some v := by
  have h1 : ((l.drop o).take m)[0]? = some v := by rw [h]; rfl
  rw [List.getElem?_take] at h1
  split at h1
  · rw [List.getElem?_drop] at h1; simpa using h1
  · cases h1

theorem fld_bool {fuel : Nat} {t u : TypeId} {cs : List Value} {x : DataW H × List MemPlace} {fs : Array Field} (ht : P.underlying t = some (.struct fs)) (h : DataW.trod enc P w base spare held fuel t cs = some x) (i o : Nat)
    (hf : (fs[i]?.map fun f => (f.type, f.offset)) = some (u, o)) (hu : P.underlying u = some .bool) : ∃ b, cs[o]? = some (.bool b) := by
  cases he : fs[i]? with
  | none => rw [he] at hf; cases hf
  | some f =>
    rw [he] at hf
    simp only [Option.map_some, Option.some.injEq, Prod.mk.injEq] at hf
    obtain ⟨rfl, rfl⟩ := hf
    obtain ⟨n, y, hy⟩ := trod_fld ht h i f he
    obtain ⟨b, h1, _⟩ := DataW.trod_bool hu hy
    exact ⟨b, take_one h1⟩
theorem cells_at {a : Addr} {n : Nat} {cs : List Value} (h : w.cells? base a n = some cs) : cs.length = n ∧ ∀ j v, cs[j]? = some v → w.cell? (a.add j) = some v := by
  unfold World.cells? at h
  split at h
  · have h1 : ∀ (l : List Nat) (cs : List Value), l.mapM (fun i => w.cell? (a.add i)) = some cs → cs.length = l.length ∧ ∀ (j i : Nat) (v : Value), l[j]? = some i → cs[j]? = some v → w.cell? (a.add i) = some v := by
      intro l
      induction l with
      | nil => intro cs h; simp at h; subst h; exact ⟨rfl, fun j i v h => by simp at h⟩
      | cons k l ih =>
        intro cs h
        rw [List.mapM_cons] at h
        obtain ⟨v, hv, h⟩ := Option.bind_eq_some_iff.1 h
        obtain ⟨cs', hcs, h⟩ := Option.bind_eq_some_iff.1 h
        simp only [Option.pure_def, Option.some.injEq] at h
        subst h
        obtain ⟨h1, h2⟩ := ih cs' hcs
        refine ⟨by simp [h1], fun j i u hi hu => ?_⟩
        cases j with
        | zero => simp at hi hu; subst hi hu; exact hv
        | succ j => exact h2 j i u (by simpa using hi) (by simpa using hu)
    obtain ⟨h2, h3⟩ := h1 _ _ h
    refine ⟨by simpa using h2, fun j v hv => h3 j j v ?_ hv⟩
    have : j < cs.length := (List.getElem?_eq_some_iff.1 hv).1
    rw [List.getElem?_range (by rw [h2] at this; simpa using this)]
  · cases h

theorem cell_none {a : Addr} {v : Value} (h : w.cell? a = some v) : a = ⟨a.block, a.off, none⟩ := by
  unfold World.cell? at h
  split at h
  · split at h
    · cases h
    · rename_i hs
      obtain ⟨b, o, s⟩ := a
      cases s with
      | none => rfl
      | some x => simp at hs
  · cases h

theorem dec_int {e : TypeId} {k : IntKind} (he : P.underlying e = some (.int k)) : ∀ n cs y, DataW.trod enc P w base spare held n e cs = some y → ∃ d : Int, cs = [Value.int k d] ∧ (k.min ≤ d ∧ d ≤ k.max) := by
  intro n cs y h
  obtain ⟨m, h1, _, h2⟩ := DataW.trod_int he h
  exact ⟨m, h1, wf_bounds h2⟩
end
end Go.GV

/- The rows of this seat: the world of the witnesses, in which the laid tables lie. -/
namespace Go.Proofs.YtbkadlngijkmmaaGreatDoor
open Go.GV Go.ChangeShapes Go.WideShapes Go.ChangeAt Go.RowKit

theorem own : ownKnob Tryz.prog.godebug = none := by kernel_rfl
theorem laidOut : laidOutB Tryz.prog = true := by kernel_rfl

def rangeZ : List Nat := [128, 191, 160, 191, 128, 159, 144, 191, 128, 143] ++ List.replicate 22 0
def layO (l : List Nat) : Obj → Obj
  | .cells _ t frozen => .cells (l.map fun (n : Nat) => Value.int .u8 (n : Int)).toArray t frozen
  | o => o
/-- A world in which the tables lie (blocks 1 and 2). -/
noncomputable def laidWorld (os : Os) : World :=
  { World.holding Tryz.prog os ⟨#[], #[], []⟩ with heap := ((World.holding Tryz.prog os ⟨#[], #[], []⟩).heap.modify 1 (layO Go.Pinned.utf8FirstZ)).modify 2 (layO rangeZ) }

theorem dec_byte {H : Type} {enc : TypeId × Value → H} {w : World} {base : Nat} {spare : Nat → Bool} {held : Bool} : ∀ n cs y, DataW.trod enc Tryz.prog w base spare held n 5 cs = some y → ∃ b : UInt8, cs = B8 b ∧ True := by
  intro n cs y h
  obtain ⟨d, rfl, h1, h2⟩ := dec_int Tryz.underlying5 n cs y h
  have h1 : (0 : Int) ≤ d := h1
  have h2 : d ≤ 255 := h2
  refine ⟨UInt8.ofNat d.toNat, ?_, trivial⟩
  have : (UInt8.ofNat d.toNat).toNat = d.toNat := by simp [UInt8.toNat_ofNat']; omega
  rw [B8, bv, this, Int.toNat_of_nonneg h1]
theorem byteCells : Tryz.prog.cellsOf 5 = 1 := by kernel_rfl

end Go.Proofs.YtbkadlngijkmmaaGreatDoor

/- Arguments that are read, with their weights: slices of structs that hold slices. It holds for every program. -/
namespace Go.GV
open Go Go.ChangeShapes Go.WideShapes

section
variable {P : Program} {H : Type} {enc : TypeId × Value → H} {w : World} {base : Nat} {spare : Nat → Bool} {held : Bool}

/-- No part of it is of more bytes than any machine has. -/
def Light (P : Program) (t : TypeId) (d : DataW H) : Prop := ∀ x ∈ d.weights P t, x ≤ reachBytes

theorem weightsAll_mem {e : TypeId} {l : List (DataW H)} {d : DataW H} (h : d ∈ l) : ∀ x ∈ d.weights P e, x ∈ DataW.weightsAll P e l := by
  induction l with
  | nil => cases h
  | cons y l ih =>
    intro x hx
    unfold DataW.weightsAll
    rcases List.mem_cons.1 h with rfl | h
    · exact List.mem_append_left _ hx
    · exact List.mem_append_right _ (ih h x hx)
theorem weightsEach_mem : ∀ {ts : List TypeId} {l : List (DataW H)} {i : Nat} {t : TypeId} {d : DataW H}, ts[i]? = some t → l[i]? = some d → ∀ x ∈ d.weights P t, x ∈ DataW.weightsEach P ts l
  | [], _, i, _, _, h, _ => by simp at h
  | _ :: _, [], i, _, _, _, h => by simp at h
  | t :: ts, d :: l, 0, _, _, h1, h2 => by
    simp only [List.getElem?_cons_zero, Option.some.injEq] at h1 h2
    subst h1 h2
    intro x hx
    unfold DataW.weightsEach
    exact List.mem_append_left _ hx
  | t :: ts, d :: l, i + 1, _, _, h1, h2 => by
    intro x hx
    unfold DataW.weightsEach
    exact List.mem_append_right _ (weightsEach_mem (by simpa using h1) (by simpa using h2) x hx)
theorem Light.elems {t e : TypeId} {es sp : List (DataW H)} (ht : P.underlying t = some (.slice e)) (h : Light P t (.slice es sp)) : es.length * P.bytesOf e ≤ reachBytes ∧ ∀ d ∈ es, Light P e d := by
  unfold Light at h
  unfold DataW.weights at h
  rw [ht] at h
  refine ⟨?_, fun d hd x hx => h x (List.mem_cons_of_mem _ (List.mem_append_left _ (weightsAll_mem hd x hx)))⟩
  have h1 := h _ (List.mem_cons_self ..)
  rw [Nat.add_mul] at h1
  omega
theorem Light.part {t : TypeId} {fs : Array Field} {ps : List (DataW H)} (ht : P.underlying t = some (.struct fs)) (h : Light P t (.agg ps)) {i : Nat} {f : Field} {d : DataW H} (hf : fs[i]? = some f) (hd : ps[i]? = some d) : Light P f.type d := by
  intro x hx
  refine h x ?_
  unfold DataW.weights
  rw [ht]
  exact weightsEach_mem (ts := fs.toList.map (·.type)) (i := i) (by rw [List.getElem?_map, Array.getElem?_toList, hf]; rfl) hd x hx

theorem light_of {ts : List TypeId} {ds : List (DataW H)} (h : ((DataW.weightsEach P ts ds).all fun x => decide (x ≤ reachBytes)) = true) {i : Nat} {t : TypeId} {d : DataW H} (ht : ts[i]? = some t) (hd : ds[i]? = some d) : Light P t d :=
  fun x hx => of_decide_eq_true (List.all_eq_true.1 h x (weightsEach_mem ht hd x hx))
theorem rdw_of {α : Type} {t e : TypeId} {s fuel : Nat} {cs : List Value} {x : DataW H × List MemPlace} {encd : α → List Value} {Good : α → Prop} (ht : P.underlying t = some (.slice e)) (hs : P.cellsOf e = s) (h0 : 0 < s)
    (dec : ∀ n cs y, DataW.trod enc P w base spare held n e cs = some y → Light P e y.1 → ∃ d, cs = encd d ∧ Good d) (h : DataW.trod enc P w base spare held fuel t cs = some x) (hL : Light P t x.1) :
    ∃ (a : Option Addr) (c : Nat) (l : List α), cs = [.slice a l.length c] ∧ Rd w a s encd l ∧ l.length ≤ c ∧ c ≤ maxLen ∧ l.length * P.bytesOf e ≤ reachBytes ∧ (∀ d ∈ l, Good d) := by
  rcases Go.Deep.open_slice ht h with ⟨hc, hx⟩ | ⟨a, len, cap, m, n, D, Pl, hc, _, hl, hm, hmm, rfl, hx⟩
  · exact ⟨none, 0, [], hc, Rd.nil, Nat.le_refl _, Nat.zero_le _, by simp, by simp⟩
  · have hle : len ≤ m := by rw [hmm]; split <;> omega
    obtain ⟨hb, hLe⟩ := hL.elems ht
    rw [List.length_map, List.length_range] at hb
    have hd : ∀ i, i < len → ∃ d : α, (w.cells? base (a.add (i * s)) s = some (encd d)) ∧ Good d := fun i hi => by
      obtain ⟨cs', h1, h2⟩ := hx i (by omega)
      obtain ⟨d, rfl, hg⟩ := dec _ _ _ h2 (hLe _ (List.mem_map.2 ⟨i, List.mem_range.2 hi, rfl⟩))
      exact ⟨d, by rw [← hs]; exact h1, hg⟩
    have hlist : ∀ k, k ≤ len → ∃ l : List α, l.length = k ∧ ∀ i d, l[i]? = some d → w.cells? base (a.add (i * s)) s = some (encd d) ∧ Good d := by
      intro k
      induction k with
      | zero => intro _; exact ⟨[], rfl, fun i d h => by simp at h⟩
      | succ k ih =>
        intro hk
        obtain ⟨l, h1, h2⟩ := ih (by omega)
        obtain ⟨d, hd1, hd2⟩ := hd k (by omega)
        refine ⟨l ++ [d], by simp [h1], fun i d' hi => ?_⟩
        rw [List.getElem?_append] at hi
        split at hi
        · exact h2 i d' hi
        · rename_i hlt
          have : i = k := by
            have := (List.getElem?_eq_some_iff.1 hi).1
            simp at this; omega
          subst this
          rw [h1, Nat.sub_self] at hi
          simp at hi; subst hi
          exact ⟨hd1, hd2⟩
    obtain ⟨l, h1, h2⟩ := hlist len (Nat.le_refl _)
    subst h1
    refine ⟨some a, cap, l, hc, ⟨fun hne => ?_, fun i d hi j u hu hj => ?_⟩, hl, hm, hb, fun d hd => ?_⟩
    · cases l with
      | nil => exact absurd rfl hne
      | cons d l =>
        obtain ⟨h3, _⟩ := h2 0 d rfl
        obtain ⟨h4, h5⟩ := cells_at h3
        obtain ⟨u, hu⟩ := get_some (l := encd d) (i := 0) (by omega)
        have h6 := h5 0 u hu
        rw [Nat.zero_mul] at h6
        have h7 : (a.add 0).add 0 = a := by simp [Addr.add]
        rw [h7] at h6
        exact ⟨a.block, a.off, by rw [← cell_none h6]⟩
    · obtain ⟨h3, _⟩ := h2 i d hi
      have h5 := (cells_at h3).2 j u hu
      rw [Go.Deep.add_add] at h5
      have h6 := cell_none h5
      rw [h6] at h5
      have hblk : ∀ q, (a.add q).block = a.block ∧ (a.add q).off = a.off + q := by
        intro q; unfold Addr.add
        by_cases hq : q = 0 <;> simp [hq]
      rw [(hblk _).1, (hblk _).2, ← Nat.add_assoc] at h5
      obtain ⟨b, o, sp⟩ := a
      exact h5
    · obtain ⟨i, hi⟩ := List.getElem?_of_mem hd
      exact (h2 i d hi).2
theorem rdw_of_T {α : Type} {t e : TypeId} {s : Nat} {v : Value} {d : DataW H} {ps : List MemPlace} {encd : α → List Value} {Good : α → Prop} (ht : P.underlying t = some (.slice e)) (hs : P.cellsOf e = s) (h0 : 0 < s)
    (dec : ∀ n cs y, DataW.trod enc P w base spare held n e cs = some y → Light P e y.1 → ∃ d, cs = encd d ∧ Good d) (hv : ∃ a n c, v = .slice a n c) (h : DataW.Trod enc P w base spare held t v d ps) (hL : Light P t d) :
    ∃ (a : Option Addr) (c : Nat) (l : List α), v = .slice a l.length c ∧ Rd w a s encd l ∧ l.length ≤ c ∧ c ≤ maxLen ∧ l.length * P.bytesOf e ≤ reachBytes ∧ (∀ d ∈ l, Good d) := by
  obtain ⟨fuel, hf⟩ := h
  obtain ⟨a, n, c, rfl⟩ := hv
  obtain ⟨a', c', l, h1, h2⟩ := rdw_of ht hs h0 dec (x := (d, ps)) (by simpa [Value.cells] using hf) hL
  simp only [List.cons.injEq, and_true] at h1
  exact ⟨a', c', l, h1, h2⟩
/-- A field that is a slice. -/
theorem fld_slice {α : Type} {fuel : Nat} {t u e : TypeId} {s : Nat} {cs : List Value} {x : DataW H × List MemPlace} {fs : Array Field} {encd : α → List Value} {Good : α → Prop} (ht : P.underlying t = some (.struct fs)) (h : DataW.trod enc P w base spare held fuel t cs = some x) (hL : Light P t x.1) (i o : Nat)
    (hf : (fs[i]?.map fun f => (f.type, f.offset)) = some (u, o)) (hu : P.underlying u = some (.slice e)) (hc : P.cellsOf u = 1) (hs : P.cellsOf e = s) (h0 : 0 < s)
    (dec : ∀ n cs y, DataW.trod enc P w base spare held n e cs = some y → Light P e y.1 → ∃ d, cs = encd d ∧ Good d) :
    ∃ (a : Option Addr) (c : Nat) (l : List α), cs[o]? = some (.slice a l.length c) ∧ Rd w a s encd l ∧ l.length ≤ c ∧ c ≤ maxLen ∧ l.length * P.bytesOf e ≤ reachBytes ∧ (∀ d ∈ l, Good d) := by
  cases he : fs[i]? with
  | none => rw [he] at hf; cases hf
  | some f =>
    rw [he] at hf
    simp only [Option.map_some, Option.some.injEq, Prod.mk.injEq] at hf
    obtain ⟨rfl, rfl⟩ := hf
    obtain ⟨xs, n, _, hx, _, hl, hxs⟩ := DataW.trod_struct ht h
    have h1 := hxs i f he
    have hi : i < xs.length := by rw [hl]; exact (Array.getElem?_eq_some_iff.1 he).1
    rw [List.getElem?_eq_getElem hi] at h1
    rw [hx] at hL
    have hL' : Light P f.type xs[i].1 := hL.part ht he (by rw [List.getElem?_map, List.getElem?_eq_getElem hi]; rfl)
    obtain ⟨a, c, l, h2, h3⟩ := rdw_of hu hs h0 dec h1 hL'
    rw [hc] at h2
    exact ⟨a, c, l, take_one h2, h3⟩
end
end Go.GV

/- What the form reads of the steps of the laws of trees. -/
namespace Go.Proofs.YtbkadlngijkmmaaGreatDoor
open Go.GV Go.ChangeShapes Go.WideShapes Go.ChangeAt Go.RowKit

theorem step7Struct : ∃ fs, Tryz.prog.underlying 30 = some (.struct fs) ∧ (List.range 4).map (fun i => fs[i]?.map fun f => (f.type, f.offset)) = [some (4, 0), some (23, 1), some (23, 2), some (4, 3)] := ⟨_, Tryz.underlying30, by kernel_rfl⟩
theorem step7Cells : Tryz.prog.cellsOf 30 = 4 := by kernel_rfl
theorem bytesCells : Tryz.prog.cellsOf 23 = 1 := by kernel_rfl
set_option maxRecDepth 100000 in
theorem dec_step7 {H : Type} {enc : TypeId × Value → H} {w : World} {base : Nat} {spare : Nat → Bool} {held : Bool} : ∀ n cs y, DataW.trod enc Tryz.prog w base spare held n 30 cs = some y → Light Tryz.prog 30 y.1 → ∃ d : Sm, cs = d.enc ∧ d.In w := by
  intro n cs y h hL
  obtain ⟨fs, ht, hf⟩ := step7Struct
  have hl := trod_slen ht h
  rw [step7Cells] at hl
  simp only [List.range, List.range.loop, List.map_cons, List.map_nil, List.cons.injEq, and_true] at hf
  obtain ⟨f0, f1, f2, f3⟩ := hf
  obtain ⟨a, ha⟩ := fld_bool ht h 0 0 f0 Tryz.underlying4
  obtain ⟨ca, cc, cl, hc, cR, cle, _, cw, _⟩ := fld_slice ht h hL 1 1 f1 Tryz.underlying23 bytesCells byteCells (by decide) (fun n cs y h _ => dec_byte n cs y h)
  obtain ⟨ga, gc, gl, hg, gR, gle, _, gw, _⟩ := fld_slice ht h hL 2 2 f2 Tryz.underlying23 bytesCells byteCells (by decide) (fun n cs y h _ => dec_byte n cs y h)
  obtain ⟨e, he⟩ := fld_bool ht h 3 3 f3 Tryz.underlying4
  refine ⟨⟨ca, cc, ga, gc, ⟨a, cl, gl, e⟩⟩, ?_, ⟨cR, gR, cle, gle⟩⟩
  match cs, hl with
  | [_, _, _, _], _ =>
    simp at ha hc hg he
    simp [Sm.enc, ha, hc, hg, he]

end Go.Proofs.YtbkadlngijkmmaaGreatDoor

/- What the form reads of pairs. -/
namespace Go.Proofs.YtbkadlngijkmmaaGreatDoor
open Go.GV Go.ChangeShapes Go.WideShapes Go.ChangeAt Go.RowKit

theorem pairStruct : ∃ fs, Tryz.prog.underlying 70 = some (.struct fs) ∧ (List.range 2).map (fun i => fs[i]?.map fun f => (f.type, f.offset)) = [some (23, 0), some (23, 1)] := ⟨_, Tryz.underlying70, by kernel_rfl⟩
theorem pairCells : Tryz.prog.cellsOf 70 = 2 := by kernel_rfl

set_option maxRecDepth 100000 in
theorem dec_pair {H : Type} {enc : TypeId × Value → H} {w : World} {base : Nat} {spare : Nat → Bool} {held : Bool} : ∀ n cs y, DataW.trod enc Tryz.prog w base spare held n 70 cs = some y → Light Tryz.prog 70 y.1 → ∃ d : Im, cs = encP d ∧ d.In w := by
  intro n cs y h hL
  obtain ⟨fs, ht, hf⟩ := pairStruct
  have hl := trod_slen ht h
  rw [pairCells] at hl
  simp only [List.range, List.range.loop, List.map_cons, List.map_nil, List.cons.injEq, and_true] at hf
  obtain ⟨f0, f1⟩ := hf
  obtain ⟨ca, cc, cl, hc, cR, cle, _, cw, _⟩ := fld_slice ht h hL 0 0 f0 Tryz.underlying23 bytesCells byteCells (by decide) (fun n cs y h _ => dec_byte n cs y h)
  obtain ⟨ga, gc, gl, hg, gR, gle, _, gw, _⟩ := fld_slice ht h hL 1 1 f1 Tryz.underlying23 bytesCells byteCells (by decide) (fun n cs y h _ => dec_byte n cs y h)
  refine ⟨⟨ca, cc, ga, gc, ⟨cl, gl, 0⟩⟩, ?_, ⟨cR, gR, cle, gle⟩⟩
  match cs, hl with
  | [_, _], _ =>
    simp at hc hg
    simp [encP, hc, hg]

end Go.Proofs.YtbkadlngijkmmaaGreatDoor

/- TreeBuild: for every input the law answers true, and turns nothing. The tables that its row lists are premises, and tied to the text by its card. -/
namespace Go.Proofs.YtbkadlngijkmmaaGreatDoor.treeBuild
open Go.GV Go.ChangeShapes Go.WideShapes Go.ChangeAt Go.RowKit

theorem laid_met (os : Os) : laidMet Tryz.prog Rows.treeBuildRow.laid ((laidWorld os).forCall (fun _ _ => 0) ⟨#[], #[.slice none 0 0, .slice none 0 0], []⟩).memory :=
  laidMet_of_run' 8 (by kernel_rfl) (by kernel_rfl)
theorem reads (os : Os) {H : Type} (enc : TypeId × Value → H) : ∃ ds places, DataW.whole enc Tryz.prog ((laidWorld os).forCall (fun _ _ => 0) ⟨#[], #[.slice none 0 0, .slice none 0 0], []⟩).memory Tryz.f5.params.toList Rows.treeBuildSpec.vars false (#[.slice none 0 0, .slice none 0 0] : Array Value).toList 8 = some (ds, [], places) :=
  ⟨[.nil, .nil], [], by kernel_rfl⟩

set_option maxRecDepth 100000 in
theorem lifted (os : Os) (started : os.Started) (H : Type) (enc : TypeId × Value → H) (F : Stop.Interp) :
    ReturnsInHanded {} Tryz.checked os 5 .any ((OpenSpec.ofChange Rows.treeBuildSpec).preRow enc Tryz.prog Tryz.f5 Rows.treeBuildRow.domain false Rows.treeBuildRow.laid) (((OpenSpec.ofChange Rows.treeBuildSpec).at F).post enc Tryz.prog Tryz.f5 false true false false) := by
  obtain ⟨ds, places, hx⟩ := reads os enc
  refine returnsInHanded_of_row (C := Tryz.checked) (s := OpenSpec.ofChange Rows.treeBuildSpec) own started (by kernel_rfl) Tryz.func5
    (witness_row_at (enc := enc) (C := Tryz.checked) false (laidWorld os) #[.slice none 0 0, .slice none 0 0] rfl (by kernel_rfl) (by kernel_rfl) (by kernel_rfl)
      (OpenSpec.preRow_of_cond 8 hx (by kernel_rfl) (fun k hk => by cases hk) (by kernel_rfl) (laid_met os))) ?_
  intro W base args ds gs before hval0 hW _ _ hLt _ _ _
  have hval : ∀ (j : Nat) t v, Tryz.f5.params[j]? = some t → args[j]? = some v → Value.okWide Tryz.prog W .any base t v := hval0
  have hW' := hW
  obtain ⟨p, q, hA0, hV, rfl, hfz, hnd⟩ := hW
  have hA : DataW.TrodAll enc Tryz.prog W 0 (fun _ => true) true Tryz.f5.params.toList args.toList ds p := hA0
  rw [Tryz.params5] at hA hval
  obtain ⟨v0, vs0, d0, ds0, p0, q0, hargs, rfl, rfl, h0, r0⟩ := trodAll_cons hA
  obtain ⟨v1, vs1, d1, ds1, p1, q1, rfl, rfl, rfl, h1, r1⟩ := trodAll_cons r0
  obtain ⟨rfl, rfl, rfl⟩ := trodAll_nil r1
  obtain rfl : args = #[v0, v1] := by cases args; simp_all
  have hL0 : Light Tryz.prog 28 d0 := light_of hLt (i := 0) rfl rfl
  obtain ⟨a0, c0, l0, rfl, R0, hc0, hm0, hw0, H0⟩ := rdw_of_T Tryz.underlying28 pairCells (by decide) dec_pair (okWide_slice Tryz.underlying28 (hval 0 _ v0 rfl rfl)) h0 hL0
  unfold maxLen at hm0
  have hL1 : Light Tryz.prog 22 d1 := light_of hLt (i := 1) rfl rfl
  obtain ⟨a1, c1, l1, rfl, R1, hc1, hm1, hw1, H1⟩ := rdw_of_T Tryz.underlying22 step7Cells (by decide) dec_step7 (okWide_slice Tryz.underlying22 (hval 1 _ v1 rfl rfl)) h1 hL1
  unfold maxLen at hm1
  refine (treeBuild_ok a0 a1 c0 c1 l0 l1 W R0 hc0 H0 R1 H1).calls.mono ?_
  rintro e W' ⟨v, rfl, rfl, hx⟩
  exact ⟨_, rfl, law_post laidOut rfl (by kernel_rfl) rfl Tryz.underlying4 (fun ds h => match ds, h with | [_, _], _ => rfl) hW' hx⟩

theorem said : Rows.TreeBuildSaid :=
  OpenClaim.holds_of_cond 5 Tryz.f5 rfl rfl rfl rfl rfl rfl rfl ⟨rfl, rfl, rfl, rfl, rfl⟩ rfl rfl rfl rfl rfl (by kernel_rfl) Tryz.func5 (by kernel_rfl)
    (of_decide_eq_true (by kernel_rfl)) (by unfold Func.isWrapper; first | (rw [if_pos (by decide +kernel)]; kernel_rfl) | (rw [if_neg (by decide +kernel)]; exact ⟨rfl, rfl⟩))
    (fun os started H enc _ F => by rw [OpenClaim.pre_eq_preRow]; exact lifted os started H enc F)

theorem plain (f : FuncId) (fn : Func) (hf : Tryz.pinned.checked.prog.funcNamed "gablet/gabletlaw07.TreeBuild" = some f) (hfn : Tryz.pinned.checked.prog.funcs[f]? = some fn) :
    false = Tryz.pinned.checked.prog.looks [] ∧ ∀ (j : Nat) t, fn.params[j]? = some t → Tryz.pinned.checked.prog.wantsStandIn t = false := by
  obtain rfl : f = 5 := Option.some.inj ((show Tryz.prog.funcNamed "gablet/gabletlaw07.TreeBuild" = some 5 by kernel_rfl).symm.trans hf) |>.symm
  obtain rfl : fn = Tryz.f5 := (Option.some.inj (Tryz.func5.symm.trans hfn)).symm
  refine ⟨by kernel_rfl, fun j t ht => ?_⟩
  rw [Tryz.params5] at ht
  have hm := Array.mem_of_getElem? ht
  exact List.all_eq_true.1 (show (Tryz.f5.params.toList.all fun t => !Tryz.prog.wantsStandIn t) = true by kernel_rfl) t (by rw [Tryz.params5]; simpa using hm) |> fun h => (Bool.not_eq_true' _).mp h

theorem card : Rows.TreeBuildCardSaid :=
  Claim7.holds_tied_plain_at .later [] _ _ _ _ said (fun _ h => by cases h) (by kernel_rfl) (fun _ h => by cases h) treeBuild_row_tie rfl ⟨rfl, rfl⟩ (by kernel_rfl) rfl plain (by kernel_rfl)
end Go.Proofs.YtbkadlngijkmmaaGreatDoor.treeBuild
namespace Go.Proofs.YtbkadlngijkmmaaGreatDoor
theorem treeBuild_holds : Rows.TreeBuildCardSaid := treeBuild.card
#print axioms treeBuild_holds
end Go.Proofs.YtbkadlngijkmmaaGreatDoor
