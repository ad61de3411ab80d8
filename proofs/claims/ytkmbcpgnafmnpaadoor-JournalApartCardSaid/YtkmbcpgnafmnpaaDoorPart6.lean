/- Part 6 of the proof. -/
import Derived.Test.YtkmbcpgnafmnpaaDoorPart5
import Derived.Test.YtkmbcpgnafmnpaaDoorPart2
import Derived.Test.YtkmbcpgnafmnpaaDoorCards
import Derived.Test.YtkmbcpgnafmnpaaDoorTie
import Derived.WalkKit
import Derived.ProofKit
import Derived.OpenShut
import Derived.Deep.DeepHandedRow
/- The document's journal: what is done to it. -/
namespace Go.GV
theorem q_strne {P : Program} {ops rest : List Oper} {e : Env} {dst : Option Tmp} {ty : TypeId} {pos : String} {af : Array Edge} {g : Option (Nat × Bool)} {C : World → Prop} {K : Env → Prop} {t t2 : TypeId} {x y : Operand} {l m : List UInt8} (hg : wants ⟨dst, .binOp .neq t x y t2, ty, pos, af, g⟩ ops e = true) (hx : ev e x = str l) (hy : ev e y = str m)
    (h : Wq P ops C K rest (put e dst (.bool (!decide (l = m))))) : Wq P ops C K (⟨dst, .binOp .neq t x y t2, ty, pos, af, g⟩ :: rest) e :=
  q_val hg (fun w _ => by
    have hq : eqGuard .neq t x y (.string ⟨l.toArray⟩) (.string ⟨m.toArray⟩) = pure () := rfl
    simp only [execOp, hx, hy, hq, Sem.run_bind, Sem.run_pure, Result.andThen_ok, binOp, str, Op.stringOp, str_inj]) h
end Go.GV
namespace Go.Proofs.YtkmbcpgnafmnpaaDoor
open Go.GV
theorem ca_36_JoS : callable Tryd.prog 36 = true := by kernel_rfl
theorem ca_68_JoS : callable Tryd.prog 68 = true := by kernel_rfl
theorem ca_69_JoS : callable Tryd.prog 69 = true := by kernel_rfl
theorem fo_81_0_JoS : fieldO Tryd.prog 81 0 = some 0 := by kernel_rfl
theorem fo_81_2_JoS : fieldO Tryd.prog 81 2 = some 2 := by kernel_rfl
theorem fo_81_3_JoS : fieldO Tryd.prog 81 3 = some 3 := by kernel_rfl
theorem sz_22_JoS : tsize Tryd.prog 22 = some 1 := by kernel_rfl
theorem sz_58_JoS : tsize Tryd.prog 58 = some 1 := by kernel_rfl
attribute [local irreducible] Wops W Wq Wt

theorem RjAt.mono {w : World} {br : Nat} {R : Rj} {G G' : Nat → Prop} (h : RjAt w br R G) (hG : ∀ x, G x → G' x) : RjAt w br R G' :=
  let ⟨a, c, full, xs, h, h1, h2, h3⟩ := h; ⟨a, c, full, xs, h, hG _ h1, fun y hy => hG _ (h2 y hy), fun x hx => (h3 x hx).imp id (hG _)⟩

theorem perm3 {α : Type} (x : α) (A B : List α) : (([x] ++ A) ++ B).Perm (([x] ++ B) ++ A) := by
  simp only [List.append_assoc]
  exact List.Perm.append_left _ List.perm_append_comm

def appR (R : Rj) (b : Byt) : Rj := if R.size - takenL R.L < blk b.length then R else { R with L := R.L ++ [b] }
def appRE (R : Rj) (b : Byt) : Int := if R.size - takenL R.L < blk b.length then 7 else 0
theorem appR_ok {R : Rj} (h : R.Ok) (b : Byt) : (appR R b).Ok := by
  unfold appR
  split
  · exact h
  · rename_i h1
    exact ⟨h.s1, h.s2, h.a, h.q, by have := h.t; show takenL (R.L ++ [b]) ≤ R.size; rw [takenL_snoc]; omega⟩
set_option maxRecDepth 20000 in
set_option maxHeartbeats 2000000 in
theorem rappend_ok {w : World} {br : Nat} {R : Rj} {G : Nat → Prop} (h : RjAt w br R G) (hR : R.Ok) (hlt : ∀ x, G x → x < w.heap.size) (a c n) (b : Byt) (Rb : Rd w a 1 B8 b) (hn : b.length = n) (hm : n ≤ 900000) (hGa : b = [] ∨ ¬ G (adr a).block) :
    Ret Tryd.prog 41 #[ptr br, .slice a n c] w fun v w' => v = .int .i64 (appRE R b) ∧ RjAt w' br (appR R b) (grow G w w') ∧ Turn G w w' := by
  subst hn
  obtain ⟨w0, rfl⟩ : ∃ w0, w0 = w := ⟨_, rfl⟩
  have h1 := hR.s1; have h2 := hR.s2; have h3 := hR.t; have h4 := takenL_two R.L
  refine ret_of_W (fn := Tryd.f41) Tryd.func41 rfl [.pointer (some ⟨br, 0, none⟩), .slice a b.length c] rfl (by kernel_rfl) ?_
  refine W_rseq ?_
  refine op_assign rfl (.int _ _) rfl ?_
  refine op_nil (at_then ?_)
  refine W_seq ?_
  refine W_rseq ?_
  refine op_move rfl (.slice _ _ _) rfl ?_
  refine op_len rfl el_23 rfl ?_
  refine op_call rfl ca_36_JoS (rblocks_ok (b.length : Int) (by omega) _) rfl ?_
  rintro v w ⟨rfl, rfl⟩
  rw [blkI_nat]
  refine op_move rfl (.pointer _) rfl ?_
  refine op_call rfl ca_68_JoS (rfree_ok h hR) rfl ?_
  rintro v w1 ⟨rfl, hx1⟩
  refine op_gtr rfl rfl rfl ?_
  refine op_nil (at_then ?_)
  refine W_cond _ rfl ?_ ?_
  · intro k1
    replace k1 := dec_t k1
    have hf : R.size - takenL R.L < blk b.length := by omega
    refine W_rseq ?_
    refine op_assign rfl (.int _ _) rfl ?_
    refine op_nil (at_then ?_)
    refine W_ret (ret_then (leave1 (v := (.int _ _)) rfl rfl rfl ?_))
    exact ⟨by rw [appRE, if_pos hf], by rw [appR, if_pos hf]; exact (h.keep hx1 (fun _ hx => by cases hx)).mono (fun x hx => .inl hx), .of0 hx1⟩
  · intro k1
    replace k1 := dec_f k1
    have hf : ¬ R.size - takenL R.L < blk b.length := by omega
    obtain ⟨a0, c0, full0, xs, hr, hG1, hG2, hG3⟩ := h.keep hx1 (fun _ hx => by cases hx)
    have hnum := hr.num
    have os := hr.os
    rw [hnum] at os
    have hd := hr.hd
    unfold RjB at hd
    have H : Ctx w1 ([(br, Bl T5 [.slice a0 R.L.length c0, .int .i64 (R.size : Int), .int .i64 (R.first : Int), .int .u64 (R.seq : Int)])] ++ ent a0 23 full0 |>.map (·.1)) w1 ([(br, Bl T5 [.slice a0 R.L.length c0, .int .i64 (R.size : Int), .int .i64 (R.first : Int), .int .u64 (R.seq : Int)])] ++ ent a0 23 full0) := by
      refine Ctx.startL (fun y hy => ?_) ?_
      · rcases List.mem_cons.1 hy with rfl | hy
        · exact hd
        · exact hr.blk y hy
      · exact List.pairwise_cons.2 ⟨fun y hy => hr.nd y hy, ent_nd⟩
    have hSG : ∀ x ∈ ([(br, Bl T5 [.slice a0 R.L.length c0, .int .i64 (R.size : Int), .int .i64 (R.first : Int), .int .u64 (R.seq : Int)])] ++ ent a0 23 full0 |>.map (·.1)), G x := fun x hx => by
      obtain ⟨y, hy, rfl⟩ := List.mem_map.1 hx
      rcases List.mem_cons.1 hy with rfl | hy
      · exact hG1
      · exact hG2 y hy
    have Rb1 := Rb.ext0 hx1
    refine W_skip (at_then ?_)
    refine W_sseqz [([0, 1, 2, 3, 4, 6], 5), ([], 7), ([], 8), ([], 9), ([], 10), ([11], 12)] (fun z => z.heap[br]? = some (Bl T5 [.slice a0 R.L.length c0, .int .i64 (R.size : Int), .int .i64 (R.first : Int), .int .u64 (R.seq : Int)])) [12] mixed (by kernel_rfl) (hd) ?_
    refine seg_cons rfl rfl ?_
    refine t_move rfl (.pointer _) rfl ?_
    refine t_move rfl (.pointer _) rfl ?_
    refine t_nilCheck rfl rfl ?_
    refine t_fieldAddr rfl fo_81_0_JoS rfl ?_
    first | refine t_ldb rfl ag_58 rfl (fun _ _ => Ctx.start _ []) (by first | exact at0 | exact at1 | exact at2 | exact at3 | exact at4 | exact at5 | exact at6 | exact at7 | exact at8 | exact at9) rfl ?_ | refine t_ld rfl ag_58 rfl (fun _ hx => cell_bl hx (0 + 0)) ?_
    refine t_move rfl (.slice _ _ _) rfl ?_
    refine t_nil ?_
    replace H := H.drew
    refine op_build0 rfl el_23 sz_5 H ?_
    rintro b16 w3 H O16
    refine op_nil (at_seg (H.get at0) ?_)
    refine seg_cons rfl rfl ?_
    refine t_nil ?_
    refine op_append (L := [(br, Bl T5 [.slice a0 R.L.length c0, .int .i64 (R.size : Int), .int .i64 (R.first : Int), .int .u64 (R.seq : Int)])] ++ ent a0 23 full0) rfl el_23 el_23 sz_5 by_5 zc_5 rfl (by decide) (b.map bv) rfl rfl H O16 (by simp) (bv_one b) (Rd.appB (by rcases hGa with h0 | h0 <;> first | (rw [h0]; exact Rd.nil) | exact Rb1.ext H.ext (fun hx => h0 (hSG _ hx)))) (by omega) ?_
    rintro a18 c18 full18 w4 H O18
    rw [List.nil_append, Nat.zero_add] at O18
    rw [show 0 + b.length = b.length from Nat.zero_add _]
    refine op_nil (at_seg (H.get at0) ?_)
    refine seg_cons rfl rfl ?_
    refine t_nil ?_
    refine op_build1 [.slice a18 b.length c18] (.slice a18 b.length c18) rfl el_58 sz_23 zc_23 rfl (by decide) (by decide) rfl rfl rfl H ?_
    rintro b19 w5 - H
    refine op_nil (at_seg (H.get at1) ?_)
    refine seg_cons rfl rfl ?_
    refine t_nil ?_
    refine op_appendb (L := [(br, Bl T5 [.slice a0 R.L.length c0, .int .i64 (R.size : Int), .int .i64 (R.first : Int), .int .u64 (R.seq : Int)])] ++ ent a18 5 full18) rfl el_58 el_58 sz_23 by_23 zc_23 rfl (by decide) rfl rfl (H.perm (List.Perm.cons _ (perm3 _ _ _))) os rfl (by simp [oneCell]) (by omega) ?_
    rintro a20 c20 full20 w6 H O20
    refine op_nil (at_seg (H.get at0) ?_)
    refine seg_cons rfl rfl ?_
    refine t_nil ?_
    refine op_nilCheck rfl rfl ?_
    refine op_nil (at_seg (H.get at0) ?_)
    refine seg_cons rfl rfl ?_
    refine t_fieldAddr rfl fo_81_0_JoS rfl ?_
    refine t_nil ?_
    refine op_stb (.slice _ _ _) rfl sz_58_JoS rfl rfl rfl H (by first | exact at0 | exact at1 | exact at2 | exact at3 | exact at4 | exact at5 | exact at6 | exact at7 | exact at8 | exact at9) (by first | decide | (simp; done) | (simp; omega)) ?_
    rintro w H
    refine op_nil (at_segz rfl ?_)
    refine seg_nil ?_
    refine W_rseq ?_
    refine op_assign rfl (.int _ _) rfl ?_
    refine op_nil (at_then ?_)
    refine W_ret (leave1 (v := (.int _ _)) rfl rfl rfl ?_)
    have H' : Ctx w1 ([(br, Bl T5 [.slice a0 R.L.length c0, .int .i64 (R.size : Int), .int .i64 (R.first : Int), .int .u64 (R.seq : Int)])] ++ ent a0 23 full0 |>.map (·.1)) w ((br, Bl T5 [.slice a20 (R.L.length + 1) c20, .int .i64 (R.size : Int), .int .i64 (R.first : Int), .int .u64 (R.seq : Int)]) :: (ent a18 5 full18 ++ ent a20 23 full20)) := H
    have hlen : (xs ++ [((a18, b, c18) : SB)]).length = R.L.length + 1 := by simp [hnum]
    have hs1 := hx1.size
    have hs2 := H.ext.size
    have hown : ∀ y ∈ ent a18 5 full18 ++ ent a20 23 full20, grow G w0 w y.1 := fun y hy => by
      have hl := heap_lt (H'.blk y (List.mem_cons_of_mem _ hy))
      rcases H'.own y (List.mem_cons_of_mem _ hy) with hm | hm
      · exact .inl (hSG _ hm)
      · exact .inr ⟨by omega, hl⟩
    have hnew : b = [] ∨ ∃ p, a18 = some p := by
      cases a18 with
      | some p => exact .inr ⟨p, rfl⟩
      | none => exact .inl (List.eq_nil_of_length_eq_zero (by have := O18.none' rfl; have := O18.le; omega))
    have hnds := List.pairwise_cons.1 H'.nd
    refine ⟨by rw [appRE, if_neg hf], ?_, Turn.trans (.of0 hx1) (.of H.ext hSG) fun x h => .inl h⟩
    rw [appR, if_neg hf]
    refine ⟨a20, c20, full20, xs ++ [(a18, b, c18)], ⟨?_, ?_, fun y hy => H'.blk y (List.mem_cons_of_mem _ (List.mem_append_right _ hy)), ?_, fun x hx => ?_, fun y hy => hnds.1 y (List.mem_append_right _ hy), fun x hx => ?_⟩, .inl hG1, fun y hy => hown y (List.mem_append_right _ hy), fun x hx => ?_⟩
    · have h9 := H'.blk _ (List.mem_cons_self ..)
      show _ = some (Bl T5 [.slice a20 (R.L ++ [b]).length c20, .int .i64 (R.size : Int), .int .i64 (R.first : Int), .int .u64 (R.seq : Int)])
      rw [List.length_append]; exact h9
    · rw [hlen, List.map_append]; exact O20
    · rw [List.map_append, hr.eq]; rfl
    · rcases List.mem_append.1 hx with hx | hx
      · refine ⟨?_, (hr.str x hx).2⟩
        rcases hr.sep x hx with h0 | h0
        · rw [h0]; exact Rd.nil
        · refine (hr.str x hx).1.ext H.ext fun hm => ?_
          obtain ⟨y, hy, he⟩ := List.mem_map.1 hm
          rcases List.mem_cons.1 hy with rfl | hy
          · exact h0.1 he.symm
          · exact h0.2 y hy he
      · rw [List.mem_singleton.1 hx]
        exact ⟨OS.rdB (t := 5) O18 fun y hy => H'.blk y (List.mem_cons_of_mem _ (List.mem_append_left _ hy)), O18.le⟩
    · rcases List.mem_append.1 hx with hx | hx
      · rcases hr.sep x hx with h0 | h0
        · exact .inl h0
        · rcases Rd.lt8 (hr.str x hx).1 with h5 | h5
          · exact .inl h5
          · refine .inr ⟨h0.1, fun y hy he => ?_⟩
            rcases H'.own y (List.mem_cons_of_mem _ (List.mem_append_right _ hy)) with hm | hm
            · obtain ⟨z, hz, he2⟩ := List.mem_map.1 hm
              rcases List.mem_cons.1 hz with rfl | hz
              · exact h0.1 (he.symm.trans he2.symm)
              · exact h0.2 z hz (he2.trans he)
            · omega
      · rw [List.mem_singleton.1 hx]
        rcases hnew with h0 | ⟨p, rfl⟩
        · exact .inl h0
        · refine .inr ⟨fun he => hnds.1 (p.block, Bl 5 full18) (List.mem_append_left _ (List.mem_singleton.2 rfl)) he.symm, fun y hy he => ?_⟩
          exact (List.pairwise_append.1 hnds.2).2.2 (p.block, Bl 5 full18) (List.mem_singleton.2 rfl) y hy he.symm
    · rcases List.mem_append.1 hx with hx | hx
      · exact (hG3 x hx).imp id .inl
      · rw [List.mem_singleton.1 hx]
        rcases hnew with h0 | ⟨p, rfl⟩
        · exact .inl h0
        · exact .inr (hown (p.block, Bl 5 full18) (List.mem_append_left _ (List.mem_singleton.2 rfl)))

def Rj.forget (R : Rj) : Rj := ⟨[], R.size, R.at', R.seq + R.L.length⟩
set_option maxRecDepth 20000 in
set_option maxHeartbeats 1000000 in
theorem rforget_ok {w : World} {br : Nat} {R : Rj} {G : Nat → Prop} (h : RjAt w br R G) (hR : R.Ok) :
    Ret Tryd.prog 42 #[ptr br] w fun _ w' => RjAt w' br R.forget G ∧ Turn G w w' := by
  obtain ⟨w0, rfl⟩ : ∃ w0, w0 = w := ⟨_, rfl⟩
  have h1 := hR.s1; have h2 := hR.s2; have h3 := hR.t; have h4 := takenL_two R.L
  refine ret_of_W (fn := Tryd.f42) Tryd.func42 rfl [.pointer (some ⟨br, 0, none⟩)] rfl (by kernel_rfl) ?_
  refine W_rseq ?_
  refine op_move rfl (.pointer _) rfl ?_
  refine op_call rfl ca_69_JoS (rmark_ok h hR) rfl ?_
  rintro v w1 ⟨rfl, hx1⟩
  refine op_move rfl (.tuple _) rfl ?_
  refine op_extract rfl rfl rfl ?_
  refine op_extract rfl rfl rfl ?_
  refine op_assign rfl (.int _ _) rfl ?_
  refine op_assign rfl (.int _ _) rfl ?_
  refine op_nil (at_then ?_)
  obtain ⟨a0, c0, full0, xs, hr, hG1, -, -⟩ := h.keep hx1 (fun _ hx => by cases hx)
  have hd := hr.hd
  unfold RjB at hd
  have H := Ctx.start1 hd
  refine W_rseq ?_
  refine op_move rfl (.pointer _) rfl ?_
  refine op_nilCheck rfl rfl ?_
  refine op_fieldAddr rfl fo_81_0_JoS rfl ?_
  refine op_stb (.slice _ _ _) rfl sz_58_JoS rfl rfl rfl H (by first | exact at0 | exact at1 | exact at2 | exact at3 | exact at4 | exact at5 | exact at6 | exact at7 | exact at8 | exact at9) (by first | decide | (simp; done) | (simp; omega)) ?_
  rintro w H
  refine op_nil (at_then ?_)
  refine W_rseq ?_
  refine op_move rfl (.pointer _) rfl ?_
  refine op_move rfl (.int _ _) rfl ?_
  refine op_nilCheck rfl rfl ?_
  refine op_fieldAddr rfl fo_81_2_JoS rfl ?_
  refine op_stb (.int _ _) rfl sz_3 rfl rfl rfl H (by first | exact at0 | exact at1 | exact at2 | exact at3 | exact at4 | exact at5 | exact at6 | exact at7 | exact at8 | exact at9) (by first | decide | (simp; done) | (simp; omega)) ?_
  rintro w H
  refine op_nil (at_then ?_)
  refine W_region ?_
  refine op_move rfl (.pointer _) rfl ?_
  refine op_move rfl (.int _ _) rfl ?_
  refine op_nilCheck rfl rfl ?_
  refine op_fieldAddr rfl fo_81_3_JoS rfl ?_
  refine op_stb (.int _ _) rfl sz_22_JoS rfl rfl rfl H (by first | exact at0 | exact at1 | exact at2 | exact at3 | exact at4 | exact at5 | exact at6 | exact at7 | exact at8 | exact at9) (by first | decide | (simp; done) | (simp; omega)) ?_
  rintro w H
  refine op_nil (leave0n rfl rfl ?_)
  refine ⟨⟨none, 0, [], [], ⟨H.get at0, OS.nil, fun y hy => (by cases hy), rfl, fun x hx => (by cases hx), fun y hy => (by cases hy), fun x hx => (by cases hx)⟩, hG1, fun y hy => (by cases hy), fun x hx => (by cases hx)⟩, Turn.trans (.of0 hx1) (.of H.ext fun x hx => by rw [List.mem_singleton.1 hx]; exact hG1) fun x h => .inl h⟩

set_option maxRecDepth 20000 in
set_option maxHeartbeats 1000000 in
theorem same_ok {w : World} {a a2 : Option Addr} {n c n2 c2 : Nat} {L M : List Byt} (S1 : Strs w a n c L) (S2 : Strs w a2 n2 c2 M) (hl : L.length ≤ 1000000) :
    Ret Tryd.prog 44 #[.slice a n c, .slice a2 n2 c2] w fun v w' => v = .bool (decide (L = M)) ∧ Ext [] w w' := by
  obtain ⟨w0, rfl⟩ : ∃ w0, w0 = w := ⟨_, rfl⟩
  obtain ⟨xs, Rx, hx, hxs⟩ := S1.ex
  obtain ⟨ys, Ry, hy, hys⟩ := S2.ex
  obtain rfl := S1.num
  obtain rfl := S2.num
  have hxl : xs.length = L.length := by rw [← hx, List.length_map]
  have hyl : ys.length = M.length := by rw [← hy, List.length_map]
  refine ret_of_W (fn := Tryd.f44) Tryd.func44 rfl [.slice a L.length c, .slice a2 M.length c2] rfl (by kernel_rfl) ?_
  refine W_rseq ?_
  refine op_assign rfl (.bool _) rfl ?_
  refine op_nil (at_then ?_)
  refine W_seq ?_
  refine W_rseq ?_
  refine op_move rfl (.slice _ _ _) rfl ?_
  refine op_len rfl el_58 rfl ?_
  refine op_move rfl (.slice _ _ _) rfl ?_
  refine op_len rfl el_58 rfl ?_
  refine op_neq rfl rfl rfl ?_
  refine op_nil (at_then ?_)
  refine W_cond _ rfl ?_ ?_
  · intro h1
    replace h1 := ndec_t h1
    refine W_rseq ?_
    refine op_assign rfl (.bool _) rfl ?_
    refine op_nil (at_then ?_)
    refine W_ret (ret_then (leave1 (v := (.bool _)) rfl rfl rfl ?_))
    exact ⟨by rw [decide_eq_false (fun h => by subst h; simp at h1)], .refl _ _⟩
  · intro h1
    replace h1 := ndec_f h1
    have hlm : L.length = M.length := by omega
    refine W_skip (at_then ?_)
    refine W_seq ?_
    refine W_rseq ?_
    refine op_assign rfl (.int _ _) rfl ?_
    refine op_nil (at_then ?_)
    refine W_block ?_
    refine W_loop 268433456 (α := Nat) (fun i => [(5, .int .i64 (i : Int))]) (fun i w' => i ≤ L.length ∧ Ext [] w0 w' ∧ L.take i = M.take i) (fun i => L.length - i) 0 rfl ?_ ?_ ?_
    · exact ⟨rfl, trivial⟩
    · exact ⟨Nat.zero_le _, .refl _ _, rfl⟩
    · rintro i j w ⟨hi, hxt, htk⟩
      refine W_seq ?_
      refine W_rseq ?_
      refine op_move rfl (.int _ _) rfl ?_
      refine op_move rfl (.slice _ _ _) rfl ?_
      refine op_len rfl el_58 rfl ?_
      refine op_lss rfl rfl rfl ?_
      refine op_nil (at_then ?_)
      refine W_cond _ rfl ?_ ?_
      · intro h2
        replace h2 := dec_t h2
        obtain ⟨x, hx1⟩ := get_some (l := xs) (i := i) (by omega)
        obtain ⟨y, hy1⟩ := get_some (l := ys) (i := i) (by omega)
        have hL1 : L[i]? = some x.2.1 := by rw [← hx, List.getElem?_map, hx1]; rfl
        have hM1 : M[i]? = some y.2.1 := by rw [← hy, List.getElem?_map, hy1]; rfl
        have H := Ctx.start w []
        have hxd := hxt.trans (Ext.drew [] w)
        have Rx' := Rx.ext0 hxd
        have Ry' := Ry.ext0 hxd
        have hx2 := (hxs x (List.mem_of_getElem? hx1)).ext0 hxd
        have hy2 := (hys y (List.mem_of_getElem? hy1)).ext0 hxd
        refine W_skip (at_then ?_)
        refine W_seq ?_
        refine W_block ?_
        refine W_qseq (fun x => x = _) mixed (by kernel_rfl) rfl ?_
        refine q_move rfl (.slice _ _ _) rfl ?_
        refine q_move rfl (.int _ _) rfl ?_
        first | refine q_indexRd Rx rfl el_58 sz_23 rfl rfl (by omega) (by omega) (by first | rfl | omega) ?_ | refine q_indexRd Ry rfl el_58 sz_23 rfl rfl (by omega) (by omega) (by first | rfl | omega) ?_ | refine q_indexAddr rfl el_58 sz_23 rfl rfl (by omega) (by omega) ?_
        refine q_ld rfl ag_23 rfl (by rintro _ rfl; exact Rd.one (f := valS) Rx' hx1) ?_
        refine q_back (l := x.2.1) rfl el_23 un_5 un_9 rfl (by rintro _ rfl; exact hx2.1) ?_
        refine q_move rfl (.slice _ _ _) rfl ?_
        refine q_move rfl (.int _ _) rfl ?_
        first | refine q_indexRd Rx rfl el_58 sz_23 rfl rfl (by omega) (by omega) (by first | rfl | omega) ?_ | refine q_indexRd Ry rfl el_58 sz_23 rfl rfl (by omega) (by omega) (by first | rfl | omega) ?_ | refine q_indexAddr rfl el_58 sz_23 rfl rfl (by omega) (by omega) ?_
        refine q_ld rfl ag_23 rfl (by rintro _ rfl; exact Rd.one (f := valS) Ry' hy1) ?_
        refine q_back (l := y.2.1) rfl el_23 un_5 un_9 rfl (by rintro _ rfl; exact hy2.1) ?_
        refine q_strne (l := x.2.1) (m := y.2.1) rfl rfl rfl ?_
        refine q_nil ?_
        rintro _ rfl
        replace H := H.drew
        refine W_cond _ rfl ?_ ?_
        · intro h3
          have hne : ¬ L = M := fun he => by
            rw [he, hM1] at hL1
            have he2 := Option.some.inj hL1
            simp_all
          refine W_rseq ?_
          refine op_assign rfl (.bool _) rfl ?_
          refine op_nil (at_then ?_)
          refine W_ret (ret_block (ret_then (ret_then (ret_block (ret_then (leave1 (v := (.bool _)) rfl rfl rfl ?_))))))
          exact ⟨by rw [decide_eq_false hne], hxd⟩
        · intro h3
          have hxy : x.2.1 = y.2.1 := by simpa using h3
          refine W_skip (at_block (at_then ?_))
          refine W_region ?_
          refine op_move rfl (.int _ _) rfl ?_
          refine op_add_i64 rfl rfl rfl (by omega) (by omega) ?_
          refine op_assign rfl (.int _ _) rfl ?_
          refine op_nil (at_then ?_)
          exact ⟨i + 1, rfl, ⟨rfl, trivial⟩, ⟨by omega, hxd, by rw [take_snoc hL1, take_snoc hM1, htk, hxy]⟩, by omega⟩
      · intro h2
        replace h2 := dec_f h2
        have hii : i = L.length := by omega
        subst hii
        rw [List.take_length, hlm, List.take_length] at htk
        refine W_exit (exit_then (exit_then (exit_here (at_then ?_))))
        refine W_rseq ?_
        refine op_assign rfl (.bool _) rfl ?_
        refine op_nil (at_then ?_)
        refine W_ret (leave1 (v := (.bool _)) rfl rfl rfl ?_)
        exact ⟨by rw [decide_eq_true htk], hxt⟩

end Go.Proofs.YtkmbcpgnafmnpaaDoor

/- Plain law of journals: what is written is read. -/
namespace Go.Proofs.YtkmbcpgnafmnpaaDoor
open Go.GV
attribute [local irreducible] Wops W Wq Wt

theorem mod_add {a i n : Nat} (ha : a < n) (hi : i < n) : (a + i) % n = if a + i < n then a + i else a + i - n := by
  split
  · exact Nat.mod_eq_of_lt (by assumption)
  · rw [Nat.mod_eq_sub_mod (by omega), Nat.mod_eq_of_lt (by omega)]
theorem place_inj {J : Jr} (h : J.Ok) {i j : Nat} (hi : i < J.size) (hj : j < J.size) (he : J.place i = J.place j) : i = j := by
  unfold Jr.place at he
  rw [mod_add h.a hi, mod_add h.a hj] at he
  have := h.a
  split at he <;> split at he <;> omega

/-- Of each block what is sure and what is loose. -/
structure Pend (A : Dev) (N : Nat) (S : Nat → Byt) (P : Nat → List Byt) : Prop where
  len : A.B.length = N
  get : ∀ p, p < N → A.B[p]? = some (S p, P p)
theorem Pend.at' {A : Dev} {N : Nat} {S : Nat → Byt} {P : Nat → List Byt} (h : Pend A N S P) {p : Nat} (hp : p < N) : at' A p = (P p).getLast?.getD (S p) := by
  unfold Go.Proofs.YtkmbcpgnafmnpaaDoor.at' stands
  rw [List.getD_eq_getElem?_getD, h.get p hp]; rfl
theorem Pend.less {A : Dev} {N : Nat} {S : Nat → Byt} {P : Nat → List Byt} (h : Pend A N S P) : Pend A.less N S P := ⟨by rw [less_B]; exact h.len, by rw [less_B]; exact h.get⟩
theorem less_on {A : Dev} (h : A.left ≠ 0) (ho : A.on = true) : A.less.on = true ∧ A.less.left = (if A.left = -1 then -1 else A.left - 1) := by
  unfold Dev.less
  rw [if_neg h]
  split
  · rename_i h1; exact ⟨ho, h1⟩
  · exact ⟨ho, rfl⟩
theorem less_off {A : Dev} (h : A.left = 0) : A.less.on = false := by
  unfold Dev.less
  rw [if_pos h]
theorem Pend.write {A : Dev} {N : Nat} {S : Nat → Byt} {P : Nat → List Byt} (h : Pend A N S P) (ho : A.on = true) {p : Nat} (hp : p < N) {b : Byt} (hb : b.length = 512) :
    (A.left = 0 ∧ writeE A p b = 8 ∧ (writeD A p b).on = false ∧ Pend (writeD A p b) N S P) ∨
    (A.left ≠ 0 ∧ writeE A p b = 0 ∧ (writeD A p b).on = true ∧ (writeD A p b).left = (if A.left = -1 then -1 else A.left - 1) ∧ Pend (writeD A p b) N S (fun q => if q = p then P q ++ [b] else P q)) := by
  have hh : A.has (p : Int) = true := by
    unfold Dev.has
    rw [h.len]
    simp only [Bool.and_eq_true, decide_eq_true_eq]; omega
  unfold writeE writeD
  rw [ho, hh, decide_eq_true hb]
  unfold Dev.goes
  by_cases h0 : A.left = 0
  · rw [decide_eq_true h0]
    exact .inl ⟨h0, rfl, less_off h0, h.less⟩
  · rw [decide_eq_false h0]
    obtain ⟨h1, h2⟩ := less_on h0 ho
    refine .inr ⟨h0, rfl, h1, h2, ?_, fun q hq => ?_⟩
    · show (A.less.B.modify p _).length = N
      rw [List.length_modify, less_B]; exact h.len
    · show (A.less.B.modify p _)[q]? = _
      rw [List.getElem?_modify, less_B, h.get q hq]
      by_cases hqp : q = p
      · rw [if_pos hqp]; simp [hqp.symm]
      · rw [if_neg hqp]; simp [Ne.symm hqp]
theorem Pend.flush {A : Dev} {N : Nat} {S : Nat → Byt} {P : Nat → List Byt} (h : Pend A N S P) (ho : A.on = true) :
    (A.left = 0 ∧ flushE A = 8 ∧ (flushD A).on = false ∧ Pend (flushD A) N S P) ∨
    (A.left ≠ 0 ∧ flushE A = 0 ∧ (flushD A).on = true ∧ (flushD A).left = (if A.left = -1 then -1 else A.left - 1) ∧ Pend (flushD A) N (fun q => (P q).getLast?.getD (S q)) (fun _ => [])) := by
  unfold flushE flushD
  rw [ho]
  unfold Dev.goes
  by_cases h0 : A.left = 0
  · rw [decide_eq_true h0]
    exact .inl ⟨h0, rfl, less_off h0, h.less⟩
  · rw [decide_eq_false h0]
    obtain ⟨h1, h2⟩ := less_on h0 ho
    refine .inr ⟨h0, rfl, h1, h2, ?_, fun q hq => ?_⟩
    · show (A.less.B.map _).length = N
      rw [List.length_map, less_B]; exact h.len
    · show (A.less.B.map _)[q]? = _
      rw [List.getElem?_map, less_B, h.get q hq]; rfl
theorem keepB_get : ∀ {l : List (Byt × List Byt)} {picks : List Int} {p : Nat} {q : Byt × List Byt}, l[p]? = some q → ∃ y, (keepB l picks)[p]? = some (y, []) ∧ (y = q.1 ∨ y ∈ q.2)
  | [], _, _, _, h => by simp at h
  | x :: l, picks, 0, q, h => by
    have hx : x = q := by simpa using h
    subst hx
    unfold keepB
    split
    · exact ⟨x.1, rfl, .inl rfl⟩
    · refine ⟨_, rfl, ?_⟩
      unfold kept
      split
      · exact .inl rfl
      · rw [List.getD_eq_getElem?_getD]
        cases hx : x.2[pickN x picks - 1]? with
        | none => exact .inl rfl
        | some b => exact .inr (List.mem_of_getElem? hx)
  | x :: l, picks, p + 1, q, h => by
    have h' : l[p]? = some q := by simpa using h
    unfold keepB
    split
    · exact keepB_get h'
    · exact keepB_get h'
theorem Pend.on {A : Dev} {N : Nat} {S : Nat → Byt} {P : Nat → List Byt} (h : Pend A N S P) (ho : A.on = false) (picks : List Int) :
    (onD A picks).on = true ∧ (onD A picks).left = -1 ∧ ∃ S', Pend (onD A picks) N S' (fun _ => []) ∧ ∀ p, p < N → S' p = S p ∨ S' p ∈ P p := by
  unfold onD
  rw [ho]
  refine ⟨rfl, rfl, fun p => ((keepB A.B picks).getD p (zeros, [])).1, ⟨?_, fun p hp => ?_⟩, fun p hp => ?_⟩
  · show (keepB A.B picks).length = N
    rw [keepB_len]; exact h.len
  · obtain ⟨y, hy, _⟩ := keepB_get (picks := picks) (h.get p hp)
    show (keepB A.B picks)[p]? = _
    rw [List.getD_eq_getElem?_getD, hy]; rfl
  · obtain ⟨y, hy, h1⟩ := keepB_get (picks := picks) (h.get p hp)
    show ((keepB A.B picks).getD p (zeros, [])).1 = _ ∨ ((keepB A.B picks).getD p (zeros, [])).1 ∈ _
    rw [List.getD_eq_getElem?_getD, hy]; exact h1
theorem Pend.new (n : Nat) : Pend (newD n) n (fun _ => zeros) (fun _ => []) :=
  ⟨by simp [newD], fun p hp => by show (List.replicate n _)[p]? = _; rw [List.getElem?_replicate, if_pos hp]⟩

/-! ### A string is written -/
def piB (J : Jr) (b : Byt) (i : Nat) : Byt := sealB 1 (pieceB J.seq i (chunkB b i))
def enB (J : Jr) (b : Byt) : Byt := sealB 2 (endB J.seq b)
theorem pi_le (J : Jr) (b : Byt) (i : Nat) : (pieceB J.seq i (chunkB b i)).length ≤ 505 := by rw [pieceB_len, chunkB_len]; omega
theorem en_le (J : Jr) (b : Byt) : (endB J.seq b).length ≤ 505 := by rw [endB_len]; omega
theorem piB_len (J : Jr) (b : Byt) (i : Nat) : (piB J b i).length = 512 := seal_len (pi_le J b i)
theorem enB_len (J : Jr) (b : Byt) : (enB J b).length = 512 := seal_len (en_le J b)
/-- The whole string stands; nothing else has changed. -/
structure Full (N : Nat) (S S' : Nat → Byt) (J : Jr) (b : Byt) : Prop where
  piece : ∀ i, i < blk b.length - 1 → S' (J.place i) = piB J b i
  fin : S' (J.place (blk b.length - 1)) = enB J b
  rest : ∀ p, p < N → (∀ i, i < blk b.length → p ≠ J.place i) → S' p = S p
/-- Some of its pieces stand; nothing else has changed. -/
def Mid (N : Nat) (S S' : Nat → Byt) (J : Jr) (b : Byt) : Prop := ∀ p, p < N → S' p = S p ∨ ∃ i, i < blk b.length - 1 ∧ p = J.place i ∧ S' p = piB J b i
def PSpec (J : Jr) (b : Byt) (m : Nat) (P : Nat → List Byt) : Prop := (∀ i, i < m → P (J.place i) = [piB J b i]) ∧ ∀ p, (∀ i, i < m → p ≠ J.place i) → P p = []
theorem PSpec.mid {N : Nat} {S S' : Nat → Byt} {J : Jr} {b : Byt} {m : Nat} {P : Nat → List Byt} (h : PSpec J b m P) (hm : m ≤ blk b.length - 1) (hS : ∀ p, p < N → S' p = S p ∨ S' p ∈ P p) : Mid N S S' J b := by
  intro p hp
  rcases hS p hp with h1 | h1
  · exact .inl h1
  · by_cases hi : ∃ i, i < m ∧ p = J.place i
    · obtain ⟨i, hi, rfl⟩ := hi
      rw [h.1 i hi] at h1
      exact .inr ⟨i, by omega, rfl, List.mem_singleton.1 h1⟩
    · rw [h.2 p fun i h2 h3 => hi ⟨i, h2, h3⟩] at h1
      cases h1

theorem wrP_law {A : Dev} {N : Nat} {S : Nat → Byt} {J : Jr} {b : Byt} (h : Pend A N S (fun _ => [])) (ho : A.on = true) (hl : -1 ≤ A.left) (hJ : J.Ok) (hN : J.frm + J.size ≤ N) : ∀ m, m ≤ J.size →
    ((wrP A J b m).1 = 0 ∧ (wrP A J b m).2.on = true ∧ -1 ≤ (wrP A J b m).2.left ∧ (A.left = -1 → (wrP A J b m).2.left = -1) ∧ ∃ P, Pend (wrP A J b m).2 N S P ∧ PSpec J b m P) ∨
    (A.left ≠ -1 ∧ (wrP A J b m).1 = 8 ∧ (wrP A J b m).2.on = false ∧ ∃ m' P, m' ≤ m ∧ Pend (wrP A J b m).2 N S P ∧ PSpec J b m' P)
  | 0, _ => .inl ⟨rfl, ho, hl, id, fun _ => [], h, ⟨fun i hi => absurd hi (Nat.not_lt_zero _), fun _ _ => rfl⟩⟩
  | m + 1, hm => by
    have h9 : wrP A J b (m + 1) = if (wrP A J b m).1 = 0 then (putE (wrP A J b m).2 J m 1 (pieceB J.seq m (chunkB b m)), putD (wrP A J b m).2 J m 1 (pieceB J.seq m (chunkB b m))) else wrP A J b m := rfl
    rcases wrP_law h ho hl hJ hN m (by omega) with ⟨h1, h2, h3, h4, P, hp, hs⟩ | ⟨h1, h2, h3, m', P, hm', hp, hs⟩
    · rw [h9, if_pos h1]
      have hpl := hJ.place m
      rcases hp.write h2 (p := J.place m) (by omega) (piB_len J b m) with ⟨k1, k2, k3, k4⟩ | ⟨k1, k2, k3, k4, k5⟩
      · exact .inr ⟨fun h5 => by have := h4 h5; omega, k2, k3, m, P, by omega, k4, hs⟩
      · refine .inl ⟨k2, k3, ?_, fun h5 => ?_, _, k5, fun i hi => ?_, fun p hn => ?_⟩
        · show -1 ≤ (writeD _ _ _).left
          rw [show (writeD (wrP A J b m).2 ((J.place m : Nat) : Int) (sealB 1 (pieceB J.seq m (chunkB b m)))).left = _ from k4]
          split <;> omega
        · show (writeD _ _ _).left = -1
          rw [show (writeD (wrP A J b m).2 ((J.place m : Nat) : Int) (sealB 1 (pieceB J.seq m (chunkB b m)))).left = _ from k4, if_pos (h4 h5)]
        · by_cases him : i = m
          · subst him
            dsimp only
            rw [if_pos rfl, hs.2 _ fun j hj he => by have := place_inj hJ (by omega) (by omega) he; omega]; rfl
          · dsimp only
            rw [if_neg fun he => him (place_inj hJ (by omega) (by omega) he)]
            exact hs.1 i (by omega)
        · dsimp only
          rw [if_neg (hn m (by omega))]
          exact hs.2 p fun i hi => hn i (by omega)
    · rw [h9, if_neg (by omega)]
      exact .inr ⟨h1, h2, h3, m', P, by omega, hp, hs⟩

theorem writeJ_law {A : Dev} {N : Nat} {S : Nat → Byt} {J : Jr} {b : Byt} (h : Pend A N S (fun _ => [])) (ho : A.on = true) (hl : -1 ≤ A.left) (hJ : J.Ok) (hN : J.frm + J.size ≤ N) (hf : blk b.length ≤ J.size) :
    ((writeJ A J b).1 = 0 ∧ (writeJ A J b).2.on = true ∧ -1 ≤ (writeJ A J b).2.left ∧ (A.left = -1 → (writeJ A J b).2.left = -1) ∧ ∃ S', Pend (writeJ A J b).2 N S' (fun _ => []) ∧ Full N S S' J b) ∨
    (A.left ≠ -1 ∧ (writeJ A J b).1 = 8 ∧ (writeJ A J b).2.on = false ∧ ∃ S1 P, Pend (writeJ A J b).2 N S1 P ∧ ∀ S', (∀ p, p < N → S' p = S1 p ∨ S' p ∈ P p) → Mid N S S' J b ∨ Full N S S' J b) := by
  have hb2 := blk_two b.length
  unfold writeJ
  rcases wrP_law (b := b) h ho hl hJ hN (blk b.length - 1) (by omega) with ⟨h1, h2, h3, h4, P, hp, hs⟩ | ⟨h1, h2, h3, m', P, hm', hp, hs⟩
  · rw [if_pos h1]
    generalize wrP A J b (blk b.length - 1) = X at h1 h2 h3 h4 hp
    rcases hp.flush h2 with ⟨k1, k2, k3, k4⟩ | ⟨k1, k2, k3, k4, k5⟩
    · rw [if_neg (by omega)]
      exact .inr ⟨fun h5 => by have := h4 h5; omega, k2, k3, S, P, k4, fun S' hS => .inl (hs.mid (Nat.le_refl _) hS)⟩
    · rw [if_pos k2]
      have hpl := hJ.place (blk b.length - 1)
      obtain ⟨S1, hS1⟩ : ∃ S1 : Nat → Byt, S1 = fun q => (P q).getLast?.getD (S q) := ⟨_, rfl⟩
      rw [← hS1] at k5
      have hpi : ∀ i, i < blk b.length - 1 → S1 (J.place i) = piB J b i := fun i hi => by rw [hS1]; dsimp only; rw [hs.1 i hi]; rfl
      have hre : ∀ p, (∀ i, i < blk b.length - 1 → p ≠ J.place i) → S1 p = S p := fun p hp => by rw [hS1]; dsimp only; rw [hs.2 p hp]; rfl
      have hmid1 : ∀ p, S1 p = S p ∨ ∃ i, i < blk b.length - 1 ∧ p = J.place i ∧ S1 p = piB J b i := fun p => by
        by_cases hi : ∃ i, i < blk b.length - 1 ∧ p = J.place i
        · obtain ⟨i, hi, rfl⟩ := hi; exact .inr ⟨i, hi, rfl, hpi i hi⟩
        · exact .inl (hre p fun i h2 h3 => hi ⟨i, h2, h3⟩)
      have hl1 : (flushD X.2).left = -1 ∨ 0 ≤ (flushD X.2).left := by rw [k4]; split <;> omega
      have hl2 : A.left = -1 → (flushD X.2).left = -1 := fun h5 => by rw [k4, if_pos (h4 h5)]
      generalize flushD X.2 = Y at k3 k4 k5 hl1 hl2
      rcases k5.write k3 (p := J.place (blk b.length - 1)) (by omega) (enB_len J b) with ⟨j1, j2, j3, j4⟩ | ⟨j1, j2, j3, j4, j5⟩
      · rw [if_neg (show ¬ putE Y J (blk b.length - 1) 2 (endB J.seq b) = 0 from by rw [show putE Y J (blk b.length - 1) 2 (endB J.seq b) = 8 from j2]; decide)]
        refine .inr ⟨fun h5 => by have := hl2 h5; omega, j2, j3, S1, _, j4, fun S' hS => .inl fun p hp => ?_⟩
        rcases hS p hp with h5 | h5
        · rw [h5]; exact hmid1 p
        · cases h5
      · rw [if_pos (show putE Y J (blk b.length - 1) 2 (endB J.seq b) = 0 from j2)]
        have hl3 : (putD Y J (blk b.length - 1) 2 (endB J.seq b)).left = -1 ∨ 0 ≤ (putD Y J (blk b.length - 1) 2 (endB J.seq b)).left := by
          rw [show (putD Y J (blk b.length - 1) 2 (endB J.seq b)).left = _ from j4]; split <;> omega
        have hl4 : A.left = -1 → (putD Y J (blk b.length - 1) 2 (endB J.seq b)).left = -1 := fun h5 => by
          rw [show (putD Y J (blk b.length - 1) 2 (endB J.seq b)).left = _ from j4, if_pos (hl2 h5)]
        have j3' : (putD Y J (blk b.length - 1) 2 (endB J.seq b)).on = true := j3
        have j5' : Pend (putD Y J (blk b.length - 1) 2 (endB J.seq b)) N S1 (fun q => if q = J.place (blk b.length - 1) then [] ++ [enB J b] else []) := j5
        generalize putD Y J (blk b.length - 1) 2 (endB J.seq b) = Z at hl3 hl4 j3' j5'
        have hfull : ∀ S' : Nat → Byt, (∀ p, p < N → p ≠ J.place (blk b.length - 1) → S' p = S1 p) → S' (J.place (blk b.length - 1)) = enB J b → Full N S S' J b := fun S' e1 e2 => by
          refine ⟨fun i hi => ?_, e2, fun p hp hn => ?_⟩
          · have := hJ.place i
            rw [e1 _ (by omega) fun he => by have := place_inj hJ (by omega) (by omega) he; omega]
            exact hpi i hi
          · rw [e1 p hp (hn _ (by omega))]
            exact hre p fun i hi => hn i (by omega)
        rcases j5'.flush j3' with ⟨i1, i2, i3, i4⟩ | ⟨i1, i2, i3, i4, i5⟩
        · refine .inr ⟨fun h5 => by have := hl4 h5; omega, i2, i3, S1, _, i4, fun S' hS => ?_⟩
          by_cases he : S' (J.place (blk b.length - 1)) = S1 (J.place (blk b.length - 1))
          · refine .inl fun p hp => ?_
            have h6 : S' p = S1 p := by
              by_cases hpe : p = J.place (blk b.length - 1)
              · rw [hpe]; exact he
              · rcases hS p hp with h5 | h5
                · exact h5
                · rw [if_neg hpe] at h5; cases h5
            rw [h6]; exact hmid1 p
          · refine .inr (hfull S' (fun p hp hpe => ?_) ?_)
            · rcases hS p hp with h5 | h5
              · exact h5
              · rw [if_neg hpe] at h5; cases h5
            · rcases hS _ (show J.place (blk b.length - 1) < N by omega) with h5 | h5
              · exact absurd h5 he
              · rw [if_pos rfl] at h5; exact List.mem_singleton.1 h5
        · refine .inl ⟨i2, i3, by rw [i4]; split <;> omega, fun h5 => by rw [i4, if_pos (hl4 h5)], _, i5, hfull _ (fun p hp hpe => ?_) ?_⟩
          · rw [if_neg hpe]; rfl
          · rw [if_pos rfl]; rfl
  · rw [if_neg (by omega)]
    exact .inr ⟨h1, h2, h3, S, P, hp, fun S' hS => .inl (hs.mid hm' hS)⟩

end Go.Proofs.YtkmbcpgnafmnpaaDoor

/- Plain law of journals: what is held is told when it is opened. -/
namespace Go.Proofs.YtkmbcpgnafmnpaaDoor
open Go.GV
attribute [local irreducible] Wops W Wq Wt

theorem kindOf_seal {k : UInt8} {l : Byt} (hk : k.toNat ≠ 0) (h : l.length ≤ 505) : kindOf (sealB k l) = k := by
  unfold kindOf; rw [open_seal hk h, kind_seal]; rfl
theorem bodyOf_seal {k : UInt8} {l : Byt} (hk : k.toNat ≠ 0) (h : l.length ≤ 505) : bodyOf (sealB k l) = l := by
  unfold bodyOf; rw [open_seal hk h, body_seal k h]; rfl
theorem kindOf_zeros : (kindOf zeros).toNat = 0 := by
  unfold kindOf
  cases decide (openE zeros = 0) <;> rfl

structure Lies (V : Nat → Byt) (J : Jr) (s : Byt) : Prop where
  piece : ∀ i, i < blk s.length - 1 → V (J.place i) = piB J s i
  fin : V (J.place (blk s.length - 1)) = enB J s

theorem chunk_take (s : Byt) (i : Nat) : s.take (480 * i) ++ chunkB s i = s.take (480 * (i + 1)) := by
  unfold chunkB
  rw [show 480 * (i + 1) = 480 * i + 480 by omega, List.take_add]
theorem pref_piece (q i : Nat) (c : Byt) : prefB (pieceB q i c) (pieceB q i []) = true ∧ (pieceB q i c).drop 12 = c := by
  have h12 : (putN q 8 ++ putN i 4).length = 12 := by simp [putN_len]
  unfold prefB pieceB
  rw [List.append_nil, h12, List.take_append_of_le_length (by omega), List.take_of_length_le (by omega), List.drop_append_of_le_length (by omega), List.drop_of_length_le (by omega)]
  simp [putN_len]; omega
theorem nextR_lies {A : Dev} {J : Jr} {s : Byt} (h : Lies (at' A) J s) : ∀ n i, blk s.length ≤ i + n → i ≤ blk s.length - 1 → nextR A J n i (s.take (480 * i)) = some s
  | 0, i, h1, h2 => by have := blk_two s.length; omega
  | n + 1, i, h1, h2 => by
    unfold nextR
    by_cases hi : i < blk s.length - 1
    · have hv := h.piece i hi
      have hb : bodyOf (at' A (J.place i)) = pieceB J.seq i (chunkB s i) := by rw [hv]; exact bodyOf_seal (by decide) (pi_le J s i)
      have hk : (kindOf (at' A (J.place i))).toNat = 1 := by rw [hv, show kindOf (piB J s i) = 1 from kindOf_seal (by decide) (pi_le J s i)]; rfl
      obtain ⟨p1, p2⟩ := pref_piece J.seq i (chunkB s i)
      rw [if_pos (by unfold pieceOk; rw [hb, p1, decide_eq_true hk]; rfl), hb, p2, chunk_take]
      exact nextR_lies h n (i + 1) (by omega) (by omega)
    · have hie : i = blk s.length - 1 := by omega
      subst hie
      have hv := h.fin
      have hb : bodyOf (at' A (J.place (blk s.length - 1))) = endB J.seq s := by rw [hv]; exact bodyOf_seal (by decide) (en_le J s)
      have hk : (kindOf (at' A (J.place (blk s.length - 1)))).toNat = 2 := by rw [hv, show kindOf (enB J s) = 2 from kindOf_seal (by decide) (en_le J s)]; rfl
      have hs : s.take (480 * (blk s.length - 1)) = s := List.take_of_length_le (by unfold blk; omega)
      rw [hs, if_neg (by unfold pieceOk; rw [hk]; simp), if_pos]
      unfold endOk
      have := blk_two s.length
      rw [hb, decide_eq_true hk, decide_eq_true (show 0 < blk s.length - 1 by omega)]
      simp
theorem nextS_lies {A : Dev} {J : Jr} {s : Byt} (h : Lies (at' A) J s) (hf : J.taken + blk s.length ≤ J.size) : nextS A J = some s := by
  unfold nextS
  have := nextR_lies h (J.size - J.taken) 0 (by omega) (by have := blk_two s.length; omega)
  simpa using this
/-- Every end that stands is of an earlier string. -/
def Qs (V : Nat → Byt) (frm size q : Nat) : Prop := ∀ p, frm ≤ p → p < frm + size → (kindOf (V p)).toNat = 2 → numN ((bodyOf (V p)).take 8) < q
theorem endB_num {q : Nat} (s : Byt) (hq : q < 18446744073709551616) : numN ((endB q s).take 8) = q := by
  unfold endB
  rw [List.append_assoc, List.take_append_of_le_length (by rw [putN_len]; exact Nat.le_refl _), List.take_of_length_le (by rw [putN_len]; exact Nat.le_refl _), numN_putN, Nat.mod_eq_of_lt (by omega)]
theorem place_in {J : Jr} (h : J.Ok) (i : Nat) : J.frm ≤ J.place i ∧ J.place i < J.frm + J.size := ⟨Nat.le_add_right .., h.place i⟩
theorem nextS_none {A : Dev} {J : Jr} (hJ : J.Ok) (h : Qs (at' A) J.frm J.size J.seq) : nextS A J = none := by
  cases hs : nextS A J with
  | none => rfl
  | some s =>
    obtain ⟨j, -, -, -, he⟩ := nextR_fit _ _ _ hs
    simp only [endOk, Bool.and_eq_true, decide_eq_true_eq] at he
    have hq := hJ.q
    have h1 := h _ (place_in hJ j).1 (place_in hJ j).2 he.1
    rw [he.2.2.2, endB_num s (by omega)] at h1
    omega

def Rj.pl (frm : Nat) (R : Rj) (k : Nat) : Nat := frm + (R.first + k) % R.size
theorem Rj.pl_inj {frm : Nat} {R : Rj} (h : R.Ok) {k l : Nat} (hk : k < R.size) (hl : l < R.size) (he : R.pl frm k = R.pl frm l) : k = l := by
  unfold Rj.pl at he
  rw [mod_add h.a hk, mod_add h.a hl] at he
  have := h.a
  split at he <;> split at he <;> omega
/-- The journal behind some strings. -/
def jrK (frm : Nat) (R : Rj) (L : List Byt) : Jr := ⟨frm, R.size, (R.first + takenL L) % R.size, R.seq + L.length, takenL L, false⟩
theorem jrK_place (frm : Nat) (R : Rj) (L : List Byt) (i : Nat) : (jrK frm R L).place i = R.pl frm (takenL L + i) := by
  unfold Jr.place jrK Rj.pl
  dsimp only
  rw [Nat.mod_add_mod, Nat.add_assoc]
theorem jrK_passes (frm : Nat) (R : Rj) (L : List Byt) (s : Byt) : (jrK frm R L).passes s.length = jrK frm R (L ++ [s]) := by
  unfold Jr.passes jrK
  rw [takenL_snoc, List.length_append]
  dsimp only
  rw [Nat.mod_add_mod]
  simp [Nat.add_assoc]
theorem jrK_ok {frm : Nat} {R : Rj} (h : R.Ok) (hf : frm + R.size ≤ 4096) {L : List Byt} (hL : takenL L ≤ R.size) : (jrK frm R L).Ok := by
  have h1 := h.s1; have h2 := h.s2; have h3 := h.q; have h4 := takenL_two L
  exact ⟨h1, hf, Nat.mod_lt _ (by omega), hL, by show R.seq + L.length ≤ _; omega⟩

/-- A journal holds its strings. -/
structure Held (V : Nat → Byt) (frm : Nat) (R : Rj) : Prop where
  lies : ∀ k s, R.L[k]? = some s → Lies V (jrK frm R (R.L.take k)) s
  old : Qs V frm R.size (R.seq + R.L.length)
theorem takenL_at {L : List Byt} {k : Nat} {s : Byt} (h : L[k]? = some s) : takenL (L.take k) + blk s.length ≤ takenL L := by
  have h1 := takenL_take L (k + 1)
  rw [take_snoc h, takenL_snoc] at h1
  exact h1
theorem open_from {A : Dev} {frm : Nat} {R : Rj} (hR : R.Ok) (hf : frm + R.size ≤ 4096) (h : Held (at' A) frm R) : ∀ n k, k ≤ R.L.length → R.L.length < k + n → openF A n (jrK frm R (R.L.take k)) = (R.L.drop k, jrK frm R R.L)
  | 0, k, h1, h2 => by omega
  | n + 1, k, h1, h2 => by
    by_cases hk : k < R.L.length
    · obtain ⟨s, hs⟩ := get_some (l := R.L) (i := k) hk
      have ht := takenL_at hs
      have hRt := hR.t
      have hn : nextS A (jrK frm R (R.L.take k)) = some s := nextS_lies (h.lies k s hs) (by show takenL (R.L.take k) + blk s.length ≤ R.size; omega)
      rw [openF_some n hn, jrK_passes, ← take_snoc hs, open_from hR hf h n (k + 1) (by omega) (by omega)]
      have hd : R.L.drop k = s :: R.L.drop (k + 1) := by
        rw [List.drop_eq_getElem_cons hk]
        rw [List.getElem?_eq_getElem hk] at hs
        rw [Option.some.inj hs]
      rw [hd]
    · have hke : k = R.L.length := by omega
      subst hke
      rw [List.take_length, List.drop_length]
      exact openF_none n (nextS_none (jrK_ok hR hf hR.t) h.old)
theorem open_held {A : Dev} {frm : Nat} {R : Rj} (hR : R.Ok) (hf : frm + R.size ≤ 4096) (h : Held (at' A) frm R) : openJ A (jr0 frm R.size R.first R.seq) = (R.L, jrK frm R R.L) := by
  have h0 : jr0 frm R.size R.first R.seq = jrK frm R (R.L.take 0) := by
    unfold jr0 jrK
    rw [List.take_zero]
    simp only [takenL, List.map_nil, List.sum_nil, Nat.add_zero, List.length_nil, Int.toNat_natCast, Nat.mod_eq_of_lt hR.a]
  have h4 := takenL_two R.L
  have h5 := hR.t
  unfold openJ
  rw [h0, open_from hR hf h _ 0 (Nat.zero_le _) (by show R.L.length < 0 + (R.size + 1); omega), List.drop_zero]

theorem Held.congr {V V' : Nat → Byt} {frm : Nat} {R : Rj} (h : Held V frm R) (hR : R.Ok) (he : ∀ p, frm ≤ p → p < frm + R.size → V' p = V p) : Held V' frm R := by
  have hin : ∀ L i, V' ((jrK frm R L).place i) = V ((jrK frm R L).place i) := fun L i => by
    have := Nat.mod_lt (R.first + (takenL L + i)) (show 0 < R.size by have := hR.s1; omega)
    rw [jrK_place]
    exact he _ (Nat.le_add_right ..) (by unfold Rj.pl; omega)
  exact ⟨fun k s hs => ⟨fun i hi => by rw [hin]; exact (h.lies k s hs).piece i hi, by rw [hin]; exact (h.lies k s hs).fin⟩, fun p h1 h2 h3 => by rw [he p h1 h2] at h3 ⊢; exact h.old p h1 h2 h3⟩
theorem Held.zeros {frm : Nat} {R : Rj} (hL : R.L = []) : Held (fun _ => zeros) frm R :=
  ⟨fun k s hs => (by rw [hL] at hs; cases hs), fun p _ _ h => (by rw [kindOf_zeros] at h; cases h)⟩
theorem Held.old_at {V V' : Nat → Byt} {N frm : Nat} {R : Rj} {b : Byt} (h : Held V frm R) (hR : R.Ok) (hN : frm + R.size ≤ N) (hf : takenL R.L + blk b.length ≤ R.size)
    (he : ∀ p, p < N → (∀ i, i < blk b.length → p ≠ (jrK frm R R.L).place i) → V' p = V p) : ∀ k s, R.L[k]? = some s → Lies V' (jrK frm R (R.L.take k)) s := by
  intro k s hs
  have ht := takenL_at hs
  have hkey : ∀ i, i < blk s.length → V' ((jrK frm R (R.L.take k)).place i) = V ((jrK frm R (R.L.take k)).place i) := fun i hi => by
    refine he _ ?_ fun j hj hp => ?_
    · have := Nat.mod_lt (R.first + (takenL (R.L.take k) + i)) (show 0 < R.size by have := hR.s1; omega)
      rw [jrK_place]; unfold Rj.pl; omega
    · rw [jrK_place, jrK_place] at hp
      have := R.pl_inj hR (by omega) (by omega) hp
      omega
  have hb2 := blk_two s.length
  exact ⟨fun i hi => by rw [hkey i (by omega)]; exact (h.lies k s hs).piece i hi, by rw [hkey _ (by omega)]; exact (h.lies k s hs).fin⟩
theorem kind_pi (J : Jr) (b : Byt) (i : Nat) : (kindOf (piB J b i)).toNat = 1 := by rw [show kindOf (piB J b i) = 1 from kindOf_seal (by decide) (pi_le J b i)]; rfl
theorem Held.mid {V V' : Nat → Byt} {N frm : Nat} {R : Rj} {b : Byt} (h : Held V frm R) (hR : R.Ok) (hN : frm + R.size ≤ N) (hf : takenL R.L + blk b.length ≤ R.size) (hm : Mid N V V' (jrK frm R R.L) b) : Held V' frm R := by
  refine ⟨h.old_at hR hN hf fun p hp hn => ?_, fun p h1 h2 h3 => ?_⟩
  · rcases hm p hp with h5 | ⟨i, hi, he, _⟩
    · exact h5
    · exact absurd he (hn i (by omega))
  · rcases hm p (by omega) with h5 | ⟨i, hi, he, h5⟩
    · rw [h5] at h3 ⊢; exact h.old p h1 h2 h3
    · rw [h5, kind_pi] at h3; cases h3
theorem Held.full {V V' : Nat → Byt} {N frm : Nat} {R : Rj} {b : Byt} (h : Held V frm R) (hR : R.Ok) (hN : frm + R.size ≤ N) (hf : takenL R.L + blk b.length ≤ R.size) (hm : Full N V V' (jrK frm R R.L) b) : Held V' frm { R with L := R.L ++ [b] } := by
  have hb2 := blk_two b.length
  have hold := h.old_at hR hN hf hm.rest
  refine ⟨fun k s hs => ?_, fun p h1 h2 h3 => ?_⟩
  · by_cases hk : k < R.L.length
    · have hs' : R.L[k]? = some s := by rw [← List.getElem?_append_left hk (l₂ := [b])]; exact hs
      have h9 := hold k s hs'
      show Lies V' (jrK frm { R with L := R.L ++ [b] } ((R.L ++ [b]).take k)) s
      rw [List.take_append_of_le_length (by omega)]
      exact h9
    · have hke : k = R.L.length := by
        have := (List.getElem?_eq_some_iff.1 hs).1
        simp only [List.length_append, List.length_singleton] at this
        omega
      subst hke
      have hsb : s = b := by
        have h9 : (R.L ++ [b])[R.L.length]? = some s := hs
        rw [List.getElem?_append_right (Nat.le_refl _), Nat.sub_self] at h9
        exact (Option.some.inj h9).symm
      subst hsb
      show Lies V' (jrK frm { R with L := R.L ++ [s] } ((R.L ++ [s]).take R.L.length)) s
      rw [List.take_append_of_le_length (Nat.le_refl _), List.take_length]
      exact ⟨hm.piece, hm.fin⟩
  · show _ < R.seq + (R.L ++ [b]).length
    have h2' : p < frm + R.size := h2
    rw [List.length_append, List.length_singleton]
    by_cases hi : ∃ i, i < blk b.length ∧ p = (jrK frm R R.L).place i
    · obtain ⟨i, hi, rfl⟩ := hi
      by_cases hil : i < blk b.length - 1
      · rw [hm.piece i hil, kind_pi] at h3; cases h3
      · have hie : i = blk b.length - 1 := by omega
        subst hie
        have hq := hR.q; have h4 := takenL_two R.L; have h5 := hR.s2
        rw [hm.fin, show bodyOf (enB (jrK frm R R.L) b) = endB (R.seq + R.L.length) b from bodyOf_seal (by decide) (en_le _ b), endB_num b (by have := hR.t; omega)]
        omega
    · have h5 := hm.rest p (by omega) fun i h6 h7 => hi ⟨i, h6, h7⟩
      rw [h5] at h3 ⊢
      have := h.old p h1 h2' h3
      omega
theorem Held.forget {V : Nat → Byt} {frm : Nat} {R : Rj} (h : Held V frm R) : Held V frm R.forget :=
  ⟨fun k s hs => (by cases hs), h.old⟩
theorem jrK_forget {frm : Nat} {R : Rj} (hR : R.Ok) : jrK frm R.forget [] = { jrK frm R R.L with taken := 0 } := by
  have h1 := Nat.mod_lt (R.first + takenL R.L) (show 0 < R.size by have := hR.s1; omega)
  unfold jrK Rj.forget Rj.at'
  simp only [takenL, List.map_nil, List.sum_nil, Nat.add_zero, List.length_nil, Jr.mk.injEq, and_true, true_and]
  exact Nat.mod_eq_of_lt h1
theorem forget_ok {R : Rj} (h : R.Ok) (hq : R.seq + R.L.length ≤ 8000000000000000000) : R.forget.Ok :=
  ⟨h.s1, h.s2, Nat.mod_lt _ (by have := h.s1; omega), hq, Nat.zero_le _⟩

end Go.Proofs.YtkmbcpgnafmnpaaDoor

/- A journal of one's own, and the document's beside it. -/
namespace Go.Proofs.YtkmbcpgnafmnpaaDoor
open Go.GV
attribute [local irreducible] Wops W Wq Wt

def Fj (F : Nat → Prop) (bj : Nat) : Nat → Prop := fun x => F x ∨ x = bj
structure Jone (w0 w : World) (bd bj : Nat) (A : Dev) (J : Jr) (F : Nat → Prop) : Prop where
  own : Own w0 w bd A F
  jr : w.heap[bj]? = some (Bl TJ (JB bd J))
  nF : ¬ F bj
  ge : w0.heap.size ≤ bj
section
variable {w0 w w' : World} {bd bj bj' br : Nat} {A A' : Dev} {J J' : Jr} {R R' : Rj} {F F' G : Nat → Prop} {N frm : Nat}
theorem Jone.at (O : Jone w0 w bd bj A J F) (x : Nat) (h : Fj F bj x) : w0.heap.size ≤ x ∧ x < w.heap.size := by
  rcases h with h | rfl
  · exact O.own.own x h
  · exact ⟨O.ge, heap_lt O.jr⟩
theorem Grown.call {F : Nat → Prop} {w w' : World} (hx : Ext [] w w') : Grown F F w w' := ⟨.of0 hx, fun _ h => .inl h⟩
theorem Jone.call (O : Jone w0 w bd bj A J F) (hx : Ext [] w w') : Jone w0 w' bd bj A J F :=
  ⟨O.own.call hx, by rw [hx.block bj (heap_lt O.jr) (by simp)]; exact O.jr, O.nF, O.ge⟩
theorem Jone.dev (O : Jone w0 w bd bj A J F) (h : Own w0 w' bd A' F' ∧ Grown F F' w w') : Jone w0 w' bd bj A' J F' ∧ Grown (Fj F bj) (Fj F' bj) w w' := by
  obtain ⟨h, ⟨S, hS, hx⟩, hg⟩ := h
  have hlt := heap_lt O.jr
  refine ⟨⟨h, ?_, fun hb => (hg bj hb).elim O.nF fun h5 => by omega, O.ge⟩, ⟨S, fun x h => .inl (hS x h), hx⟩, fun x h => ?_⟩
  · rw [hx.block bj hlt fun hm => O.nF (hS _ hm)]; exact O.jr
  · rcases h with h | h
    · exact (hg x h).imp .inl id
    · exact .inl (.inr h)
theorem Jone.back (O : Jone w0 w bd bj A J F) (D : Dv w w' bd A' (Fj F bj) F' [(bj, Bl TJ (JB bd J'))]) : Jone w0 w' bd bj A' J' F' ∧ Grown (Fj F bj) (Fj F' bj) w w' := by
  have hnew := D.turn.new O.own.ext fun x h => (O.at x h).1
  have hoff := D.off _ (List.mem_cons_self ..)
  have hsz := O.own.ext.size
  refine ⟨⟨⟨hnew, D.dev, fun x hx => ⟨?_, D.lt x hx⟩⟩, D.blk _ (List.mem_cons_self ..), hoff, O.ge⟩, D.turn, fun x hx => ?_⟩
  · rcases D.own x hx with h | h
    · exact (O.at x h).1
    · omega
  · rcases hx with hx | hx
    · exact (D.own x hx).imp id And.left
    · exact .inl (.inr hx)
theorem jone_append (O : Jone w0 w bd bj A J F) (hJ : J.Ok) (a : Option Addr) (c n : Nat) (b : Byt) (R : Rd w a 1 B8 b) (hn : b.length = n) (hm : n ≤ 900000) (hc : n ≤ c) (hFa : b = [] ∨ ¬ Fj F bj (adr a).block) {mx : Nat} (hfew : Few A mx) (hmx : mx ≤ 1000000000) :
    Ret Tryd.prog 32 #[ptr bj, .slice a n c] w fun v w' => v = .int .i64 (appE A J b) ∧ ∃ F', Jone w0 w' bd bj (appD A J b) (appJ A J b) F' ∧ Grown (Fj F bj) (Fj F' bj) w w' :=
  (append_ok O.jr hJ a c n b R hn hm hc (fun x h => (O.own.own x h).2) O.nF (hFa.imp id fun h k => h (.inl k)) hfew hmx O.own.dev).mono fun _ _ ⟨hv, F', D⟩ => ⟨hv, F', O.back D⟩
theorem jone_forget (O : Jone w0 w bd bj A J F) (hd : J.dead = false) :
    Ret Tryd.prog 33 #[ptr bj] w fun v w' => v = .int .i64 0 ∧ Jone w0 w' bd bj A { J with taken := 0 } F ∧ Grown (Fj F bj) (Fj F bj) w w' :=
  (jforget_ok O.jr).mono fun v w' ⟨hv, hj, hx⟩ => by
    rw [hd] at hv
    rw [hd, if_neg (by simp), ← hd] at hj
    have hs := hx.size
    refine ⟨hv, ⟨⟨O.own.ext.then hx fun x h => .inr (by rw [List.mem_singleton.1 h]; exact O.ge), O.own.dev.keep hx fun x h => by rw [List.mem_singleton.1 h]; exact O.nF, fun x h => ⟨(O.own.own x h).1, by have := (O.own.own x h).2; omega⟩⟩, hj, O.nF, O.ge⟩, .of hx fun x h => .inr (List.mem_singleton.1 h), fun x h => .inl h⟩
theorem jone_open (O : Own w0 w bd A F) (f z p q : Nat) (hr : rightJ A.B.length f z p q = true) (ho : A.on = true) {mx : Nat} (hfew : Few A mx) (hmx : mx ≤ 1000000000) :
    Ret Tryd.prog 29 #[ptr bd, .int .i64 (f : Int), .int .i64 (z : Int), .int .i64 (p : Int), .int .u64 (q : Int)] w fun v w' => ∃ bj a n c, v = .tuple #[ptr bj, .slice a n c, .int .i64 0] ∧ Ext [] w w' ∧ w.heap.size ≤ bj ∧ Jone w0 w' bd bj A (openJ A (jr0 f z p q)).2 F ∧ Strs w' a n c (openJ A (jr0 f z p q)).1 := by
  have hhi := O.dev.wf.hi
  have hr2 := hr
  simp only [rightJ, Bool.and_eq_true, decide_eq_true_eq] at hr2
  refine (jopen_ok (f : Int) (z : Int) (p : Int) q (by omega) (by omega) hhi ho hfew hmx O.dev).mono fun v w' ⟨hx, h⟩ => ?_
  rcases h with ⟨h1, _⟩ | ⟨_, bj, a, n, c, hv, hb, hj, hs⟩
  · rw [hr] at h1; cases h1
  · have hsz := O.ext.size
    exact ⟨bj, a, n, c, hv, hx, hb, ⟨O.call hx, hj, fun h5 => by have := (O.own bj h5).2; omega, by omega⟩, hs⟩

structure Jtwo (w0 w : World) (bd bj br : Nat) (A : Dev) (J : Jr) (R : Rj) (F G : Nat → Prop) : Prop where
  one : Jone w0 w bd bj A J F
  ref : RjAt w br R G
  g : ∀ x, G x → w0.heap.size ≤ x ∧ x < w.heap.size
  fg : ∀ x, Fj F bj x → ¬ G x
theorem Jtwo.go (T : Jtwo w0 w bd bj br A J R F G) (h : Jone w0 w' bd bj' A' J' F' ∧ Grown (Fj F bj) (Fj F' bj') w w') : Jtwo w0 w' bd bj' br A' J' R F' G ∧ Still (Fj F bj) G (Fj F' bj') G w w' := by
  obtain ⟨h, ⟨S, hS, hx⟩, hg⟩ := h
  have hsz := hx.size
  refine ⟨⟨h, T.ref.keep hx fun x hm hgx => T.fg x (hS x hm) hgx, fun x hgx => ⟨(T.g x hgx).1, by have := (T.g x hgx).2; omega⟩, fun x hf hgx => ?_⟩, fun b hb h1 h2 => hx.block b hb fun hm => h1 (hS b hm), fun b hb h1 h2 => ⟨fun h5 => (hg b h5).elim h1 fun h6 => by omega, h2⟩, hsz⟩
  rcases hg x hf with h5 | h5
  · exact T.fg x h5 hgx
  · have := (T.g x hgx).2; omega
theorem Jtwo.rgo (T : Jtwo w0 w bd bj br A J R F G) (h : RjAt w' br R' (grow G w w')) (t : Turn G w w') : Jtwo w0 w' bd bj br A J R' F (grow G w w') ∧ Still (Fj F bj) G (Fj F bj) (grow G w w') w w' := by
  have hsz := t.size
  have hsz0 := T.one.own.ext.size
  have hnew := t.new T.one.own.ext fun x h => (T.g x h).1
  obtain ⟨S, hS, hx⟩ := t
  have hd : DevAt w' bd A F := T.one.own.dev.keep hx fun x hm hf => T.fg x (.inl hf) (hS x hm)
  refine ⟨⟨⟨⟨hnew, hd, fun x hf => ⟨(T.one.own.own x hf).1, by have := (T.one.own.own x hf).2; omega⟩⟩, ?_, T.one.nF, T.one.ge⟩, h, fun x hgx => ?_, fun x hf hgx => ?_⟩, fun b hb h1 h2 => hx.block b hb fun hm => h2 (hS b hm), fun b hb h1 h2 => ⟨h1, fun h5 => h5.elim h2 fun h6 => by omega⟩, hsz⟩
  · rw [hx.block bj (heap_lt T.one.jr) fun hm => T.fg bj (.inr rfl) (hS bj hm)]; exact T.one.jr
  · rcases hgx with h5 | h5
    · have := T.g x h5; omega
    · omega
  · rcases hgx with h5 | h5
    · exact T.fg x hf h5
    · have := (T.one.at x hf).2; omega
theorem Jtwo.call (T : Jtwo w0 w bd bj br A J R F G) (hx : Ext [] w w') : Jtwo w0 w' bd bj br A J R F G := (T.go ⟨T.one.call hx, .call hx⟩).1

/-! ### What a journal on a calm device does -/
structure Good (N frm : Nat) (A : Dev) (R : Rj) : Prop where
  ok : R.Ok
  fit : frm + R.size ≤ N
  lim : N ≤ 4096
  on : A.on = true
  left : -1 ≤ A.left
  held : ∃ S, Pend A N S (fun _ => []) ∧ Held S frm R
theorem Pend.few {S : Nat → Byt} (h : Pend A N S (fun _ => [])) : Few A 0 := fun p hp => by
  obtain ⟨i, hi⟩ := List.mem_iff_getElem?.1 hp
  have hlt := (List.getElem?_eq_some_iff.1 hi).1
  rw [h.get i (by rw [← h.len]; exact hlt)] at hi
  rw [← Option.some.inj hi]; exact Nat.le_refl _
theorem Good.few (h : Good N frm A R) : Few A 0 := let ⟨_, hp, _⟩ := h.held; hp.few
theorem Good.len (h : Good N frm A R) : A.B.length = N := let ⟨_, hp, _⟩ := h.held; hp.len
theorem Good.jok (h : Good N frm A R) : (jrK frm R R.L).Ok := jrK_ok h.ok (Nat.le_trans h.fit h.lim) h.ok.t
theorem Good.open (h : Good N frm A R) : openJ A (jr0 frm R.size R.first R.seq) = (R.L, jrK frm R R.L) := by
  obtain ⟨S, hp, hh⟩ := h.held
  have hf := h.fit
  exact open_held h.ok (Nat.le_trans h.fit h.lim) (hh.congr h.ok fun p h1 h2 => hp.at' (by omega))
theorem Good.right (h : Good N frm A R) (hq : 1 ≤ R.seq) (hq2 : R.seq ≤ 4611686018427387904) : rightJ A.B.length frm R.size R.first R.seq = true := by
  have h1 := h.fit; have h2 := h.ok.s1; have h3 := h.ok.a; have h4 := h.len
  simp only [rightJ, Bool.and_eq_true, decide_eq_true_eq]
  omega
theorem Good.new {n frm : Nat} {R : Rj} (hR : R.Ok) (hL : R.L = []) (hf : frm + R.size ≤ n) (hn : n ≤ 4096) : Good n frm (newD n) R :=
  ⟨hR, hf, hn, rfl, by show (-1 : Int) ≤ -1; omega, _, Pend.new n, Held.zeros hL⟩
theorem Good.forget (h : Good N frm A R) (hq : R.seq + R.L.length ≤ 8000000000000000000) : Good N frm A R.forget :=
  let ⟨S, hp, hh⟩ := h.held; ⟨forget_ok h.ok hq, h.fit, h.lim, h.on, h.left, S, hp, hh.forget⟩
theorem Good.arm (h : Good N frm A R) (n : Int) : Good N frm (armD A n) R ∧ armE A = 0 := by
  obtain ⟨S, hp, hh⟩ := h.held
  unfold armD armE
  rw [h.on]
  exact ⟨⟨h.ok, h.fit, h.lim, rfl, by show -1 ≤ max n (-1); omega, S, ⟨hp.len, hp.get⟩, hh⟩, rfl⟩
/-- Behind the power's return. -/
theorem Good.again {S : Nat → Byt} {P : Nat → List Byt} (hR : R.Ok) (hf : frm + R.size ≤ N) (hn : N ≤ 4096) (ho : A.on = false) (hp : Pend A N S P) (hH : ∀ S', (∀ p, p < N → S' p = S p ∨ S' p ∈ P p) → Held S' frm R) (picks : List Int) : Good N frm (onD A picks) R := by
  obtain ⟨h1, h2, S', h3, h4⟩ := hp.on ho picks
  exact ⟨hR, hf, hn, h1, by omega, S', h3, hH S' h4⟩
theorem Good.off (h : Good N frm A R) (picks : List Int) : Good N frm (onD (offD A) picks) R := by
  obtain ⟨S, hp, hh⟩ := h.held
  have hfit := h.fit
  refine Good.again (A := offD A) (S := S) (P := fun _ => []) h.ok h.fit h.lim rfl ⟨hp.len, hp.get⟩ (fun S' hS => hh.congr h.ok fun p h1 h2 => ?_) picks
  rcases hS p (by omega) with h5 | h5
  · exact h5
  · cases h5
theorem Good.append (h : Good N frm A R) (b : Byt) :
    (appE A (jrK frm R R.L) b = appRE R b ∧ Good N frm (appD A (jrK frm R R.L) b) (appR R b) ∧ appJ A (jrK frm R R.L) b = jrK frm (appR R b) (appR R b).L ∧ (A.left = -1 → (appD A (jrK frm R R.L) b).left = -1)) ∨
    (A.left ≠ -1 ∧ appE A (jrK frm R R.L) b = 8 ∧ appRE R b = 0 ∧ (appD A (jrK frm R R.L) b).on = false ∧ appJ A (jrK frm R R.L) b = { jrK frm R R.L with dead := true } ∧ ∀ picks, Good N frm (onD (appD A (jrK frm R R.L) b) picks) R ∨ Good N frm (onD (appD A (jrK frm R R.L) b) picks) (appR R b)) := by
  obtain ⟨S, hp, hh⟩ := h.held
  have hR := h.ok; have hRt := hR.t; have hf := h.fit
  have hok := appR_ok hR b
  have hdd : ¬ (jrK frm R R.L).dead = true := by simp [jrK]
  have hE : appE A (jrK frm R R.L) b = if R.size - takenL R.L < blk b.length then 7 else (writeJ A (jrK frm R R.L) b).1 := by unfold appE; rw [if_neg hdd]; rfl
  have hD : appD A (jrK frm R R.L) b = if R.size - takenL R.L < blk b.length then A else (writeJ A (jrK frm R R.L) b).2 := by unfold appD; rw [if_neg hdd]; rfl
  have hJ : appJ A (jrK frm R R.L) b = if R.size - takenL R.L < blk b.length then jrK frm R R.L else if (writeJ A (jrK frm R R.L) b).1 = 0 then (jrK frm R R.L).passes b.length else { jrK frm R R.L with dead := true } := by unfold appJ; rw [if_neg hdd]; rfl
  rw [hE, hD, hJ]
  by_cases hfull : R.size - takenL R.L < blk b.length
  · rw [if_pos hfull, if_pos hfull, if_pos hfull]
    unfold appRE appR
    rw [if_pos hfull, if_pos hfull]
    exact .inl ⟨rfl, h, rfl, id⟩
  · rw [if_neg hfull, if_neg hfull, if_neg hfull]
    have hfit : takenL R.L + blk b.length ≤ R.size := by omega
    have hRE : appRE R b = 0 := by unfold appRE; rw [if_neg hfull]
    have hRR : appR R b = { R with L := R.L ++ [b] } := by unfold appR; rw [if_neg hfull]
    rcases writeJ_law (b := b) hp h.on h.left h.jok hf (by show blk b.length ≤ R.size; omega) with ⟨h1, h2, h3, h4, S', h5, h6⟩ | ⟨h1, h2, h3, S1, P, h5, h6⟩
    · rw [if_pos h1, h1, hRE]
      refine .inl ⟨rfl, ⟨hok, by rw [hRR]; exact hf, h.lim, h2, h3, S', h5, by rw [hRR]; exact hh.full hR hf hfit h6⟩, ?_, h4⟩
      rw [hRR]
      exact jrK_passes frm R R.L b
    · rw [if_neg (by omega), hRE]
      refine .inr ⟨h1, h2, rfl, h3, rfl, fun picks => ?_⟩
      obtain ⟨k1, k2, S', k3, k4⟩ := h5.on h3 picks
      rcases h6 S' k4 with h7 | h7
      · exact .inl ⟨hR, hf, h.lim, k1, by omega, S', k3, hh.mid hR hf hfit h7⟩
      · exact .inr ⟨hok, by rw [hRR]; exact hf, h.lim, k1, by omega, S', k3, by rw [hRR]; exact hh.full hR hf hfit h7⟩

end
end Go.Proofs.YtkmbcpgnafmnpaaDoor

/- The chapter's examples. -/
namespace Go.Proofs.YtkmbcpgnafmnpaaDoor
open Go.GV
theorem ca_12_JoK : callable Tryd.prog 12 = true := by kernel_rfl
theorem ca_29_JoK : callable Tryd.prog 29 = true := by kernel_rfl
theorem ca_31_JoK : callable Tryd.prog 31 = true := by kernel_rfl
theorem ca_32_JoK : callable Tryd.prog 32 = true := by kernel_rfl
theorem ca_33_JoK : callable Tryd.prog 33 = true := by kernel_rfl
theorem ca_34_JoK : callable Tryd.prog 34 = true := by kernel_rfl
theorem ca_35_JoK : callable Tryd.prog 35 = true := by kernel_rfl
theorem ca_39_JoK : callable Tryd.prog 39 = true := by kernel_rfl
theorem un_57_JoK : Tryd.prog.underlying 57 = some (.pointer 108) := by kernel_rfl
attribute [local irreducible] Wops W Wq Wt

section
variable {w0 w w' : World} {bd bj : Nat} {A : Dev} {J : Jr} {R : Rj} {F : Nat → Prop} {N frm : Nat}
def Rj.more (R : Rj) (b : Byt) : Rj := { R with L := R.L ++ [b] }
theorem jone_app0 (O : Jone w0 w bd bj A (jrK frm R R.L) F) (g : Good N frm A R) (l : A.left = -1) (b : Byt) (hfit : takenL R.L + blk b.length ≤ R.size) (a : Option Addr) (c n : Nat) (Rb : Rd w a 1 B8 b) (hn : b.length = n) (hm : n ≤ 900000) (hc : n ≤ c) (hFa : b = [] ∨ ¬ Fj F bj (adr a).block) :
    Ret Tryd.prog 32 #[ptr bj, .slice a n c] w fun v w' => v = .int .i64 0 ∧ ∃ A' F', Jone w0 w' bd bj A' (jrK frm (R.more b) (R.more b).L) F' ∧ Good N frm A' (R.more b) ∧ A'.left = -1 ∧ Grown (Fj F bj) (Fj F' bj) w w' :=
  (jone_append O g.jok a c n b Rb hn hm hc hFa g.few (by decide)).mono fun v w' ⟨hv, F', O', G⟩ => by
    have hff : ¬ R.size - takenL R.L < blk b.length := by have := blk_two b.length; omega
    have hE : appRE R b = 0 := by rw [appRE, if_neg hff]
    have hR : appR R b = R.more b := by rw [appR, if_neg hff]; rfl
    rcases g.append b with ⟨h1, h2, h3, h4⟩ | ⟨h1, _⟩
    · rw [h1, hE] at hv
      rw [hR] at h2 h3
      rw [h3] at O'
      exact ⟨hv, _, F', O', h2, h4 l, G⟩
    · exact absurd l h1
theorem jone_app7 (O : Jone w0 w bd bj A (jrK frm R R.L) F) (g : Good N frm A R) (l : A.left = -1) (b : Byt) (hfull : R.size < takenL R.L + blk b.length) (a : Option Addr) (c n : Nat) (Rb : Rd w a 1 B8 b) (hn : b.length = n) (hm : n ≤ 900000) (hc : n ≤ c) (hFa : b = [] ∨ ¬ Fj F bj (adr a).block) :
    Ret Tryd.prog 32 #[ptr bj, .slice a n c] w fun v w' => v = .int .i64 7 ∧ ∃ A' F', Jone w0 w' bd bj A' (jrK frm R R.L) F' ∧ Good N frm A' R ∧ A'.left = -1 ∧ Grown (Fj F bj) (Fj F' bj) w w' :=
  (jone_append O g.jok a c n b Rb hn hm hc hFa g.few (by decide)).mono fun v w' ⟨hv, F', O', G⟩ => by
    have hff : R.size - takenL R.L < blk b.length := by have := g.ok.t; omega
    have hE : appRE R b = 7 := by rw [appRE, if_pos hff]
    have hR : appR R b = R := by rw [appR, if_pos hff]
    rcases g.append b with ⟨h1, h2, h3, h4⟩ | ⟨h1, _⟩
    · rw [h1, hE] at hv
      rw [hR] at h2 h3
      rw [h3] at O'
      exact ⟨hv, _, F', O', h2, h4 l, G⟩
    · exact absurd l h1
theorem jone_reopen (O : Own w0 w bd A F) (g : Good N frm A R) (h1 : 1 ≤ R.seq) (h2 : R.seq ≤ 4611686018427387904) :
    Ret Tryd.prog 29 #[ptr bd, .int .i64 (frm : Int), .int .i64 (R.size : Int), .int .i64 (R.first : Int), .int .u64 (R.seq : Int)] w fun v w' => ∃ bj a n c, v = .tuple #[ptr bj, .slice a n c, .int .i64 0] ∧ Ext [] w w' ∧ w.heap.size ≤ bj ∧ Jone w0 w' bd bj A (jrK frm R R.L) F ∧ Strs w' a n c R.L := by
  have h := jone_open O frm R.size R.first R.seq (g.right h1 h2) g.on g.few (by decide)
  rw [g.open] at h
  exact h
theorem jone_free (O : Jone w0 w bd bj A (jrK frm R R.L) F) (g : Good N frm A R) :
    Ret Tryd.prog 34 #[ptr bj] w fun v w' => v = .int .i64 ((R.size - takenL R.L : Nat) : Int) ∧ Ext [] w w' := free_ok O.jr g.jok
theorem jone_mark (O : Jone w0 w bd bj A (jrK frm R R.L) F) :
    Ret Tryd.prog 31 #[ptr bj] w fun v w' => v = .tuple #[.int .i64 (R.at' : Int), .int .u64 ((R.seq + R.L.length : Nat) : Int)] ∧ Ext [] w w' := mark_ok O.jr
theorem jone_forget0 (O : Jone w0 w bd bj A (jrK frm R R.L) F) (g : Good N frm A R) :
    Ret Tryd.prog 33 #[ptr bj] w fun v w' => v = .int .i64 0 ∧ Jone w0 w' bd bj A (jrK frm R.forget R.forget.L) F ∧ Grown (Fj F bj) (Fj F bj) w w' :=
  (jone_forget O rfl).mono fun v w' ⟨hv, O', G⟩ => ⟨hv, by rw [← jrK_forget g.ok] at O'; exact O', G⟩
theorem Jone.new (O : Jone w0 w bd bj A J F) {a : Option Addr} {b : Byt} (_ : Rd w' a 1 B8 b) (h : b = [] ∨ w.heap.size ≤ (adr a).block) : b = [] ∨ ¬ Fj F bj (adr a).block :=
  h.imp id fun h hF => by have := (O.at _ hF).2; omega
theorem newB_text {w w' : World} {v : Value} {l : Byt} (h : Fresh w w' 5 1 v (l.map bv)) : ∃ a c, v = .slice a l.length c ∧ Rd w' a 1 B8 l ∧ l.length ≤ c ∧ (l = [] ∨ w.heap.size ≤ (adr a).block) := Fresh.newB h
end

theorem two_strs {xs : List SB} {p q : Byt} (h : xs.map (fun x => x.2.1) = [p, q]) : ∃ a0 c0 x1, xs = [(a0, p, c0), x1] := by
  match xs, h with
  | [(a0, s0, c0), x1], h =>
    have h1 : s0 = p := (List.cons.inj h).1
    subst h1
    exact ⟨a0, c0, x1, rfl⟩

def xA : Byt := [97, 98]
def xB : Byt := textB 481 120
def xC : Byt := textB 1920 121
def xD : Byt := textB 1921 121
theorem xB_len : xB.length = 481 := textB_len ..
theorem xC_len : xC.length = 1920 := textB_len ..
theorem xD_len : xD.length = 1921 := textB_len ..
def R0 : Rj := ⟨[], 10, 0, 1⟩
theorem R0_ok : R0.Ok := ⟨by decide, by decide, by decide, by decide, by decide⟩
def R1 : Rj := R0.more xA
def R2 : Rj := R1.more xB
def R3 : Rj := R2.more xC
theorem t1 : takenL R1.L = 2 := by decide
theorem t2 : takenL R2.L = 5 := by
  show takenL ([xA] ++ [xB]) = 5
  rw [takenL_snoc, xB_len]; decide
theorem t3 : takenL R3.L = 10 := by
  show takenL (R2.L ++ [xC]) = 10
  rw [takenL_snoc, xC_len, t2]; decide

set_option maxRecDepth 20000 in
set_option maxHeartbeats 4000000 in
theorem works5_ok (w : World) : Ret Tryd.prog 37 #[] w fun v w' => v = .bool true ∧ Ext [] w w' := by
  obtain ⟨w0, rfl⟩ : ∃ w0, w0 = w := ⟨_, rfl⟩
  refine ret_of_W (fn := Tryd.f37) Tryd.func37 rfl [] rfl (by kernel_rfl) ?_
  refine W_rseq ?_
  refine op_assign rfl (.bool _) rfl ?_
  refine op_nil (at_then ?_)
  refine W_rseq ?_
  refine op_call rfl ca_12_JoK (own_new (by decide) (by decide) _) rfl ?_
  rintro v w ⟨bd, F, rfl, O⟩
  have g : Good 20 5 (newD 20) R0 := Good.new R0_ok rfl (by decide) (by decide)
  replace O : Own w0 w bd (newD 20) F := O
  have l : (newD 20).left = -1 := rfl
  refine op_move rfl (.tuple _) rfl ?_
  refine op_extract rfl rfl rfl ?_
  refine op_extract rfl rfl rfl ?_
  refine op_assign rfl (.pointer _) rfl ?_
  refine op_assign rfl (.int _ _) rfl ?_
  refine op_nil (at_then ?_)
  refine W_seq ?_
  refine W_rseq ?_
  refine op_move rfl (.int _ _) rfl ?_
  refine op_neq rfl rfl rfl ?_
  refine op_move rfl (.bool _) rfl ?_
  refine op_move rfl (.pointer _) rfl ?_
  refine op_eqlptr rfl un_27 rfl ?_
  refine op_pick0 rfl rfl (.bool _) rfl ?_
  refine op_nil (at_then ?_)
  refine W_cond0 rfl ?_
  refine W_skip (at_then ?_)
  refine W_rseq ?_
  refine op_move rfl (.pointer _) rfl ?_
  refine op_call rfl ca_29_JoK (jone_reopen (R := R0) O g (by decide) (by decide)) rfl ?_
  rintro v w ⟨bj, a25, n25, c25, rfl, hx, -, O, S⟩
  obtain rfl : n25 = 0 := S.num
  refine op_move rfl (.tuple _) rfl ?_
  refine op_extract rfl rfl rfl ?_
  refine op_extract rfl rfl rfl ?_
  refine op_extract rfl rfl rfl ?_
  refine op_assign rfl (.pointer _) rfl ?_
  refine op_assign rfl (.slice _ _ _) rfl ?_
  refine op_assign rfl (.int _ _) rfl ?_
  refine op_nil (at_then ?_)
  refine W_seq ?_
  refine W_rseq ?_
  refine op_move rfl (.int _ _) rfl ?_
  refine op_neq rfl rfl rfl ?_
  refine op_move rfl (.bool _) rfl ?_
  refine op_move rfl (.pointer _) rfl ?_
  refine op_eqlptr rfl un_57_JoK rfl ?_
  refine op_pick0 rfl rfl (.bool _) rfl ?_
  refine op_move rfl (.bool _) rfl ?_
  refine op_move rfl (.slice _ _ _) rfl ?_
  refine op_len rfl el_58 rfl ?_
  refine op_neq rfl rfl rfl ?_
  refine op_pick0 rfl rfl (.bool _) rfl ?_
  refine op_move rfl (.bool _) rfl ?_
  refine op_move rfl (.pointer _) rfl ?_
  have H := Ctx.start w []
  refine op_buildL (xA.map bv) rfl el_23 sz_5 zc_5 (by decide) (by decide) (by kernel_rfl) H ?_
  rintro b42 w - H
  refine op_convLit (l := xA) rfl el_23 un_5 rfl H at0 ?_
  rintro w H' Rb
  have hb42 := (H.own _ (List.mem_cons_self ..)).elim (fun h => (by cases h)) id
  have hnw := O.new (a := some ⟨b42, 0, none⟩) Rb (.inr hb42)
  replace O := O.call H'.ext
  refine op_call rfl ca_32_JoK (jone_app0 O g l xA (by decide) _ 2 2 Rb rfl (by decide) (by decide) hnw) rfl ?_
  rintro v w ⟨rfl, A, F, O, g, l, -⟩
  replace g : Good 20 5 A R1 := g
  replace O : Jone w0 w bd bj A (jrK 5 R1 R1.L) F := O
  refine op_neq rfl rfl rfl ?_
  refine op_pick0 rfl rfl (.bool _) rfl ?_
  refine op_move rfl (.bool _) rfl ?_
  refine op_move rfl (.pointer _) rfl ?_
  refine op_call rfl ca_39_JoK (text_ok 481 (by decide) 120 _) rfl ?_
  rintro v w FT
  obtain ⟨a49, c49, rfl, RT, hc49, hn49⟩ := newB_text FT
  have hnw := O.new RT hn49
  replace O := O.call FT.ext
  refine op_call rfl ca_32_JoK (jone_app0 O g l xB (by rw [t1, xB_len]; decide) a49 c49 _ RT rfl (by rw [xB_len]; decide) hc49 hnw) rfl ?_
  rintro v w ⟨rfl, A, F, O, g, l, -⟩
  replace g : Good 20 5 A R2 := g
  replace O : Jone w0 w bd bj A (jrK 5 R2 R2.L) F := O
  refine op_neq rfl rfl rfl ?_
  refine op_pick0 rfl rfl (.bool _) rfl ?_
  refine op_move rfl (.bool _) rfl ?_
  refine op_move rfl (.pointer _) rfl ?_
  refine op_call rfl ca_34_JoK (jone_free O g) rfl ?_
  rintro v w ⟨rfl, hx⟩
  replace O := O.call hx
  rw [t2]
  refine op_neq rfl rfl rfl ?_
  refine op_pick0 rfl rfl (.bool _) rfl ?_
  refine op_nil (at_then ?_)
  refine W_cond0 rfl ?_
  refine W_skip (at_then ?_)
  refine W_rseq ?_
  refine op_move rfl (.pointer _) rfl ?_
  refine op_call rfl ca_31_JoK (jone_mark O) rfl ?_
  rintro v w ⟨rfl, hx⟩
  replace O := O.call hx
  rw [show R2.at' = 5 from by unfold Rj.at'; rw [t2]; rfl]
  refine op_move rfl (.tuple _) rfl ?_
  refine op_extract rfl rfl rfl ?_
  refine op_extract rfl rfl rfl ?_
  refine op_assign rfl (.int _ _) rfl ?_
  refine op_assign rfl (.int _ _) rfl ?_
  refine op_nil (at_then ?_)
  refine W_rseq ?_
  refine op_move rfl (.pointer _) rfl ?_
  refine op_call rfl ca_29_JoK (jone_reopen (R := R2) O.own g (by decide) (by decide)) rfl ?_
  rintro v w ⟨b65, a65, n65, c65, rfl, hx, -, -, S⟩
  replace O := O.call hx
  obtain rfl : n65 = 2 := S.num
  refine op_move rfl (.tuple _) rfl ?_
  refine op_extract rfl rfl rfl ?_
  refine op_extract rfl rfl rfl ?_
  refine op_extract rfl rfl rfl ?_
  refine op_assign rfl (.pointer _) rfl ?_
  refine op_assign rfl (.slice _ _ _) rfl ?_
  refine op_assign rfl (.int _ _) rfl ?_
  refine op_nil (at_then ?_)
  refine W_rseq ?_
  refine op_move rfl (.pointer _) rfl ?_
  have g' : Good 20 5 A R2.forget := g.forget (by decide)
  refine op_call rfl ca_29_JoK (jone_reopen (R := R2.forget) O.own g' (by decide) (by decide)) (by rw [show R2.forget = ⟨[], 10, 5, 3⟩ from by unfold Rj.forget Rj.at'; rw [t2]; rfl]; rfl) ?_
  rintro v w ⟨b71, a71, n71, c71, rfl, hx, -, -, S71⟩
  replace O := O.call hx
  obtain rfl : n71 = 0 := S71.num
  replace S := S.ext0 hx
  obtain ⟨xs, RS, hxs, hst⟩ := S.ex
  obtain ⟨a0, c0, x1, rfl⟩ := two_strs (p := xA) (q := xB) hxs
  refine op_move rfl (.tuple _) rfl ?_
  refine op_extract rfl rfl rfl ?_
  refine op_extract rfl rfl rfl ?_
  refine op_extract rfl rfl rfl ?_
  refine op_assign rfl (.pointer _) rfl ?_
  refine op_assign rfl (.slice _ _ _) rfl ?_
  refine op_assign rfl (.int _ _) rfl ?_
  refine op_nil (at_then ?_)
  refine W_seq ?_
  refine W_rseq ?_
  refine op_move rfl (.int _ _) rfl ?_
  refine op_neq rfl rfl rfl ?_
  refine op_move rfl (.bool _) rfl ?_
  refine op_move rfl (.int _ _) rfl ?_
  refine op_neq rfl rfl rfl ?_
  refine op_pick0 rfl rfl (.bool _) rfl ?_
  refine op_move rfl (.bool _) rfl ?_
  refine op_move rfl (.int _ _) rfl ?_
  refine op_neq rfl rfl rfl ?_
  refine op_pick0 rfl rfl (.bool _) rfl ?_
  refine op_move rfl (.bool _) rfl ?_
  refine op_move rfl (.int _ _) rfl ?_
  refine op_neq rfl rfl rfl ?_
  refine op_pick0 rfl rfl (.bool _) rfl ?_
  refine op_move rfl (.bool _) rfl ?_
  refine op_move rfl (.slice _ _ _) rfl ?_
  refine op_len rfl el_58 rfl ?_
  refine op_neq rfl rfl rfl ?_
  refine op_pick0 rfl rfl (.bool _) rfl ?_
  refine op_move rfl (.bool _) rfl ?_
  refine op_move rfl (.slice _ _ _) rfl ?_
  first | refine op_indexRd RS rfl el_58 sz_23 rfl rfl (by omega) (by omega) (by first | rfl | omega) ?_ | refine op_indexAddr rfl el_58 sz_23 rfl rfl (by omega) (by omega) ?_
  refine op_ld rfl ag_23 rfl (Rd.one (f := valS) RS (i := 0) rfl) ?_
  refine op_back (l := xA) rfl el_23 un_5 un_9 rfl (hst _ (List.mem_cons_self ..)).1 ?_
  refine op_strne (l := xA) (m := xA) rfl rfl rfl ?_
  refine op_pick0 rfl rfl (.bool _) rfl ?_
  refine op_move rfl (.bool _) rfl ?_
  refine op_move rfl (.slice _ _ _) rfl ?_
  refine op_len rfl el_58 rfl ?_
  refine op_neq rfl rfl rfl ?_
  refine op_pick0 rfl rfl (.bool _) rfl ?_
  refine op_nil (at_then ?_)
  refine W_cond0 rfl ?_
  refine W_skip (at_then ?_)
  refine W_rseq ?_
  refine op_move rfl (.pointer _) rfl ?_
  refine op_call rfl ca_39_JoK (text_ok 1921 (by decide) 121 _) rfl ?_
  rintro v w FT
  obtain ⟨a107, c107, rfl, RT, hc107, hn107⟩ := newB_text FT
  have hnw := O.new RT hn107
  replace O := O.call FT.ext
  refine op_call rfl ca_32_JoK (jone_app7 O g l xD (by rw [t2, xD_len]; decide) a107 c107 _ RT rfl (by rw [xD_len]; decide) hc107 hnw) rfl ?_
  rintro v w ⟨rfl, A, F, O, g, l, -⟩
  refine op_eql rfl rfl rfl ?_
  refine op_move rfl (.bool _) rfl ?_
  refine op_move rfl (.pointer _) rfl ?_
  refine op_call rfl ca_39_JoK (text_ok 1920 (by decide) 121 _) rfl ?_
  rintro v w FT
  obtain ⟨a112, c112, rfl, RT, hc112, hn112⟩ := newB_text FT
  have hnw := O.new RT hn112
  replace O := O.call FT.ext
  refine op_call rfl ca_32_JoK (jone_app0 O g l xC (by rw [t2, xC_len]; decide) a112 c112 _ RT rfl (by rw [xC_len]; decide) hc112 hnw) rfl ?_
  rintro v w ⟨rfl, A, F, O, g, l, -⟩
  replace g : Good 20 5 A R3 := g
  replace O : Jone w0 w bd bj A (jrK 5 R3 R3.L) F := O
  refine op_eql rfl rfl rfl ?_
  refine op_pick1 rfl rfl (.bool _) rfl ?_
  refine op_move rfl (.bool _) rfl ?_
  refine op_move rfl (.pointer _) rfl ?_
  refine op_call rfl ca_32_JoK (jone_app7 O g l [] (by rw [t3]; decide) none 0 0 Rd.nil rfl (by decide) (by decide) (.inl rfl)) rfl ?_
  rintro v w ⟨rfl, A, F, O, g, l, -⟩
  refine op_eql rfl rfl rfl ?_
  refine op_pick1 rfl rfl (.bool _) rfl ?_
  refine op_move rfl (.bool _) rfl ?_
  refine op_move rfl (.pointer _) rfl ?_
  refine op_call rfl ca_33_JoK (jone_forget0 O g) rfl ?_
  rintro v w ⟨rfl, O, -⟩
  replace g : Good 20 5 A R3.forget := g.forget (by decide)
  refine op_eql rfl rfl rfl ?_
  refine op_pick1 rfl rfl (.bool _) rfl ?_
  refine op_move rfl (.bool _) rfl ?_
  refine op_move rfl (.pointer _) rfl ?_
  refine op_call rfl ca_34_JoK (jone_free O g) rfl ?_
  rintro v w ⟨rfl, hx⟩
  replace O := O.call hx
  refine op_eql rfl rfl rfl ?_
  refine op_pick1 rfl rfl (.bool _) rfl ?_
  refine op_move rfl (.bool _) rfl ?_
  refine op_move rfl (.pointer _) rfl ?_
  refine op_call rfl ca_32_JoK (jone_app0 O g l [] (by decide) none 0 0 Rd.nil rfl (by decide) (by decide) (.inl rfl)) rfl ?_
  rintro v w ⟨rfl, A, F, O, g, l, -⟩
  refine op_eql rfl rfl rfl ?_
  refine op_pick1 rfl rfl (.bool _) rfl ?_
  refine op_move rfl (.bool _) rfl ?_
  refine op_call rfl ca_35_JoK (jblocks_ok 480 (by decide) _) rfl ?_
  rintro v w ⟨rfl, rfl⟩
  refine op_eql rfl rfl rfl ?_
  refine op_pick1 rfl rfl (.bool _) rfl ?_
  refine op_assign rfl (.bool _) rfl ?_
  refine op_nil (at_then ?_)
  refine W_ret (leave1 (v := (.bool _)) rfl rfl rfl ?_)
  exact ⟨rfl, O.own.ext⟩

end Go.Proofs.YtkmbcpgnafmnpaaDoor

/- JournalArgs: the walk. -/
namespace Go.Proofs.YtkmbcpgnafmnpaaDoor
open Go.GV
theorem ca_12_JoP : callable Tryd.prog 12 = true := by kernel_rfl
theorem ca_29_JoP : callable Tryd.prog 29 = true := by kernel_rfl
theorem ca_30_JoP : callable Tryd.prog 30 = true := by kernel_rfl
theorem ca_31_JoP : callable Tryd.prog 31 = true := by kernel_rfl
theorem ca_32_JoP : callable Tryd.prog 32 = true := by kernel_rfl
theorem ca_33_JoP : callable Tryd.prog 33 = true := by kernel_rfl
theorem ca_34_JoP : callable Tryd.prog 34 = true := by kernel_rfl
theorem ca_35_JoP : callable Tryd.prog 35 = true := by kernel_rfl
theorem ca_36_JoP : callable Tryd.prog 36 = true := by kernel_rfl
theorem ca_37_JoP : callable Tryd.prog 37 = true := by kernel_rfl
theorem un_4_JoP : Tryd.prog.underlying 4 = some (.bool) := by kernel_rfl
theorem un_57_JoP : Tryd.prog.underlying 57 = some (.pointer 108) := by kernel_rfl
attribute [local irreducible] Wops W Wq Wt

theorem new_len (m : Nat) : (newD m).B.length = m := List.length_replicate
theorem new_open {m : Nat} {f z p : Int} {q : Nat} (hm : m ≤ 4096) (h : rightJ m f z p q = true) : (openJ (newD m) (jr0 f z p q)).1 = [] := by
  have h2 := h
  simp only [rightJ, Bool.and_eq_true, decide_eq_true_eq] at h2
  have hR : (⟨[], z.toNat, p.toNat, q⟩ : Rj).Ok := ⟨by show 2 ≤ z.toNat; omega, by show z.toNat ≤ 4096; omega, by show p.toNat < z.toNat; omega, by show q ≤ _; omega, Nat.zero_le _⟩
  have g : Good m f.toNat (newD m) ⟨[], z.toNat, p.toNat, q⟩ := Good.new hR rfl (by show f.toNat + z.toNat ≤ m; omega) hm
  have h9 := g.open
  have he : jr0 ((f.toNat : Nat) : Int) (((⟨[], z.toNat, p.toNat, q⟩ : Rj).size : Nat) : Int) (((⟨[], z.toNat, p.toNat, q⟩ : Rj).first : Nat) : Int) (⟨[], z.toNat, p.toNat, q⟩ : Rj).seq = jr0 f z p q := by
    simp only [jr0, Int.toNat_natCast]
  rw [he] at h9
  rw [h9]

set_option maxRecDepth 20000 in
set_option maxHeartbeats 4000000 in
theorem args_right (n : Nat) (hn : n ≤ 255) (f z p : Int) (hf : -9223372036854775808 ≤ f ∧ f ≤ 9223372036854775807) (hz : -9223372036854775808 ≤ z ∧ z ≤ 9223372036854775807) (_hp : -9223372036854775808 ≤ p ∧ p ≤ 9223372036854775807) (q : Nat) (_hq : q ≤ 18446744073709551615) (k : Int) (hk : -9223372036854775808 ≤ k ∧ k ≤ 9223372036854775807) (hr : rightJ ((1 + n % 60 : Nat) : Int) f z p q = true) (w : World) :
    Ret Tryd.prog 7 #[.int .u8 (n : Int), .int .i64 f, .int .i64 z, .int .i64 p, .int .u64 (q : Int), .int .i64 k] w fun v w' => v = .bool true ∧ Ext [] w w' := by
  obtain ⟨w0, rfl⟩ : ∃ w0, w0 = w := ⟨_, rfl⟩
  have hm4 : 1 + n % 60 ≤ 4096 := by omega
  refine ret_of_W (fn := Tryd.f7) Tryd.func7 rfl [.int .u8 (n : Int), .int .i64 f, .int .i64 z, .int .i64 p, .int .u64 (q : Int), .int .i64 k] rfl (by kernel_rfl) ?_
  refine W_rseq ?_
  refine op_assign rfl (.bool _) rfl ?_
  refine op_nil (at_then ?_)
  refine W_rseq ?_
  refine op_move rfl (.int _ _) rfl ?_
  refine op_conv_i64 rfl rfl un_5 un_3 (by omega) (by omega) ?_
  refine op_rem rfl rfl rfl (by omega) (by omega) ?_
  refine op_add_i64 rfl rfl rfl (by omega) (by omega) ?_
  rw [show (1 : Int) + (n : Int) % 60 = ((1 + n % 60 : Nat) : Int) by omega]
  refine op_assign rfl (.int _ _) rfl ?_
  refine op_nil (at_then ?_)
  refine W_rseq ?_
  refine op_move rfl (.int _ _) rfl ?_
  refine op_call rfl ca_12_JoP (own_new (n := ((1 + n % 60 : Nat) : Int)) (by omega) (by omega) _) rfl ?_
  rintro v w ⟨bd, F, rfl, O⟩
  rw [Int.toNat_natCast] at O
  refine op_move rfl (.tuple _) rfl ?_
  refine op_extract rfl rfl rfl ?_
  refine op_extract rfl rfl rfl ?_
  refine op_assign rfl (.pointer _) rfl ?_
  refine op_assign rfl (.int _ _) rfl ?_
  refine op_nil (at_then ?_)
  refine W_seq ?_
  refine W_rseq ?_
  refine op_move rfl (.int _ _) rfl ?_
  refine op_neq rfl rfl rfl ?_
  refine op_nil (at_then ?_)
  refine W_cond0 rfl ?_
  refine W_skip (at_then ?_)
  refine W_rseq ?_
  refine op_move rfl (.pointer _) rfl ?_
  refine op_move rfl (.int _ _) rfl ?_
  refine op_move rfl (.int _ _) rfl ?_
  refine op_move rfl (.int _ _) rfl ?_
  refine op_move rfl (.int _ _) rfl ?_
  refine op_call rfl ca_29_JoP (jopen_ok f z p q hf hz (by rw [new_len]; omega) rfl (new_few _) (by decide) O.dev) rfl ?_
  rintro v w ⟨hx, ⟨h1, _⟩ | ⟨_, bj, a43, n43, c43, rfl, -, -, S⟩⟩
  · rw [new_len, hr] at h1; cases h1
  replace O := O.call hx
  rw [new_open hm4 hr] at S
  obtain rfl : n43 = 0 := S.num
  refine op_move rfl (.tuple _) rfl ?_
  refine op_extract rfl rfl rfl ?_
  refine op_extract rfl rfl rfl ?_
  refine op_extract rfl rfl rfl ?_
  refine op_assign rfl (.pointer _) rfl ?_
  refine op_assign rfl (.slice _ _ _) rfl ?_
  refine op_assign rfl (.int _ _) rfl ?_
  refine op_nil (at_then ?_)
  refine W_rseq ?_
  refine op_move rfl (.int _ _) rfl ?_
  refine op_move rfl (.int _ _) rfl ?_
  refine op_move rfl (.int _ _) rfl ?_
  refine op_move rfl (.int _ _) rfl ?_
  refine op_move rfl (.int _ _) rfl ?_
  refine op_call rfl ca_30_JoP (jright_ok ((1 + n % 60 : Nat) : Int) f z p q (by omega) hf hz _) rfl ?_
  rintro v w ⟨rfl, rfl⟩
  rw [hr]
  refine op_assign rfl (.bool _) rfl ?_
  refine op_nil (at_then ?_)
  refine W_seq ?_
  refine W_rseq ?_
  refine op_move rfl (.int _ _) rfl ?_
  refine op_eql rfl rfl rfl ?_
  refine op_move rfl (.bool _) rfl ?_
  refine op_neqb un_4_JoP rfl rfl rfl ?_
  refine op_move rfl (.bool _) rfl ?_
  refine op_move rfl (.pointer _) rfl ?_
  refine op_neqptr rfl un_57_JoP rfl ?_
  refine op_move rfl (.bool _) rfl ?_
  refine op_neqb un_4_JoP rfl rfl rfl ?_
  refine op_pick0 rfl rfl (.bool _) rfl ?_
  refine op_move rfl (.bool _) rfl ?_
  refine op_move rfl (.slice _ _ _) rfl ?_
  refine op_len rfl el_58 rfl ?_
  refine op_neq rfl rfl rfl ?_
  refine op_pick0 rfl rfl (.bool _) rfl ?_
  refine op_move rfl (.bool _) rfl ?_
  refine op_move rfl (.bool _) rfl ?_
  refine op_not rfl rfl ?_
  refine op_move rfl (.bool _) rfl ?_
  refine op_skip rfl ?_
  refine op_skip rfl ?_
  refine op_pick0 rfl rfl (.bool _) rfl ?_
  refine op_pick0 rfl rfl (.bool _) rfl ?_
  refine op_nil (at_then ?_)
  refine W_cond0 rfl ?_
  refine W_skip (at_then ?_)
  refine W_rseq ?_
  refine op_assign rfl (.pointer _) rfl ?_
  refine op_nil (at_then ?_)
  refine W_rseq ?_
  refine op_move rfl (.int _ _) rfl ?_
  refine op_move rfl (.int _ _) rfl ?_
  refine op_move rfl (.int _ _) rfl ?_
  refine op_move rfl (.int _ _) rfl ?_
  refine op_call rfl ca_29_JoP (jopen_nil _ _ _ _ _) rfl ?_
  rintro v w ⟨rfl, rfl⟩
  refine op_move rfl (.tuple _) rfl ?_
  refine op_extract rfl rfl rfl ?_
  refine op_extract rfl rfl rfl ?_
  refine op_extract rfl rfl rfl ?_
  refine op_assign rfl (.pointer _) rfl ?_
  refine op_assign rfl (.slice _ _ _) rfl ?_
  refine op_assign rfl (.int _ _) rfl ?_
  refine op_nil (at_then ?_)
  refine W_rseq ?_
  refine op_move rfl (.pointer _) rfl ?_
  refine op_call rfl ca_31_JoP (mark_nil _) rfl ?_
  rintro v w ⟨rfl, rfl⟩
  refine op_move rfl (.tuple _) rfl ?_
  refine op_extract rfl rfl rfl ?_
  refine op_extract rfl rfl rfl ?_
  refine op_assign rfl (.int _ _) rfl ?_
  refine op_assign rfl (.int _ _) rfl ?_
  refine op_nil (at_then ?_)
  refine W_seq ?_
  refine W_rseq ?_
  refine op_move rfl (.pointer _) rfl ?_
  refine op_neqptr rfl un_57_JoP rfl ?_
  refine op_move rfl (.bool _) rfl ?_
  refine op_move rfl (.slice _ _ _) rfl ?_
  refine op_len rfl el_58 rfl ?_
  refine op_neq rfl rfl rfl ?_
  refine op_pick0 rfl rfl (.bool _) rfl ?_
  refine op_move rfl (.bool _) rfl ?_
  refine op_move rfl (.int _ _) rfl ?_
  refine op_neq rfl rfl rfl ?_
  refine op_pick0 rfl rfl (.bool _) rfl ?_
  refine op_move rfl (.bool _) rfl ?_
  refine op_move rfl (.pointer _) rfl ?_
  refine op_call rfl ca_32_JoP (append_nil _ _) rfl ?_
  rintro v w ⟨rfl, rfl⟩
  refine op_neq rfl rfl rfl ?_
  refine op_pick0 rfl rfl (.bool _) rfl ?_
  refine op_move rfl (.bool _) rfl ?_
  refine op_move rfl (.pointer _) rfl ?_
  refine op_call rfl ca_33_JoP (jforget_nil _) rfl ?_
  rintro v w ⟨rfl, rfl⟩
  refine op_neq rfl rfl rfl ?_
  refine op_pick0 rfl rfl (.bool _) rfl ?_
  refine op_move rfl (.bool _) rfl ?_
  refine op_move rfl (.int _ _) rfl ?_
  refine op_neq rfl rfl rfl ?_
  refine op_pick0 rfl rfl (.bool _) rfl ?_
  refine op_move rfl (.bool _) rfl ?_
  refine op_move rfl (.int _ _) rfl ?_
  refine op_neq rfl rfl rfl ?_
  refine op_pick0 rfl rfl (.bool _) rfl ?_
  refine op_move rfl (.bool _) rfl ?_
  refine op_move rfl (.pointer _) rfl ?_
  refine op_call rfl ca_34_JoP (free_nil _) rfl ?_
  rintro v w ⟨rfl, rfl⟩
  refine op_neq rfl rfl rfl ?_
  refine op_pick0 rfl rfl (.bool _) rfl ?_
  refine op_nil (at_then ?_)
  refine W_cond0 rfl ?_
  refine W_skip (at_then ?_)
  refine W_rseq ?_
  refine op_move rfl (.int _ _) rfl ?_
  refine op_gtr rfl rfl rfl ?_
  refine op_move rfl (.bool _) rfl ?_
  refine Wops_split 126 rfl ?_ ?_
  · intro h1
    replace h1 := dec_t h1
    refine op_skip rfl ?_
    refine op_skip rfl ?_
    refine op_skip rfl ?_
    refine op_skip rfl ?_
    refine op_skip rfl ?_
    refine op_pick1 rfl rfl (.bool _) rfl ?_
    refine op_move rfl (.bool _) rfl ?_
    refine op_pick1 rfl rfl (.bool _) rfl ?_
    refine op_move rfl (.bool _) rfl ?_
    refine op_call rfl ca_37_JoP (works5_ok _) rfl ?_
    rintro v w ⟨rfl, hxw⟩
    refine op_pick1 rfl rfl (.bool _) rfl ?_
    refine op_assign rfl (.bool _) rfl ?_
    refine op_nil (at_then ?_)
    refine W_ret (leave1 (v := (.bool _)) rfl rfl rfl ?_)
    exact ⟨rfl, O.ext.trans hxw⟩
  · intro h1
    replace h1 := dec_f h1
    refine op_move rfl (.int _ _) rfl ?_
    refine op_call rfl ca_35_JoP (jblocks_ok k (by omega) _) rfl ?_
    rintro v w ⟨rfl, rfl⟩
    refine op_move rfl (.int _ _) rfl ?_
    refine op_call rfl ca_36_JoP (rblocks_ok k (by omega) _) rfl ?_
    rintro v w ⟨rfl, rfl⟩
    refine op_eql rfl rfl rfl ?_
    rw [show decide (blkI k = blkI k) = true from decide_eq_true rfl]
    refine op_pick0 rfl rfl (.bool _) rfl ?_
    refine op_move rfl (.bool _) rfl ?_
    refine op_pick1 rfl rfl (.bool _) rfl ?_
    refine op_move rfl (.bool _) rfl ?_
    refine op_call rfl ca_37_JoP (works5_ok _) rfl ?_
    rintro v w ⟨rfl, hxw⟩
    refine op_pick1 rfl rfl (.bool _) rfl ?_
    refine op_assign rfl (.bool _) rfl ?_
    refine op_nil (at_then ?_)
    refine W_ret (leave1 (v := (.bool _)) rfl rfl rfl ?_)
    exact ⟨rfl, O.ext.trans hxw⟩

set_option maxRecDepth 20000 in
set_option maxHeartbeats 4000000 in
theorem args_wrong (n : Nat) (hn : n ≤ 255) (f z p : Int) (hf : -9223372036854775808 ≤ f ∧ f ≤ 9223372036854775807) (hz : -9223372036854775808 ≤ z ∧ z ≤ 9223372036854775807) (_hp : -9223372036854775808 ≤ p ∧ p ≤ 9223372036854775807) (q : Nat) (_hq : q ≤ 18446744073709551615) (k : Int) (hk : -9223372036854775808 ≤ k ∧ k ≤ 9223372036854775807) (hr : rightJ ((1 + n % 60 : Nat) : Int) f z p q = false) (w : World) :
    Ret Tryd.prog 7 #[.int .u8 (n : Int), .int .i64 f, .int .i64 z, .int .i64 p, .int .u64 (q : Int), .int .i64 k] w fun v w' => v = .bool true ∧ Ext [] w w' := by
  obtain ⟨w0, rfl⟩ : ∃ w0, w0 = w := ⟨_, rfl⟩
  have hm4 : 1 + n % 60 ≤ 4096 := by omega
  refine ret_of_W (fn := Tryd.f7) Tryd.func7 rfl [.int .u8 (n : Int), .int .i64 f, .int .i64 z, .int .i64 p, .int .u64 (q : Int), .int .i64 k] rfl (by kernel_rfl) ?_
  refine W_rseq ?_
  refine op_assign rfl (.bool _) rfl ?_
  refine op_nil (at_then ?_)
  refine W_rseq ?_
  refine op_move rfl (.int _ _) rfl ?_
  refine op_conv_i64 rfl rfl un_5 un_3 (by omega) (by omega) ?_
  refine op_rem rfl rfl rfl (by omega) (by omega) ?_
  refine op_add_i64 rfl rfl rfl (by omega) (by omega) ?_
  rw [show (1 : Int) + (n : Int) % 60 = ((1 + n % 60 : Nat) : Int) by omega]
  refine op_assign rfl (.int _ _) rfl ?_
  refine op_nil (at_then ?_)
  refine W_rseq ?_
  refine op_move rfl (.int _ _) rfl ?_
  refine op_call rfl ca_12_JoP (own_new (n := ((1 + n % 60 : Nat) : Int)) (by omega) (by omega) _) rfl ?_
  rintro v w ⟨bd, F, rfl, O⟩
  rw [Int.toNat_natCast] at O
  refine op_move rfl (.tuple _) rfl ?_
  refine op_extract rfl rfl rfl ?_
  refine op_extract rfl rfl rfl ?_
  refine op_assign rfl (.pointer _) rfl ?_
  refine op_assign rfl (.int _ _) rfl ?_
  refine op_nil (at_then ?_)
  refine W_seq ?_
  refine W_rseq ?_
  refine op_move rfl (.int _ _) rfl ?_
  refine op_neq rfl rfl rfl ?_
  refine op_nil (at_then ?_)
  refine W_cond0 rfl ?_
  refine W_skip (at_then ?_)
  refine W_rseq ?_
  refine op_move rfl (.pointer _) rfl ?_
  refine op_move rfl (.int _ _) rfl ?_
  refine op_move rfl (.int _ _) rfl ?_
  refine op_move rfl (.int _ _) rfl ?_
  refine op_move rfl (.int _ _) rfl ?_
  refine op_call rfl ca_29_JoP (jopen_ok f z p q hf hz (by rw [new_len]; omega) rfl (new_few _) (by decide) O.dev) rfl ?_
  rintro v w ⟨hx, ⟨_, rfl⟩ | ⟨h1, _⟩⟩
  rotate_left
  · rw [new_len, hr] at h1; cases h1
  replace O := O.call hx
  refine op_move rfl (.tuple _) rfl ?_
  refine op_extract rfl rfl rfl ?_
  refine op_extract rfl rfl rfl ?_
  refine op_extract rfl rfl rfl ?_
  refine op_assign rfl (.pointer _) rfl ?_
  refine op_assign rfl (.slice _ _ _) rfl ?_
  refine op_assign rfl (.int _ _) rfl ?_
  refine op_nil (at_then ?_)
  refine W_rseq ?_
  refine op_move rfl (.int _ _) rfl ?_
  refine op_move rfl (.int _ _) rfl ?_
  refine op_move rfl (.int _ _) rfl ?_
  refine op_move rfl (.int _ _) rfl ?_
  refine op_move rfl (.int _ _) rfl ?_
  refine op_call rfl ca_30_JoP (jright_ok ((1 + n % 60 : Nat) : Int) f z p q (by omega) hf hz _) rfl ?_
  rintro v w ⟨rfl, rfl⟩
  rw [hr]
  refine op_assign rfl (.bool _) rfl ?_
  refine op_nil (at_then ?_)
  refine W_seq ?_
  refine W_rseq ?_
  refine op_move rfl (.int _ _) rfl ?_
  refine op_eql rfl rfl rfl ?_
  refine op_move rfl (.bool _) rfl ?_
  refine op_neqb un_4_JoP rfl rfl rfl ?_
  refine op_move rfl (.bool _) rfl ?_
  refine op_move rfl (.pointer _) rfl ?_
  refine op_neqptr rfl un_57_JoP rfl ?_
  refine op_move rfl (.bool _) rfl ?_
  refine op_neqb un_4_JoP rfl rfl rfl ?_
  refine op_pick0 rfl rfl (.bool _) rfl ?_
  refine op_move rfl (.bool _) rfl ?_
  refine op_move rfl (.slice _ _ _) rfl ?_
  refine op_len rfl el_58 rfl ?_
  refine op_neq rfl rfl rfl ?_
  refine op_pick0 rfl rfl (.bool _) rfl ?_
  refine op_move rfl (.bool _) rfl ?_
  refine op_move rfl (.bool _) rfl ?_
  refine op_not rfl rfl ?_
  refine op_move rfl (.bool _) rfl ?_
  refine op_move rfl (.int _ _) rfl ?_
  refine op_neq rfl rfl rfl ?_
  refine op_pick1 rfl rfl (.bool _) rfl ?_
  refine op_pick0 rfl rfl (.bool _) rfl ?_
  refine op_nil (at_then ?_)
  refine W_cond0 rfl ?_
  refine W_skip (at_then ?_)
  refine W_rseq ?_
  refine op_assign rfl (.pointer _) rfl ?_
  refine op_nil (at_then ?_)
  refine W_rseq ?_
  refine op_move rfl (.int _ _) rfl ?_
  refine op_move rfl (.int _ _) rfl ?_
  refine op_move rfl (.int _ _) rfl ?_
  refine op_move rfl (.int _ _) rfl ?_
  refine op_call rfl ca_29_JoP (jopen_nil _ _ _ _ _) rfl ?_
  rintro v w ⟨rfl, rfl⟩
  refine op_move rfl (.tuple _) rfl ?_
  refine op_extract rfl rfl rfl ?_
  refine op_extract rfl rfl rfl ?_
  refine op_extract rfl rfl rfl ?_
  refine op_assign rfl (.pointer _) rfl ?_
  refine op_assign rfl (.slice _ _ _) rfl ?_
  refine op_assign rfl (.int _ _) rfl ?_
  refine op_nil (at_then ?_)
  refine W_rseq ?_
  refine op_move rfl (.pointer _) rfl ?_
  refine op_call rfl ca_31_JoP (mark_nil _) rfl ?_
  rintro v w ⟨rfl, rfl⟩
  refine op_move rfl (.tuple _) rfl ?_
  refine op_extract rfl rfl rfl ?_
  refine op_extract rfl rfl rfl ?_
  refine op_assign rfl (.int _ _) rfl ?_
  refine op_assign rfl (.int _ _) rfl ?_
  refine op_nil (at_then ?_)
  refine W_seq ?_
  refine W_rseq ?_
  refine op_move rfl (.pointer _) rfl ?_
  refine op_neqptr rfl un_57_JoP rfl ?_
  refine op_move rfl (.bool _) rfl ?_
  refine op_move rfl (.slice _ _ _) rfl ?_
  refine op_len rfl el_58 rfl ?_
  refine op_neq rfl rfl rfl ?_
  refine op_pick0 rfl rfl (.bool _) rfl ?_
  refine op_move rfl (.bool _) rfl ?_
  refine op_move rfl (.int _ _) rfl ?_
  refine op_neq rfl rfl rfl ?_
  refine op_pick0 rfl rfl (.bool _) rfl ?_
  refine op_move rfl (.bool _) rfl ?_
  refine op_move rfl (.pointer _) rfl ?_
  refine op_call rfl ca_32_JoP (append_nil _ _) rfl ?_
  rintro v w ⟨rfl, rfl⟩
  refine op_neq rfl rfl rfl ?_
  refine op_pick0 rfl rfl (.bool _) rfl ?_
  refine op_move rfl (.bool _) rfl ?_
  refine op_move rfl (.pointer _) rfl ?_
  refine op_call rfl ca_33_JoP (jforget_nil _) rfl ?_
  rintro v w ⟨rfl, rfl⟩
  refine op_neq rfl rfl rfl ?_
  refine op_pick0 rfl rfl (.bool _) rfl ?_
  refine op_move rfl (.bool _) rfl ?_
  refine op_move rfl (.int _ _) rfl ?_
  refine op_neq rfl rfl rfl ?_
  refine op_pick0 rfl rfl (.bool _) rfl ?_
  refine op_move rfl (.bool _) rfl ?_
  refine op_move rfl (.int _ _) rfl ?_
  refine op_neq rfl rfl rfl ?_
  refine op_pick0 rfl rfl (.bool _) rfl ?_
  refine op_move rfl (.bool _) rfl ?_
  refine op_move rfl (.pointer _) rfl ?_
  refine op_call rfl ca_34_JoP (free_nil _) rfl ?_
  rintro v w ⟨rfl, rfl⟩
  refine op_neq rfl rfl rfl ?_
  refine op_pick0 rfl rfl (.bool _) rfl ?_
  refine op_nil (at_then ?_)
  refine W_cond0 rfl ?_
  refine W_skip (at_then ?_)
  refine W_rseq ?_
  refine op_move rfl (.int _ _) rfl ?_
  refine op_gtr rfl rfl rfl ?_
  refine op_move rfl (.bool _) rfl ?_
  refine Wops_split 126 rfl ?_ ?_
  · intro h1
    replace h1 := dec_t h1
    refine op_skip rfl ?_
    refine op_skip rfl ?_
    refine op_skip rfl ?_
    refine op_skip rfl ?_
    refine op_skip rfl ?_
    refine op_pick1 rfl rfl (.bool _) rfl ?_
    refine op_move rfl (.bool _) rfl ?_
    refine op_pick1 rfl rfl (.bool _) rfl ?_
    refine op_move rfl (.bool _) rfl ?_
    refine op_call rfl ca_37_JoP (works5_ok _) rfl ?_
    rintro v w ⟨rfl, hxw⟩
    refine op_pick1 rfl rfl (.bool _) rfl ?_
    refine op_assign rfl (.bool _) rfl ?_
    refine op_nil (at_then ?_)
    refine W_ret (leave1 (v := (.bool _)) rfl rfl rfl ?_)
    exact ⟨rfl, O.ext.trans hxw⟩
  · intro h1
    replace h1 := dec_f h1
    refine op_move rfl (.int _ _) rfl ?_
    refine op_call rfl ca_35_JoP (jblocks_ok k (by omega) _) rfl ?_
    rintro v w ⟨rfl, rfl⟩
    refine op_move rfl (.int _ _) rfl ?_
    refine op_call rfl ca_36_JoP (rblocks_ok k (by omega) _) rfl ?_
    rintro v w ⟨rfl, rfl⟩
    refine op_eql rfl rfl rfl ?_
    rw [show decide (blkI k = blkI k) = true from decide_eq_true rfl]
    refine op_pick0 rfl rfl (.bool _) rfl ?_
    refine op_move rfl (.bool _) rfl ?_
    refine op_pick1 rfl rfl (.bool _) rfl ?_
    refine op_move rfl (.bool _) rfl ?_
    refine op_call rfl ca_37_JoP (works5_ok _) rfl ?_
    rintro v w ⟨rfl, hxw⟩
    refine op_pick1 rfl rfl (.bool _) rfl ?_
    refine op_assign rfl (.bool _) rfl ?_
    refine op_nil (at_then ?_)
    refine W_ret (leave1 (v := (.bool _)) rfl rfl rfl ?_)
    exact ⟨rfl, O.ext.trans hxw⟩

theorem args_ok (n : Nat) (hn : n ≤ 255) (f z p : Int) (hf : -9223372036854775808 ≤ f ∧ f ≤ 9223372036854775807) (hz : -9223372036854775808 ≤ z ∧ z ≤ 9223372036854775807) (_hp : -9223372036854775808 ≤ p ∧ p ≤ 9223372036854775807) (q : Nat) (_hq : q ≤ 18446744073709551615) (k : Int) (hk : -9223372036854775808 ≤ k ∧ k ≤ 9223372036854775807) (w : World) :
    Ret Tryd.prog 7 #[.int .u8 (n : Int), .int .i64 f, .int .i64 z, .int .i64 p, .int .u64 (q : Int), .int .i64 k] w fun v w' => v = .bool true ∧ Ext [] w w' := by
  cases hr : rightJ ((1 + n % 60 : Nat) : Int) f z p q with
  | true => exact args_right n hn f z p hf hz _hp q _hq k hk hr w
  | false => exact args_wrong n hn f z p hf hz _hp q _hq k hk hr w

end Go.Proofs.YtkmbcpgnafmnpaaDoor

/- The rows of this seat: the world of the witnesses, in which the laid tables lie. -/
namespace Go.Proofs.YtkmbcpgnafmnpaaDoor
open Go.GV Go.ChangeShapes Go.WideShapes Go.ChangeAt Go.RowKit

theorem own : ownKnob Tryd.prog.godebug = none := by kernel_rfl
theorem laidOut : laidOutB Tryd.prog = true := by kernel_rfl

def rangeZ : List Nat := [128, 191, 160, 191, 128, 159, 144, 191, 128, 143] ++ List.replicate 22 0
def layO (l : List Nat) : Obj → Obj
  | .cells _ t frozen => .cells (l.map fun (n : Nat) => Value.int .u8 (n : Int)).toArray t frozen
  | o => o
/-- A world in which the tables lie (blocks 0 and 1). -/
noncomputable def laidWorld (os : Os) : World :=
  { World.holding Tryd.prog os ⟨#[], #[], []⟩ with heap := ((World.holding Tryd.prog os ⟨#[], #[], []⟩).heap.modify 0 (layO Go.Pinned.utf8FirstZ)).modify 1 (layO rangeZ) }

theorem dec_byte {H : Type} {enc : TypeId × Value → H} {w : World} {base : Nat} {spare : Nat → Bool} {held : Bool} : ∀ n cs y, DataW.trod enc Tryd.prog w base spare held n 5 cs = some y → ∃ b : UInt8, cs = B8 b ∧ True := by
  intro n cs y h
  obtain ⟨d, rfl, h1, h2⟩ := dec_int Tryd.underlying5 n cs y h
  have h1 : (0 : Int) ≤ d := h1
  have h2 : d ≤ 255 := h2
  refine ⟨UInt8.ofNat d.toNat, ?_, trivial⟩
  have : (UInt8.ofNat d.toNat).toNat = d.toNat := by simp [UInt8.toNat_ofNat']; omega
  rw [B8, bv, this, Int.toNat_of_nonneg h1]
theorem byteCells : Tryd.prog.cellsOf 5 = 1 := by kernel_rfl

end Go.Proofs.YtkmbcpgnafmnpaaDoor

/- What the form reads of the steps of the laws of roots. -/
namespace Go.Proofs.YtkmbcpgnafmnpaaDoor
open Go.GV Go.ChangeShapes Go.WideShapes Go.ChangeAt Go.RowKit

theorem stepStruct : ∃ fs, Tryd.prog.underlying 47 = some (.struct fs) ∧ (List.range 7).map (fun i => fs[i]?.map fun f => (f.type, f.offset)) = [some (3, 0), some (22, 1), some (23, 2), some (3, 3), some (24, 4), some (5, 5), some (45, 6)] := ⟨_, Tryd.underlying47, by kernel_rfl⟩
theorem stepCells : Tryd.prog.cellsOf 47 = 7 := by kernel_rfl
theorem bytesCells : Tryd.prog.cellsOf 23 = 1 := by kernel_rfl
theorem intsCells : Tryd.prog.cellsOf 45 = 1 := by kernel_rfl
theorem intCells : Tryd.prog.cellsOf 3 = 1 := by kernel_rfl
theorem byteBytes : Tryd.prog.bytesOf 5 = 1 := by kernel_rfl
theorem intBytes : Tryd.prog.bytesOf 3 = 8 := by kernel_rfl

theorem nat_of {k : Int} {m : Nat} (h1 : 0 ≤ k) (h2 : k ≤ m) : ∃ n : Nat, k = n ∧ n ≤ m := ⟨k.toNat, by omega, by omega⟩

set_option maxRecDepth 100000 in
theorem dec_step {H : Type} {enc : TypeId × Value → H} {w : World} {base : Nat} {spare : Nat → Bool} {held : Bool} : ∀ n cs y, DataW.trod enc Tryd.prog w base spare held n 47 cs = some y → Light Tryd.prog 47 y.1 → ∃ d : Stp, cs = d.enc ∧ d.Ok w := by
  intro n cs y h hL
  obtain ⟨fs, ht, hf⟩ := stepStruct
  have hl := trod_slen ht h
  rw [stepCells] at hl
  simp only [List.range, List.range.loop, List.map_cons, List.map_nil, List.cons.injEq, and_true] at hf
  obtain ⟨f0, f1, f2, f3, f4, f5, f6⟩ := hf
  obtain ⟨a, ha, _⟩ := fld_int ht h 0 0 f0 Tryd.underlying3
  obtain ⟨b, hb, b1, b2⟩ := fld_int ht h 1 1 f1 Tryd.underlying22
  obtain ⟨ca, cc, cl, hc, cR, cle, _, cw, _⟩ := fld_slice ht h hL 2 2 f2 Tryd.underlying23 bytesCells byteCells (by decide) (fun n cs y h _ => dec_byte n cs y h)
  obtain ⟨d, hd, d1, d2⟩ := fld_int ht h 3 3 f3 Tryd.underlying3
  obtain ⟨e, he, e1, e2⟩ := fld_int ht h 4 4 f4 Tryd.underlying24
  obtain ⟨f, hf, g1, g2⟩ := fld_int ht h 5 5 f5 Tryd.underlying5
  obtain ⟨ga, gc, gl, hg, gR, gle, _, gw, gi⟩ := fld_slice ht h hL 6 6 f6 Tryd.underlying45 intsCells intCells (by decide) (fun n cs y h _ => dec_int Tryd.underlying3 n cs y h)
  obtain ⟨b, rfl, hb2⟩ := nat_of (m := 18446744073709551615) b1 b2
  obtain ⟨e, rfl, he2⟩ := nat_of (m := 65535) e1 e2
  obtain ⟨f, rfl, hf2⟩ := nat_of (m := 255) g1 g2
  rw [byteBytes] at cw
  rw [intBytes] at gw
  unfold reachBytes at cw gw
  refine ⟨⟨a, b, ca, cc, cl, d, e, UInt8.ofNat f, ga, gc, gl⟩, ?_, ⟨cR, gR, cle, gle, by dsimp only; omega, by dsimp only; omega, by dsimp only; omega, d1, d2, by dsimp only; omega, fun i hi => gi i hi⟩⟩
  have hff : bv (UInt8.ofNat f) = .int .u8 (f : Int) := by
    have h9 : (UInt8.ofNat f).toNat = f := by rw [UInt8.toNat_ofNat']; omega
    rw [bv, h9]
  match cs, hl with
  | [_, _, _, _, _, _, _], _ =>
    simp at ha hb hc hd he hf hg
    simp [Stp.enc, hff, ha, hb, hc, hd, he, hf, hg]

end Go.Proofs.YtkmbcpgnafmnpaaDoor

/- The laws' helpers. -/
namespace Go.Proofs.YtkmbcpgnafmnpaaDoor
open Go.GV
theorem ag_45_JoT : aggB Tryd.prog 45 = some false := by kernel_rfl
theorem ag_68_JoT : aggB Tryd.prog 68 = some false := by kernel_rfl
theorem ca_12_JoT : callable Tryd.prog 12 = true := by kernel_rfl
theorem ca_29_JoT : callable Tryd.prog 29 = true := by kernel_rfl
theorem ca_31_JoT : callable Tryd.prog 31 = true := by kernel_rfl
theorem ca_34_JoT : callable Tryd.prog 34 = true := by kernel_rfl
theorem ca_68_JoT : callable Tryd.prog 68 = true := by kernel_rfl
theorem ca_69_JoT : callable Tryd.prog 69 = true := by kernel_rfl
theorem el_68_JoT : elemT Tryd.prog 68 = some 73 := by kernel_rfl
theorem fo_70_0_JoT : fieldO Tryd.prog 70 0 = some 0 := by kernel_rfl
theorem fo_70_1_JoT : fieldO Tryd.prog 70 1 = some 1 := by kernel_rfl
theorem fo_70_2_JoT : fieldO Tryd.prog 70 2 = some 2 := by kernel_rfl
theorem fo_70_3_JoT : fieldO Tryd.prog 70 3 = some 3 := by kernel_rfl
theorem fo_70_4_JoT : fieldO Tryd.prog 70 4 = some 4 := by kernel_rfl
theorem fo_73_4_JoT : fieldO Tryd.prog 73 4 = some 4 := by kernel_rfl
theorem fo_81_1_JoT : fieldO Tryd.prog 81 1 = some 1 := by kernel_rfl
theorem fo_81_2_JoT : fieldO Tryd.prog 81 2 = some 2 := by kernel_rfl
theorem fo_81_3_JoT : fieldO Tryd.prog 81 3 = some 3 := by kernel_rfl
theorem pl_81_JoT : placesB Tryd.prog 81 = some [(0, 1), (1, 1), (2, 1), (3, 1)] := by kernel_rfl
theorem sz_73_JoT : tsize Tryd.prog 73 = some 5 := by kernel_rfl
theorem un_57_JoT : Tryd.prog.underlying 57 = some (.pointer 108) := by kernel_rfl
theorem zc_81_JoT : zcells Tryd.prog 81 = some ([.slice none 0 0, .int .i64 0, .int .i64 0, .int .u64 0]) := by kernel_rfl
attribute [local irreducible] Wops W Wq Wt

theorem leave4 {P : Program} {e : Env} {w : World} {fn : Func} {R : Value → World → Prop} {t u s q : Tmp} {v1 v2 v3 v4 : Value} (hr : fn.results = #[.tmp t, .tmp u, .tmp s, .tmp q]) (hd : e.ds = []) (h1 : e.g t = v1) (h2 : e.g u = v2) (h3 : e.g s = v3) (h4 : e.g q = v4)
    (h : R (.tuple #[v1, v2, v3, v4]) w) : Qret P fn R .ret e w :=
  ⟨hd, fun tmps ht => by
    have g1 := (ht t).trans h1
    have g2 := (ht u).trans h2
    have g3 := (ht s).trans h3
    have g4 := (ht q).trans h4
    rw [Array.getD_eq_getD_getElem?] at g1 g2 g3 g4
    exact ⟨_, by simp [results, hr, g1, g2, g3, g4], h⟩⟩

structure Sj where
  op : Int
  n : Nat
  c : UInt8
  off : Bool
  pa : Option Addr
  pc : Nat
  picks : List Int
def Sj.enc (x : Sj) : List Value := [.int .i64 x.op, .int .u16 (x.n : Int), bv x.c, .bool x.off, .slice x.pa x.picks.length x.pc]
structure Sj.Ok (w : World) (x : Sj) : Prop where
  rp : Rd w x.pa 1 I64 x.picks
  cp : x.picks.length ≤ x.pc
  mp : x.picks.length ≤ 140737488351232
  n : x.n < 65536
  picks : ∀ i ∈ x.picks, -9223372036854775808 ≤ i ∧ i ≤ 9223372036854775807
structure Cs where
  frm : Nat
  size : Nat
  at' : Nat
  seq : Nat
  la : Option Addr
  lc : Nat
  l : List Sj
def Cs.enc (x : Cs) : List Value := [.int .u8 (x.frm : Int), .int .u8 (x.size : Int), .int .u8 (x.at' : Int), .int .u64 (x.seq : Int), .slice x.la x.l.length x.lc]
structure Cs.Ok (w : World) (x : Cs) : Prop where
  rl : Rd w x.la 5 Sj.enc x.l
  steps : ∀ s ∈ x.l, s.Ok w
  ml : x.l.length ≤ 9223372036854775807
  frm : x.frm ≤ 255
  size : x.size ≤ 255
  at' : x.at' ≤ 255
  seq : x.seq ≤ 18446744073709551615
def Cs.few (x : Cs) : Bool := bif decide (60 < x.l.length) || decide (2305843009213693952 < x.seq) then false else x.l.all fun s => decide (s.picks.length ≤ 100)
def Cs.f (x : Cs) : Nat := x.frm % 5
def Cs.z (x : Cs) : Nat := 2 + x.size % 30
def Cs.p (x : Cs) : Nat := x.at' % x.z
def Cs.R (x : Cs) : Rj := ⟨[], x.z, x.p, x.seq + 1⟩
theorem Cs.few_true {x : Cs} (h : x.few = true) : x.l.length ≤ 60 ∧ x.seq ≤ 2305843009213693952 ∧ ∀ s ∈ x.l, s.picks.length ≤ 100 := by
  unfold Cs.few at h
  cases hc : decide (60 < x.l.length) || decide (2305843009213693952 < x.seq) with
  | true => rw [hc] at h; cases h
  | false =>
    rw [hc] at h
    simp only [Bool.or_eq_false_iff, decide_eq_false_iff_not] at hc
    exact ⟨by omega, by omega, fun s hs => of_decide_eq_true (List.all_eq_true.1 h s hs)⟩

set_option maxRecDepth 20000 in
set_option maxHeartbeats 1000000 in
theorem few_ok (x : Cs) (w : World) (hx : x.Ok w) : Ret Tryd.prog 38 #[.agg x.enc.toArray] w fun v w' => v = .bool x.few ∧ Ext [] w w' := by
  obtain ⟨w0, rfl⟩ : ∃ w0, w0 = w := ⟨_, rfl⟩
  have H := Ctx.start w0 []
  have R := hx.rl
  have hml := hx.ml
  refine ret_of_W (fn := Tryd.f38) Tryd.func38 rfl [.agg x.enc.toArray] rfl (by kernel_rfl) ?_
  refine W_rseq ?_
  refine op_box rfl x.enc (.agg _) rfl rfl H ?_
  rintro b1 w - H
  refine op_assign rfl (.bool _) rfl ?_
  refine op_nil (at_then ?_)
  refine W_seq ?_
  refine W_rseq (Wops_join (α := Unit) 8176 (fun _ => [(12, .bool (decide (60 < x.l.length) || decide (2305843009213693952 < x.seq)))]) (fun _ w' => Ctx w0 [] w' [(b1, Bl 70 x.enc)]) rfl ?_ ?_)
  · refine op_fieldAddr rfl fo_70_4_JoT rfl ?_
    refine op_ldb rfl ag_68_JoT rfl H (by first | exact at0 | exact at1 | exact at2 | exact at3 | exact at4 | exact at5 | exact at6 | exact at7 | exact at8 | exact at9) rfl ?_
    refine op_len rfl el_68_JoT rfl ?_
    refine op_gtr rfl rfl rfl ?_
    refine op_move rfl (.bool _) rfl ?_
    refine Wops_split 8 rfl ?_ ?_
    · intro h1
      replace h1 := dec_t h1
      refine op_skip rfl ?_
      refine op_skip rfl ?_
      refine op_skip rfl ?_
      refine op_pick1 rfl rfl (.bool _) rfl ?_
      refine op_nil ?_
      exact ⟨rfl, (), rfl, ⟨congrArg Value.bool (by rw [Bool.eq_iff_iff]; simp_all; try omega), trivial⟩, H⟩
    · intro h2
      replace h2 := dec_f h2
      refine op_fieldAddr rfl fo_70_3_JoT rfl ?_
      refine op_ldb rfl ag_22 rfl H (by first | exact at0 | exact at1 | exact at2 | exact at3 | exact at4 | exact at5 | exact at6 | exact at7 | exact at8 | exact at9) rfl ?_
      refine op_gtr rfl rfl rfl ?_
      refine op_pick0 rfl rfl (.bool _) rfl ?_
      refine op_nil ?_
      exact ⟨rfl, (), rfl, ⟨congrArg Value.bool (by rw [Bool.eq_iff_iff]; simp_all; try omega), trivial⟩, H⟩
  rintro - j12 w H
  refine W_cond _ rfl ?_ ?_
  · intro h1
    refine W_rseq ?_
    refine op_assign rfl (.bool _) rfl ?_
    refine op_nil (at_then ?_)
    refine W_ret (ret_then (leave1 (v := (.bool _)) rfl rfl rfl ?_))
    exact ⟨by rw [Cs.few, h1]; rfl, H.ext⟩
  · intro h1
    have hfw : x.few = x.l.all fun s => decide (s.picks.length ≤ 100) := by rw [Cs.few, h1]; rfl
    refine W_skip (at_then ?_)
    refine W_seq ?_
    refine W_rseq ?_
    refine op_assign rfl (.int _ _) rfl ?_
    refine op_nil (at_then ?_)
    refine W_block ?_
    refine W_loop 268427276 (α := Nat) (fun i => [(3, .int .i64 (i : Int))]) (fun i w' => i ≤ x.l.length ∧ Ctx w0 [] w' [(b1, Bl 70 x.enc)] ∧ ((x.l.take i).all fun s => decide (s.picks.length ≤ 100)) = true) (fun i => x.l.length - i) 0 rfl ?_ ?_ ?_
    · exact ⟨rfl, trivial⟩
    · exact ⟨Nat.zero_le _, H, rfl⟩
    · rintro i j w ⟨hi, H, hall⟩
      refine W_seq ?_
      refine W_rseq ?_
      refine op_move rfl (.int _ _) rfl ?_
      refine op_fieldAddr rfl fo_70_4_JoT rfl ?_
      refine op_ldb rfl ag_68_JoT rfl H (by first | exact at0 | exact at1 | exact at2 | exact at3 | exact at4 | exact at5 | exact at6 | exact at7 | exact at8 | exact at9) rfl ?_
      refine op_len rfl el_68_JoT rfl ?_
      refine op_lss rfl rfl rfl ?_
      refine op_nil (at_then ?_)
      refine W_cond _ rfl ?_ ?_
      · intro h2
        replace h2 := dec_t h2
        obtain ⟨s, hs⟩ := get_some (l := x.l) (i := i) (by omega)
        refine W_skip (at_then ?_)
        refine W_seq ?_
        refine W_block ?_
        refine W_rseq ?_
        refine op_fieldAddr rfl fo_70_4_JoT rfl ?_
        first | refine op_ldb rfl ag_68_JoT rfl H (by first | exact at0 | exact at1 | exact at2 | exact at3 | exact at4 | exact at5 | exact at6 | exact at7 | exact at8 | exact at9) rfl ?_ | refine op_ld rfl ag_68_JoT rfl ((R.ext0 H.ext).fld hs rfl (j := 4) rfl) ?_
        refine op_move rfl (.int _ _) rfl ?_
        first | refine op_indexRd R rfl el_68_JoT sz_73_JoT rfl rfl (by omega) (by omega) (by first | rfl | omega) ?_ | refine op_indexAddr rfl el_68_JoT sz_73_JoT rfl rfl (by omega) (by omega) ?_
        refine op_fieldAddr rfl fo_73_4_JoT rfl ?_
        first | refine op_ldb rfl ag_45_JoT rfl H (by first | exact at0 | exact at1 | exact at2 | exact at3 | exact at4 | exact at5 | exact at6 | exact at7 | exact at8 | exact at9) rfl ?_ | refine op_ld rfl ag_45_JoT rfl ((R.ext0 H.ext).fld hs rfl (j := 4) rfl) ?_
        refine op_len rfl el_45 rfl ?_
        refine op_gtr rfl rfl rfl ?_
        refine op_nil (at_then ?_)
        refine W_cond _ rfl ?_ ?_
        · intro h3
          replace h3 := dec_t h3
          have hn : (x.l.all fun s => decide (s.picks.length ≤ 100)) = false := by
            rw [List.all_eq_false]
            exact ⟨s, List.mem_of_getElem? hs, by rw [decide_eq_false (by omega)]; simp⟩
          refine W_rseq ?_
          refine op_assign rfl (.bool _) rfl ?_
          refine op_nil (at_then ?_)
          refine W_ret (ret_block (ret_then (ret_then (ret_block (ret_then (leave1 (v := (.bool _)) rfl rfl rfl ?_))))))
          exact ⟨by rw [hfw, hn], H.ext⟩
        · intro h3
          replace h3 := dec_f h3
          refine W_skip (at_block (at_then ?_))
          refine W_region ?_
          refine op_move rfl (.int _ _) rfl ?_
          refine op_add_i64 rfl rfl rfl (by omega) (by omega) ?_
          refine op_assign rfl (.int _ _) rfl ?_
          refine op_nil (at_then ?_)
          exact ⟨i + 1, rfl, ⟨rfl, trivial⟩, ⟨by omega, H, by rw [take_snoc hs, List.all_append, hall]; simp; omega⟩, by omega⟩
      · intro h2
        replace h2 := dec_f h2
        have hii : i = x.l.length := by omega
        subst hii
        rw [List.take_length] at hall
        refine W_exit (exit_then (exit_then (exit_here (at_then ?_))))
        refine W_rseq ?_
        refine op_assign rfl (.bool _) rfl ?_
        refine op_nil (at_then ?_)
        refine W_ret (leave1 (v := (.bool _)) rfl rfl rfl ?_)
        exact ⟨by rw [hfw, hall], H.ext⟩

theorem Own.from {w0 w1 w : World} {bd : Nat} {A : Dev} {F : Nat → Prop} (hx : Ext [] w0 w1) (O : Own w1 w bd A F) : Own w0 w bd A F :=
  ⟨hx.trans O.ext, O.dev, fun y h => by have := O.own y h; have := hx.size; omega⟩
theorem Cs.rok {x : Cs} (hq : x.seq ≤ 2305843009213693952) : x.R.Ok := by
  have h1 : x.z ≤ 31 := by unfold Cs.z; omega
  have h2 : 2 ≤ x.z := by unfold Cs.z; omega
  exact ⟨h2, by show x.z ≤ 4096; omega, Nat.mod_lt _ (by omega), by show x.seq + 1 ≤ _; omega, Nat.zero_le _⟩

set_option maxRecDepth 20000 in
set_option maxHeartbeats 2000000 in
theorem begin_ok (x : Cs) (w : World) (hx : x.Ok w) (hq : x.seq ≤ 2305843009213693952) :
    Ret Tryd.prog 40 #[.agg x.enc.toArray] w fun v w' => ∃ bd bj br F G, v = .tuple #[ptr bd, ptr bj, ptr br, .bool true] ∧ Jtwo w w' bd bj br (newD (x.f + x.z)) (jrK x.f x.R []) x.R F G ∧ Good (x.f + x.z) x.f (newD (x.f + x.z)) x.R := by
  obtain ⟨w0, rfl⟩ : ∃ w0, w0 = w := ⟨_, rfl⟩
  have H := Ctx.start w0 []
  have g : Good (x.f + x.z) x.f (newD (x.f + x.z)) x.R := Good.new (Cs.rok hq) rfl (Nat.le_refl _) (by unfold Cs.f Cs.z; omega)
  have hz : x.z = 2 + x.size % 30 := rfl
  have hf : x.f = x.frm % 5 := rfl
  have hp : x.p = x.at' % x.z := rfl
  have h1 := hx.frm; have h2 := hx.size; have h3 := hx.at'
  have hpl := Nat.mod_lt x.at' (show 0 < x.z by omega)
  refine ret_of_W (fn := Tryd.f40) Tryd.func40 rfl [.agg x.enc.toArray] rfl (by kernel_rfl) ?_
  refine W_rseq ?_
  refine op_box rfl x.enc (.agg _) rfl rfl H ?_
  rintro b1 w - H
  refine op_assign rfl (.pointer _) rfl ?_
  refine op_assign rfl (.pointer _) rfl ?_
  refine op_assign rfl (.pointer _) rfl ?_
  refine op_assign rfl (.bool _) rfl ?_
  refine op_nil (at_then ?_)
  refine W_rseq ?_
  refine op_fieldAddr rfl fo_70_0_JoT rfl ?_
  refine op_ldb rfl ag_5 rfl H (by first | exact at0 | exact at1 | exact at2 | exact at3 | exact at4 | exact at5 | exact at6 | exact at7 | exact at8 | exact at9) rfl ?_
  refine op_conv_i64 rfl rfl un_5 un_3 (by omega) (by omega) ?_
  refine op_rem rfl rfl rfl (by omega) (by omega) ?_
  rw [show (x.frm : Int) % 5 = (x.f : Int) by omega]
  refine op_assign rfl (.int _ _) rfl ?_
  refine op_nil (at_then ?_)
  refine W_rseq ?_
  refine op_fieldAddr rfl fo_70_1_JoT rfl ?_
  refine op_ldb rfl ag_5 rfl H (by first | exact at0 | exact at1 | exact at2 | exact at3 | exact at4 | exact at5 | exact at6 | exact at7 | exact at8 | exact at9) rfl ?_
  refine op_conv_i64 rfl rfl un_5 un_3 (by omega) (by omega) ?_
  refine op_rem rfl rfl rfl (by omega) (by omega) ?_
  refine op_add_i64 rfl rfl rfl (by omega) (by omega) ?_
  rw [show (2 : Int) + (x.size : Int) % 30 = (x.z : Int) by omega]
  refine op_assign rfl (.int _ _) rfl ?_
  refine op_nil (at_then ?_)
  refine W_rseq ?_
  refine op_fieldAddr rfl fo_70_2_JoT rfl ?_
  refine op_ldb rfl ag_5 rfl H (by first | exact at0 | exact at1 | exact at2 | exact at3 | exact at4 | exact at5 | exact at6 | exact at7 | exact at8 | exact at9) rfl ?_
  refine op_conv_i64 rfl rfl un_5 un_3 (by omega) (by omega) ?_
  refine op_move rfl (.int _ _) rfl ?_
  refine op_rem rfl rfl rfl (by omega) (by omega) ?_
  rw [show (x.at' : Int) % (x.z : Int) = (x.p : Int) by rw [hp, Int.natCast_emod]]
  refine op_assign rfl (.int _ _) rfl ?_
  refine op_nil (at_then ?_)
  refine W_rseq ?_
  refine op_move rfl (.int _ _) rfl ?_
  refine op_move rfl (.int _ _) rfl ?_
  refine op_add_i64 rfl rfl rfl (by omega) (by omega) ?_
  rw [show (x.f : Int) + (x.z : Int) = ((x.f + x.z : Nat) : Int) by omega]
  refine op_call rfl ca_12_JoT (own_new (n := ((x.f + x.z : Nat) : Int)) (by omega) (by omega) _) rfl ?_
  rintro v w ⟨bd, F, rfl, O⟩
  rw [Int.toNat_natCast] at O
  have hxe := H.ext
  replace H := H.call O.ext
  replace O := Own.from hxe O
  refine op_move rfl (.tuple _) rfl ?_
  refine op_extract rfl rfl rfl ?_
  refine op_extract rfl rfl rfl ?_
  refine op_assign rfl (.pointer _) rfl ?_
  refine op_assign rfl (.int _ _) rfl ?_
  refine op_nil (at_then ?_)
  refine W_rseq ?_
  refine op_move rfl (.pointer _) rfl ?_
  refine op_move rfl (.int _ _) rfl ?_
  refine op_move rfl (.int _ _) rfl ?_
  refine op_move rfl (.int _ _) rfl ?_
  refine op_fieldAddr rfl fo_70_3_JoT rfl ?_
  refine op_ldb rfl ag_22 rfl H (by first | exact at0 | exact at1 | exact at2 | exact at3 | exact at4 | exact at5 | exact at6 | exact at7 | exact at8 | exact at9) rfl ?_
  refine op_add_u64 rfl rfl rfl (by omega) (by omega) ?_
  rw [show (x.seq : Int) + 1 = ((x.seq + 1 : Nat) : Int) by omega]
  refine op_call rfl ca_29_JoT (jone_reopen (frm := x.f) (R := x.R) O g (by show 1 ≤ x.seq + 1; omega) (by show x.seq + 1 ≤ _; omega)) rfl ?_
  rintro v w ⟨bj, a44, n44, c44, rfl, hx44, -, O, S⟩
  obtain rfl : n44 = 0 := S.num
  replace H := H.call hx44
  refine op_move rfl (.tuple _) rfl ?_
  refine op_extract rfl rfl rfl ?_
  refine op_extract rfl rfl rfl ?_
  refine op_extract rfl rfl rfl ?_
  refine op_assign rfl (.pointer _) rfl ?_
  refine op_assign rfl (.slice _ _ _) rfl ?_
  refine op_assign rfl (.int _ _) rfl ?_
  refine op_nil (at_then ?_)
  refine W_rseq ?_
  refine op_move rfl (.int _ _) rfl ?_
  refine op_move rfl (.int _ _) rfl ?_
  refine op_fieldAddr rfl fo_70_3_JoT rfl ?_
  refine op_ldb rfl ag_22 rfl H (by first | exact at0 | exact at1 | exact at2 | exact at3 | exact at4 | exact at5 | exact at6 | exact at7 | exact at8 | exact at9) rfl ?_
  refine op_add_u64 rfl rfl rfl (by omega) (by omega) ?_
  rw [show (x.seq : Int) + 1 = ((x.seq + 1 : Nat) : Int) by omega]
  refine op_buildS [.slice none 0 0, .int .i64 (x.z : Int), .int .i64 (x.p : Int), .int .u64 ((x.seq + 1 : Nat) : Int)] rfl pl_81_JoT zc_81_JoT (by kernel_rfl) ?_
  have H := Ctx.start w []
  refine op_box rfl [.slice none 0 0, .int .i64 (x.z : Int), .int .i64 (x.p : Int), .int .u64 ((x.seq + 1 : Nat) : Int)] (.agg _) rfl rfl H ?_
  rintro b54 w - H
  have hlt54 := (fun y hy => (O.at y hy).2)
  have hsz54 := O.own.ext.size
  have hge54 := (H.own _ (List.mem_cons_self ..)).elim (fun h => (by cases h)) id
  replace O := O.call H.ext
  refine op_assign rfl (.pointer _) rfl ?_
  refine op_nil (at_then ?_)
  refine W_rseq ?_
  refine op_move rfl (.pointer _) rfl ?_
  refine op_move rfl (.pointer _) rfl ?_
  refine op_move rfl (.pointer _) rfl ?_
  refine op_move rfl (.int _ _) rfl ?_
  refine op_eql rfl rfl rfl ?_
  refine op_move rfl (.bool _) rfl ?_
  refine op_move rfl (.int _ _) rfl ?_
  refine op_eql rfl rfl rfl ?_
  refine op_pick1 rfl rfl (.bool _) rfl ?_
  refine op_move rfl (.bool _) rfl ?_
  refine op_move rfl (.pointer _) rfl ?_
  refine op_neqptr rfl un_57_JoT rfl ?_
  refine op_pick1 rfl rfl (.bool _) rfl ?_
  refine op_move rfl (.bool _) rfl ?_
  refine op_move rfl (.slice _ _ _) rfl ?_
  refine op_len rfl el_58 rfl ?_
  refine op_eql rfl rfl rfl ?_
  refine op_pick1 rfl rfl (.bool _) rfl ?_
  refine op_assign rfl (.pointer _) rfl ?_
  refine op_assign rfl (.pointer _) rfl ?_
  refine op_assign rfl (.pointer _) rfl ?_
  refine op_assign rfl (.bool _) rfl ?_
  refine op_nil (at_then ?_)
  refine W_ret (leave4 (v1 := (.pointer _)) (v2 := (.pointer _)) (v3 := (.pointer _)) (v4 := (.bool _)) rfl rfl rfl rfl rfl rfl ?_)
  have hsz := O.own.ext.size
  have h54 := H.lt (k := 0) rfl
  refine ⟨bd, bj, b54, F, fun y => y = b54, rfl, ⟨O, ⟨none, 0, [], [], ⟨H.get at0, OS.nil, fun y hy => (by cases hy), rfl, fun y hy => (by cases hy), fun y hy => (by cases hy), fun y hy => (by cases hy)⟩, rfl, fun y hy => (by cases hy), fun y hy => (by cases hy)⟩, fun y hy => ?_, fun y hy he => ?_⟩, g⟩
  · subst hy
    have := (O.at bj (.inr rfl)).1
    exact ⟨by dsimp only at hge54; omega, h54⟩
  · subst he
    have := hlt54 y hy
    dsimp only at hge54
    omega

set_option maxRecDepth 20000 in
set_option maxHeartbeats 2000000 in
theorem again_ok {w0 w : World} {bd br : Nat} {A : Dev} {R : Rj} {F G : Nat → Prop} {N : Nat} (x : Cs) (hx : x.frm ≤ 255) (O : Own w0 w bd A F) (h : RjAt w br R G) (g : Good N x.f A R) (h1 : 1 ≤ R.seq) (h2 : R.seq ≤ 4611686018427387904) :
    Ret Tryd.prog 43 #[ptr bd, .agg x.enc.toArray, ptr br] w fun v w' => ∃ bj a n c, v = .tuple #[ptr bj, .slice a n c, .int .i64 0] ∧ Ext [] w w' ∧ w.heap.size ≤ bj ∧ Jone w0 w' bd bj A (jrK x.f R R.L) F ∧ Strs w' a n c R.L := by
  obtain ⟨w1, rfl⟩ : ∃ w1, w1 = w := ⟨_, rfl⟩
  have H := Ctx.start w1 []
  have hf : x.f = x.frm % 5 := rfl
  obtain ⟨ar, cr, xr, hb, -, -, -, -⟩ := h.hd
  refine ret_of_W (fn := Tryd.f43) Tryd.func43 rfl [.pointer (some ⟨bd, 0, none⟩), .agg x.enc.toArray, .pointer (some ⟨br, 0, none⟩)] rfl (by kernel_rfl) ?_
  refine W_rseq ?_
  refine op_box rfl x.enc (.agg _) rfl rfl H ?_
  rintro b4 w - H
  refine op_assign rfl (.pointer _) rfl ?_
  refine op_assign rfl (.slice _ _ _) rfl ?_
  refine op_assign rfl (.int _ _) rfl ?_
  refine op_nil (at_then ?_)
  have hb1 : w.heap[br]? = some (Bl T5 (RjB ar R.L.length cr R)) := by rw [H.ext.block br (heap_lt hb) (by simp)]; exact hb
  have hb4 := H.get at0
  have hx0 := H.ext
  have hsz0 := hx0.size
  refine W_sseqz [([0, 1, 2, 3, 4, 5, 6, 7, 8, 9, 10, 11, 12, 13, 14, 15, 16], 17), ([18, 19, 20, 21, 22], 23)] (fun z => z.heap[b4]? = some (Bl 70 x.enc) ∧ z.heap[br]? = some (Bl T5 (RjB ar R.L.length cr R))) [] mixed (by kernel_rfl) (⟨hb4, hb1⟩) ?_
  refine seg_cons rfl rfl ?_
  refine t_move rfl (.pointer _) rfl ?_
  refine t_fieldAddr rfl fo_70_0_JoT rfl ?_
  first | refine t_ldb rfl ag_5 rfl (fun _ _ => Ctx.start _ []) (by first | exact at0 | exact at1 | exact at2 | exact at3 | exact at4 | exact at5 | exact at6 | exact at7 | exact at8 | exact at9) rfl ?_ | refine t_ld rfl ag_5 rfl (fun _ hx => cell_bl hx.1 (0 + 0)) ?_ | refine t_ld rfl ag_5 rfl (fun _ hx => cell_bl hx.2 (0 + 1)) ?_ | refine t_ld rfl ag_5 rfl (fun _ hx => cell_bl hx.2 (0 + 2)) ?_ | refine t_ld rfl ag_5 rfl (fun _ hx => cell_bl hx.2 (0 + 3)) ?_
  refine t_conv_i64 rfl rfl un_5 un_3 (by omega) (by omega) ?_
  refine t_rem rfl rfl rfl (by omega) (by omega) ?_
  rw [show (x.frm : Int) % 5 = (x.f : Int) by omega]
  refine t_move rfl (.pointer _) rfl ?_
  refine t_nilCheck rfl rfl ?_
  refine t_fieldAddr rfl fo_81_1_JoT rfl ?_
  first | refine t_ldb rfl ag_3 rfl (fun _ _ => Ctx.start _ []) (by first | exact at0 | exact at1 | exact at2 | exact at3 | exact at4 | exact at5 | exact at6 | exact at7 | exact at8 | exact at9) rfl ?_ | refine t_ld rfl ag_3 rfl (fun _ hx => cell_bl hx.1 (0 + 0)) ?_ | refine t_ld rfl ag_3 rfl (fun _ hx => cell_bl hx.2 (0 + 1)) ?_ | refine t_ld rfl ag_3 rfl (fun _ hx => cell_bl hx.2 (0 + 2)) ?_ | refine t_ld rfl ag_3 rfl (fun _ hx => cell_bl hx.2 (0 + 3)) ?_
  refine t_move rfl (.pointer _) rfl ?_
  refine t_nilCheck rfl rfl ?_
  refine t_fieldAddr rfl fo_81_2_JoT rfl ?_
  first | refine t_ldb rfl ag_3 rfl (fun _ _ => Ctx.start _ []) (by first | exact at0 | exact at1 | exact at2 | exact at3 | exact at4 | exact at5 | exact at6 | exact at7 | exact at8 | exact at9) rfl ?_ | refine t_ld rfl ag_3 rfl (fun _ hx => cell_bl hx.1 (0 + 0)) ?_ | refine t_ld rfl ag_3 rfl (fun _ hx => cell_bl hx.2 (0 + 1)) ?_ | refine t_ld rfl ag_3 rfl (fun _ hx => cell_bl hx.2 (0 + 2)) ?_ | refine t_ld rfl ag_3 rfl (fun _ hx => cell_bl hx.2 (0 + 3)) ?_
  refine t_move rfl (.pointer _) rfl ?_
  refine t_nilCheck rfl rfl ?_
  refine t_fieldAddr rfl fo_81_3_JoT rfl ?_
  first | refine t_ldb rfl ag_22 rfl (fun _ _ => Ctx.start _ []) (by first | exact at0 | exact at1 | exact at2 | exact at3 | exact at4 | exact at5 | exact at6 | exact at7 | exact at8 | exact at9) rfl ?_ | refine t_ld rfl ag_22 rfl (fun _ hx => cell_bl hx.1 (0 + 0)) ?_ | refine t_ld rfl ag_22 rfl (fun _ hx => cell_bl hx.2 (0 + 1)) ?_ | refine t_ld rfl ag_22 rfl (fun _ hx => cell_bl hx.2 (0 + 2)) ?_ | refine t_ld rfl ag_22 rfl (fun _ hx => cell_bl hx.2 (0 + 3)) ?_
  refine t_nil ?_
  skip
  refine op_call rfl ca_29_JoT (jone_reopen (frm := x.f) (R := R) ((O.call hx0).call (Ext.drew [] w)) g h1 h2) rfl ?_
  rintro v w2 ⟨bj, a26, n26, c26, rfl, hx26, hge, O, S⟩
  have hS2 := (show w2.heap[b4]? = some (Bl 70 x.enc) ∧ w2.heap[br]? = some (Bl T5 (RjB ar R.L.length cr R)) from ⟨by rw [hx26.block b4 (heap_lt (show (World.drew w).heap[b4]? = _ from hb4)) (by simp)]; exact hb4, by rw [hx26.block br (heap_lt (show (World.drew w).heap[br]? = _ from hb1)) (by simp)]; exact hb1⟩)
  refine op_nil (at_seg (hS2) ?_)
  refine seg_cons rfl rfl ?_
  refine t_extract rfl rfl rfl ?_
  refine t_extract rfl rfl rfl ?_
  refine t_extract rfl rfl rfl ?_
  refine t_assign rfl (.pointer _) rfl ?_
  refine t_assign rfl (.slice _ _ _) rfl ?_
  refine t_nil ?_
  refine op_assign rfl (.int _ _) rfl ?_
  refine op_nil (at_seg (hS2) ?_)
  refine seg_nil ?_
  refine W_ret (leave3 (v1 := (.pointer _)) (v2 := (.slice _ _ _)) (v3 := (.int _ _)) rfl rfl rfl rfl rfl ?_)
  exact ⟨bj, a26, n26, c26, rfl, (hx0.trans (Ext.drew [] w)).trans hx26, Nat.le_trans hsz0 hge, O, S⟩

set_option maxRecDepth 20000 in
theorem alike_ok {w0 w : World} {bd bj br : Nat} {A : Dev} {R : Rj} {F G : Nat → Prop} {N frm : Nat} (T : Jtwo w0 w bd bj br A (jrK frm R R.L) R F G) (g : Good N frm A R) :
    Ret Tryd.prog 45 #[ptr bj, ptr br] w fun v w' => v = .bool true ∧ Ext [] w w' := by
  obtain ⟨w1, rfl⟩ : ∃ w1, w1 = w := ⟨_, rfl⟩
  refine ret_of_W (fn := Tryd.f45) Tryd.func45 rfl [.pointer (some ⟨bj, 0, none⟩), .pointer (some ⟨br, 0, none⟩)] rfl (by kernel_rfl) ?_
  refine W_rseq ?_
  refine op_assign rfl (.bool _) rfl ?_
  refine op_nil (at_then ?_)
  refine W_rseq ?_
  refine op_move rfl (.pointer _) rfl ?_
  refine op_call rfl ca_31_JoT (jone_mark T.one) rfl ?_
  rintro v w2 ⟨rfl, hx2⟩
  replace T := T.call hx2
  refine op_move rfl (.tuple _) rfl ?_
  refine op_extract rfl rfl rfl ?_
  refine op_extract rfl rfl rfl ?_
  refine op_assign rfl (.int _ _) rfl ?_
  refine op_assign rfl (.int _ _) rfl ?_
  refine op_nil (at_then ?_)
  refine W_rseq ?_
  refine op_move rfl (.pointer _) rfl ?_
  refine op_call rfl ca_69_JoT (rmark_ok T.ref g.ok) rfl ?_
  rintro v w3 ⟨rfl, hx3⟩
  replace T := T.call hx3
  refine op_move rfl (.tuple _) rfl ?_
  refine op_extract rfl rfl rfl ?_
  refine op_extract rfl rfl rfl ?_
  refine op_assign rfl (.int _ _) rfl ?_
  refine op_assign rfl (.int _ _) rfl ?_
  refine op_nil (at_then ?_)
  refine W_rseq ?_
  refine op_move rfl (.int _ _) rfl ?_
  refine op_move rfl (.int _ _) rfl ?_
  refine op_eql rfl rfl rfl ?_
  rw [show decide ((R.at' : Int) = (R.at' : Int)) = true from decide_eq_true rfl]
  refine op_move rfl (.bool _) rfl ?_
  refine op_move rfl (.int _ _) rfl ?_
  refine op_move rfl (.int _ _) rfl ?_
  refine op_eql rfl rfl rfl ?_
  rw [show decide (((R.seq + R.L.length : Nat) : Int) = ((R.seq + R.L.length : Nat) : Int)) = true from decide_eq_true rfl]
  refine op_pick1 rfl rfl (.bool _) rfl ?_
  refine op_move rfl (.bool _) rfl ?_
  refine op_move rfl (.pointer _) rfl ?_
  refine op_call rfl ca_34_JoT (jone_free T.one g) rfl ?_
  rintro v w4 ⟨rfl, hx4⟩
  replace T := T.call hx4
  refine op_move rfl (.pointer _) rfl ?_
  refine op_call rfl ca_68_JoT (rfree_ok T.ref g.ok) rfl ?_
  rintro v w5 ⟨rfl, hx5⟩
  replace T := T.call hx5
  refine op_eql rfl rfl rfl ?_
  rw [show decide (((R.size - takenL R.L : Nat) : Int) = ((R.size - takenL R.L : Nat) : Int)) = true from decide_eq_true rfl]
  refine op_pick1 rfl rfl (.bool _) rfl ?_
  refine op_assign rfl (.bool _) rfl ?_
  refine op_nil (at_then ?_)
  refine W_ret (leave1 (v := (.bool _)) rfl rfl rfl ?_)
  exact ⟨rfl, ((hx2.trans hx3).trans hx4).trans hx5⟩

end Go.Proofs.YtkmbcpgnafmnpaaDoor

/- JournalPlays: the walk. -/
namespace Go.Proofs.YtkmbcpgnafmnpaaDoor
open Go.GV
theorem ag_24_JoU : aggB Tryd.prog 24 = some false := by kernel_rfl
theorem ag_45_JoU : aggB Tryd.prog 45 = some false := by kernel_rfl
theorem ag_68_JoU : aggB Tryd.prog 68 = some false := by kernel_rfl
theorem ag_70_JoU : aggB Tryd.prog 70 = some true := by kernel_rfl
theorem ag_73_JoU : aggB Tryd.prog 73 = some true := by kernel_rfl
theorem ca_22_JoU : callable Tryd.prog 22 = true := by kernel_rfl
theorem ca_24_JoU : callable Tryd.prog 24 = true := by kernel_rfl
theorem ca_32_JoU : callable Tryd.prog 32 = true := by kernel_rfl
theorem ca_33_JoU : callable Tryd.prog 33 = true := by kernel_rfl
theorem ca_37_JoU : callable Tryd.prog 37 = true := by kernel_rfl
theorem ca_38_JoU : callable Tryd.prog 38 = true := by kernel_rfl
theorem ca_39_JoU : callable Tryd.prog 39 = true := by kernel_rfl
theorem ca_40_JoU : callable Tryd.prog 40 = true := by kernel_rfl
theorem ca_41_JoU : callable Tryd.prog 41 = true := by kernel_rfl
theorem ca_42_JoU : callable Tryd.prog 42 = true := by kernel_rfl
theorem ca_43_JoU : callable Tryd.prog 43 = true := by kernel_rfl
theorem ca_44_JoU : callable Tryd.prog 44 = true := by kernel_rfl
theorem ca_45_JoU : callable Tryd.prog 45 = true := by kernel_rfl
theorem el_68_JoU : elemT Tryd.prog 68 = some 73 := by kernel_rfl
theorem fo_70_4_JoU : fieldO Tryd.prog 70 4 = some 4 := by kernel_rfl
theorem fo_73_0_JoU : fieldO Tryd.prog 73 0 = some 0 := by kernel_rfl
theorem fo_73_1_JoU : fieldO Tryd.prog 73 1 = some 1 := by kernel_rfl
theorem fo_73_2_JoU : fieldO Tryd.prog 73 2 = some 2 := by kernel_rfl
theorem fo_73_3_JoU : fieldO Tryd.prog 73 3 = some 3 := by kernel_rfl
theorem fo_73_4_JoU : fieldO Tryd.prog 73 4 = some 4 := by kernel_rfl
theorem fo_81_0_JoU : fieldO Tryd.prog 81 0 = some 0 := by kernel_rfl
theorem sz_70_JoU : tsize Tryd.prog 70 = some 5 := by kernel_rfl
theorem sz_73_JoU : tsize Tryd.prog 73 = some 5 := by kernel_rfl
theorem un_24_JoU : Tryd.prog.underlying 24 = some (.int .u16) := by kernel_rfl
theorem un_57_JoU : Tryd.prog.underlying 57 = some (.pointer 108) := by kernel_rfl
theorem zc_73_JoU : zcells Tryd.prog 73 = some ([.int .i64 0, .int .u16 0, .int .u8 0, .bool false, .slice none 0 0]) := by kernel_rfl
attribute [local irreducible] Wops W Wq Wt

theorem Sj.Ok.ext0 {w w' : World} {x : Sj} (h : x.Ok w) (hx : Ext [] w w') : x.Ok w' := ⟨h.rp.ext0 hx, h.cp, h.mp, h.n, h.picks⟩
theorem Cs.Ok.ext0 {w w' : World} {x : Cs} (h : x.Ok w) (hx : Ext [] w w') : x.Ok w' := ⟨h.rl.ext0 hx, fun s hs => (h.steps s hs).ext0 hx, h.ml, h.frm, h.size, h.at', h.seq⟩
theorem Sj.one (x : Sj) : ∀ v ∈ x.enc, oneCell v = true := fun v hv => by
  simp only [Sj.enc, List.mem_cons, List.not_mem_nil, or_false] at hv
  rcases hv with rfl | rfl | rfl | rfl | rfl <;> rfl
section
variable {w0 w1 w w' : World} {bd bj bj' br : Nat} {A A' : Dev} {J J' : Jr} {R R' : Rj} {F F' G : Nat → Prop} {N frm : Nat}
theorem Jtwo.from (hx : Ext [] w0 w1) (T : Jtwo w1 w bd bj br A J R F G) : Jtwo w0 w bd bj br A J R F G := by
  have hs := hx.size
  exact ⟨⟨Own.from hx T.one.own, T.one.jr, T.one.nF, Nat.le_trans hs T.one.ge⟩, T.ref, fun x h => ⟨Nat.le_trans hs (T.g x h).1, (T.g x h).2⟩, T.fg⟩
/-- Something else is turned. -/
theorem Jtwo.side {S : List Nat} (T : Jtwo w0 w bd bj br A J R F G) (hx : Ext S w w') (hS : ∀ x ∈ S, w0.heap.size ≤ x ∧ ¬ Fj F bj x ∧ ¬ G x) : Jtwo w0 w' bd bj br A J R F G := by
  have hs := hx.size
  refine ⟨⟨⟨T.one.own.ext.then hx fun x h => .inr (hS x h).1, T.one.own.dev.keep hx fun x h hf => (hS x h).2.1 (.inl hf), fun x h => ⟨(T.one.own.own x h).1, by have := (T.one.own.own x h).2; omega⟩⟩, ?_, T.one.nF, T.one.ge⟩, T.ref.keep hx fun x h => (hS x h).2.2, fun x h => ⟨(T.g x h).1, by have := (T.g x h).2; omega⟩, T.fg⟩
  rw [hx.block bj (heap_lt T.one.jr) fun hm => (hS bj hm).2.1 (.inr rfl)]; exact T.one.jr
theorem Jtwo.free (T : Jtwo w0 w bd bj br A J R F G) {b : Nat} (h1 : w.heap.size ≤ b) (h2 : b < w'.heap.size) : Free w' (Fj F bj) G b :=
  ⟨h2, fun h => by have := (T.one.at b h).2; omega, fun h => by have := (T.g b h).2; omega⟩
theorem Jtwo.old (T : Jtwo w0 w bd bj br A J R F G) {b : Nat} (h : b < w0.heap.size) : ¬ Fj F bj b ∧ ¬ G b :=
  ⟨fun h5 => by have := (T.one.at b h5).1; omega, fun h5 => by have := (T.g b h5).1; omega⟩
theorem Jtwo.app0 (T : Jtwo w0 w bd bj br A (jrK frm R R.L) R F G) (g : Good N frm A R) (l : A.left = -1) (a : Option Addr) (c n : Nat) (b : Byt) (Rb : RdF w (Fj F bj) G a 1 B8 b) (hn : b.length = n) (hm : n ≤ 900000) (hc : n ≤ c) :
    Ret Tryd.prog 32 #[ptr bj, .slice a n c] w fun v w' => v = .int .i64 (appRE R b) ∧ ∃ A' F', Jtwo w0 w' bd bj br A' (jrK frm (appR R b) (appR R b).L) R F' G ∧ Good N frm A' (appR R b) ∧ A'.left = -1 ∧ Still (Fj F bj) G (Fj F' bj) G w w' :=
  (jone_append T.one g.jok a c n b Rb.1 hn hm hc (Rb.2.imp id fun h => h.2.1) g.few (by decide)).mono fun v w' ⟨hv, F', O', gr⟩ => by
    rcases g.append b with ⟨h1, h2, h3, h4⟩ | ⟨h1, _⟩
    · rw [h1] at hv
      rw [h3] at O'
      obtain ⟨T', s⟩ := T.go ⟨O', gr⟩
      exact ⟨hv, _, F', T', h2, h4 l, s⟩
    · exact absurd l h1
theorem Jtwo.rapp (T : Jtwo w0 w bd bj br A J R F G) (hR : R.Ok) (a : Option Addr) (c n : Nat) (b : Byt) (Rb : RdF w (Fj F bj) G a 1 B8 b) (hn : b.length = n) (hm : n ≤ 900000) :
    Ret Tryd.prog 41 #[ptr br, .slice a n c] w fun v w' => v = .int .i64 (appRE R b) ∧ ∃ G', Jtwo w0 w' bd bj br A J (appR R b) F G' ∧ Still (Fj F bj) G (Fj F bj) G' w w' :=
  (rappend_ok T.ref hR (fun x h => (T.g x h).2) a c n b Rb.1 hn hm (Rb.2.imp id fun h => h.2.2)).mono fun _ _ ⟨hv, h, t⟩ => ⟨hv, _, T.rgo h t⟩
theorem Jtwo.rforget (T : Jtwo w0 w bd bj br A J R F G) (hR : R.Ok) :
    Ret Tryd.prog 42 #[ptr br] w fun v w' => ∃ G', Jtwo w0 w' bd bj br A J R.forget F G' ∧ Still (Fj F bj) G (Fj F bj) G' w w' :=
  (rforget_ok T.ref hR).mono fun _ _ ⟨h, t⟩ => ⟨_, T.rgo (h.mono fun x hx => .inl hx) t⟩
theorem Jtwo.reopened (T : Jtwo w0 w bd bj br A J R F G) (hx : Ext [] w w') (hb : w.heap.size ≤ bj') (O : Jone w0 w' bd bj' A J' F) : Jtwo w0 w' bd bj' br A J' R F G ∧ Still (Fj F bj) G (Fj F bj') G w w' :=
  T.go ⟨O, .of0 hx, fun x h => h.elim (fun h => .inl (.inl h)) fun h => .inr (by rw [h]; exact hb)⟩
theorem Jtwo.strs (T : Jtwo w0 w bd bj br A J R F G) : ∃ a c, w.heap[br]? = some (Bl T5 (RjB a R.L.length c R)) ∧ Strs w a R.L.length c R.L :=
  let ⟨a, c, xs, hb, Rx, he, hs, hc⟩ := T.ref.hd; ⟨a, c, hb, ⟨xs, Rx, he, hs⟩, rfl, hc⟩
theorem BlF.side {S : List Nat} {b : Nat} {o : Obj} (h : BlF w F G b o) (hx : Ext S w w') (hb : b ∉ S) : BlF w' F G b o :=
  ⟨by rw [hx.block b h.2.1 hb]; exact h.1, Nat.lt_of_lt_of_le h.2.1 hx.size, h.2.2⟩
theorem RdF.side {S : List Nat} {a : Option Addr} {b : Byt} (h : RdF w F G a 1 B8 b) (hx : Ext S w w') (hb : b = [] ∨ (adr a).block ∉ S) : RdF w' F G a 1 B8 b := by
  rcases hb with rfl | hb
  · exact ⟨Rd.nil, .inl rfl⟩
  · exact ⟨h.1.ext hx hb, h.2.imp id fun h => ⟨Nat.lt_of_lt_of_le h.1 hx.size, h.2⟩⟩
theorem Jtwo.new8 (T : Jtwo w0 w bd bj br A J R F G) {a : Option Addr} {b : Byt} (R8 : Rd w' a 1 B8 b) (h : b = [] ∨ w.heap.size ≤ (adr a).block) : RdF w' (Fj F bj) G a 1 B8 b := by
  refine ⟨R8, ?_⟩
  rcases h with h | h
  · exact .inl h
  · exact (Rd.lt8 R8).imp id fun h5 => T.free h h5
end

theorem OS.set {a : Option Addr} {n c : Nat} {full l : List Value} (O : OS a n c 1 full l) (k : Nat) (v : Value) : OS a n c 1 (full.set k v) (l.set k v) :=
  ⟨O.zero, O.none', by rw [List.length_set]; exact O.len, O.le, by rw [List.take_set, O.pre]⟩
theorem appR_len (R : Rj) (b : Byt) : (appR R b).seq = R.seq ∧ (appR R b).L.length ≤ R.L.length + 1 := by
  unfold appR
  split
  · exact ⟨rfl, Nat.le_succ _⟩
  · exact ⟨rfl, by rw [List.length_append]; exact Nat.le_refl _⟩

set_option maxRecDepth 20000 in
set_option maxHeartbeats 8000000 in
theorem plays5_ok (x : Cs) (w : World) (hx : x.Ok w) : Ret Tryd.prog 9 #[.agg x.enc.toArray] w fun v w' => v = .bool true ∧ Ext [] w w' := by
  obtain ⟨w0, rfl⟩ : ∃ w0, w0 = w := ⟨_, rfl⟩
  have H := Ctx.start w0 []
  have RL := hx.rl
  refine ret_of_W (fn := Tryd.f9) Tryd.func9 rfl [.agg x.enc.toArray] rfl (by kernel_rfl) ?_
  refine W_rseq ?_
  refine op_box rfl x.enc (.agg _) rfl rfl H ?_
  rintro b1 w - H
  refine op_assign rfl (.bool _) rfl ?_
  refine op_nil (at_then ?_)
  refine W_seq ?_
  refine W_rseq ?_
  refine op_ldbN rfl ag_70_JoU sz_70_JoU rfl H (by first | exact at0 | exact at1 | exact at2 | exact at3 | exact at4 | exact at5 | exact at6 | exact at7 | exact at8 | exact at9) rfl ?_
  refine op_call rfl ca_38_JoU (few_ok x _ (hx.ext0 H.ext)) rfl ?_
  rintro v w ⟨rfl, hx17⟩
  replace H := H.call hx17
  refine op_not rfl rfl ?_
  refine op_nil (at_then ?_)
  refine W_cond _ rfl ?_ ?_
  · intro h1
    replace h1 := nvar_t h1
    refine W_rseq ?_
    refine op_call rfl ca_37_JoU (works5_ok _) rfl ?_
    rintro v w ⟨rfl, hxw⟩
    refine op_assign rfl (.bool _) rfl ?_
    refine op_nil (at_then ?_)
    refine W_ret (ret_then (leave1 (v := (.bool _)) rfl rfl rfl ?_))
    exact ⟨rfl, H.ext.trans hxw⟩
  · intro h1
    replace h1 := nvar_f h1
    obtain ⟨hl60, hsq, hp100⟩ := Cs.few_true (x := x) (by cases hf : x.few <;> simp_all)
    refine W_skip (at_then ?_)
    refine W_rseq ?_
    refine op_ldbN rfl ag_70_JoU sz_70_JoU rfl H (by first | exact at0 | exact at1 | exact at2 | exact at3 | exact at4 | exact at5 | exact at6 | exact at7 | exact at8 | exact at9) rfl ?_
    refine op_call rfl ca_40_JoU (begin_ok x _ (hx.ext0 H.ext) hsq) rfl ?_
    rintro v w2 ⟨bd, bj, br, F, G, rfl, T0, g⟩
    have hxe := H.ext
    have hb1lt := H.lt (k := 0) rfl
    have hT0e := T0.one.own.ext
    have T := Jtwo.from hxe T0
    have B1 : BlF w2 (Fj F bj) G b1 (Bl 70 x.enc) := ⟨by rw [hT0e.block b1 hb1lt (by simp)]; exact H.get at0, Nat.lt_of_lt_of_le hb1lt hT0e.size, (T0.old hb1lt).1, (T0.old hb1lt).2⟩
    refine op_move rfl (.tuple _) rfl ?_
    refine op_extract rfl rfl rfl ?_
    refine op_extract rfl rfl rfl ?_
    refine op_extract rfl rfl rfl ?_
    refine op_extract rfl rfl rfl ?_
    refine op_assign rfl (.pointer _) rfl ?_
    refine op_assign rfl (.pointer _) rfl ?_
    refine op_assign rfl (.pointer _) rfl ?_
    refine op_assign rfl (.bool _) rfl ?_
    refine op_nil (at_then ?_)
    refine W_seq ?_
    refine W_rseq ?_
    refine op_move rfl (.bool _) rfl ?_
    refine op_not rfl rfl ?_
    refine op_nil (at_then ?_)
    refine W_cond0 rfl ?_
    refine W_skip (at_then ?_)
    refine W_seq ?_
    refine W_rseq ?_
    refine op_assign rfl (.int _ _) rfl ?_
    refine op_nil (at_then ?_)
    refine W_block ?_
    refine W_loop 340282366920938463463374607431231405972 (α := Nat × Nat × Dev × Rj × (Nat → Prop) × (Nat → Prop)) (fun s => [(7, .int .i64 (s.1 : Int)), (4, ptr s.2.1)]) (fun s w' => s.1 ≤ x.l.length ∧ Jtwo w0 w' bd s.2.1 br s.2.2.1 (jrK x.f s.2.2.2.1 s.2.2.2.1.L) s.2.2.2.1 s.2.2.2.2.1 s.2.2.2.2.2 ∧ Good (x.f + x.z) x.f s.2.2.1 s.2.2.2.1 ∧ s.2.2.1.left = -1 ∧ 1 ≤ s.2.2.2.1.seq ∧ s.2.2.2.1.seq + s.2.2.2.1.L.length ≤ x.seq + 1 + s.1 ∧ BlF w' (Fj s.2.2.2.2.1 s.2.1) s.2.2.2.2.2 b1 (Bl 70 x.enc)) (fun s => x.l.length - s.1) (0, bj, newD (x.f + x.z), x.R, F, G) rfl ?_ ?_ ?_
    · exact ⟨rfl, rfl, trivial⟩
    · exact ⟨Nat.zero_le _, T, g, rfl, Nat.le_add_left 1 _, Nat.le_refl _, B1⟩
    · clear T g B1 T0 hT0e
      rintro ⟨i, bj, A, R, F, G⟩ j w ⟨hi, T, g, l, hq1, hq2, B1⟩; dsimp only at hi T g l hq1 hq2 B1; dsimp only
      refine W_seq ?_
      refine W_rseq ?_
      refine op_move rfl (.int _ _) rfl ?_
      refine op_fieldAddr rfl fo_70_4_JoU rfl ?_
      first | refine op_ldb rfl ag_68_JoU rfl H (by first | exact at0 | exact at1 | exact at2 | exact at3 | exact at4 | exact at5 | exact at6 | exact at7 | exact at8 | exact at9) rfl ?_ | refine op_ld rfl ag_68_JoU rfl (cell_bl B1.1 (0 + 4)) ?_
      refine op_len rfl el_68_JoU rfl ?_
      refine op_lss rfl rfl rfl ?_
      refine op_nil (at_then ?_)
      refine W_cond _ rfl ?_ ?_
      · intro h2
        replace h2 := dec_t h2
        obtain ⟨s, hs⟩ := get_some (l := x.l) (i := i) (by omega)
        have hos := hx.steps s (List.mem_of_getElem? hs)
        have hsn := hos.n
        have H := Ctx.start w []
        refine W_skip (at_then ?_)
        refine W_seq ?_
        refine W_block ?_
        refine W_rseq ?_
        refine op_fieldAddr rfl fo_70_4_JoU rfl ?_
        first | refine op_ldb rfl ag_68_JoU rfl H (by first | exact at0 | exact at1 | exact at2 | exact at3 | exact at4 | exact at5 | exact at6 | exact at7 | exact at8 | exact at9) rfl ?_ | refine op_ld rfl ag_68_JoU rfl (cell_bl B1.1 (0 + 4)) ?_
        refine op_move rfl (.int _ _) rfl ?_
        first | refine op_indexRd RL rfl el_68_JoU sz_73_JoU rfl rfl (by omega) (by omega) (by first | rfl | omega) ?_ | refine op_indexAddr rfl el_68_JoU sz_73_JoU rfl rfl (by omega) (by omega) ?_
        first | refine op_ldN _ rfl ag_73_JoU sz_73_JoU rfl rfl ((RL.ext0 (T.one.own.ext.trans H.ext)).row hs rfl) ?_ | refine op_ldbN rfl ag_73_JoU sz_73_JoU rfl H (by first | exact at0 | exact at1 | exact at2 | exact at3 | exact at4 | exact at5 | exact at6 | exact at7 | exact at8 | exact at9) rfl ?_
        refine op_alloc rfl zc_73_JoU H ?_
        rintro b8 w - H
        refine op_stb0 rfl sz_73_JoU rfl rfl rfl (Sj.one s) H at0 rfl ?_
        rintro w H
        refine op_nil (at_then ?_)
        refine W_seq ?_
        refine W_rseq ?_
        refine op_fieldAddr rfl fo_73_0_JoU rfl ?_
        first | refine op_ldb rfl ag_3 rfl H (by first | exact at0 | exact at1 | exact at2 | exact at3 | exact at4 | exact at5 | exact at6 | exact at7 | exact at8 | exact at9) rfl ?_ | refine op_ld rfl ag_3 rfl (cell_bl B1.1 (0 + 4)) ?_
        refine op_nil (at_then ?_)
        refine W_joinK 21267647932558653966460904168392556052 (α := Nat × Dev × Rj × (Nat → Prop) × (Nat → Prop)) (fun s => [(4, ptr s.1)]) (fun s w' => Jtwo w0 w' bd s.1 br s.2.1 (jrK x.f s.2.2.1 s.2.2.1.L) s.2.2.1 s.2.2.2.1 s.2.2.2.2 ∧ Good (x.f + x.z) x.f s.2.1 s.2.2.1 ∧ s.2.1.left = -1 ∧ 1 ≤ s.2.2.1.seq ∧ s.2.2.1.seq + s.2.2.1.L.length ≤ x.seq + 1 + (i + 1) ∧ BlF w' (Fj s.2.2.2.1 s.1) s.2.2.2.2 b1 (Bl 70 x.enc)) rfl ?_ ?_
        · skip
          have hlt8 := H.lt (k := 0) rfl
          have hge8 := (H.own _ (List.mem_cons_self ..)).elim (fun h => by cases h) id
          have E8 : BlF _ (Fj F bj) G b8 (Bl 73 s.enc) := ⟨H.get at0, T.free hge8 hlt8⟩
          replace B1 := B1.go (.call H.ext)
          replace T := T.call H.ext
          refine W_block ?_
          refine W_rseq ?_
          refine op_eql rfl rfl rfl ?_
          refine op_assign rfl (.bool _) rfl ?_
          refine op_nil (at_then ?_)
          refine W_cond _ rfl ?_ ?_
          · intro k1
            replace k1 := dec_t k1
            refine W_rseq ?_
            refine op_fieldAddr rfl fo_73_1_JoU rfl ?_
            first | refine op_ldb rfl ag_24_JoU rfl H (by first | exact at0 | exact at1 | exact at2 | exact at3 | exact at4 | exact at5 | exact at6 | exact at7 | exact at8 | exact at9) rfl ?_ | refine op_ld rfl ag_24_JoU rfl (cell_bl B1.1 (0 + 4)) ?_
            refine op_conv_i64 rfl rfl un_24_JoU un_3 (by omega) (by omega) ?_
            refine op_rem rfl rfl rfl (by omega) (by omega) ?_
            rw [show (s.n : Int) % 4000 = ((s.n % 4000 : Nat) : Int) by omega]
            refine op_fieldAddr rfl fo_73_2_JoU rfl ?_
            first | refine op_ldb rfl ag_5 rfl H (by first | exact at0 | exact at1 | exact at2 | exact at3 | exact at4 | exact at5 | exact at6 | exact at7 | exact at8 | exact at9) rfl ?_ | refine op_ld rfl ag_5 rfl (cell_bl B1.1 (0 + 4)) ?_
            refine op_call rfl ca_39_JoU (text_ok (s.n % 4000) (by omega) s.c _) rfl ?_
            rintro v w3 FT
            obtain ⟨a9, c9, rfl, R9, hc9, hn9⟩ := newB_text FT
            have X9 := T.new8 R9 hn9
            have hlt9 := Rd.lt8 R9
            replace B1 := B1.go (.call FT.ext)
            replace T := T.call FT.ext
            refine op_assign rfl (.slice _ _ _) rfl ?_
            refine op_nil (at_then ?_)
            obtain ⟨bt, hbt⟩ : ∃ bt, bt = textB (s.n % 4000) s.c := ⟨_, rfl⟩
            have hbl : bt.length = s.n % 4000 := by rw [hbt, textB_len]
            rw [← hbt] at R9 X9 hn9 hlt9
            refine W_rseq ?_
            have H := Ctx.start w3 []
            refine op_build0 rfl el_23 sz_5 H ?_
            rintro b52 w4 H O52
            rw [← hbt]
            refine op_move rfl (.slice _ _ _) rfl ?_
            refine op_append (L := []) rfl el_23 el_23 sz_5 by_5 zc_5 rfl (by decide) (bt.map bv) rfl rfl H O52 (by simp) (bv_one _) (Rd.appB (R9.ext0 H.ext)) (by omega) ?_
            rintro a10 c10 full10 w5 H O10
            rw [List.nil_append, Nat.zero_add] at O10
            rw [show 0 + bt.length = bt.length from Nat.zero_add _]
            refine op_assign rfl (.slice _ _ _) rfl ?_
            refine op_nil (at_then ?_)
            have hw5 := H.ext
            have E10 : ∀ y ∈ ent a10 5 full10, w3.heap.size ≤ y.1 ∧ w5.heap[y.1]? = some y.2 := fun y hy => ⟨(H.own y hy).elim (fun h => by cases h) id, H.blk y hy⟩
            have F10 : ∀ y ∈ ent a10 5 full10, BlF w5 (Fj F bj) G y.1 y.2 := fun y hy => ⟨(E10 y hy).2, T.free (E10 y hy).1 (heap_lt (E10 y hy).2)⟩
            have X10 : RdF w5 (Fj F bj) G a10 1 B8 bt := by
              refine ⟨OS.rdB O10 fun y hy => (E10 y hy).2, ?_⟩
              cases a10 with
              | none => exact .inl (List.eq_nil_of_length_eq_zero (by have := O10.none' rfl; have := O10.le; omega))
              | some p => exact .inr (F10 (p.block, _) (List.mem_singleton.2 rfl)).2
            have hb1w : b1 < w3.heap.size := B1.2.1
            have X9b := X9.go (.call hw5)
            replace B1 := B1.go (.call hw5)
            have T5 := T.call hw5
            have hw3 := T.one.own.ext.size
            refine W_rseq ?_
            refine op_move rfl (.pointer _) rfl ?_
            refine op_move rfl (.slice _ _ _) rfl ?_
            refine op_call rfl ca_32_JoU (T5.app0 g l a10 c10 _ bt X10 rfl (by omega) O10.le) rfl ?_
            rintro v w6 ⟨rfl, A', F', T6, g', l', s6⟩
            replace B1 := B1.go s6
            have X9c := X9b.go s6
            have F6 := (fun y hy => (F10 y hy).go s6)
            refine op_assign rfl (.int _ _) rfl ?_
            refine op_nil (at_then ?_)
            refine W_seq ?_
            refine W_rseq ?_
            refine op_assign rfl (.int _ _) rfl ?_
            refine op_nil (at_then ?_)
            refine W_block ?_
            refine W_loop 4722078252493493506048 (α := Nat × Byt × List Value) (fun z => [(12, .int .i64 (z.1 : Int))]) (fun z w' => z.1 ≤ bt.length ∧ z.2.1.length = bt.length ∧ Ctx w6 ((ent a10 5 full10).map (·.1)) w' (ent a10 5 z.2.2) ∧ OS a10 bt.length c10 1 z.2.2 (z.2.1.map bv)) (fun z => bt.length - z.1) (0, bt, full10) rfl ?_ ?_ ?_
            · exact ⟨rfl, trivial⟩
            · exact ⟨Nat.zero_le _, rfl, Ctx.startL (fun y hy => (F6 y hy).1) ent_nd, O10⟩
            · rintro ⟨k, m, full⟩ j w ⟨hk, hml, H, O⟩; dsimp only at hk hml H O; dsimp only
              refine W_seq ?_
              refine W_rseq ?_
              refine op_move rfl (.int _ _) rfl ?_
              refine op_move rfl (.slice _ _ _) rfl ?_
              refine op_len rfl el_23 rfl ?_
              refine op_lss rfl rfl rfl ?_
              refine op_nil (at_then ?_)
              refine W_cond _ rfl ?_ ?_
              · intro h3
                replace h3 := dec_t h3
                obtain ⟨ba, rfl⟩ := O.form (by omega)
                obtain ⟨y, hy⟩ := get_some (l := m) (i := k) (by omega)
                have hyl := y.toNat_lt
                have hfk : full[k]? = some (bv y) := by
                  have h9 : (full.take (bt.length * 1))[k]? = some (bv y) := by rw [O.pre, List.getElem?_map, hy]; rfl
                  rw [List.getElem?_take] at h9
                  split at h9
                  · exact h9
                  · cases h9
                have hflen : full.length = c10 := by have := O.len; omega
                have hole := O.le
                refine W_skip (at_then ?_)
                refine W_seq ?_
                refine W_block ?_
                refine W_region ?_
                refine op_move rfl (.slice _ _ _) rfl ?_
                refine op_move rfl (.int _ _) rfl ?_
                refine op_move rfl (.slice _ _ _) rfl ?_
                refine op_move rfl (.int _ _) rfl ?_
                first | refine op_indexRd RL rfl el_23 sz_5 rfl rfl (by omega) (by omega) (by first | rfl | omega) ?_ | refine op_indexAddr rfl el_23 sz_5 rfl rfl (by omega) (by omega) ?_
                refine op_ld rfl ag_5 rfl (by rw [cell_bl (H.get (k := 0) rfl)]; simpa using hfk) ?_
                refine op_xor_u8 (b := 9) rfl rfl rfl (by omega) (by decide) ?_
                first | refine op_indexRd RL rfl el_23 sz_5 rfl rfl (by omega) (by omega) (by first | rfl | omega) ?_ | refine op_indexAddr rfl el_23 sz_5 rfl rfl (by omega) (by omega) ?_
                refine op_stb (.int _ _) rfl sz_5 rfl rfl rfl H at0 (by simp; omega) ?_
                rintro w H
                refine op_nil (at_block (at_then ?_))
                refine W_region ?_
                refine op_move rfl (.int _ _) rfl ?_
                refine op_add_i64 rfl rfl rfl (by omega) (by omega) ?_
                refine op_assign rfl (.int _ _) rfl ?_
                refine op_nil (at_then ?_)
                have he : Value.int .u8 ((y.toNat ^^^ 9 : Nat) : Int) = bv (y ^^^ 9) := by rw [bv, UInt8.toNat_xor]; rfl
                have e2 : 0 + (k : Int).toNat * 1 = k := by omega
                rw [e2, he] at H
                exact ⟨(k + 1, m.set k (y ^^^ 9), full.set k (bv (y ^^^ 9))), rfl, ⟨rfl, trivial⟩, ⟨by dsimp only; omega, by dsimp only; rw [List.length_set]; exact hml, H, by dsimp only; rw [List.map_set]; exact OS.set O k _⟩, by dsimp only; omega⟩
              · intro h3
                replace h3 := dec_f h3
                have hS : ∀ z ∈ (ent a10 5 full10).map (·.1), w0.heap.size ≤ z ∧ ¬ Fj F' bj z ∧ ¬ G z := fun z hz => by
                  obtain ⟨y, hy, rfl⟩ := List.mem_map.1 hz
                  exact ⟨by have := (E10 y hy).1; omega, (F6 y hy).2.2⟩
                have hnS : ∀ z, z < w3.heap.size → z ∉ (ent a10 5 full10).map (·.1) := fun z hz hm => by
                  obtain ⟨y, hy, he⟩ := List.mem_map.1 hm
                  have := (E10 y hy).1
                  omega
                have T7 := T6.side H.ext hS
                have B7 := B1.side H.ext (hnS b1 hb1w)
                have X7 := X9c.side H.ext (hlt9.imp id (hnS _))
                refine W_exit (exit_then (exit_then (exit_here (at_then ?_))))
                refine W_rseq ?_
                refine op_move rfl (.int _ _) rfl ?_
                refine op_move rfl (.pointer _) rfl ?_
                refine op_move rfl (.slice _ _ _) rfl ?_
                refine op_call rfl ca_41_JoU (T7.rapp g.ok a9 c9 _ bt X7 rfl (by omega)) rfl ?_
                rintro v w8 ⟨rfl, G', T8, s8⟩
                have B8' := B7.go s8
                refine op_neq rfl rfl rfl ?_
                rw [show decide (appRE R bt = appRE R bt) = true from decide_eq_true rfl]
                refine op_nil (at_then ?_)
                refine W_cond0 rfl ?_
                refine W_skip (at_block (at_then ?_))
                have hle := appR_len R bt
                exact ⟨(bj, A', appR R bt, F', G'), rfl, ⟨rfl, trivial⟩, T8, g', l', by show 1 ≤ (appR R bt).seq; omega, by show (appR R bt).seq + (appR R bt).L.length ≤ _; omega, B8'⟩
          · intro k1
            replace k1 := dec_f k1
            refine W_rseq ?_
            refine op_eql rfl rfl rfl ?_
            refine op_assign rfl (.bool _) rfl ?_
            refine op_nil (at_then ?_)
            refine W_cond _ rfl ?_ ?_
            · intro k2
              replace k2 := dec_t k2
              refine W_seq ?_
              refine W_rseq ?_
              refine op_move rfl (.pointer _) rfl ?_
              refine op_call rfl ca_33_JoU (jone_forget0 T.one g) rfl ?_
              rintro v w3 ⟨rfl, O3, gr3⟩
              obtain ⟨T3, s3⟩ := T.go ⟨O3, gr3⟩
              replace B1 := B1.go s3
              refine op_neq rfl rfl rfl ?_
              refine op_nil (at_then ?_)
              refine W_cond0 rfl ?_
              refine W_skip (at_then ?_)
              refine W_region ?_
              refine op_move rfl (.pointer _) rfl ?_
              refine op_call rfl ca_42_JoU (T3.rforget g.ok) rfl ?_
              rintro v w4 ⟨G', T4, s4⟩
              replace B1 := B1.go s4
              refine op_nil (at_block (at_then ?_))
              have hRq : R.seq + R.L.length ≤ 8000000000000000000 := by omega
              exact ⟨(bj, A, R.forget, F, G'), rfl, ⟨rfl, trivial⟩, T4, g.forget hRq, l, by show 1 ≤ R.seq + R.L.length; omega, by show R.seq + R.L.length + 0 ≤ _; omega, B1⟩
            · intro k2
              replace k2 := dec_f k2
              refine W_rseq ?_
              refine op_eql rfl rfl rfl ?_
              refine op_assign rfl (.bool _) rfl ?_
              refine op_nil (at_then ?_)
              refine W_cond _ rfl ?_ ?_
              · intro k3
                replace k3 := dec_t k3
                refine W_seq ?_
                refine W_rseq (Wops_join (α := Unit) 1267573228975774065229522010112 (fun _ => [(99, .bool (false))]) (fun _ w' => ∃ A' F', Jtwo w0 w' bd bj br A' (jrK x.f R R.L) R F' G ∧ Good (x.f + x.z) x.f A' R ∧ A'.left = -1 ∧ BlF w' (Fj F' bj) G b1 (Bl 70 x.enc)) rfl ?_ ?_)
                · refine op_fieldAddr rfl fo_73_3_JoU rfl ?_
                  first | refine op_ldb rfl ag_4 rfl H (by first | exact at0 | exact at1 | exact at2 | exact at3 | exact at4 | exact at5 | exact at6 | exact at7 | exact at8 | exact at9) rfl ?_ | refine op_ld rfl ag_4 rfl (cell_bl B1.1 (0 + 4)) ?_ | refine op_ld rfl ag_4 rfl (cell_bl E8.1 (0 + 3)) ?_ | refine op_ld rfl ag_4 rfl (cell_bl E8.1 (0 + 4)) ?_
                  refine op_move rfl (.bool _) rfl ?_
                  refine Wops_split 88 rfl ?_ ?_
                  · intro h1
                    refine op_move rfl (.pointer _) rfl ?_
                    refine op_call rfl ca_22_JoU (own_off T.one.own) rfl ?_
                    rintro v w9 ⟨rfl, O9, gr9⟩
                    rw [show (bif A.on then (0 : Int) else 8) = 0 by rw [g.on]; rfl]
                    obtain ⟨T9, s9⟩ := T.go (T.one.dev ⟨O9, gr9⟩)
                    replace B1 := B1.go s9
                    replace E8 := E8.go s9
                    refine op_neq rfl rfl rfl ?_
                    refine op_move rfl (.bool _) rfl ?_
                    refine op_move rfl (.pointer _) rfl ?_
                    refine op_fieldAddr rfl fo_73_4_JoU rfl ?_
                    first | refine op_ldb rfl ag_45_JoU rfl H (by first | exact at0 | exact at1 | exact at2 | exact at3 | exact at4 | exact at5 | exact at6 | exact at7 | exact at8 | exact at9) rfl ?_ | refine op_ld rfl ag_45_JoU rfl (cell_bl B1.1 (0 + 4)) ?_ | refine op_ld rfl ag_45_JoU rfl (cell_bl E8.1 (0 + 3)) ?_ | refine op_ld rfl ag_45_JoU rfl (cell_bl E8.1 (0 + 4)) ?_
                    refine op_call rfl ca_24_JoU (own_on T9.one.own s.pa s.pc _ s.picks (hos.rp.ext0 T9.one.own.ext) rfl (by have := hos.mp; omega) hos.cp ((rd_lt hos.rp (by decide) (fun _ _ => rfl)).imp id fun h hF => (T9.old h).1 (.inl hF)) hos.picks (show Few (offD A) 0 from g.few) (by decide)) rfl ?_
                    rintro v w10 ⟨rfl, O10, gr10⟩
                    rw [show onE (offD A) = 0 from rfl]
                    obtain ⟨T10, s10⟩ := T9.go (T9.one.dev ⟨O10, gr10⟩)
                    replace B1 := B1.go s10
                    replace T := T10
                    replace g := g.off s.picks
                    replace l : (onD (offD A) s.picks).left = -1 := rfl
                    refine op_neq rfl rfl rfl ?_
                    refine op_pick0 rfl rfl (.bool _) rfl ?_
                    refine op_pick1 rfl rfl (.bool _) rfl ?_
                    refine op_nil ?_
                    exact ⟨rfl, (), rfl, ⟨congrArg Value.bool (by simp_all), trivial⟩, ⟨_, _, T, g, l, B1⟩⟩
                  · intro h2
                    refine op_skip rfl ?_
                    refine op_skip rfl ?_
                    refine op_skip rfl ?_
                    refine op_skip rfl ?_
                    refine op_skip rfl ?_
                    refine op_skip rfl ?_
                    refine op_skip rfl ?_
                    refine op_skip rfl ?_
                    refine op_skip rfl ?_
                    refine op_skip rfl ?_
                    refine op_pick0 rfl rfl (.bool _) rfl ?_
                    refine op_nil ?_
                    exact ⟨rfl, (), rfl, ⟨congrArg Value.bool (by simp_all), trivial⟩, ⟨_, _, T, g, l, B1⟩⟩
                rintro - j99 w ⟨A', F', T, g, l, B1⟩
                refine W_cond0 rfl ?_
                refine W_skip (at_then ?_)
                refine W_rseq ?_
                refine op_move rfl (.pointer _) rfl ?_
                refine op_ldN x.enc rfl ag_70_JoU sz_70_JoU rfl rfl (fun j v hv => by rw [cell_bl B1.1, Nat.zero_add]; exact hv) ?_
                refine op_move rfl (.pointer _) rfl ?_
                refine op_call rfl ca_43_JoU (again_ok x hx.frm T.one.own T.ref g hq1 (by omega)) rfl ?_
                rintro v w11 ⟨bj2, a14, n14, c14, rfl, hx14, hge14, O14, S14⟩
                obtain ⟨T14, s14⟩ := T.reopened hx14 hge14 O14
                replace B1 := B1.go s14
                obtain ⟨ar, cr, hbr, SR⟩ := T14.strs
                refine op_move rfl (.tuple _) rfl ?_
                refine op_extract rfl rfl rfl ?_
                refine op_extract rfl rfl rfl ?_
                refine op_extract rfl rfl rfl ?_
                refine op_assign rfl (.pointer _) rfl ?_
                refine op_assign rfl (.slice _ _ _) rfl ?_
                refine op_assign rfl (.int _ _) rfl ?_
                refine op_nil (at_then ?_)
                refine W_seq ?_
                refine W_rseq ?_
                refine op_move rfl (.int _ _) rfl ?_
                refine op_neq rfl rfl rfl ?_
                refine op_move rfl (.bool _) rfl ?_
                refine op_move rfl (.pointer _) rfl ?_
                refine op_eqlptr rfl un_57_JoU rfl ?_
                refine op_pick0 rfl rfl (.bool _) rfl ?_
                refine op_move rfl (.bool _) rfl ?_
                refine op_move rfl (.slice _ _ _) rfl ?_
                refine op_move rfl (.pointer _) rfl ?_
                refine op_nilCheck rfl rfl ?_
                refine op_fieldAddr rfl fo_81_0_JoU rfl ?_
                first | refine op_ldb rfl ag_58 rfl H (by first | exact at0 | exact at1 | exact at2 | exact at3 | exact at4 | exact at5 | exact at6 | exact at7 | exact at8 | exact at9) rfl ?_ | refine op_ld rfl ag_58 rfl (cell_bl hbr (0 + 0)) ?_
                refine op_call rfl ca_44_JoU (same_ok S14 SR (by have := takenL_two R.L; have := g.ok.t; have := g.ok.s2; omega)) rfl ?_
                rintro v w12 ⟨rfl, hx20⟩
                rw [show decide (R.L = R.L) = true from decide_eq_true rfl]
                replace B1 := B1.go (.call hx20)
                replace T14 := T14.call hx20
                refine op_not rfl rfl ?_
                refine op_pick0 rfl rfl (.bool _) rfl ?_
                refine op_nil (at_then ?_)
                refine W_cond0 rfl ?_
                refine W_skip (at_then ?_)
                refine W_region ?_
                refine op_move rfl (.pointer _) rfl ?_
                refine op_assign rfl (.pointer _) rfl ?_
                refine op_nil (at_block (at_then ?_))
                exact ⟨(bj2, A', R, F', G), rfl, ⟨rfl, trivial⟩, T14, g, l, hq1, by dsimp only; omega, B1⟩
              · intro k3
                replace k3 := dec_f k3
                refine W_skip (at_block (at_then ?_))
                exact ⟨(bj, A, R, F, G), rfl, ⟨rfl, trivial⟩, T, g, l, hq1, by dsimp only; omega, B1⟩
        · rintro ⟨bj', A', R', F', G'⟩ j7 w ⟨T, g, l, hq1, hq2, B1⟩; dsimp only at T g l hq1 hq2 B1; dsimp only
          refine W_rseq ?_
          refine op_move rfl (.pointer _) rfl ?_
          refine op_move rfl (.pointer _) rfl ?_
          refine op_call rfl ca_45_JoU (alike_ok T g) rfl ?_
          rintro v w3 ⟨rfl, hx3⟩
          replace B1 := B1.go (.call hx3)
          replace T := T.call hx3
          refine op_not rfl rfl ?_
          refine op_nil (at_then ?_)
          refine W_cond0 rfl ?_
          refine W_skip (at_block (at_then ?_))
          refine W_region ?_
          refine op_move rfl (.int _ _) rfl ?_
          refine op_add_i64 rfl rfl rfl (by omega) (by omega) ?_
          refine op_assign rfl (.int _ _) rfl ?_
          refine op_nil (at_then ?_)
          exact ⟨(i + 1, bj', A', R', F', G'), rfl, ⟨rfl, rfl, trivial⟩, ⟨by dsimp only; omega, T, g, l, hq1, hq2, B1⟩, by dsimp only; omega⟩
      · intro h2
        replace h2 := dec_f h2
        refine W_exit (exit_then (exit_then (exit_here (at_then ?_))))
        refine W_rseq ?_
        refine op_call rfl ca_37_JoU (works5_ok _) rfl ?_
        rintro v w3 ⟨rfl, hx3⟩
        refine op_assign rfl (.bool _) rfl ?_
        refine op_nil (at_then ?_)
        refine W_ret (leave1 (v := (.bool _)) rfl rfl rfl ?_)
        exact ⟨rfl, T.one.own.ext.trans hx3⟩

end Go.Proofs.YtkmbcpgnafmnpaaDoor

/- What a journal does when the power goes. -/
namespace Go.Proofs.YtkmbcpgnafmnpaaDoor
open Go.GV
theorem ca_29_JoX : callable Tryd.prog 29 = true := by kernel_rfl
theorem fo_70_0_JoX : fieldO Tryd.prog 70 0 = some 0 := by kernel_rfl
theorem fo_81_1_JoX : fieldO Tryd.prog 81 1 = some 1 := by kernel_rfl
theorem fo_81_2_JoX : fieldO Tryd.prog 81 2 = some 2 := by kernel_rfl
theorem fo_81_3_JoX : fieldO Tryd.prog 81 3 = some 3 := by kernel_rfl
attribute [local irreducible] Wops W Wq Wt

theorem writeJ_few {A : Dev} {J : Jr} {b : Byt} {m : Nat} (h : Few A m) : Few (writeJ A J b).2 (m + blk b.length) := by
  have hb := blk_two b.length
  have h1 := wrP_few (J := J) (b := b) h (blk b.length - 1)
  have h2 := flush_few h1
  have h3 := write_few h2 (J.place (blk b.length - 1) : Int) (sealB 2 (endB J.seq b))
  have h4 := flush_few h3
  have e : m + (blk b.length - 1) + 1 = m + blk b.length := by omega
  rw [e] at h3 h4
  unfold writeJ
  split
  · split
    · split
      · exact h4
      · exact h3
    · exact h2.mono (by omega)
  · exact h1.mono (by omega)
theorem appD_few {A : Dev} {J : Jr} {b : Byt} {m : Nat} (h : Few A m) : Few (appD A J b) (m + blk b.length) := by
  unfold appD
  split
  · exact h.mono (by omega)
  · split
    · exact h.mono (by omega)
    · exact writeJ_few h
theorem rjB_app (a : Option Addr) (n c : Nat) (R : Rj) (b : Byt) : RjB a n c (appR R b) = RjB a n c R := by
  unfold appR; split <;> rfl
theorem appR_same (R : Rj) (b : Byt) : (appR R b).size = R.size ∧ (appR R b).first = R.first ∧ (appR R b).seq = R.seq := by
  unfold appR; split <;> exact ⟨rfl, rfl, rfl⟩
theorem appR_one {R : Rj} {b : Byt} (h : appRE R b = 0) : (appR R b).L.length = R.L.length + 1 := by
  unfold appRE at h; unfold appR
  split at h
  · cases h
  · rename_i h1; rw [if_neg h1, List.length_append]; rfl

section
variable {w0 w1 w w' : World} {bd bj bj' br : Nat} {A A' : Dev} {J J' : Jr} {R R' : Rj} {F F' G : Nat → Prop} {N frm : Nat}
def Dead (J : Jr) : Jr := { J with dead := true }
theorem Dead.ok (h : J.Ok) : (Dead J).Ok := ⟨h.s1, h.s2, h.a, h.t, h.q⟩
/-- What comes of a string that is appended. -/
def Came (N frm : Nat) (R : Rj) (b : Byt) (e : Int) (A : Dev) (J : Jr) : Prop :=
  (e = appRE R b ∧ Good N frm A (appR R b) ∧ J = jrK frm (appR R b) (appR R b).L) ∨
  (e = 8 ∧ appRE R b = 0 ∧ A.on = false ∧ J = Dead (jrK frm R R.L) ∧ ∀ picks, Good N frm (onD A picks) R ∨ Good N frm (onD A picks) (appR R b))
theorem Jtwo.app (T : Jtwo w0 w bd bj br A (jrK frm R R.L) R F G) (g : Good N frm A R) (a : Option Addr) (c n : Nat) (b : Byt) (Rb : RdF w (Fj F bj) G a 1 B8 b) (hn : b.length = n) (hm : n ≤ 900000) (hc : n ≤ c) :
    Ret Tryd.prog 32 #[ptr bj, .slice a n c] w fun v w' => ∃ e A' J' F', v = .int .i64 e ∧ Jtwo w0 w' bd bj br A' J' R F' G ∧ Came N frm R b e A' J' ∧ Few A' 1000000 ∧ Still (Fj F bj) G (Fj F' bj) G w w' :=
  (jone_append T.one g.jok a c n b Rb.1 hn hm hc (Rb.2.imp id fun h => h.2.1) g.few (by decide)).mono fun v w' ⟨hv, F', O', gr⟩ => by
    obtain ⟨T', s⟩ := T.go ⟨O', gr⟩
    have hfw : Few (appD A (jrK frm R R.L) b) 1000000 := (appD_few g.few).mono (by have := blk_le b.length; omega)
    refine ⟨_, _, _, F', hv, T', ?_, hfw, s⟩
    rcases g.append b with ⟨h1, h2, h3, _⟩ | ⟨_, h2, h3, h4, h5, h6⟩
    · exact .inl ⟨h1, h2, h3⟩
    · exact .inr ⟨h2, h3, h4, h5, h6⟩
theorem Jtwo.appdead (T : Jtwo w0 w bd bj br A (Dead J) R F G) (hJ : J.Ok) (hf : Few A 1000000) :
    Ret Tryd.prog 32 #[ptr bj, .slice none 0 0] w fun v w' => v = .int .i64 3 ∧ ∃ F', Jtwo w0 w' bd bj br A (Dead J) R F' G ∧ Still (Fj F bj) G (Fj F' bj) G w w' :=
  (jone_append T.one (Dead.ok hJ) none 0 0 [] Rd.nil rfl (by decide) (Nat.le_refl _) (.inl rfl) hf (by decide)).mono fun v w' ⟨hv, F', O', gr⟩ => ⟨hv, F', T.go ⟨O', gr⟩⟩
theorem Jtwo.forgetdead (T : Jtwo w0 w bd bj br A (Dead J) R F G) :
    Ret Tryd.prog 33 #[ptr bj] w fun v w' => v = .int .i64 3 ∧ Jtwo w0 w' bd bj br A (Dead J) R F G ∧ Still (Fj F bj) G (Fj F bj) G w w' :=
  (jforget_ok T.one.jr).mono fun v w' ⟨hv, hj, hx⟩ => by
    have hs := hx.size
    refine ⟨hv, T.go ⟨⟨⟨T.one.own.ext.then hx fun x h => .inr (by rw [List.mem_singleton.1 h]; exact T.one.ge), T.one.own.dev.keep hx fun x h => by rw [List.mem_singleton.1 h]; exact T.one.nF, fun x h => ⟨(T.one.own.own x h).1, by have := (T.one.own.own x h).2; omega⟩⟩, hj, T.one.nF, T.one.ge⟩, .of hx fun x h => .inr (List.mem_singleton.1 h), fun x h => .inl h⟩⟩
theorem Jtwo.forget0 (T : Jtwo w0 w bd bj br A (jrK frm R R.L) R F G) (g : Good N frm A R) :
    Ret Tryd.prog 33 #[ptr bj] w fun v w' => v = .int .i64 0 ∧ Jtwo w0 w' bd bj br A (jrK frm R.forget R.forget.L) R F G ∧ Still (Fj F bj) G (Fj F bj) G w w' :=
  (jone_forget0 T.one g).mono fun _ _ ⟨hv, O', gr⟩ => ⟨hv, T.go ⟨O', gr⟩⟩
theorem Jtwo.arm (T : Jtwo w0 w bd bj br A (jrK frm R R.L) R' F G) (g : Good N frm A R) (n : Int) (hn : n ≤ 9223372036854775807) :
    Ret Tryd.prog 20 #[ptr bd, .int .i64 n] w fun v w' => v = .int .i64 0 ∧ ∃ A', Jtwo w0 w' bd bj br A' (jrK frm R R.L) R' F G ∧ Good N frm A' R ∧ Still (Fj F bj) G (Fj F bj) G w w' :=
  (own_arm T.one.own n hn).mono fun _ _ ⟨hv, O', gr⟩ => by
    obtain ⟨g1, g2⟩ := g.arm n
    rw [g2] at hv
    obtain ⟨T', s⟩ := T.go (T.one.dev ⟨O', gr⟩)
    exact ⟨hv, _, T', g1, s⟩
theorem Jtwo.on (T : Jtwo w0 w bd bj br A J R F G) (ho : A.on = false) (hf : Few A 1000000) (a : Option Addr) (c n : Nat) (picks : List Int) (Rp : Rd w a 1 I64 picks) (hn : picks.length = n) (hm : n ≤ 9223372036854775000) (hc : n ≤ c) (hFa : picks = [] ∨ (adr a).block < w0.heap.size) (hi64 : ∀ x ∈ picks, -9223372036854775808 ≤ x ∧ x ≤ 9223372036854775807) :
    Ret Tryd.prog 24 #[ptr bd, .slice a n c] w fun v w' => v = .int .i64 0 ∧ Jtwo w0 w' bd bj br (onD A picks) J R F G ∧ Still (Fj F bj) G (Fj F bj) G w w' :=
  (own_on T.one.own a c n picks Rp hn hm hc (hFa.imp id fun h hF => (T.old h).1 (.inl hF)) hi64 hf (by decide)).mono fun _ _ ⟨hv, O', gr⟩ => by
    rw [show onE A = 0 by rw [onE, ho]; rfl] at hv
    exact ⟨hv, T.go (T.one.dev ⟨O', gr⟩)⟩

theorem jone_open2 (O : Own w0 w bd A F) (g : Good N frm A R) (h1 : 1 ≤ R.seq) (h2 : R.seq ≤ 4611686018427387904) :
    Ret Tryd.prog 29 #[ptr bd, .int .i64 (frm : Int), .int .i64 (R.size : Int), .int .i64 (R.first : Int), .int .u64 (R.seq : Int)] w fun v w' => ∃ bj a n c, v = .tuple #[ptr bj, .slice a n c, .int .i64 0] ∧ Ext [] w w' ∧ w.heap.size ≤ bj ∧ Jone w0 w' bd bj A (jrK frm R R.L) F ∧ StrsF w.heap.size w' a n c R.L := by
  have hr := g.right h1 h2
  have hr2 := hr
  simp only [rightJ, Bool.and_eq_true, decide_eq_true_eq] at hr2
  have hhi := O.dev.wf.hi
  refine (jopen2_ok (frm : Int) (R.size : Int) (R.first : Int) R.seq (by omega) (by omega) hhi g.on g.few (by decide) O.dev).mono fun v w' ⟨hx, h⟩ => ?_
  rcases h with ⟨h1, _⟩ | ⟨_, bj, a, n, c, hv, hb, hj, hs⟩
  · rw [hr] at h1; cases h1
  · have hsz := O.ext.size
    rw [g.open] at hj hs
    exact ⟨bj, a, n, c, hv, hx, hb, ⟨O.call hx, hj, fun h5 => by have := (O.own bj h5).2; omega, by omega⟩, hs⟩
theorem Jtwo.rapp2 (T : Jtwo w0 w bd bj br A J R F G) (hR : R.Ok) (a : Option Addr) (c n : Nat) (b : Byt) (Rb : RdF w (Fj F bj) G a 1 B8 b) (hn : b.length = n) (hm : n ≤ 900000) :
    Ret Tryd.prog 41 #[ptr br, .slice a n c] w fun v w' => v = .int .i64 (appRE R b) ∧ ∃ G', Jtwo w0 w' bd bj br A J (appR R b) F G' ∧ Still (Fj F bj) G (Fj F bj) G' w w' ∧ ∃ S, (∀ x ∈ S, G x) ∧ Ext S w w' :=
  (rappend_ok T.ref hR (fun x h => (T.g x h).2) a c n b Rb.1 hn hm (Rb.2.imp id fun h => h.2.2)).mono fun _ _ ⟨hv, h, t⟩ => by
    obtain ⟨T', s⟩ := T.rgo h t
    exact ⟨hv, _, T', s, t⟩

set_option maxRecDepth 20000 in
set_option maxHeartbeats 2000000 in
theorem again2_ok (x : Cs) (hx : x.frm ≤ 255) (T : Jtwo w0 w bd bj br A J R F G) (g : Good N x.f A R') (hR : R' = R ∨ ∃ b, R' = appR R b) (h1 : 1 ≤ R.seq) (h2 : R.seq ≤ 4611686018427387904) :
    Ret Tryd.prog 43 #[ptr bd, .agg x.enc.toArray, ptr br] w fun v w' => ∃ bj' a n c, v = .tuple #[ptr bj', .slice a n c, .int .i64 0] ∧ w.heap.size ≤ bj' ∧ Ext [] w w' ∧ Jtwo w0 w' bd bj' br A (jrK x.f R' R'.L) R F G ∧ Still (Fj F bj) G (Fj F bj') G w w' ∧ StrsF w.heap.size w' a n c R'.L := by
  obtain ⟨w1, rfl⟩ : ∃ w1, w1 = w := ⟨_, rfl⟩
  have H := Ctx.start w1 []
  have hf : x.f = x.frm % 5 := rfl
  obtain ⟨ar, cr, xr, hb, -, -, -, -⟩ := T.ref.hd
  have hB : RjB ar R.L.length cr R = RjB ar R.L.length cr R' := by
    rcases hR with rfl | ⟨b, rfl⟩
    · rfl
    · exact (rjB_app ..).symm
  have hq : R'.seq = R.seq := by
    rcases hR with rfl | ⟨b, rfl⟩
    · rfl
    · exact (appR_same R b).2.2
  rw [hB] at hb
  refine ret_of_W (fn := Tryd.f43) Tryd.func43 rfl [.pointer (some ⟨bd, 0, none⟩), .agg x.enc.toArray, .pointer (some ⟨br, 0, none⟩)] rfl (by kernel_rfl) ?_
  refine W_rseq ?_
  refine op_box rfl x.enc (.agg _) rfl rfl H ?_
  rintro b4 w - H
  refine op_assign rfl (.pointer _) rfl ?_
  refine op_assign rfl (.slice _ _ _) rfl ?_
  refine op_assign rfl (.int _ _) rfl ?_
  refine op_nil (at_then ?_)
  have hb1 : w.heap[br]? = some (Bl T5 (RjB ar R.L.length cr R')) := by rw [H.ext.block br (heap_lt hb) (by simp)]; exact hb
  have hb4 := H.get at0
  have hx0 := H.ext
  have hsz0 := hx0.size
  refine W_sseqz [([0, 1, 2, 3, 4, 5, 6, 7, 8, 9, 10, 11, 12, 13, 14, 15, 16], 17), ([18, 19, 20, 21, 22], 23)] (fun z => z.heap[b4]? = some (Bl 70 x.enc) ∧ z.heap[br]? = some (Bl T5 (RjB ar R.L.length cr R'))) [] mixed (by kernel_rfl) (⟨hb4, hb1⟩) ?_
  refine seg_cons rfl rfl ?_
  refine t_move rfl (.pointer _) rfl ?_
  refine t_fieldAddr rfl fo_70_0_JoX rfl ?_
  first | refine t_ldb rfl ag_5 rfl (fun _ _ => Ctx.start _ []) (by first | exact at0 | exact at1 | exact at2 | exact at3 | exact at4 | exact at5 | exact at6 | exact at7 | exact at8 | exact at9) rfl ?_ | refine t_ld rfl ag_5 rfl (fun _ hx => cell_bl hx.1 (0 + 0)) ?_ | refine t_ld rfl ag_5 rfl (fun _ hx => cell_bl hx.2 (0 + 1)) ?_ | refine t_ld rfl ag_5 rfl (fun _ hx => cell_bl hx.2 (0 + 2)) ?_ | refine t_ld rfl ag_5 rfl (fun _ hx => cell_bl hx.2 (0 + 3)) ?_
  refine t_conv_i64 rfl rfl un_5 un_3 (by omega) (by omega) ?_
  refine t_rem rfl rfl rfl (by omega) (by omega) ?_
  rw [show (x.frm : Int) % 5 = (x.f : Int) by omega]
  refine t_move rfl (.pointer _) rfl ?_
  refine t_nilCheck rfl rfl ?_
  refine t_fieldAddr rfl fo_81_1_JoX rfl ?_
  first | refine t_ldb rfl ag_3 rfl (fun _ _ => Ctx.start _ []) (by first | exact at0 | exact at1 | exact at2 | exact at3 | exact at4 | exact at5 | exact at6 | exact at7 | exact at8 | exact at9) rfl ?_ | refine t_ld rfl ag_3 rfl (fun _ hx => cell_bl hx.1 (0 + 0)) ?_ | refine t_ld rfl ag_3 rfl (fun _ hx => cell_bl hx.2 (0 + 1)) ?_ | refine t_ld rfl ag_3 rfl (fun _ hx => cell_bl hx.2 (0 + 2)) ?_ | refine t_ld rfl ag_3 rfl (fun _ hx => cell_bl hx.2 (0 + 3)) ?_
  refine t_move rfl (.pointer _) rfl ?_
  refine t_nilCheck rfl rfl ?_
  refine t_fieldAddr rfl fo_81_2_JoX rfl ?_
  first | refine t_ldb rfl ag_3 rfl (fun _ _ => Ctx.start _ []) (by first | exact at0 | exact at1 | exact at2 | exact at3 | exact at4 | exact at5 | exact at6 | exact at7 | exact at8 | exact at9) rfl ?_ | refine t_ld rfl ag_3 rfl (fun _ hx => cell_bl hx.1 (0 + 0)) ?_ | refine t_ld rfl ag_3 rfl (fun _ hx => cell_bl hx.2 (0 + 1)) ?_ | refine t_ld rfl ag_3 rfl (fun _ hx => cell_bl hx.2 (0 + 2)) ?_ | refine t_ld rfl ag_3 rfl (fun _ hx => cell_bl hx.2 (0 + 3)) ?_
  refine t_move rfl (.pointer _) rfl ?_
  refine t_nilCheck rfl rfl ?_
  refine t_fieldAddr rfl fo_81_3_JoX rfl ?_
  first | refine t_ldb rfl ag_22 rfl (fun _ _ => Ctx.start _ []) (by first | exact at0 | exact at1 | exact at2 | exact at3 | exact at4 | exact at5 | exact at6 | exact at7 | exact at8 | exact at9) rfl ?_ | refine t_ld rfl ag_22 rfl (fun _ hx => cell_bl hx.1 (0 + 0)) ?_ | refine t_ld rfl ag_22 rfl (fun _ hx => cell_bl hx.2 (0 + 1)) ?_ | refine t_ld rfl ag_22 rfl (fun _ hx => cell_bl hx.2 (0 + 2)) ?_ | refine t_ld rfl ag_22 rfl (fun _ hx => cell_bl hx.2 (0 + 3)) ?_
  refine t_nil ?_
  skip
  refine op_call rfl ca_29_JoX (jone_open2 (frm := x.f) (R := R') ((T.one.own.call hx0).call (Ext.drew [] w)) g (by omega) (by omega)) rfl ?_
  rintro v w2 ⟨bj', a26, n26, c26, rfl, hx26, hge, O, S⟩
  have hS2 := (show w2.heap[b4]? = some (Bl 70 x.enc) ∧ w2.heap[br]? = some (Bl T5 (RjB ar R.L.length cr R')) from ⟨by rw [hx26.block b4 (heap_lt (show (World.drew w).heap[b4]? = _ from hb4)) (by simp)]; exact hb4, by rw [hx26.block br (heap_lt (show (World.drew w).heap[br]? = _ from hb1)) (by simp)]; exact hb1⟩)
  refine op_nil (at_seg (hS2) ?_)
  refine seg_cons rfl rfl ?_
  refine t_extract rfl rfl rfl ?_
  refine t_extract rfl rfl rfl ?_
  refine t_extract rfl rfl rfl ?_
  refine t_assign rfl (.pointer _) rfl ?_
  refine t_assign rfl (.slice _ _ _) rfl ?_
  refine t_nil ?_
  refine op_assign rfl (.int _ _) rfl ?_
  refine op_nil (at_seg (hS2) ?_)
  refine seg_nil ?_
  refine W_ret (leave3 (v1 := (.pointer _)) (v2 := (.slice _ _ _)) (v3 := (.int _ _)) rfl rfl rfl rfl rfl ?_)
  have hxx : Ext [] w1 w2 := (hx0.trans (Ext.drew [] w)).trans hx26
  have hge' : w1.heap.size ≤ bj' := Nat.le_trans hsz0 hge
  obtain ⟨T', s⟩ := T.reopened hxx hge' O
  exact ⟨bj', a26, n26, c26, rfl, hge', hxx, T', s, S.less hsz0⟩
end

end Go.Proofs.YtkmbcpgnafmnpaaDoor

/- A journal writes none but its own blocks: the plain law. -/
namespace Go.Proofs.YtkmbcpgnafmnpaaDoor
open Go.GV
attribute [local irreducible] Wops W Wq Wt

def fillB (k : Nat) : Byt := UInt8.ofNat (k + 1) :: List.replicate 511 0
theorem fillB_len (k : Nat) : (fillB k).length = 512 := by rw [fillB, List.length_cons, List.length_replicate]
theorem fillB_vals (k : Nat) (hk : k < 255) : (List.replicate 512 (Value.int .u8 0)).set 0 (.int .u8 ((k : Int) + 1)) = (fillB k).map bv := by
  have h9 : (UInt8.ofNat (k + 1)).toNat = k + 1 := by rw [UInt8.toNat_ofNat']; omega
  rw [show (512 : Nat) = 511 + 1 from rfl, List.replicate_succ, List.set_cons_zero, fillB, List.map_cons, List.map_replicate, bv, h9]
  rfl
theorem body_raw (k : Nat) : bodyOf (fillB k) = [] := by
  unfold bodyOf
  cases decide (openE (fillB k) = 0)
  · rfl
  · show bodyB (fillB k) = []
    have h : numB (fillB k) = 0 := by
      show numN (List.take 2 (List.replicate 511 0)) = 0
      rw [List.take_replicate]; rfl
    rw [bodyB, h, List.take_zero]
theorem nextS_raw {A : Dev} {J : Jr} (h : bodyOf (at' A (J.place 0)) = []) : nextS A J = none := by
  unfold nextS
  cases J.size - J.taken with
  | zero => rfl
  | succ n =>
    have h1 : pieceOk J 0 (at' A (J.place 0)) = false := by
      have hp : prefB [] (pieceB J.seq 0 []) = false := by
        unfold prefB
        rw [decide_eq_false (by rw [pieceB_len]; simp)]; rfl
      rw [pieceOk, h, hp, Bool.and_false]
    have h2 : endOk J 0 [] (at' A (J.place 0)) = false := by
      rw [endOk, decide_eq_false (show ¬ 0 < 0 by omega), Bool.false_and, Bool.and_false]
    unfold nextR
    rw [h1, h2]; rfl
theorem openJ_raw {A : Dev} {J : Jr} (h : bodyOf (at' A (J.place 0)) = []) : openJ A J = ([], J) := openF_none _ (nextS_raw h)

theorem less_free {A : Dev} (h : A.left = -1) : A.less = A := by unfold Dev.less; rw [if_neg (by omega), if_pos h]
theorem goes_free {A : Dev} (h : A.left = -1) : A.goes = false := by unfold Dev.goes; rw [h]; rfl
theorem write_free {A : Dev} (h1 : A.on = true) (h2 : A.left = -1) {k : Nat} (hk : k < A.B.length) {b : Byt} (hb : b.length = 512) : writeE A (k : Int) b = 0 ∧ writeD A (k : Int) b = addW A k b := by
  have hh : A.has (k : Int) = true := by unfold Dev.has; simp; omega
  unfold writeE writeD
  rw [h1, hh, decide_eq_true hb, goes_free h2, less_free h2]
  exact ⟨rfl, rfl⟩
theorem addW_at (A : Dev) (k : Nat) (b : Byt) (hk : k < A.B.length) (p : Nat) : at' (addW A k b) p = if p = k then b else at' A p := by
  unfold at' addW
  simp only [List.getD_eq_getElem?_getD, List.getElem?_modify]
  by_cases h : k = p
  · subst h
    rw [if_pos rfl, List.getElem?_eq_getElem hk]
    simp [stands]
  · rw [if_neg (fun e => h e.symm)]
    simp [h]
theorem sure_at (A : Dev) (p : Nat) : at' (sureD A) p = at' A p := by
  unfold at' sureD
  simp only [List.getD_eq_getElem?_getD, List.getElem?_map]
  cases A.B[p]? <;> rfl

/-- What lies out of a journal stays. -/
structure Out (f z : Nat) (A A' : Dev) : Prop where
  on : A'.on = true
  left : A'.left = -1
  len : A'.B.length = A.B.length
  stay : ∀ p, p < f ∨ f + z ≤ p → at' A' p = at' A p
theorem Out.refl {f z : Nat} {A : Dev} (h1 : A.on = true) (h2 : A.left = -1) : Out f z A A := ⟨h1, h2, rfl, fun _ _ => rfl⟩
theorem Out.trans {f z : Nat} {A B C : Dev} (h1 : Out f z A B) (h2 : Out f z B C) : Out f z A C :=
  ⟨h2.on, h2.left, h2.len.trans h1.len, fun p hp => (h2.stay p hp).trans (h1.stay p hp)⟩
theorem write_out {f z : Nat} {A : Dev} (h1 : A.on = true) (h2 : A.left = -1) {k : Nat} (hk : f ≤ k ∧ k < f + z) (b : Byt) : Out f z A (writeD A (k : Int) b) := by
  unfold writeD
  cases hc : A.on && (A.has (k : Int) && decide (b.length = 512)) with
  | false => exact .refl h1 h2
  | true =>
    rw [goes_free h2, less_free h2]
    have hl : k < A.B.length := by
      simp only [Dev.has, Bool.and_eq_true, decide_eq_true_eq] at hc
      omega
    exact ⟨h1, h2, by simp [addW], fun p hp => by
      show at' (addW A (k : Int).toNat b) p = _
      rw [Int.toNat_natCast, addW_at A k b hl, if_neg (by omega)]⟩
theorem flush_out {f z : Nat} {A : Dev} (h1 : A.on = true) (h2 : A.left = -1) : Out f z A (flushD A) := by
  unfold flushD
  rw [h1, goes_free h2, less_free h2]
  exact ⟨h1, h2, by simp [sureD], fun p _ => sure_at A p⟩
theorem put_out {A : Dev} (h1 : A.on = true) (h2 : A.left = -1) {J : Jr} (hJ : J.Ok) (i : Nat) (k : UInt8) (b : Byt) : Out J.frm J.size A (putD A J i k b) :=
  write_out h1 h2 ⟨by unfold Jr.place; omega, hJ.place i⟩ _
theorem wrP_out {A : Dev} (h1 : A.on = true) (h2 : A.left = -1) {J : Jr} (hJ : J.Ok) (b : Byt) : ∀ i, Out J.frm J.size A (wrP A J b i).2
  | 0 => .refl h1 h2
  | i + 1 => by
    have ih := wrP_out h1 h2 hJ b i
    unfold wrP
    split
    · exact ih.trans (put_out ih.on ih.left hJ _ _ _)
    · exact ih
theorem writeJ_out {A : Dev} (h1 : A.on = true) (h2 : A.left = -1) {J : Jr} (hJ : J.Ok) (b : Byt) : Out J.frm J.size A (writeJ A J b).2 := by
  have a1 := wrP_out h1 h2 hJ b (blk b.length - 1)
  have a2 := a1.trans (flush_out a1.on a1.left)
  have a3 := a2.trans (put_out a2.on a2.left hJ (blk b.length - 1) 2 (endB J.seq b))
  have a4 := a3.trans (flush_out a3.on a3.left)
  unfold writeJ
  split
  · split
    · split
      · exact a4
      · exact a3
    · exact a2
  · exact a1
theorem appD_out {A : Dev} (h1 : A.on = true) (h2 : A.left = -1) {J : Jr} (hJ : J.Ok) (b : Byt) : Out J.frm J.size A (appD A J b) := by
  unfold appD
  split
  · exact .refl h1 h2
  · split
    · exact .refl h1 h2
    · exact writeJ_out h1 h2 hJ b
theorem appJ_ok {A : Dev} {J : Jr} (hJ : J.Ok) (b : Byt) (hq : J.seq + 1 ≤ 9000000000000000000) : (appJ A J b).Ok ∧ (appJ A J b).frm = J.frm ∧ (appJ A J b).size = J.size ∧ (appJ A J b).seq ≤ J.seq + 1 := by
  have hs := hJ.s1; have ht := hJ.t
  unfold appJ
  split
  · exact ⟨hJ, rfl, rfl, Nat.le_succ _⟩
  · split
    · exact ⟨hJ, rfl, rfl, Nat.le_succ _⟩
    · rename_i h
      split
      · exact ⟨⟨hJ.s1, hJ.s2, Nat.mod_lt _ (by omega), by show J.taken + blk b.length ≤ J.size; omega, hq⟩, rfl, rfl, Nat.le_refl _⟩
      · exact ⟨Dead.ok hJ, rfl, rfl, Nat.le_succ _⟩

theorem own_write2 {w0 w : World} {bd : Nat} {A : Dev} {F : Nat → Prop} (O : Own w0 w bd A F) (k : Int) (a : Option Addr) (c n : Nat) (l : Byt) (X : Rdx w F a l) (hn : l.length = n) (hm : n ≤ 140737488351232) {mx : Nat} (hfew : Few A mx) (hmx : mx ≤ 1000000000000) :
    Ret Tryd.prog 15 #[ptr bd, .int .i64 k, .slice a n c] w fun v w' => v = .int .i64 (writeE A k l) ∧ ∃ F', Own w0 w' bd (writeD A k l) F' ∧ Grown F F' w w' :=
  (dwrite_ok k a c n l X.1 hn hm X.2 hfew hmx O.dev).mono fun _ _ ⟨hv, hd, ht⟩ => ⟨hv, _, O.grow hd ht⟩
section
variable {w0 w : World} {bd bj : Nat} {A : Dev} {J : Jr} {F : Nat → Prop}
theorem jone_openraw (O : Own w0 w bd A F) (f z p q : Nat) (hr : rightJ A.B.length f z p q = true) (ho : A.on = true) (hraw : bodyOf (at' A ((jr0 f z p q).place 0)) = []) {mx : Nat} (hfew : Few A mx) (hmx : mx ≤ 1000000000) :
    Ret Tryd.prog 29 #[ptr bd, .int .i64 (f : Int), .int .i64 (z : Int), .int .i64 (p : Int), .int .u64 (q : Int)] w fun v w' => ∃ bj a c, v = .tuple #[ptr bj, .slice a 0 c, .int .i64 0] ∧ Jone w0 w' bd bj A (jr0 f z p q) F :=
  (jone_open O f z p q hr ho hfew hmx).mono fun v w' ⟨bj, a, n, c, hv, _, _, O', S⟩ => by
    rw [openJ_raw hraw] at O' S
    obtain rfl : n = 0 := S.num
    exact ⟨bj, a, c, hv, O'⟩
theorem jone_forget2 (O : Jone w0 w bd bj A J F) (hJ : J.Ok) :
    Ret Tryd.prog 33 #[ptr bj] w fun v w' => ∃ e J', v = .int .i64 e ∧ Jone w0 w' bd bj A J' F ∧ J'.Ok ∧ J'.frm = J.frm ∧ J'.size = J.size ∧ J'.seq = J.seq :=
  (jforget_ok O.jr).mono fun v w' ⟨hv, hj, hx⟩ => by
    have hs := hx.size
    refine ⟨_, _, hv, ⟨⟨O.own.ext.then hx fun x h => .inr (by rw [List.mem_singleton.1 h]; exact O.ge), O.own.dev.keep hx fun x h => by rw [List.mem_singleton.1 h]; exact O.nF, fun x h => ⟨(O.own.own x h).1, by have := (O.own.own x h).2; omega⟩⟩, hj, O.nF, O.ge⟩, ?_⟩
    split
    · exact ⟨hJ, rfl, rfl, rfl⟩
    · exact ⟨⟨hJ.s1, hJ.s2, hJ.a, Nat.zero_le _, hJ.q⟩, rfl, rfl, rfl⟩
theorem jone_append2 (O : Jone w0 w bd bj A J F) (hJ : J.Ok) (a : Option Addr) (c n : Nat) (b : Byt) (R : Rd w a 1 B8 b) (hn : b.length = n) (hm : n ≤ 900000) (hc : n ≤ c) (hFa : b = [] ∨ ¬ Fj F bj (adr a).block) {mx : Nat} (hfew : Few A mx) (hmx : mx ≤ 1000000000) :
    Ret Tryd.prog 32 #[ptr bj, .slice a n c] w fun v w' => ∃ e, v = .int .i64 e ∧ ∃ F', Jone w0 w' bd bj (appD A J b) (appJ A J b) F' :=
  (jone_append O hJ a c n b R hn hm hc hFa hfew hmx).mono fun _ _ ⟨hv, F', O', _⟩ => ⟨_, hv, F', O'⟩
end

end Go.Proofs.YtkmbcpgnafmnpaaDoor
