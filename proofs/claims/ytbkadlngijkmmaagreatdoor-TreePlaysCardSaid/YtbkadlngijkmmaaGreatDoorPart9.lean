/- Part 9 of the proof. -/
import Derived.Test.YtbkadlngijkmmaaGreatDoorPart8
import Derived.Test.YtbkadlngijkmmaaGreatDoorPart4
import Derived.Sort.OwnSortedInts
/- A pair is put, or cut: what is done to a leaf: the walks. -/
namespace Go.Proofs.YtbkadlngijkmmaaGreatDoor
open Go.GV
theorem ca_68_TrX : callable Tryz.prog 68 = true := by kernel_rfl
theorem ca_74_TrX : callable Tryz.prog 74 = true := by kernel_rfl
theorem el_114_TrX : elemT Tryz.prog 114 = some 120 := by kernel_rfl
theorem el_196_TrX : elemT Tryz.prog 196 = some 114 := by kernel_rfl
theorem pl_120_TrX : placesB Tryz.prog 120 = some [(0, 1), (1, 1), (2, 1)] := by kernel_rfl
theorem sz_114_TrX : tsize Tryz.prog 114 = some 1 := by kernel_rfl
theorem sz_120_TrX : tsize Tryz.prog 120 = some 3 := by kernel_rfl
theorem zc_114_TrX : zcells Tryz.prog 114 = some ([.slice none 0 0]) := by kernel_rfl
theorem zc_120_TrX : zcells Tryz.prog 120 = some ([.slice none 0 0, .slice none 0 0, .int .i64 0]) := by kernel_rfl
attribute [local irreducible] Wops W Wq Wt

theorem ins_parts {w : World} {M : Mut} {a : Option Addr} {n c k m b : Nat} {l q : List It} (I : Its w M a n c l) (Q : Its w M (some ⟨b, 0, none⟩) 1 1 q) (hk : k ≤ n) (hm : m ≤ n) (h1 : (l.take k).length = k) (h2 : (l.drop m).length = n - m) :
    ∀ x ∈ ([(a, l.take k, c), (some ⟨b, 0, none⟩, q, 1), (cutA a c m 3, l.drop m, c - m)] : List SI), Its w M x.1 x.2.1.length x.2.2 x.2.1 := by
  intro x hx
  simp only [List.mem_cons, List.not_mem_nil, or_false] at hx
  rcases hx with rfl | rfl | rfl
  · show Its w M a (l.take k).length c (l.take k)
    rw [h1]; exact I.take hk
  · show Its w M _ q.length _ q
    rw [← Q.num]; exact Q
  · show Its w M _ (l.drop m).length _ (l.drop m)
    rw [h2]; exact I.drop hm
theorem del_parts {w : World} {M : Mut} {a : Option Addr} {n c k m : Nat} {l : List It} (I : Its w M a n c l) (hk : k ≤ n) (hm : m ≤ n) (h1 : (l.take k).length = k) (h2 : (l.drop m).length = n - m) :
    ∀ x ∈ ([(a, l.take k, c), (cutA a c m 3, l.drop m, c - m)] : List SI), Its w M x.1 x.2.1.length x.2.2 x.2.1 := by
  intro x hx
  simp only [List.mem_cons, List.not_mem_nil, or_false] at hx
  rcases hx with rfl | rfl
  · show Its w M a (l.take k).length c (l.take k)
    rw [h1]; exact I.take hk
  · show Its w M _ (l.drop m).length _ (l.drop m)
    rw [h2]; exact I.drop hm
theorem its_one {w0 w : World} {M : Mut} (hM : ∀ x, M x → x < w0.heap.size) {b t : Nat} {ka va : Option Addr} {kc vc : Nat} {key val : Byt} (hb : w.heap[b]? = some (Bl t [.slice ka key.length kc, .slice va val.length vc, .int .i64 0])) (hn : w0.heap.size ≤ b)
    (Rk : Rdx w M ka key) (Rv : Rdx w M va val) (hkc : key.length ≤ kc) (hvc : val.length ≤ vc) : Its w M (some ⟨b, 0, none⟩) 1 1 [⟨key, val, 0⟩] := by
  refine ⟨⟨[⟨ka, kc, va, vc, ⟨key, val, 0⟩⟩], Rd.of_bl (r := []) hb rfl (fun _ _ => rfl), .inr fun h => ?_, rfl, fun m hm => ?_⟩, rfl, Nat.le_refl _⟩
  · have := hM _ h; dsimp only [adr] at this; omega
  · rw [List.mem_singleton.1 hm]; exact ⟨Rk, Rv, hkc, hvc⟩

set_option maxRecDepth 20000 in
set_option maxHeartbeats 8000000 in
theorem put1_ok7 {w : World} {M : Mut} (hM : ∀ x, M x → x < w.heap.size) {b6 b7 t6 t7 : Nat} {ka va : Option Addr} {kc vc : Nat} {key val : Byt} {l6 l7 : List Value} (h6 : w.heap[b6]? = some (Bl t6 (.slice ka key.length kc :: l6))) (h7 : w.heap[b7]? = some (Bl t7 (.slice va val.length vc :: l7)))
    (Rk : Rdx w M ka key) (Rv : Rdx w M va val) (hkc : key.length ≤ kc) (hvc : val.length ≤ vc) {a : Option Addr} {n c : Nat} {l : List It} (I : Its w M a n c l) (hn : n ≤ 100000) :
    Ret Tryz.prog 73 #[.slice a n c, ptr b6, ptr b7] w fun v w' => ∃ a' c', v = .slice a' (insI key val l).length c' ∧ Its w' M a' (insI key val l).length c' (insI key val l) ∧ Ext [] w w' := by
  obtain ⟨w0, rfl⟩ : ∃ w0, w0 = w := ⟨_, rfl⟩
  have hnum := I.num
  have hcap := I.le
  have hpl := placeN_le l key
  obtain ⟨k, hk⟩ : ∃ k, k = placeN l key := ⟨_, rfl⟩
  obtain ⟨kb, hkb⟩ : ∃ kb, kb = placeB l key := ⟨_, rfl⟩
  have k6 : ∀ {z : World}, Ext [] w0 z → z.heap[b6]? = some (Bl t6 (.slice ka key.length kc :: l6)) := fun {z} h => by rw [h.block b6 (heap_lt h6) (by simp)]; exact h6
  have k7 : ∀ {z : World}, Ext [] w0 z → z.heap[b7]? = some (Bl t7 (.slice va val.length vc :: l7)) := fun {z} h => by rw [h.block b7 (heap_lt h7) (by simp)]; exact h7
  have hins : insI key val l = if kb = true then l.take k ++ ([⟨key, val, 0⟩] ++ l.drop (k + 1)) else l.take k ++ ([⟨key, val, 0⟩] ++ l.drop k) := by unfold insI; rw [hkb, hk]
  obtain ⟨il, hil⟩ : ∃ il, il = insI key val l := ⟨_, rfl⟩
  rw [← hil] at hins ⊢
  have H := Ctx.start w0 []
  refine ret_of_W (fn := Tryz.f73) Tryz.func73 rfl [.slice a n c, .pointer (some ⟨b6, 0, none⟩), .pointer (some ⟨b7, 0, none⟩)] rfl (by kernel_rfl) ?_
  refine W_rseq ?_
  refine op_assign rfl (.slice _ _ _) rfl ?_
  refine op_nil (at_then ?_)
  refine W_rseq ?_
  refine op_move rfl (.slice _ _ _) rfl ?_
  first | refine op_ldb rfl ag_23 rfl H (by first | exact at0 | exact at1 | exact at2 | exact at3 | exact at4 | exact at5 | exact at6 | exact at7 | exact at8 | exact at9) rfl ?_ | refine op_ld rfl ag_23 rfl ((by rw [cell_bl h6]; rfl)) ?_
  refine op_call rfl ca_68_TrX (place_ok I ka kc _ key Rk.1 rfl (by omega)) rfl ?_
  rintro v w1 ⟨rfl, hx1⟩
  rw [← hk, ← hkb]
  have H := Ctx.start w1 []
  refine op_move rfl (.tuple _) rfl ?_
  refine op_extract rfl rfl rfl ?_
  refine op_extract rfl rfl rfl ?_
  refine op_assign rfl (.int _ _) rfl ?_
  refine op_assign rfl (.bool _) rfl ?_
  refine op_nil (at_then ?_)
  refine W_seq ?_
  refine W_rseq ?_
  refine op_move rfl (.bool _) rfl ?_
  refine op_nil (at_then ?_)
  refine W_cond _ rfl ?_ ?_
  · intro hA
    have hlt : k < n := by
      rw [hkb] at hA
      obtain ⟨x, hx, -⟩ := placeB_get hA
      have := (List.getElem?_eq_some_iff.1 hx).1
      omega
    rw [if_pos hA] at hins
    refine W_sseqz [([0, 1, 2, 3, 4, 5, 7, 8, 9, 10], 6), ([], 11), ([], 12), ([], 13)] (fun z => Ext [] w1 z) [] mixed (by kernel_rfl) (Ext.drew [] w1) ?_
    refine seg_cons rfl rfl ?_
    refine t_move rfl (.slice _ _ _) rfl ?_
    refine t_move rfl (.int _ _) rfl ?_
    refine t_slice_hi rfl el_114_TrX sz_120_TrX rfl rfl (by omega) (by omega) ?_
    first | refine t_ldb rfl ag_23 rfl (fun _ _ => Ctx.start _ []) (by first | exact at0 | exact at1 | exact at2 | exact at3 | exact at4 | exact at5 | exact at6 | exact at7 | exact at8 | exact at9) rfl ?_ | refine t_ld rfl ag_23 rfl (fun _ hx => (by rw [cell_bl (k6 (hx1.trans hx))]; rfl)) ?_ | refine t_ld rfl ag_23 rfl (fun _ hx => (by rw [cell_bl (k7 (hx1.trans hx))]; rfl)) ?_
    first | refine t_ldb rfl ag_23 rfl (fun _ _ => Ctx.start _ []) (by first | exact at0 | exact at1 | exact at2 | exact at3 | exact at4 | exact at5 | exact at6 | exact at7 | exact at8 | exact at9) rfl ?_ | refine t_ld rfl ag_23 rfl (fun _ hx => (by rw [cell_bl (k6 (hx1.trans hx))]; rfl)) ?_ | refine t_ld rfl ag_23 rfl (fun _ hx => (by rw [cell_bl (k7 (hx1.trans hx))]; rfl)) ?_
    refine t_buildS [.slice ka key.length kc, .slice va val.length vc, .int .i64 0] rfl pl_120_TrX zc_120_TrX (by kernel_rfl) ?_
    refine t_move rfl (.slice _ _ _) rfl ?_
    refine t_move rfl (.int _ _) rfl ?_
    refine t_add_i64 rfl rfl rfl (by omega) (by omega) ?_
    refine t_slice_lo rfl el_114_TrX sz_120_TrX rfl rfl (by omega) (by omega) ?_
    refine t_nil ?_
    replace H := H.drew
    refine op_build1 [.slice ka key.length kc, .slice va val.length vc, .int .i64 0] (.agg _) rfl el_114_TrX sz_120_TrX zc_120_TrX rfl (by decide) (by decide) rfl rfl rfl H ?_
    rintro b20 w2 hb20 H
    refine op_nil (at_seg (H.ext) ?_)
    refine seg_cons rfl rfl ?_
    refine t_nil ?_
    refine op_buildL [.slice a k c, .slice (some ⟨b20, 0, none⟩) 1 1, .slice (cutA a c (k + 1) 3) (n - (k + 1)) (c - (k + 1))] rfl el_196_TrX sz_114_TrX zc_114_TrX (by decide) (by decide) (by kernel_rfl) H ?_
    rintro b25 w3 - H
    refine op_nil (at_seg (H.ext) ?_)
    refine seg_cons rfl rfl ?_
    refine t_nil ?_
    have hx3 := hx1.trans H.ext
    have I3 := I.call hx3
    have hlt9 : (l.take k).length = k := (by rw [List.length_take]; omega)
    have hld9 : (l.drop (k + 1)).length = n - (k + 1) := (by rw [List.length_drop]; omega)
    have Q3 := its_one hM (H.get at1) ((H.own _ (List.mem_cons_of_mem _ (List.mem_cons_self ..))).elim (fun h => by cases h) fun h => Nat.le_trans hx1.size h) (Rk.call hx3) (Rv.call hx3) hkc hvc
    have RR : Rd w3 (some ⟨b25, 0, none⟩) 1 encT [(a, l.take k, c), (some ⟨b20, 0, none⟩, [⟨key, val, 0⟩], 1), (cutA a c (k + 1) 3, l.drop (k + 1), c - (k + 1))] := Rd.of_bl (r := []) (H.get at0) (by simp [encT, hlt9, hld9]) (fun _ _ => rfl)
    have CC := concatI_ok (M := M) (n := 3) (c := 3) (fun x h => Nat.lt_of_lt_of_le (hM x h) hx3.size) _ RR (ins_parts I3 Q3 (by omega) (by omega) hlt9 hld9) rfl (by omega) (by simp only [List.map_cons, List.map_nil, List.sum_cons, List.sum_nil, List.length_singleton]; omega)
    rw [show ([(a, l.take k, c), (some ⟨b20, 0, none⟩, [⟨key, val, 0⟩], 1), (cutA a c (k + 1) 3, l.drop (k + 1), c - (k + 1))] : List SI).flatMap (fun x => x.2.1) = il by rw [hins]; simp] at CC
    refine op_call rfl ca_74_TrX CC rfl ?_
    rintro v w4 ⟨a4, c4, rfl, J4, hx4⟩
    have hx14 := H.ext.trans hx4
    refine op_nil (at_seg (hx14) ?_)
    refine seg_cons rfl rfl ?_
    refine t_nil ?_
    refine op_assign rfl (.slice _ _ _) rfl ?_
    refine op_nil (at_seg (hx14) ?_)
    refine seg_nil ?_
    refine W_ret (ret_then (leave1 (v := (.slice _ _ _)) rfl rfl rfl ?_))
    exact ⟨a4, c4, rfl, J4, hx1.trans hx14⟩
  · intro hA
    rw [if_neg (by rw [hA]; simp)] at hins
    refine W_skip (at_then ?_)
    refine W_sseqz [([0, 1, 2, 3, 4, 5, 7, 8, 9], 6), ([], 10), ([], 11), ([], 12)] (fun z => Ext [] w1 z) [] mixed (by kernel_rfl) (Ext.drew [] w1) ?_
    refine seg_cons rfl rfl ?_
    refine t_move rfl (.slice _ _ _) rfl ?_
    refine t_move rfl (.int _ _) rfl ?_
    refine t_slice_hi rfl el_114_TrX sz_120_TrX rfl rfl (by omega) (by omega) ?_
    first | refine t_ldb rfl ag_23 rfl (fun _ _ => Ctx.start _ []) (by first | exact at0 | exact at1 | exact at2 | exact at3 | exact at4 | exact at5 | exact at6 | exact at7 | exact at8 | exact at9) rfl ?_ | refine t_ld rfl ag_23 rfl (fun _ hx => (by rw [cell_bl (k6 (hx1.trans hx))]; rfl)) ?_ | refine t_ld rfl ag_23 rfl (fun _ hx => (by rw [cell_bl (k7 (hx1.trans hx))]; rfl)) ?_
    first | refine t_ldb rfl ag_23 rfl (fun _ _ => Ctx.start _ []) (by first | exact at0 | exact at1 | exact at2 | exact at3 | exact at4 | exact at5 | exact at6 | exact at7 | exact at8 | exact at9) rfl ?_ | refine t_ld rfl ag_23 rfl (fun _ hx => (by rw [cell_bl (k6 (hx1.trans hx))]; rfl)) ?_ | refine t_ld rfl ag_23 rfl (fun _ hx => (by rw [cell_bl (k7 (hx1.trans hx))]; rfl)) ?_
    refine t_buildS [.slice ka key.length kc, .slice va val.length vc, .int .i64 0] rfl pl_120_TrX zc_120_TrX (by kernel_rfl) ?_
    refine t_move rfl (.slice _ _ _) rfl ?_
    refine t_move rfl (.int _ _) rfl ?_
    refine t_slice_lo rfl el_114_TrX sz_120_TrX rfl rfl (by omega) (by omega) ?_
    refine t_nil ?_
    replace H := H.drew
    refine op_build1 [.slice ka key.length kc, .slice va val.length vc, .int .i64 0] (.agg _) rfl el_114_TrX sz_120_TrX zc_120_TrX rfl (by decide) (by decide) rfl rfl rfl H ?_
    rintro b20 w2 hb20 H
    refine op_nil (at_seg (H.ext) ?_)
    refine seg_cons rfl rfl ?_
    refine t_nil ?_
    refine op_buildL [.slice a k c, .slice (some ⟨b20, 0, none⟩) 1 1, .slice (cutA a c k 3) (n - k) (c - k)] rfl el_196_TrX sz_114_TrX zc_114_TrX (by decide) (by decide) (by kernel_rfl) H ?_
    rintro b25 w3 - H
    refine op_nil (at_seg (H.ext) ?_)
    refine seg_cons rfl rfl ?_
    refine t_nil ?_
    have hx3 := hx1.trans H.ext
    have I3 := I.call hx3
    have hlt9 : (l.take k).length = k := (by rw [List.length_take]; omega)
    have hld9 : (l.drop k).length = n - k := (by rw [List.length_drop]; omega)
    have Q3 := its_one hM (H.get at1) ((H.own _ (List.mem_cons_of_mem _ (List.mem_cons_self ..))).elim (fun h => by cases h) fun h => Nat.le_trans hx1.size h) (Rk.call hx3) (Rv.call hx3) hkc hvc
    have RR : Rd w3 (some ⟨b25, 0, none⟩) 1 encT [(a, l.take k, c), (some ⟨b20, 0, none⟩, [⟨key, val, 0⟩], 1), (cutA a c k 3, l.drop k, c - k)] := Rd.of_bl (r := []) (H.get at0) (by simp [encT, hlt9, hld9]) (fun _ _ => rfl)
    have CC := concatI_ok (M := M) (n := 3) (c := 3) (fun x h => Nat.lt_of_lt_of_le (hM x h) hx3.size) _ RR (ins_parts I3 Q3 (by omega) (by omega) hlt9 hld9) rfl (by omega) (by simp only [List.map_cons, List.map_nil, List.sum_cons, List.sum_nil, List.length_singleton]; omega)
    rw [show ([(a, l.take k, c), (some ⟨b20, 0, none⟩, [⟨key, val, 0⟩], 1), (cutA a c k 3, l.drop k, c - k)] : List SI).flatMap (fun x => x.2.1) = il by rw [hins]; simp] at CC
    refine op_call rfl ca_74_TrX CC rfl ?_
    rintro v w4 ⟨a4, c4, rfl, J4, hx4⟩
    have hx14 := H.ext.trans hx4
    refine op_nil (at_seg (hx14) ?_)
    refine seg_cons rfl rfl ?_
    refine t_nil ?_
    refine op_assign rfl (.slice _ _ _) rfl ?_
    refine op_nil (at_seg (hx14) ?_)
    refine seg_nil ?_
    refine W_ret (leave1 (v := (.slice _ _ _)) rfl rfl rfl ?_)
    exact ⟨a4, c4, rfl, J4, hx1.trans hx14⟩

set_option maxRecDepth 20000 in
set_option maxHeartbeats 8000000 in
theorem cut1_ok7 {w : World} {M : Mut} (hM : ∀ x, M x → x < w.heap.size) {b5 t5 : Nat} {ka : Option Addr} {kc : Nat} {key : Byt} {l5 : List Value} (h5 : w.heap[b5]? = some (Bl t5 (.slice ka key.length kc :: l5)))
    (Rk : Rdx w M ka key) {a : Option Addr} {n c : Nat} {l : List It} (I : Its w M a n c l) (hn : n ≤ 100000) :
    Ret Tryz.prog 75 #[.slice a n c, ptr b5] w fun v w' => ∃ a' c', v = .slice a' (delI key l).length c' ∧ Its w' M a' (delI key l).length c' (delI key l) ∧ Ext [] w w' := by
  obtain ⟨w0, rfl⟩ : ∃ w0, w0 = w := ⟨_, rfl⟩
  have hnum := I.num
  have hcap := I.le
  have hpl := placeN_le l key
  obtain ⟨k, hk⟩ : ∃ k, k = placeN l key := ⟨_, rfl⟩
  obtain ⟨kb, hkb⟩ : ∃ kb, kb = placeB l key := ⟨_, rfl⟩
  have hins : delI key l = if kb = true then l.take k ++ l.drop (k + 1) else l := by unfold delI; rw [hkb, hk]
  obtain ⟨il, hil⟩ : ∃ il, il = delI key l := ⟨_, rfl⟩
  rw [← hil] at hins ⊢
  have H := Ctx.start w0 []
  refine ret_of_W (fn := Tryz.f75) Tryz.func75 rfl [.slice a n c, .pointer (some ⟨b5, 0, none⟩)] rfl (by kernel_rfl) ?_
  refine W_rseq ?_
  refine op_assign rfl (.slice _ _ _) rfl ?_
  refine op_nil (at_then ?_)
  refine W_rseq ?_
  refine op_move rfl (.slice _ _ _) rfl ?_
  first | refine op_ldb rfl ag_23 rfl H (by first | exact at0 | exact at1 | exact at2 | exact at3 | exact at4 | exact at5 | exact at6 | exact at7 | exact at8 | exact at9) rfl ?_ | refine op_ld rfl ag_23 rfl ((by rw [cell_bl h5]; rfl)) ?_
  refine op_call rfl ca_68_TrX (place_ok I ka kc _ key Rk.1 rfl (by omega)) rfl ?_
  rintro v w1 ⟨rfl, hx1⟩
  rw [← hk, ← hkb]
  have H := Ctx.start w1 []
  refine op_move rfl (.tuple _) rfl ?_
  refine op_extract rfl rfl rfl ?_
  refine op_extract rfl rfl rfl ?_
  refine op_assign rfl (.int _ _) rfl ?_
  refine op_assign rfl (.bool _) rfl ?_
  refine op_nil (at_then ?_)
  refine W_seq ?_
  refine W_rseq ?_
  refine op_move rfl (.bool _) rfl ?_
  refine op_not rfl rfl ?_
  refine op_nil (at_then ?_)
  refine W_cond _ rfl ?_ ?_
  · intro hA
    replace hA := nvar_t hA
    rw [if_neg (by rw [hA]; simp)] at hins
    refine W_rseq ?_
    refine op_move rfl (.slice _ _ _) rfl ?_
    refine op_assign rfl (.slice _ _ _) rfl ?_
    refine op_nil (at_then ?_)
    refine W_ret (ret_then (leave1 (v := (.slice _ _ _)) rfl rfl rfl ?_))
    rw [hins, ← hnum]
    exact ⟨a, c, rfl, I.call hx1, hx1⟩
  · intro hA
    replace hA := nvar_f hA
    have hlt : k < n := by
      rw [hkb] at hA
      obtain ⟨x, hx, -⟩ := placeB_get hA
      have := (List.getElem?_eq_some_iff.1 hx).1
      omega
    rw [if_pos hA] at hins
    refine W_skip (at_then ?_)
    refine W_sseqz [([0, 1, 2, 3, 4, 5, 6], 7), ([], 8), ([], 9)] (fun z => Ext [] w1 z) [] mixed (by kernel_rfl) (Ext.drew [] w1) ?_
    refine seg_cons rfl rfl ?_
    refine t_move rfl (.slice _ _ _) rfl ?_
    refine t_move rfl (.int _ _) rfl ?_
    refine t_slice_hi rfl el_114_TrX sz_120_TrX rfl rfl (by omega) (by omega) ?_
    refine t_move rfl (.slice _ _ _) rfl ?_
    refine t_move rfl (.int _ _) rfl ?_
    refine t_add_i64 rfl rfl rfl (by omega) (by omega) ?_
    refine t_slice_lo rfl el_114_TrX sz_120_TrX rfl rfl (by omega) (by omega) ?_
    refine t_nil ?_
    replace H := H.drew
    refine op_buildL [.slice a k c, .slice (cutA a c (k + 1) 3) (n - (k + 1)) (c - (k + 1))] rfl el_196_TrX sz_114_TrX zc_114_TrX (by decide) (by decide) (by kernel_rfl) H ?_
    rintro b25 w3 - H
    refine op_nil (at_seg (H.ext) ?_)
    refine seg_cons rfl rfl ?_
    refine t_nil ?_
    have hx3 := hx1.trans H.ext
    have I3 := I.call hx3
    have hlt9 : (l.take k).length = k := (by rw [List.length_take]; omega)
    have hld9 : (l.drop (k + 1)).length = n - (k + 1) := (by rw [List.length_drop]; omega)
    have RR : Rd w3 (some ⟨b25, 0, none⟩) 1 encT [(a, l.take k, c), (cutA a c (k + 1) 3, l.drop (k + 1), c - (k + 1))] := Rd.of_bl (r := []) (H.get at0) (by simp [encT, hlt9, hld9]) (fun _ _ => rfl)
    have CC := concatI_ok (M := M) (n := 2) (c := 2) (fun x h => Nat.lt_of_lt_of_le (hM x h) hx3.size) _ RR (del_parts I3 (by omega) (by omega) hlt9 hld9) rfl (by omega) (by simp only [List.map_cons, List.map_nil, List.sum_cons, List.sum_nil]; omega)
    rw [show ([(a, l.take k, c), (cutA a c (k + 1) 3, l.drop (k + 1), c - (k + 1))] : List SI).flatMap (fun x => x.2.1) = il by rw [hins]; simp] at CC
    refine op_call rfl ca_74_TrX CC rfl ?_
    rintro v w4 ⟨a4, c4, rfl, J4, hx4⟩
    have hx14 := H.ext.trans hx4
    refine op_nil (at_seg (hx14) ?_)
    refine seg_cons rfl rfl ?_
    refine t_nil ?_
    refine op_assign rfl (.slice _ _ _) rfl ?_
    refine op_nil (at_seg (hx14) ?_)
    refine seg_nil ?_
    refine W_ret (leave1 (v := (.slice _ _ _)) rfl rfl rfl ?_)
    exact ⟨a4, c4, rfl, J4, hx1.trans hx14⟩

end Go.Proofs.YtbkadlngijkmmaaGreatDoor

/- A pair is put, or cut: the walks. -/
namespace Go.Proofs.YtbkadlngijkmmaaGreatDoor
open Go.GV
theorem ca_17_TrY : callable Tryz.prog 17 = true := by kernel_rfl
theorem ca_64_TrY : callable Tryz.prog 64 = true := by kernel_rfl
theorem ca_65_TrY : callable Tryz.prog 65 = true := by kernel_rfl
theorem ca_72_TrY : callable Tryz.prog 72 = true := by kernel_rfl
theorem ca_73_TrY : callable Tryz.prog 73 = true := by kernel_rfl
theorem ca_75_TrY : callable Tryz.prog 75 = true := by kernel_rfl
attribute [local irreducible] Wops W Wq Wt

theorem Grown.keep {M M' : Mut} {w w' : World} {b : Nat} {o : Obj} (t : Grown M M' w w') (h : w.heap[b]? = some o) (hn : ¬ M b) : w'.heap[b]? = some o := by
  obtain ⟨⟨S, hS, hx⟩, -⟩ := t
  rw [hx.block b (heap_lt h) fun h => hn (hS _ h)]; exact h
abbrev Z0 : Mut := fun _ => False
theorem MZ0 {M : Mut} : ∀ x, MZ M Z0 x → M x := fun _ h => h.elim id False.elim

set_option maxRecDepth 20000 in
set_option maxHeartbeats 4000000 in
theorem put8_ok {fr : Nat} (hfr : fr ≤ 5000) {w : World} {bt bd bp ba : Nat} {A : Dev} {P : List Nat} {F : Mut} (T : Tx w bt bd bp ba fr A P F []) (root : Int) (hr1 : -9223372036854775808 ≤ root) (hr2 : root ≤ 9223372036854775807) (ka va : Option Addr) (kc vc kn vn : Nat) (key val : Byt) (Rk : Rdx w (TM F ba bt bp []) ka key) (Rv : Rdx w (TM F ba bt bp []) va val)
    (hkn : key.length = kn) (hvn : val.length = vn) (hkc : kn ≤ kc) (hvc : vn ≤ vc) (hkl : kn ≤ 100000) {mx : Nat} (hfew : Few A mx) (hmx : mx ≤ 800000000) (hok : (putT fr A P root key val).1 ≠ 99) :
    Ret Tryz.prog 26 #[ptr bt, .int .i64 root, .slice ka kn kc, .slice va vn vc] w fun v w' => ∃ F', v = .tuple #[.int .i64 (putT fr A P root key val).2.1, .int .i64 (putT fr A P root key val).1] ∧ Tx w' bt bd bp ba fr (putT fr A P root key val).2.2.1 (putT fr A P root key val).2.2.2 F' [] ∧ Grown (TM F ba bt bp []) (TM F' ba bt bp []) w w' := by
  subst hkn hvn
  obtain ⟨w0, rfl⟩ : ∃ w0, w0 = w := ⟨_, rfl⟩
  obtain ⟨pt, hpt⟩ : ∃ pt, pt = putT fr A P root key val := ⟨_, rfl⟩
  rw [← hpt] at hok ⊢
  unfold putT at hpt
  have H := Ctx.start w0 []
  refine ret_of_W (fn := Tryz.f26) Tryz.func26 rfl [.pointer (some ⟨bt, 0, none⟩), .int .i64 root, .slice ka key.length kc, .slice va val.length vc] rfl (by kernel_rfl) ?_
  refine W_rseq ?_
  refine op_box rfl _ (.slice _ _ _) rfl rfl H ?_
  rintro b6 w - H
  refine op_box rfl _ (.slice _ _ _) rfl rfl H ?_
  rintro b7 w - H
  refine op_assign rfl (.int _ _) rfl ?_
  refine op_assign rfl (.int _ _) rfl ?_
  refine op_nil (at_then ?_)
  refine W_seq ?_
  refine W_rseq ?_
  refine op_move rfl (.pointer _) rfl ?_
  refine op_move rfl (.int _ _) rfl ?_
  refine op_call rfl ca_64_TrY (may7_ok (T.call H.ext) root) rfl ?_
  rintro v w2 ⟨rfl, rfl⟩
  refine op_assign rfl (.int _ _) rfl ?_
  refine op_nil (at_then ?_)
  refine W_rseq ?_
  refine op_move rfl (.int _ _) rfl ?_
  refine op_neq rfl rfl rfl ?_
  refine op_nil (at_then ?_)
  refine W_cond _ rfl ?_ ?_
  · intro hA
    replace hA := ndec_t hA
    rw [if_pos hA] at hpt
    have he : mayE P.length root = 1 := by unfold mayE at hA ⊢; split <;> simp_all
    rw [he]
    refine W_rseq ?_
    refine op_move rfl (.int _ _) rfl ?_
    refine op_move rfl (.int _ _) rfl ?_
    refine op_assign rfl (.int _ _) rfl ?_
    refine op_assign rfl (.int _ _) rfl ?_
    refine op_nil (at_then ?_)
    refine W_ret (ret_then (leave2 (v1 := (.int _ _)) (v2 := (.int _ _)) rfl rfl rfl rfl ?_))
    exact ⟨F, by rw [hpt], by rw [hpt]; exact T.call H.ext, .call0 H.ext⟩
  · intro hA
    replace hA := ndec_f hA
    rw [if_neg (by simpa using hA)] at hpt
    have hm0 : mayE P.length root = 0 := by simpa using hA
    have hroot : -1 ≤ root ∧ root ≤ 4294967296 := by
      have hpl := T.pg.len
      unfold mayE at hm0
      split at hm0
      · cases hm0
      · omega
    refine W_skip (at_then ?_)
    refine W_seq ?_
    refine W_rseq ?_
    refine op_ldb rfl ag_23 rfl H (by first | exact at0 | exact at1 | exact at2 | exact at3 | exact at4 | exact at5 | exact at6 | exact at7 | exact at8 | exact at9) rfl ?_
    refine op_ldb rfl ag_23 rfl H (by first | exact at0 | exact at1 | exact at2 | exact at3 | exact at4 | exact at5 | exact at6 | exact at7 | exact at8 | exact at9) rfl ?_
    refine op_call rfl ca_65_TrY (right7_ok ka va _ _ kc vc _) rfl ?_
    rintro v w2 ⟨rfl, rfl⟩
    refine op_not rfl rfl ?_
    refine op_nil (at_then ?_)
    refine W_cond _ rfl ?_ ?_
    · intro hB
      replace hB := nvar_t hB
      rw [if_neg (by rw [hB]; simp)] at hpt
      refine W_rseq ?_
      refine op_move rfl (.int _ _) rfl ?_
      refine op_assign rfl (.int _ _) rfl ?_
      refine op_assign rfl (.int _ _) rfl ?_
      refine op_nil (at_then ?_)
      refine W_ret (ret_then (leave2 (v1 := (.int _ _)) (v2 := (.int _ _)) rfl rfl rfl rfl ?_))
      exact ⟨F, by rw [hpt], by rw [hpt]; exact T.call H.ext, .call0 H.ext⟩
    · intro hB
      replace hB := nvar_f hB
      rw [if_pos (by simpa using hB)] at hpt
      have hx1 := H.ext
      have h6 := H.get at1
      have h7 := H.get at0
      have ho6 := (H.own _ (List.mem_cons_of_mem _ (List.mem_cons_self ..))).elim (fun h => by cases h) id
      have ho7 := (H.own _ (List.mem_cons_self ..)).elim (fun h => by cases h) id
      have hM0 := T.mlt
      have T1 := T.call hx1
      have D : DoOk 73 [ptr b6, ptr b7] (insI key val) w (MZ (TM F ba bt bp []) Z0) := fun w' M' t hlt a n c l I hn => put1_ok7 hlt (t.keep h6 fun h => by have := hM0 _ (MZ0 _ h); dsimp only at ho6; omega) (t.keep h7 fun h => by have := hM0 _ (MZ0 _ h); dsimp only at ho7; omega) (((Rk.call hx1).weak MZ0).turn t) (((Rv.call hx1).weak MZ0).turn t) hkc hvc I hn
      have hokt : (turnC fr A P root key (insI key val)).1 ≠ 99 := fun h => hok (by rw [hpt]; exact h)
      refine W_skip (at_then ?_)
      refine W_rseq ?_
      refine op_move rfl (.pointer _) rfl ?_
      refine op_move rfl (.int _ _) rfl ?_
      refine op_ldb rfl ag_23 rfl H (by first | exact at0 | exact at1 | exact at2 | exact at3 | exact at4 | exact at5 | exact at6 | exact at7 | exact at8 | exact at9) rfl ?_
      refine op_makeFuncL rfl [.pointer _, .pointer _] rfl ?_
      refine op_call rfl ca_72_TrY (turn7_ok ca_73_TrY hfr hkl T1 root hroot.1 hroot.2 Z0 (fun x h => h.elim) D ka kc ((Rk.call hx1).weak MZ0) hfew hmx hokt) rfl ?_
      rintro v w3 ⟨F3, rfl, T3, g3⟩
      refine op_extract rfl rfl rfl ?_
      refine op_extract rfl rfl rfl ?_
      refine op_assign rfl (.int _ _) rfl ?_
      refine op_assign rfl (.int _ _) rfl ?_
      refine op_nil (at_then ?_)
      refine W_ret (leave2 (v1 := (.int _ _)) (v2 := (.int _ _)) rfl rfl rfl rfl ?_)
      exact ⟨F3, by rw [hpt], by rw [hpt]; exact T3, (Grown.call0 hx1).trans g3⟩

set_option maxRecDepth 20000 in
set_option maxHeartbeats 4000000 in
theorem cut8_ok {fr : Nat} (hfr : fr ≤ 5000) {w : World} {bt bd bp ba : Nat} {A : Dev} {P : List Nat} {F : Mut} (T : Tx w bt bd bp ba fr A P F []) (root : Int) (hr1 : -9223372036854775808 ≤ root) (hr2 : root ≤ 9223372036854775807) (ka : Option Addr) (kc kn : Nat) (key : Byt) (Rk : Rdx w (TM F ba bt bp []) ka key)
    (hkn : key.length = kn) (hkl : kn ≤ 100000) {mx : Nat} (hfew : Few A mx) (hmx : mx ≤ 800000000) (hok : (cutT fr A P root key).1 ≠ 99) :
    Ret Tryz.prog 27 #[ptr bt, .int .i64 root, .slice ka kn kc] w fun v w' => ∃ F', v = .tuple #[.int .i64 (cutT fr A P root key).2.1, .bool (cutT fr A P root key).2.2.1, .int .i64 (cutT fr A P root key).1] ∧ Tx w' bt bd bp ba fr (cutT fr A P root key).2.2.2.1 (cutT fr A P root key).2.2.2.2 F' [] ∧ Grown (TM F ba bt bp []) (TM F' ba bt bp []) w w' := by
  subst hkn
  obtain ⟨w0, rfl⟩ : ∃ w0, w0 = w := ⟨_, rfl⟩
  obtain ⟨pt, hpt⟩ : ∃ pt, pt = cutT fr A P root key := ⟨_, rfl⟩
  rw [← hpt] at hok ⊢
  unfold cutT at hpt
  obtain ⟨gt, hgt⟩ : ∃ gt, gt = getT A fr P.length root key := ⟨_, rfl⟩
  rw [← hgt] at hpt
  have H := Ctx.start w0 []
  refine ret_of_W (fn := Tryz.f27) Tryz.func27 rfl [.pointer (some ⟨bt, 0, none⟩), .int .i64 root, .slice ka key.length kc] rfl (by kernel_rfl) ?_
  refine W_rseq ?_
  refine op_box rfl _ (.slice _ _ _) rfl rfl H ?_
  rintro b5 w - H
  refine op_assign rfl (.int _ _) rfl ?_
  refine op_assign rfl (.bool _) rfl ?_
  refine op_assign rfl (.int _ _) rfl ?_
  refine op_nil (at_then ?_)
  refine W_rseq ?_
  refine op_move rfl (.pointer _) rfl ?_
  refine op_move rfl (.int _ _) rfl ?_
  refine op_ldb rfl ag_23 rfl H (by first | exact at0 | exact at1 | exact at2 | exact at3 | exact at4 | exact at5 | exact at6 | exact at7 | exact at8 | exact at9) rfl ?_
  have hx0 := H.ext
  refine op_call rfl ca_17_TrY (get7_ok (T.call hx0) hfr root ⟨hr1, hr2⟩ ka kc _ key (Rk.call hx0).1 rfl hfew (by omega)) rfl ?_
  rintro v w2 ⟨va, vc, u, rfl, hx17, -, -, -⟩
  rw [← hgt]
  replace H := H.call hx17
  refine op_move rfl (.tuple _) rfl ?_
  refine op_extract rfl rfl rfl ?_
  refine op_extract rfl rfl rfl ?_
  refine op_extract rfl rfl rfl ?_
  refine op_assign rfl (.slice _ _ _) rfl ?_
  refine op_assign rfl (.bool _) rfl ?_
  refine op_assign rfl (.int _ _) rfl ?_
  refine op_nil (at_then ?_)
  refine W_seq ?_
  refine W_rseq (Wops_join (α := Unit) 132120576 (fun _ => [(26, .bool (decide (gt.1 ≠ 0) || decide (gt.2.isSome = false)))]) (fun _ w' => Ctx w0 [] w' [(b5, Bl 23 [.slice ka key.length kc])]) rfl ?_ ?_)
  · refine op_move rfl (.int _ _) rfl ?_
    refine op_neq rfl rfl rfl ?_
    refine op_move rfl (.bool _) rfl ?_
    refine Wops_split 23 rfl ?_ ?_
    · intro h1
      replace h1 := ndec_t h1
      refine op_skip rfl ?_
      refine op_skip rfl ?_
      refine op_pick1 rfl rfl (.bool _) rfl ?_
      refine op_nil ?_
      exact ⟨rfl, (), rfl, ⟨congrArg Value.bool (by (first | rw [decide_eq_true (show gt.1 ≠ 0 from h1)] | rw [decide_eq_false (show ¬ gt.1 ≠ 0 from fun h => h h2)]); cases gt.2 <;> rfl), trivial⟩, H⟩
    · intro h2
      replace h2 := ndec_f h2
      refine op_move rfl (.bool _) rfl ?_
      refine op_not rfl rfl ?_
      refine op_pick0 rfl rfl (.bool _) rfl ?_
      refine op_nil ?_
      exact ⟨rfl, (), rfl, ⟨congrArg Value.bool (by (first | rw [decide_eq_true (show gt.1 ≠ 0 from h1)] | rw [decide_eq_false (show ¬ gt.1 ≠ 0 from fun h => h h2)]); cases gt.2 <;> rfl), trivial⟩, H⟩
  rintro - j26 w H
  refine W_cond _ rfl ?_ ?_
  · intro hA
    refine W_rseq ?_
    refine op_move rfl (.int _ _) rfl ?_
    refine op_move rfl (.int _ _) rfl ?_
    refine op_assign rfl (.int _ _) rfl ?_
    refine op_assign rfl (.bool _) rfl ?_
    refine op_assign rfl (.int _ _) rfl ?_
    refine op_nil (at_then ?_)
    refine W_ret (ret_then (leave3 (v1 := (.int _ _)) (v2 := (.bool _)) (v3 := (.int _ _)) rfl rfl rfl rfl rfl ?_))
    by_cases h0 : gt.1 = 0
    · rw [if_neg (by rw [h0]; simp), if_pos (by rw [h0] at hA; simpa using hA)] at hpt
      exact ⟨F, by rw [hpt, h0], by rw [hpt]; exact T.call H.ext, .call0 H.ext⟩
    · rw [if_pos h0] at hpt
      exact ⟨F, by rw [hpt], by rw [hpt]; exact T.call H.ext, .call0 H.ext⟩
  · intro hA
    have hA2 : gt.1 = 0 ∧ ¬ gt.2.isSome = false := by
      have h5 := hA
      rw [Bool.or_eq_false_iff] at h5
      exact ⟨by simpa using h5.1, of_decide_eq_false h5.2⟩
    rw [if_neg (by rw [hA2.1]; simp), if_neg hA2.2] at hpt
    have hroot : -1 ≤ root ∧ root ≤ 4294967296 := by
      have hpl := T.pg.len
      have h5 := hA2.1
      have hm : mayE P.length root = 0 := by
        by_cases hq : mayE P.length root = 0
        · exact hq
        · rw [hgt] at h5
          unfold getT at h5
          rw [if_pos hq] at h5
          cases h5
      unfold mayE at hm
      split at hm
      · cases hm
      · omega
    have hx1 := H.ext
    have h5 := H.get at0
    have ho5 := (H.own _ (List.mem_cons_self ..)).elim (fun h => by cases h) id
    have hM0 := T.mlt
    have T1 := T.call hx1
    have D : DoOk 75 [ptr b5] (delI key) w (MZ (TM F ba bt bp []) Z0) := fun w' M' t hlt a n c l I hn => cut1_ok7 hlt (t.keep h5 fun h => by have := hM0 _ (MZ0 _ h); dsimp only at ho5; omega) (((Rk.call hx1).weak MZ0).turn t) I hn
    have hokt : (turnC fr A P root key (delI key)).1 ≠ 99 := fun h => hok (by rw [hpt]; exact h)
    refine W_skip (at_then ?_)
    refine W_rseq ?_
    refine op_move rfl (.pointer _) rfl ?_
    refine op_move rfl (.int _ _) rfl ?_
    refine op_ldb rfl ag_23 rfl H (by first | exact at0 | exact at1 | exact at2 | exact at3 | exact at4 | exact at5 | exact at6 | exact at7 | exact at8 | exact at9) rfl ?_
    refine op_makeFuncL rfl [.pointer _] rfl ?_
    refine op_call rfl ca_72_TrY (turn7_ok ca_75_TrY hfr hkl T1 root hroot.1 hroot.2 Z0 (fun x h => h.elim) D ka kc ((Rk.call hx1).weak MZ0) hfew hmx hokt) rfl ?_
    rintro v w3 ⟨F3, rfl, T3, g3⟩
    refine op_move rfl (.tuple _) rfl ?_
    refine op_extract rfl rfl rfl ?_
    refine op_extract rfl rfl rfl ?_
    refine op_assign rfl (.int _ _) rfl ?_
    refine op_assign rfl (.int _ _) rfl ?_
    refine op_nil (at_then ?_)
    refine W_rseq ?_
    refine op_move rfl (.int _ _) rfl ?_
    refine op_move rfl (.int _ _) rfl ?_
    refine op_eql rfl rfl rfl ?_
    refine op_move rfl (.int _ _) rfl ?_
    refine op_assign rfl (.int _ _) rfl ?_
    refine op_assign rfl (.bool _) rfl ?_
    refine op_assign rfl (.int _ _) rfl ?_
    refine op_nil (at_then ?_)
    refine W_ret (leave3 (v1 := (.int _ _)) (v2 := (.bool _)) (v3 := (.int _ _)) rfl rfl rfl rfl rfl ?_)
    exact ⟨F3, by rw [hpt], by rw [hpt]; exact T3, (Grown.call0 hx1).trans g3⟩

end Go.Proofs.YtbkadlngijkmmaaGreatDoor

/- The nodes of a root, one behind the other: the walk. -/
namespace Go.Proofs.YtbkadlngijkmmaaGreatDoor
open Go.GV
theorem ag_114_TrEa : aggB Tryz.prog 114 = some false := by kernel_rfl
theorem ag_116_TrEa : aggB Tryz.prog 116 = some true := by kernel_rfl
theorem ag_120_TrEa : aggB Tryz.prog 120 = some true := by kernel_rfl
theorem ca_128_TrEa : callable Tryz.prog 128 = true := by kernel_rfl
theorem ca_66_TrEa : callable Tryz.prog 66 = true := by kernel_rfl
theorem el_114_TrEa : elemT Tryz.prog 114 = some 120 := by kernel_rfl
theorem fo_116_0_TrEa : fieldO Tryz.prog 116 0 = some 0 := by kernel_rfl
theorem fo_116_1_TrEa : fieldO Tryz.prog 116 1 = some 1 := by kernel_rfl
theorem fo_120_2_TrEa : fieldO Tryz.prog 120 2 = some 2 := by kernel_rfl
theorem sz_116_TrEa : tsize Tryz.prog 116 = some 2 := by kernel_rfl
theorem sz_120_TrEa : tsize Tryz.prog 120 = some 3 := by kernel_rfl
theorem zc_116_TrEa : zcells Tryz.prog 116 = some ([.bool false, .slice none 0 0]) := by kernel_rfl
theorem zc_120_TrEa : zcells Tryz.prog 120 = some ([.slice none 0 0, .slice none 0 0, .int .i64 0]) := by kernel_rfl
attribute [local irreducible] Wops W Wq Wt

abbrev Nd := Int × Bool × List It
def kidsG (f : Int → Int × List Nd) : List It → Int × List Nd
  | [] => (0, [])
  | x :: l => if (f (x.page : Int)).1 ≠ 0 then f (x.page : Int) else ((kidsG f l).1, (f (x.page : Int)).2 ++ (kidsG f l).2)
/-- The nodes below a page, the upper ones first; an error ends it. -/
def eachG (A : Dev) (fr sz : Nat) : Nat → Int → Nat → Int × List Nd
  | 0, _, _ => (9, [])
  | n + 1, page, d => match (readT A fr sz page (d : Int)).2 with
    | none => ((readT A fr sz page (d : Int)).1, [])
    | some (false, l) => (0, [(page, false, l)])
    | some (true, l) => ((kidsG (fun p => eachG A fr sz n p (d + 1)) l).1, (page, true, l) :: (kidsG (fun p => eachG A fr sz n p (d + 1)) l).2)
/-- What the rounds over the nodes keep: which were there, what may turn. -/
structure JOk (bt bd bp ba fr : Nat) (A : Dev) (P : List Nat) (F Z : Mut) (N l : Nat) (J : List Nd → Mut → World → Prop) : Prop where
  lt : ∀ {v M w}, J v M w → ∀ x, M x → x < w.heap.size
  ext : ∀ {v M w w'}, J v M w → Ext [] w w' → J v M w'
  tx : ∀ {v M w}, J v M w → Tx w bt bd bp ba fr A P F []
  round : ∀ {v : List Nd} {M : Mut} {w : World} (page : Int) (i : Bool) (a : Option Addr) (n c : Nat) (L : List It), J v M w → v.length < N → Its w (MZ M Z) a n c L → L.length ≤ 65535 → (∀ x ∈ L, x.key.length ≤ 505 ∧ x.val.length ≤ 505) → -9223372036854775808 ≤ page ∧ page ≤ 9223372036854775807 →
    Go.GV.YieldAt Tryz.prog l [.int .i64 page, .agg #[.bool i, .slice a n c]] w fun u w' => u = .bool true ∧ ∃ M', J (v ++ [(page, i, L)]) M' w' ∧ Grown M M' w w'
def EaSpec (bt fr : Nat) (A : Dev) (sz : Nat) (Z : Mut) (N l : Nat) (J : List Nd → Mut → World → Prop) (n : Nat) : Prop :=
  ∀ {w : World} {M : Mut} {v : List Nd}, J v M w → (∀ x, Z x → x < w.heap.size) → ∀ (page : Int) (d : Nat), d + n = 17 → -9223372036854775808 ≤ page → page ≤ 9223372036854775807 → v.length + (eachG A fr sz (n + 1) page d).2.length ≤ N →
    Ret Tryz.prog 128 #[ptr bt, .int .i64 page, .int .i64 (d : Int), .func (.yield l) #[] #[]] w fun r w' => r = .tuple #[.bool (decide ((eachG A fr sz (n + 1) page d).1 = 0)), .int .i64 (eachG A fr sz (n + 1) page d).1] ∧ ∃ M', J (v ++ (eachG A fr sz (n + 1) page d).2) M' w' ∧ Grown M M' w w'

set_option maxRecDepth 20000 in
set_option maxHeartbeats 8000000 in
theorem each_step {bt bd bp ba fr : Nat} {A : Dev} {P : List Nat} {F Z : Mut} {N l : Nat} {J : List Nd → Mut → World → Prop} (JO : JOk bt bd bp ba fr A P F Z N l J) (hfr : fr ≤ 5000) {mx : Nat} (hfew : Few A mx) (hmx : mx ≤ 1000000000) (n : Nat) (IH : ∀ n', n = n' + 1 → EaSpec bt fr A P.length Z N l J n') : EaSpec bt fr A P.length Z N l J n := by
  intro w M v hJ hZ page d hd hp1 hp2 hN
  obtain ⟨w0, rfl⟩ : ∃ w0, w0 = w := ⟨_, rfl⟩
  obtain ⟨ea, hea⟩ : ∃ ea, ea = eachG A fr P.length (n + 1) page d := ⟨_, rfl⟩
  rw [← hea] at hN ⊢
  rw [eachG] at hea
  obtain ⟨rt, hrt⟩ : ∃ rt, rt = readT A fr P.length page (d : Int) := ⟨_, rfl⟩
  rw [← hrt] at hea
  refine ret_of_W (fn := Tryz.f128) Tryz.func128 rfl [.pointer (some ⟨bt, 0, none⟩), .int .i64 page, .int .i64 (d : Int), .func (.yield l) #[] #[]] rfl (by kernel_rfl) ?_
  refine W_rseq ?_
  refine op_assign rfl (.bool _) rfl ?_
  refine op_assign rfl (.int _ _) rfl ?_
  refine op_nil (at_then ?_)
  refine W_rseq ?_
  refine op_move rfl (.pointer _) rfl ?_
  refine op_move rfl (.int _ _) rfl ?_
  refine op_move rfl (.int _ _) rfl ?_
  refine op_call rfl ca_66_TrEa (read7_ok (JO.tx hJ) hfr page (d : Int) ⟨hp1, hp2⟩ hfew hmx) rfl ?_
  rintro v2 w2 ⟨inner, aa, nn, cc, rfl, hx20, hits⟩
  rw [← hrt] at hits
  rw [← hrt]
  have hJ2 := JO.ext hJ hx20
  have H := Ctx.start w2 []
  refine op_move rfl (.tuple _) rfl ?_
  refine op_extract rfl rfl rfl ?_
  refine op_extract rfl rfl rfl ?_
  refine op_alloc rfl zc_116_TrEa H ?_
  rintro b10 w - H
  refine op_stb0 rfl sz_116_TrEa rfl rfl rfl (by simp [oneCell]) H (by first | exact at0 | exact at1 | exact at2 | exact at3 | exact at4 | exact at5 | exact at6 | exact at7 | exact at8 | exact at9) rfl ?_
  rintro w H
  refine op_assign rfl (.int _ _) rfl ?_
  refine op_nil (at_then ?_)
  refine W_seq ?_
  refine W_rseq ?_
  refine op_move rfl (.int _ _) rfl ?_
  refine op_neq rfl rfl rfl ?_
  refine op_move rfl (.bool _) rfl ?_
  refine Wops_split 25 rfl ?_ ?_
  · intro hA
    replace hA := ndec_t hA
    have hnone : rt.2 = none := by
      cases h5 : rt.2 with
      | none => rfl
      | some r => obtain ⟨i, l⟩ := r; rw [hrt] at h5; rw [hrt] at hA; exact absurd (readT_some h5).1 hA
    rw [hnone] at hea
    dsimp only at hea
    refine op_skip rfl ?_
    refine op_skip rfl ?_
    refine op_skip rfl ?_
    refine op_skip rfl ?_
    refine op_skip rfl ?_
    refine op_pick1 rfl rfl (.bool _) rfl ?_
    refine op_nil (at_then ?_)
    refine W_cond1 rfl ?_
    refine W_rseq ?_
    refine op_move rfl (.int _ _) rfl ?_
    refine op_assign rfl (.bool _) rfl ?_
    refine op_assign rfl (.int _ _) rfl ?_
    refine op_nil (at_then ?_)
    refine W_ret (ret_then (leave2 (v1 := (.bool _)) (v2 := (.int _ _)) rfl rfl rfl rfl ?_))
    have hx3 := hx20.trans H.ext
    refine ⟨by rw [hea, decide_eq_false hA], M, ?_, .call0 hx3⟩
    rw [hea]
    simpa using JO.ext hJ hx3
  · intro hA
    replace hA := ndec_f hA
    have hA' : rt.1 = 0 := by simpa using hA
    obtain ⟨⟨i, li⟩, hsome⟩ : ∃ r, rt.2 = some r := by
      cases h5 : rt.2 with
      | none => rw [hrt] at h5; rw [hrt] at hA'; exact absurd hA' (readT_none h5)
      | some r => exact ⟨r, rfl⟩
    obtain ⟨-, hne, hd16, -, -, hll⟩ := readT_some (A := A) (fr := fr) (sz := P.length) (page := page) (depth := (d : Int)) (by rw [← hrt]; exact hsome)
    obtain ⟨rfl, I2f, hb⟩ := hits i li hsome
    have I2 := I2f.weak (M' := MZ M Z) fun x h => h.elim (JO.lt hJ x) (hZ x)
    rw [hsome] at hea
    have hnum := I2.num
    obtain ⟨O3, g3⟩ := Fo.nil.own (JO.lt hJ2) H
    have I3 := (I2.weak (M' := MZ (MY M []) Z) fun x h => h.elim (fun h => .inl (MY.nil x h)) .inr).turn (g3.or Z)
    have hJ3 := JO.ext hJ2 H.ext
    have hx3 := hx20.trans H.ext
    have hvl : v.length < N := by
      have : 1 ≤ ea.2.length := by
        rw [hea]
        cases inner with
        | true => simp
        | false => simp
      omega
    obtain ⟨w3, rfl⟩ : ∃ x, x = w := ⟨_, rfl⟩
    replace H := O3.ctx
    refine op_move rfl (.func _ _ _) rfl ?_
    refine op_move rfl (.int _ _) rfl ?_
    refine op_ldbN rfl ag_116_TrEa sz_116_TrEa rfl H (by first | exact at0 | exact at1 | exact at2 | exact at3 | exact at4 | exact at5 | exact at6 | exact at7 | exact at8 | exact at9) rfl ?_
    refine op_yield rfl rfl (JO.round page inner aa nn cc li hJ3 hvl (I3.weak fun x h => h.elim (fun h => .inl (.inl h)) .inr) hll (fun x hx => ⟨(hb x hx).1, (hb x hx).2.1⟩) ⟨hp1, hp2⟩) rfl ?_
    rintro _ w4 ⟨rfl, M4, hJ4, g4⟩
    obtain ⟨O4, gy4⟩ := O3.call g4
    have I4 := I3.turn (gy4.or Z)
    have gg4 := (Grown.call0 hx3).trans g4
    replace H := O4.ctx
    refine op_not rfl rfl ?_
    refine op_pick0 rfl rfl (.bool _) rfl ?_
    refine op_nil (at_then ?_)
    refine W_cond0 rfl ?_
    refine W_skip (at_then ?_)
    refine W_seq ?_
    refine W_rseq ?_
    refine op_fieldAddr rfl fo_116_1_TrEa rfl ?_
    refine op_ldb rfl ag_114_TrEa rfl H (by first | exact at0 | exact at1 | exact at2 | exact at3 | exact at4 | exact at5 | exact at6 | exact at7 | exact at8 | exact at9) rfl ?_
    refine op_len rfl el_114_TrEa rfl ?_
    refine op_move rfl (.int _ _) rfl ?_
    refine op_nil (at_then ?_)
    refine W_block ?_
    refine W_loop 144115119356437248 (α := Nat × List Nd × Mut) (fun s => [(36, .int .i64 (s.1 : Int))]) (fun s w' => s.1 ≤ nn ∧ J (v ++ [(page, inner, li)] ++ s.2.1) s.2.2 w' ∧ Fo w' s.2.2 [(b10, NBl inner aa nn cc)] ∧ Its w' (MZ (MY s.2.2 [(b10, NBl inner aa nn cc)]) Z) aa nn cc li ∧ Grown M s.2.2 w0 w' ∧ (inner = false → s.2.1 = []) ∧ (inner = true → kidsG (fun p => eachG A fr P.length n p (d + 1)) li = ((kidsG (fun p => eachG A fr P.length n p (d + 1)) (li.drop s.1)).1, s.2.1 ++ (kidsG (fun p => eachG A fr P.length n p (d + 1)) (li.drop s.1)).2))) (fun s => nn - s.1) (0, [], M4) rfl ?_ ?_ ?_
    · exact ⟨rfl, trivial⟩
    · exact ⟨Nat.zero_le _, by rw [List.append_nil]; exact hJ4, O4, I4, gg4, fun _ => rfl, fun _ => rfl⟩
    · rintro ⟨i, vs, M5⟩ j w ⟨hi, hJ5, O5, I5, g5, hvs, hkg⟩; dsimp only at hi hJ5 O5 I5 g5 hvs hkg; dsimp only
      obtain ⟨ms, R, -, hl, hok⟩ := I5.ex
      have hml : ms.length = nn := by rw [hnum, ← hl, List.length_map]
      have hb10 := O5.blk (b10, _) (List.mem_singleton.2 rfl)
      have H := Ctx.start w []
      refine W_rseq ?_
      refine op_lss rfl rfl rfl ?_
      refine op_nil (at_then ?_)
      refine W_seq ?_
      refine W_cond _ rfl ?_ ?_
      · intro hB
        replace hB := dec_t hB
        obtain ⟨x, hx1⟩ := get_some (l := ms) (i := i) (by omega)
        have hxL := Im.at hl hx1
        have hxb := hb x.it (List.mem_of_getElem? hxL)
        obtain ⟨wl, rfl⟩ : ∃ x, x = w := ⟨_, rfl⟩
        refine W_skip (at_then ?_)
        refine W_seq ?_
        refine W_block ?_
        refine W_rseq ?_
        first | refine op_indexRd R rfl el_114_TrEa sz_120_TrEa rfl rfl (by omega) (by omega) (by first | rfl | omega) ?_ | refine op_indexAddr rfl el_114_TrEa sz_120_TrEa rfl rfl (by omega) (by omega) ?_
        first | refine op_ldN _ rfl ag_120_TrEa sz_120_TrEa rfl rfl (R.row hx1 rfl) ?_ | refine op_ldbN rfl ag_120_TrEa sz_120_TrEa rfl H (by first | exact at0 | exact at1 | exact at2 | exact at3 | exact at4 | exact at5 | exact at6 | exact at7 | exact at8 | exact at9) rfl ?_
        refine op_alloc rfl zc_120_TrEa H ?_
        rintro b13 w - H
        refine op_stb0 rfl sz_120_TrEa rfl rfl rfl (by first | exact Im.oneE _ | simp [oneCell]) H (by first | exact at0 | exact at1 | exact at2 | exact at3 | exact at4 | exact at5 | exact at6 | exact at7 | exact at8 | exact at9) rfl ?_
        rintro w H
        refine op_nil (at_then ?_)
        refine W_seq ?_
        refine W_rseq ?_
        refine op_fieldAddr rfl fo_116_0_TrEa rfl ?_
        first | refine op_ldb rfl ag_4 rfl H (by first | exact at0 | exact at1 | exact at2 | exact at3 | exact at4 | exact at5 | exact at6 | exact at7 | exact at8 | exact at9) rfl ?_ | refine op_ld rfl ag_4 rfl ((by rw [cell_bl (show _ = some (NBl inner aa nn cc) from by rw [H.ext.block b10 (heap_lt hb10) (by simp)]; exact hb10)]; rfl)) ?_
        refine op_not rfl rfl ?_
        refine op_nil (at_then ?_)
        refine W_cond _ rfl ?_ ?_
        · intro hC
          replace hC := nvar_t hC
          have hea1 : ea = (0, [(page, inner, li)]) := by rw [hea, hC]
          refine W_exit (exit_then (exit_pass rfl (exit_then (exit_then (exit_here (at_then ?_))))))
          refine W_rseq ?_
          refine op_assign rfl (.bool _) rfl ?_
          refine op_assign rfl (.int _ _) rfl ?_
          refine op_nil (at_then ?_)
          refine W_ret (leave2 (v1 := (.bool _)) (v2 := (.int _ _)) rfl rfl rfl rfl ?_)
          refine ⟨by rw [hea1]; rfl, M5, ?_, g5.trans (.call0 H.ext)⟩
          rw [hea1]
          have := JO.ext hJ5 H.ext
          rw [hvs hC, List.append_nil] at this
          exact this
        · intro hC
          replace hC := nvar_f hC
          replace hea : ea = ((kidsG (fun p => eachG A fr P.length n p (d + 1)) li).1, (page, inner, li) :: (kidsG (fun p => eachG A fr P.length n p (d + 1)) li).2) := by rw [hea, hC]
          have hkg := hkg hC
          rw [drop_cons hxL, kidsG] at hkg
          obtain ⟨n', rfl⟩ : ∃ n', n = n' + 1 := ⟨n - 1, by omega⟩
          obtain ⟨f5, hf5⟩ : ∃ f5, f5 = eachG A fr P.length (n' + 1) (x.it.page : Int) (d + 1) := ⟨_, rfl⟩
          rw [← hf5] at hkg
          have hN5 : (v ++ [(page, inner, li)] ++ vs).length + f5.2.length ≤ N := by
            rw [hea, hkg] at hN
            by_cases h0 : f5.1 ≠ 0
            · rw [if_pos h0] at hN; simp only [List.length_append, List.length_cons, List.length_nil] at hN ⊢; omega
            · rw [if_neg h0] at hN; simp only [List.length_append, List.length_cons, List.length_nil] at hN ⊢; omega
          refine W_skip (at_then ?_)
          refine W_rseq ?_
          refine op_move rfl (.pointer _) rfl ?_
          refine op_fieldAddr rfl fo_120_2_TrEa rfl ?_
          refine op_ldb rfl ag_3 rfl H (by first | exact at0 | exact at1 | exact at2 | exact at3 | exact at4 | exact at5 | exact at6 | exact at7 | exact at8 | exact at9) rfl ?_
          refine op_move rfl (.int _ _) rfl ?_
          refine op_add_i64 rfl rfl rfl (by omega) (by omega) ?_
          rw [show ((d : Int) + 1) = ((d + 1 : Nat) : Int) by omega]
          refine op_move rfl (.func _ _ _) rfl ?_
          have hx6 := H.ext
          refine op_call rfl ca_128_TrEa (IH n' rfl (JO.ext hJ5 hx6) (fun x h => Nat.lt_of_lt_of_le (hZ x h) (Nat.le_trans g5.1.size hx6.size)) (x.it.page : Int) (d + 1) (by omega) (by omega) (by omega) (by rw [← hf5]; exact hN5)) rfl ?_
          rintro v7 w7 ⟨rfl, M7, hJ7, g7⟩
          rw [← hf5] at hJ7
          rw [← hf5]
          obtain ⟨O6, gy6⟩ := O5.call (.call0 hx6)
          obtain ⟨O7, gy7⟩ := O6.call g7
          have I7 := (I5.turn (gy6.or Z)).turn (gy7.or Z)
          have gg7 := (g5.trans (.call0 hx6)).trans g7
          refine op_move rfl (.tuple _) rfl ?_
          refine op_extract rfl rfl rfl ?_
          refine op_extract rfl rfl rfl ?_
          refine op_assign rfl (.bool _) rfl ?_
          refine op_assign rfl (.int _ _) rfl ?_
          refine op_nil (at_then ?_)
          refine W_rseq ?_
          refine op_move rfl (.bool _) rfl ?_
          refine op_not rfl rfl ?_
          refine op_nil (at_then ?_)
          refine W_cond _ rfl ?_ ?_
          · intro hD
            replace hD := nvar_t hD
            have hD' : f5.1 ≠ 0 := by simpa using hD
            rw [if_pos hD'] at hkg
            refine W_rseq ?_
            refine op_move rfl (.int _ _) rfl ?_
            refine op_assign rfl (.bool _) rfl ?_
            refine op_assign rfl (.int _ _) rfl ?_
            refine op_nil (at_then ?_)
            refine W_ret (ret_block (ret_then (ret_then (ret_block (ret_then (leave2 (v1 := (.bool _)) (v2 := (.int _ _)) rfl rfl rfl rfl ?_))))))
            refine ⟨by rw [hea, hkg]; dsimp only; rw [decide_eq_false hD'], M7, ?_, gg7⟩
            rw [hea, hkg]
            simpa using hJ7
          · intro hD
            replace hD := nvar_f hD
            have hD' : f5.1 = 0 := by simpa using hD
            rw [if_neg (by rw [hD']; simp)] at hkg
            refine W_skip (at_block (at_then ?_))
            refine W_region ?_
            refine op_add_i64 rfl rfl rfl (by omega) (by omega) ?_
            refine op_move rfl (.int _ _) rfl ?_
            refine op_nil (at_then ?_)
            exact ⟨(i + 1, vs ++ f5.2, M7), rfl, ⟨rfl, trivial⟩, ⟨by dsimp only; omega, by dsimp only; rw [← List.append_assoc]; exact hJ7, O7, I7, gg7, (fun h => by rw [hC] at h; cases h), fun _ => by dsimp only; rw [hkg, List.append_assoc]⟩, by dsimp only; omega⟩
      · intro hB
        replace hB := dec_f hB
        have hii : i = nn := by omega
        refine W_exit (exit_then (exit_then (exit_here (at_then ?_))))
        refine W_rseq ?_
        refine op_assign rfl (.bool _) rfl ?_
        refine op_assign rfl (.int _ _) rfl ?_
        refine op_nil (at_then ?_)
        refine W_ret (leave2 (v1 := (.bool _)) (v2 := (.int _ _)) rfl rfl rfl rfl ?_)
        cases inner with
        | false =>
          dsimp only at hea
          refine ⟨by rw [hea]; rfl, M5, ?_, g5⟩
          rw [hea]
          rw [hvs rfl, List.append_nil] at hJ5
          exact hJ5
        | true =>
          dsimp only at hea
          have hkg := hkg rfl
          rw [List.drop_of_length_le (by omega), kidsG, List.append_nil] at hkg
          refine ⟨by rw [hea, hkg]; rfl, M5, ?_, g5⟩
          rw [hea, hkg]
          simpa using hJ5
theorem each7_ok {bt bd bp ba fr : Nat} {A : Dev} {P : List Nat} {F Z : Mut} {N l : Nat} {J : List Nd → Mut → World → Prop} (JO : JOk bt bd bp ba fr A P F Z N l J) (hfr : fr ≤ 5000) {mx : Nat} (hfew : Few A mx) (hmx : mx ≤ 1000000000) : ∀ n, EaSpec bt fr A P.length Z N l J n
  | 0 => each_step JO hfr hfew hmx 0 fun n' h => by omega
  | n + 1 => each_step JO hfr hfew hmx (n + 1) fun n' h => by obtain rfl : n = n' := by omega
                                                              exact each7_ok JO hfr hfew hmx n

end Go.Proofs.YtbkadlngijkmmaaGreatDoor

/- The nodes of a root, as an iterator: the walk. -/
namespace Go.Proofs.YtbkadlngijkmmaaGreatDoor
open Go.GV
theorem ag_127_TrEb : aggB Tryz.prog 127 = some false := by kernel_rfl
theorem ag_34_TrEb : aggB Tryz.prog 34 = some false := by kernel_rfl
theorem ca_128_TrEb : callable Tryz.prog 128 = true := by kernel_rfl
theorem sz_31_TrEb : tsize Tryz.prog 31 = some 1 := by kernel_rfl
attribute [local irreducible] Wops W Wq Wt

def nodesG (A : Dev) (fr sz : Nat) (root : Int) : Int × List Nd := if root = -1 then (0, []) else eachG A fr sz 18 root 0
theorem nodes_ok (bt be : Nat) (root : Int) (w : World) : Ret Tryz.prog 70 #[ptr bt, .int .i64 root, ptr be] w fun v w' => ∃ b3 b4 b5, v = .func (.func 127) #[] #[ptr b4, ptr b3, ptr b5] ∧ (∃ t, w'.heap[b4]? = some (Bl t [.int .i64 root])) ∧ (∃ t, w'.heap[b3]? = some (Bl t [ptr bt])) ∧ (∃ t, w'.heap[b5]? = some (Bl t [ptr be])) ∧ w.heap.size ≤ b4 ∧ w.heap.size ≤ b3 ∧ w.heap.size ≤ b5 ∧ Ext [] w w' := by
  obtain ⟨w0, rfl⟩ : ∃ w0, w0 = w := ⟨_, rfl⟩
  have H := Ctx.start w0 []
  refine ret_of_W (fn := Tryz.f70) Tryz.func70 rfl [.pointer (some ⟨bt, 0, none⟩), .int .i64 root, .pointer (some ⟨be, 0, none⟩)] rfl (by kernel_rfl) ?_
  refine W_rseq ?_
  refine op_box rfl _ (.pointer _) rfl rfl H ?_
  rintro b3 w - H
  refine op_box rfl _ (.int _ _) rfl rfl H ?_
  rintro b4 w - H
  refine op_box rfl _ (.pointer _) rfl rfl H ?_
  rintro b5 w - H
  refine op_assign rfl .nilFunc rfl ?_
  refine op_nil (at_then ?_)
  refine W_rseq ?_
  refine op_makeFuncL rfl [.pointer _, .pointer _, .pointer _] rfl ?_
  refine op_assign rfl (.func _ _ _) rfl ?_
  refine op_nil (at_then ?_)
  refine W_ret (leave1 (v := (.func _ _ _)) rfl rfl rfl ?_)
  have ho : ∀ x ∈ [(b5, Bl 127 [ptr be]), (b4, Bl 3 [.int .i64 root]), (b3, Bl 34 [ptr bt])], w0.heap.size ≤ x.1 := fun x hx => (H.own x hx).elim (fun h => by cases h) id
  exact ⟨b3, b4, b5, rfl, ⟨_, H.get at1⟩, ⟨_, H.get at2⟩, ⟨_, H.get at0⟩, ho (b4, _) (List.mem_cons_of_mem _ (List.mem_cons_self ..)), ho (b3, _) (List.mem_cons_of_mem _ (List.mem_cons_of_mem _ (List.mem_cons_self ..))), ho (b5, _) (List.mem_cons_self ..), H.ext⟩

set_option maxRecDepth 20000 in
set_option maxHeartbeats 4000000 in
theorem nodes1_ok {bt bd bp ba fr : Nat} {A : Dev} {P : List Nat} {F Z : Mut} {N l : Nat} {J : List Nd → Mut → World → Prop} (JO : JOk bt bd bp ba fr A P F Z N l J) (hfr : fr ≤ 5000) {mx : Nat} (hfew : Few A mx) (hmx : mx ≤ 1000000000) {w : World} {M : Mut} (hJ : J [] M w) (hZ : ∀ x, Z x → x < w.heap.size) {b3 b4 b5 be t3 t4 t5 te : Nat} {root : Int}
    (h4 : w.heap[b4]? = some (Bl t4 [.int .i64 root])) (h3 : w.heap[b3]? = some (Bl t3 [ptr bt])) (h5 : w.heap[b5]? = some (Bl t5 [ptr be])) (he : w.heap[be]? = some (Bl te [.int .i64 0])) (n4 : ¬ M b4) (n3 : ¬ M b3) (n5 : ¬ M b5) (ne : ¬ M be) (hr1 : -9223372036854775808 ≤ root) (hr2 : root ≤ 9223372036854775807) (hN : (nodesG A fr P.length root).2.length ≤ N) :
    Ret Tryz.prog 127 #[.func (.yield l) #[] #[], ptr b4, ptr b3, ptr b5] w fun _ w' => ∃ wx M', J (nodesG A fr P.length root).2 M' wx ∧ Grown M M' w wx ∧ Ext [be] wx w' ∧ w'.heap[be]? = some (Bl te [.int .i64 (nodesG A fr P.length root).1]) := by
  obtain ⟨w0, rfl⟩ : ∃ w0, w0 = w := ⟨_, rfl⟩
  obtain ⟨g, hg⟩ : ∃ g, g = nodesG A fr P.length root := ⟨_, rfl⟩
  rw [← hg] at hN ⊢
  unfold nodesG at hg
  refine ret_of_W (fn := Tryz.f127) Tryz.func127 rfl [.func (.yield l) #[] #[], .pointer (some ⟨b4, 0, none⟩), .pointer (some ⟨b3, 0, none⟩), .pointer (some ⟨b5, 0, none⟩)] rfl (by kernel_rfl) ?_
  have H := Ctx.start w0 []
  refine W_rseq ?_
  first | refine op_ldb rfl ag_3 rfl H (by first | exact at0 | exact at1 | exact at2 | exact at3 | exact at4 | exact at5 | exact at6 | exact at7 | exact at8 | exact at9) rfl ?_ | refine op_ld rfl ag_3 rfl ((by rw [cell_bl h4]; rfl)) ?_
  refine op_neq rfl rfl rfl ?_
  refine op_nil (at_then ?_)
  refine W_cond _ rfl ?_ ?_
  · intro hA
    replace hA := ndec_t hA
    rw [if_neg hA] at hg
    have hg' : g = eachG A fr P.length (17 + 1) root 0 := hg
    refine W_segz [([0, 1, 2, 3], 4), ([5, 6, 7, 8], 9)] (fun z => z.heap[b5]? = some (Bl t5 [ptr be]) ∧ z.heap[b3]? = some (Bl t3 [ptr bt]) ∧ z.heap[b4]? = some (Bl t4 [.int .i64 root])) [9] mixed (by kernel_rfl) (⟨h5, h3, h4⟩) ?_
    refine seg_cons rfl rfl ?_
    first | refine t_ldb rfl ag_127_TrEb rfl (fun _ _ => Ctx.start _ []) (by first | exact at0 | exact at1 | exact at2 | exact at3 | exact at4 | exact at5 | exact at6 | exact at7 | exact at8 | exact at9) rfl ?_ | refine t_ld rfl ag_127_TrEb rfl (fun _ hx => (by rw [cell_bl hx.1]; rfl)) ?_ | refine t_ld rfl ag_127_TrEb rfl (fun _ hx => (by rw [cell_bl hx.2.1]; rfl)) ?_ | refine t_ld rfl ag_127_TrEb rfl (fun _ hx => (by rw [cell_bl hx.2.2]; rfl)) ?_
    first | refine t_ldb rfl ag_34_TrEb rfl (fun _ _ => Ctx.start _ []) (by first | exact at0 | exact at1 | exact at2 | exact at3 | exact at4 | exact at5 | exact at6 | exact at7 | exact at8 | exact at9) rfl ?_ | refine t_ld rfl ag_34_TrEb rfl (fun _ hx => (by rw [cell_bl hx.1]; rfl)) ?_ | refine t_ld rfl ag_34_TrEb rfl (fun _ hx => (by rw [cell_bl hx.2.1]; rfl)) ?_ | refine t_ld rfl ag_34_TrEb rfl (fun _ hx => (by rw [cell_bl hx.2.2]; rfl)) ?_
    first | refine t_ldb rfl ag_3 rfl (fun _ _ => Ctx.start _ []) (by first | exact at0 | exact at1 | exact at2 | exact at3 | exact at4 | exact at5 | exact at6 | exact at7 | exact at8 | exact at9) rfl ?_ | refine t_ld rfl ag_3 rfl (fun _ hx => (by rw [cell_bl hx.1]; rfl)) ?_ | refine t_ld rfl ag_3 rfl (fun _ hx => (by rw [cell_bl hx.2.1]; rfl)) ?_ | refine t_ld rfl ag_3 rfl (fun _ hx => (by rw [cell_bl hx.2.2]; rfl)) ?_
    refine t_move rfl (.func _ _ _) rfl ?_
    refine t_nil ?_
    skip
    refine op_call rfl ca_128_TrEb (each7_ok JO hfr hfew hmx 17 (JO.ext hJ (Ext.drew [] w0)) hZ root 0 (by omega) hr1 hr2 (by rw [← hg']; simpa using hN)) rfl ?_
    rintro v w3 ⟨rfl, M3, hJ3, g3⟩
    rw [← hg', List.nil_append] at hJ3
    rw [← hg']
    have gg := (Grown.call0 (Ext.drew [] w0)).trans g3
    have H := Ctx.start1 (gg.keep he ne)
    refine op_nil (at_seg (⟨gg.keep h5 n5, gg.keep h3 n3, gg.keep h4 n4⟩) ?_)
    refine seg_cons rfl rfl ?_
    refine t_move rfl (.tuple _) rfl ?_
    refine t_extract rfl rfl rfl ?_
    refine t_extract rfl rfl rfl ?_
    refine t_nilCheck rfl rfl ?_
    refine t_nil ?_
    refine op_stb (.int _ _) rfl sz_31_TrEb rfl rfl rfl H (by first | exact at0 | exact at1 | exact at2 | exact at3 | exact at4 | exact at5 | exact at6 | exact at7 | exact at8 | exact at9) (by first | decide | (simp; done) | (simp; omega)) ?_
    rintro w H
    refine op_nil (at_segz rfl ?_)
    refine seg_nil ?_
    refine leave0n rfl rfl ?_
    exact ⟨w3, M3, hJ3, gg, H.ext, H.get at0⟩
  · intro hA
    replace hA := ndec_f hA
    rw [if_pos (by simpa using hA)] at hg
    refine W_skip (leave0n rfl rfl ?_)
    exact ⟨w0, M, by rw [hg]; exact hJ, .call0 (.refl _ _), .refl _ _, by rw [hg]; exact he⟩

end Go.Proofs.YtbkadlngijkmmaaGreatDoor

/- Pages sorted; what rounds over nodes gather in a slice. -/
namespace Go.Proofs.YtbkadlngijkmmaaGreatDoor
open Go.GV
attribute [local irreducible] Wops W Wq Wt

def iv (x : Int) : Value := .int .i64 x
abbrev sortZ (l : List Int) : List Int := l.mergeSort fun x y => decide (x ≤ y)
theorem putCellsI_list (full : List Value) (ts : List Int) (h : ts.length ≤ full.length) : (Go.Sort.putCells (Value.int .i64) 0 ts.toArray full.toArray).toList = ts.map iv ++ full.drop ts.length := by
  apply List.ext_getElem?
  intro j
  by_cases hj : j < ts.length
  · rw [List.getElem?_append_left (by simpa using hj), Array.getElem?_toList]
    simp [Go.Sort.putCells, hj, show j < full.length by omega, iv]
  · rw [List.getElem?_append_right (by simp; omega), Array.getElem?_toList, List.getElem?_drop]
    by_cases h2 : j < full.length
    · simp [Go.Sort.putCells, hj, h2, show ts.length + (j - ts.length) = j by omega]
    · rw [List.getElem?_eq_none (by simp; omega)]
      simp [Go.Sort.putCells, h2]
theorem sort7_ok {w : World} {b t c : Nat} {full : List Value} {l : List Int} (hb : w.heap[b]? = some (Bl t full)) (hl : full.take l.length = l.map iv) (hf : l.length ≤ full.length) (hsz : l.length ≤ 1000000) :
    Ret Tryz.prog 76 #[.slice (some ⟨b, 0, none⟩) l.length c] w fun v w' => v = .tuple #[] ∧ w'.heap[b]? = some (Bl t ((sortZ l).map iv ++ full.drop l.length)) ∧ Ext [b] w w' := by
  have hH := Go.holds_of_blockI (ss := l) hb (by rw [List.toList_toArray]; exact hl)
  have h := Go.Proofs.AnyM.slices_Sort_int Tryz.sortA b 0 c l w hH (heap_lt hb) (by omega)
  refine CallsIn.mono (callsIn_wide.2 h) ?_
  rintro e w' ⟨rfl, n, os, rfl⟩
  have g := Go.grownBy_sortedI (n := n) (os := os) (w := w) (g := b) (sortZ l).toArray
  refine ⟨_, rfl, rfl, ?_, ?_⟩
  · rw [Go.heap_sortedI (sortZ l).toArray hb]
    have h1 := putCellsI_list full (sortZ l) (by rw [List.length_mergeSort]; exact hf)
    rw [List.length_mergeSort] at h1
    show some (Obj.cells _ t (0, 0)) = some (Obj.cells _ t (0, 0))
    rw [← h1]
  · obtain ⟨g1, g2, g3, g4, g5⟩ := g
    exact ⟨g1, g2, g3, g4, fun x hx hn => g5 x hx (by simpa using fun e => hn (by simp [e]))⟩
theorem sort7_nil (c : Nat) (w : World) : Ret Tryz.prog 76 #[.slice none 0 c] w fun v w' => v = .tuple #[] ∧ w = w' := by
  refine CallsIn.mono (callsIn_wide.2 (Go.Proofs.AnyM.slices_Sort_int_none Tryz.sortA none c w)) ?_
  rintro e w' ⟨rfl, rfl⟩
  exact ⟨_, rfl, rfl, rfl⟩

/-! ### What the rounds gather -/
/-- The slice that rounds gather, in a cell of the function's own: b; the record of the loop: l. -/
structure GJ (w0 : World) (bt bd bp ba fr : Nat) (A : Dev) (P : List Nat) (F : Mut) (tL tE s b l : Nat) (lo : Loop) (vals : List Value) (M : Mut) (w : World) (a : Option Addr) (n c : Nat) (full : List Value) : Prop where
  M : M = fun x => x = l ∨ x ∈ ((b, Bl tL [.slice a n c]) :: ent a tE full).map (·.1)
  tx : Tx w bt bd bp ba fr A P F []
  loop : w.heap[l]? = some (.loop lo)
  blk : ∀ y ∈ (b, Bl tL [.slice a n c]) :: ent a tE full, w.heap[y.1]? = some y.2 ∧ w0.heap.size ≤ y.1 ∧ y.1 ≠ l
  nd : ((b, Bl tL [.slice a n c]) :: ent a tE full).Pairwise fun x y => x.1 ≠ y.1
  os : OS a n c s full vals
section
variable {w0 w wR wE wF : World} {bt bd bp ba fr : Nat} {A : Dev} {P : List Nat} {F M : Mut} {tL tE s b l : Nat} {lo lo2 : Loop} {vals vals' : List Value} {a a' : Option Addr} {n n' c c' : Nat} {full full' : List Value}
theorem GJ.lt (G : GJ w0 bt bd bp ba fr A P F tL tE s b l lo vals M w a n c full) : ∀ x, M x → x < w.heap.size := fun x h => by
  rw [G.M] at h
  rcases h with rfl | h
  · exact heap_lt G.loop
  · obtain ⟨y, hy, rfl⟩ := List.mem_map.1 h
    exact heap_lt (G.blk y hy).1
theorem GJ.ext (G : GJ w0 bt bd bp ba fr A P F tL tE s b l lo vals M w a n c full) {w' : World} (hx : Ext [] w w') : GJ w0 bt bd bp ba fr A P F tL tE s b l lo vals M w' a n c full :=
  ⟨G.M, G.tx.call hx, by rw [hx.block l (heap_lt G.loop) (by simp)]; exact G.loop, fun y hy => ⟨by rw [hx.block y.1 (heap_lt (G.blk y hy).1) (by simp)]; exact (G.blk y hy).1, (G.blk y hy).2⟩, G.nd, G.os⟩
/-- The round's body: the loop's record is busy. -/
theorem GJ.body (G : GJ w0 bt bd bp ba fr A P F tL tE s b l lo vals M w a n c full) (hxR : Ext [l] w wR) : Ctx wR (((b, Bl tL [.slice a n c]) :: ent a tE full).map (·.1)) wR ((b, Bl tL [.slice a n c]) :: ent a tE full) :=
  Ctx.startL (fun y hy => by rw [hxR.block y.1 (heap_lt (G.blk y hy).1) (by simpa using (G.blk y hy).2.2)]; exact (G.blk y hy).1) G.nd
theorem GJ.next (G : GJ w0 bt bd bp ba fr A P F tL tE s b l lo vals M w a n c full) (h0 : ∀ x, TM F ba bt bp [] x → x < w0.heap.size) (hl0 : w0.heap.size ≤ l) (hxR : Ext [l] w wR)
    (H : Ctx wR (((b, Bl tL [.slice a n c]) :: ent a tE full).map (·.1)) wE ((b, Bl tL [.slice a' n' c']) :: ent a' tE full')) (hO : OS a' n' c' s full' vals') (hxF : Ext [l] wE wF) (hlF : wF.heap[l]? = some (.loop lo)) :
    GJ w0 bt bd bp ba fr A P F tL tE s b l lo vals' (fun x => x = l ∨ x ∈ ((b, Bl tL [.slice a' n' c']) :: ent a' tE full').map (·.1)) wF a' n' c' full' ∧ Grown M (fun x => x = l ∨ x ∈ ((b, Bl tL [.slice a' n' c']) :: ent a' tE full').map (·.1)) w wF := by
  have hll := heap_lt G.loop
  have hsR := hxR.size
  have hnew : ∀ y ∈ (b, Bl tL [.slice a' n' c']) :: ent a' tE full', w0.heap.size ≤ y.1 ∧ y.1 ≠ l ∧ (y.1 ∈ ((b, Bl tL [.slice a n c]) :: ent a tE full).map (·.1) ∨ w.heap.size ≤ y.1) := fun y hy => by
    have hsz : w0.heap.size ≤ w.heap.size := by omega
    rcases H.own y hy with h | h
    · obtain ⟨z, hz, he⟩ := List.mem_map.1 h
      exact ⟨by rw [← he]; exact (G.blk z hz).2.1, by rw [← he]; exact (G.blk z hz).2.2, .inl h⟩
    · exact ⟨by omega, by omega, .inr (by omega)⟩
  have hx : Ext (l :: ((b, Bl tL [.slice a n c]) :: ent a tE full).map (·.1)) w wF :=
    ((hxR.mono (fun x h => by rw [List.mem_singleton.1 h]; exact List.mem_cons_self ..)).trans (H.ext.mono fun x h => List.mem_cons_of_mem _ h)).trans (hxF.mono fun x h => by rw [List.mem_singleton.1 h]; exact List.mem_cons_self ..)
  refine ⟨⟨rfl, G.tx.side hx fun x h hT => ?_, hlF, fun y hy => ⟨?_, (hnew y hy).1, (hnew y hy).2.1⟩, H.nd, hO⟩, ⟨⟨_, fun x h => ?_, hx⟩, fun x h => ?_⟩⟩
  · have := h0 x hT
    rcases List.mem_cons.1 h with rfl | h
    · omega
    · obtain ⟨y, hy, rfl⟩ := List.mem_map.1 h
      have := (G.blk y hy).2.1; omega
  · rw [hxF.block y.1 (heap_lt (H.blk y hy)) (by simpa using (hnew y hy).2.1)]; exact H.blk y hy
  · rw [G.M]
    rcases List.mem_cons.1 h with rfl | h
    · exact .inl rfl
    · exact .inr h
  · rw [G.M]
    rcases h with rfl | h
    · exact .inl (.inl rfl)
    · obtain ⟨y, hy, rfl⟩ := List.mem_map.1 h
      exact (hnew y hy).2.2.imp .inr id
end
/-- A body is left, its results in two cells. -/
theorem leaveM2cc {P : Program} {e : Env} {w : World} {fn : Func} {R : Value → World → Prop} {a1 a2 : Tmp} {t1 t2 : TypeId} {b1 b2 : Nat} (hr : fn.results = #[.cell a1 t1, .cell a2 t2]) (h1 : e.g a1 = .pointer (some ⟨b1, 0, none⟩)) (h2 : e.g a2 = .pointer (some ⟨b2, 0, none⟩)) (hg1 : aggB P t1 = some false) (hg2 : aggB P t2 = some false)
    (h : Marks e.ds w fun w' => ∃ v1 v2 x1 x2 l1 l2, w'.heap[b1]? = some (Bl x1 (v1 :: l1)) ∧ w'.heap[b2]? = some (Bl x2 (v2 :: l2)) ∧ R (.tuple #[v1, v2]) w') : QretM P fn R .ret e w :=
  Marks.mono (fun w' ⟨v1, v2, x1, x2, l1, l2, hb1, hb2, hR⟩ tmps ht => by
    have g1 := (ht a1).trans h1
    have g2 := (ht a2).trans h2
    rw [Array.getD_eq_getD_getElem?] at g1 g2
    have k1 : (loadVar t1 ⟨b1, 0, none⟩).run P w' = .ok v1 w' := run_load1 hg1 (by rw [cell_bl hb1]; rfl)
    have k2 : (loadVar t2 ⟨b2, 0, none⟩).run P w' = .ok v2 w' := run_load1 hg2 (by rw [cell_bl hb2]; rfl)
    exact ⟨_, by simp [results, hr, g1, g2, asAddr, k1, k2], hR⟩) h

end Go.Proofs.YtbkadlngijkmmaaGreatDoor

/- The pages of a root: the walk. -/
namespace Go.Proofs.YtbkadlngijkmmaaGreatDoor
open Go.GV
theorem ag_31_TrEd : aggB Tryz.prog 31 = some false := by kernel_rfl
theorem by_3_TrEd : tbytes Tryz.prog 3 = some 8 := by kernel_rfl
theorem ca_127_TrEd : callable Tryz.prog 127 = true := by kernel_rfl
theorem ca_64_TrEd : callable Tryz.prog 64 = true := by kernel_rfl
theorem ca_70_TrEd : callable Tryz.prog 70 = true := by kernel_rfl
theorem ca_76_TrEd : callable Tryz.prog 76 = true := by kernel_rfl
theorem sz_31_TrEd : tsize Tryz.prog 31 = some 1 := by kernel_rfl
theorem zc_31_TrEd : zcells Tryz.prog 31 = some ([.int .i64 0]) := by kernel_rfl
theorem zc_3_TrEd : zcells Tryz.prog 3 = some ([.int .i64 0]) := by kernel_rfl
theorem zc_57_TrEd : zcells Tryz.prog 57 = some ([.slice none 0 0]) := by kernel_rfl
attribute [local irreducible] Wops W Wq Wt

theorem mark_end {w6 w : World} {ids : List Nat} {L' : List (Nat × Obj)} (H : Ctx w6 ids w L') {Db : Nat} (hD6 : w6.heap[Db]? = some (.deferred (some []))) (hids : Db ∉ ids) {K : World → Prop} {ds : List Deferred} (hds : ds = [{ target := .collected Db, args := #[] }])
    (hK : ∀ wF, Ext [Db] w wF → (∀ (b t : Nat) (l : List Value), w.heap[b]? = some (Bl t l) → wF.heap[b]? = some (Bl t l)) → K wF) : Marks ds w K := by
  have hD : w.heap[Db]? = some (.deferred (some [])) := by rw [H.ext.block Db (heap_lt hD6) hids]; exact hD6
  subst hds
  refine ⟨Db, rfl, hD, hK _ (Ext.setB w Db _) fun b t l hb => ?_⟩
  rw [(Ext.setB w Db _).block b (heap_lt hb) (by
    rw [List.mem_singleton]
    rintro rfl
    rw [hD] at hb
    cases hb)]
  exact hb
theorem sortO_ok {w : World} {a : Option Addr} {n c t : Nat} {full : List Value} {l : List Int} (O : OS a n c 1 full (l.map iv)) (hb : ∀ y ∈ ent a t full, w.heap[y.1]? = some y.2) (hsz : l.length ≤ 1000000) :
    Ret Tryz.prog 76 #[.slice a n c] w fun v w' => v = .tuple #[] ∧ ∃ full', (∀ y ∈ ent a t full', w'.heap[y.1]? = some y.2) ∧ OS a n c 1 full' ((sortZ l).map iv) ∧ Ext ((ent a t full).map (·.1)) w w' := by
  have hn : n = l.length := O.num
  cases ha : a with
  | none =>
    have h0 := O.none' ha
    have h1 := O.le
    have hl : l = [] := List.eq_nil_of_length_eq_zero (by omega)
    subst hl hn ha
    refine Ret.mono (sort7_nil c w) ?_
    rintro v w' ⟨rfl, rfl⟩
    exact ⟨rfl, full, (fun y hy => by cases hy), by simpa [sortZ] using O, .refl _ _⟩
  | some p =>
    have hp := O.zero p ha
    subst ha
    rw [hp] at hb O ⊢
    have h2 := O.len
    have h3 := O.le
    have hpre := O.pre
    rw [Nat.mul_one] at hpre h2
    subst hn
    refine Ret.mono (sort7_ok (c := c) (hb (p.block, _) (List.mem_singleton.2 rfl)) hpre (by omega) hsz) ?_
    rintro v w' ⟨rfl, h4, h5⟩
    refine ⟨rfl, _, fun y hy => by rw [List.mem_singleton.1 hy]; exact h4, ⟨O.zero, O.none', ?_, O.le, ?_⟩, h5⟩
    · rw [List.length_append, List.length_map, List.length_mergeSort, List.length_drop]; omega
    · rw [Nat.mul_one, List.take_left' (by rw [List.length_map, List.length_mergeSort])]
theorem _root_.Go.GV.Ctx.sorted {w6 w7 : World} {S : List Nat} {b5 b4 t : Nat} {o5 o4 : Obj} {a : Option Addr} {full full' : List Value} (H : Ctx w6 S w6 ((b5, o5) :: (b4, o4) :: ent a t full)) (hf : ∀ y ∈ ent a t full', w7.heap[y.1]? = some y.2) (hx : Ext ((ent a t full).map (·.1)) w6 w7)
    (h4 : ∀ y ∈ ent a t full, b4 ≠ y.1) (h5 : ∀ y ∈ ent a t full, b5 ≠ y.1) (hS : S = ((b5, o5) :: (b4, o4) :: ent a t full).map (·.1)) : Ctx w6 S w7 ((b5, o5) :: (b4, o4) :: ent a t full') := by
  subst hS
  have hid : ∀ y ∈ ent a t full', ∃ z ∈ ent a t full, z.1 = y.1 := fun y hy => by
    cases a with
    | none => cases hy
    | some q => rw [List.mem_singleton.1 hy]; exact ⟨_, List.mem_singleton.2 rfl, rfl⟩
  have hnd := List.pairwise_cons.1 H.nd
  refine ⟨hx.mono fun x h => List.mem_cons_of_mem _ (List.mem_cons_of_mem _ h), fun y hy => ?_, List.pairwise_cons.2 ⟨fun y hy => ?_, List.pairwise_cons.2 ⟨fun y hy => ?_, ?_⟩⟩, fun y hy => .inl ?_⟩
  · rcases List.mem_cons.1 hy with rfl | hy
    · rw [hx.block b5 (heap_lt (H.get at0)) fun h => by obtain ⟨y, hy, he⟩ := List.mem_map.1 h; exact h5 y hy he.symm]
      exact H.get at0
    · rcases List.mem_cons.1 hy with rfl | hy
      · rw [hx.block b4 (heap_lt (H.get at1)) fun h => by obtain ⟨y, hy, he⟩ := List.mem_map.1 h; exact h4 y hy he.symm]
        exact H.get at1
      · exact hf y hy
  · rcases List.mem_cons.1 hy with rfl | hy
    · exact hnd.1 _ (List.mem_cons_self ..)
    · obtain ⟨z, hz, he⟩ := hid y hy
      rw [← he]; exact h5 z hz
  · obtain ⟨z, hz, he⟩ := hid y hy
    rw [← he]; exact h4 z hz
  · cases a with
    | none => exact List.Pairwise.nil
    | some q => exact List.pairwise_singleton ..
  · rcases List.mem_cons.1 hy with rfl | hy
    · exact List.mem_cons_self ..
    · rcases List.mem_cons.1 hy with rfl | hy
      · exact List.mem_cons_of_mem _ (List.mem_cons_self ..)
      · obtain ⟨z, hz, he⟩ := hid y hy
        rw [← he]
        exact List.mem_cons_of_mem _ (List.mem_cons_of_mem _ (List.mem_map.2 ⟨z, hz, rfl⟩))
def walkT (A : Dev) (fr sz : Nat) (root : Int) : Int × List Int :=
  if mayE sz root ≠ 0 then (1, []) else if (nodesG A fr sz root).1 ≠ 0 then ((nodesG A fr sz root).1, []) else (0, sortZ ((nodesG A fr sz root).2.map (·.1)))

set_option maxRecDepth 20000 in
set_option maxHeartbeats 8000000 in
theorem walk7_ok {fr : Nat} (hfr : fr ≤ 5000) {w : World} {bt bd bp ba : Nat} {A : Dev} {P : List Nat} {F : Mut} (T : Tx w bt bd bp ba fr A P F []) (root : Int) (hr1 : -9223372036854775808 ≤ root) (hr2 : root ≤ 9223372036854775807) {mx : Nat} (hfew : Few A mx) (hmx : mx ≤ 1000000000) (hN : (nodesG A fr P.length root).2.length ≤ 100000) :
    Ret Tryz.prog 28 #[ptr bt, .int .i64 root] w fun v w' => ∃ a c, v = .tuple #[.slice a (walkT A fr P.length root).2.length c, .int .i64 (walkT A fr P.length root).1] ∧ Rd w' a 1 (fun x : Int => [.int .i64 x]) (walkT A fr P.length root).2 ∧ ((walkT A fr P.length root).2 = [] ∨ w.heap.size ≤ (adr a).block) ∧ (walkT A fr P.length root).2.length ≤ c ∧ Ext [] w w' := by
  obtain ⟨w0, rfl⟩ : ∃ w0, w0 = w := ⟨_, rfl⟩
  obtain ⟨wt, hwt⟩ : ∃ wt, wt = walkT A fr P.length root := ⟨_, rfl⟩
  rw [← hwt]
  unfold walkT at hwt
  have h0 := T.mlt
  have H := Ctx.start w0 []
  refine ret_of_WM (fn := Tryz.f28) Tryz.func28 rfl [.pointer (some ⟨bt, 0, none⟩), .int .i64 root] rfl (by kernel_rfl) ?_
  refine W_rseq ?_
  refine op_alloc rfl zc_57_TrEd H ?_
  rintro b4 w - H
  refine op_alloc rfl zc_31_TrEd H ?_
  rintro b5 w - H
  refine op_nil (at_then ?_)
  refine W_seq ?_
  refine W_rseq ?_
  refine op_move rfl (.pointer _) rfl ?_
  refine op_move rfl (.int _ _) rfl ?_
  refine op_call rfl ca_64_TrEd (may7_ok (T.call H.ext) root) rfl ?_
  rintro v w2 ⟨rfl, rfl⟩
  refine op_assign rfl (.int _ _) rfl ?_
  refine op_nil (at_then ?_)
  refine W_rseq ?_
  refine op_move rfl (.int _ _) rfl ?_
  refine op_neq rfl rfl rfl ?_
  refine op_nil (at_then ?_)
  refine W_cond _ rfl ?_ ?_
  · intro hA
    replace hA := ndec_t hA
    rw [if_pos hA] at hwt
    have he : mayE P.length root = 1 := by unfold mayE at hA ⊢; split <;> simp_all
    rw [he]
    refine W_rseq ?_
    refine op_move rfl (.int _ _) rfl ?_
    refine op_stb (.slice _ _ _) rfl sz_57 rfl rfl rfl H (by first | exact at0 | exact at1 | exact at2 | exact at3 | exact at4 | exact at5 | exact at6 | exact at7 | exact at8 | exact at9) (by first | decide | (simp; done) | (simp; omega)) ?_
    rintro w H
    refine op_stb (.int _ _) rfl sz_31_TrEd rfl rfl rfl H (by first | exact at0 | exact at1 | exact at2 | exact at3 | exact at4 | exact at5 | exact at6 | exact at7 | exact at8 | exact at9) (by first | decide | (simp; done) | (simp; omega)) ?_
    rintro w H
    refine op_nil (at_then ?_)
    refine W_ret (ret_then ?_)
    refine leaveM2cc rfl rfl rfl ag_57 ag_31_TrEd ?_
    exact ⟨_, _, _, _, _, _, H.get at1, H.get at0, none, 0, by rw [hwt]; rfl, by rw [hwt]; exact Rd.nil, by rw [hwt]; exact .inl rfl, by rw [hwt]; exact Nat.le_refl _, H.ext⟩
  · intro hA
    replace hA := ndec_f hA
    rw [if_neg (by simpa using hA)] at hwt
    obtain ⟨ng, hng⟩ : ∃ ng, ng = nodesG A fr P.length root := ⟨_, rfl⟩
    rw [← hng] at hwt hN
    refine W_skip (at_then ?_)
    refine W_seq ?_
    refine W_rseq ?_
    refine op_move rfl (.pointer _) rfl ?_
    refine op_move rfl (.int _ _) rfl ?_
    have hb4w := H.lt (k := 1) rfl
    have hb5w := H.lt (k := 0) rfl
    refine op_call rfl ca_70_TrEd (nodes_ok bt b5 root _) rfl ?_
    rintro v w3 ⟨x3, x4, x5, rfl, ⟨t4, hx4⟩, ⟨t3, hx3⟩, ⟨t5, hx5⟩, n4, n3, n5, hxn⟩
    replace H := H.call hxn
    refine op_nil (at_then ?_)
    refine W_block ?_
    refine W_rangeFunc rfl ca_127_TrEd ?_
    intro fn tmps hts htm Db l w2 hDb hl hx2 hD hrec
    obtain ⟨lo, hlo, hrec'⟩ : ∃ lo, lo = _ ∧ w2.heap[l]? = some (.loop lo) := ⟨_, rfl, hrec⟩
    have hw03 := H.ext
    have hs03 := hw03.size
    have hs32 := hx2.size
    have up2 : ∀ {b : Nat} {o : Obj}, w3.heap[b]? = some o → w2.heap[b]? = some o := fun {b o} g => by rw [hx2.block b (heap_lt g) (by simp)]; exact g
    have hb4 := H.get at1
    have hb5 := H.get at0
    have hb45 := H.ne at1 at0 (by decide)
    have ho4 : w0.heap.size ≤ b4 := (H.own _ (List.mem_cons_of_mem _ (List.mem_cons_self ..))).elim (fun h => by cases h) id
    have ho5 : w0.heap.size ≤ b5 := (H.own _ (List.mem_cons_self ..)).elim (fun h => by cases h) id
    have hl4 := heap_lt hb4
    have hl5 := heap_lt hb5
    have hxl4 := heap_lt hx4
    have hxl3 := heap_lt hx3
    have hxl5 := heap_lt hx5
    have hN' : (nodesG A fr P.length root).2.length ≤ 100000 := by rw [← hng]; exact hN
    have JO : JOk bt bd bp ba fr A P F Z0 100000 l (fun v M w => ∃ a n c full, GJ w0 bt bd bp ba fr A P F 57 3 1 b4 l lo (v.map fun x => iv x.1) M w a n c full) := by
      refine ⟨fun {v M w} h => ?_, fun {v M w w'} h hx => ?_, fun {v M w} h => ?_, ?_⟩
      · obtain ⟨a, n, c, full, G⟩ := h
        exact G.lt
      · obtain ⟨a, n, c, full, G⟩ := h
        exact ⟨a, n, c, full, G.ext hx⟩
      · obtain ⟨a, n, c, full, G⟩ := h
        exact G.tx
      · rintro v M w page i a7 n7 c7 L7 ⟨a, n, c, full, G⟩ hv I hL hLb hpg
        have hn : n = v.length := by have := G.os.num; exact this
        have hloop := G.loop
        subst hlo
        refine yield_of hloop rfl (round_of_W _ (sim_two hts htm (by decide) (by decide)) (by kernel_rfl) ?_)
        refine W_region ?_
        refine op_assign rfl (.int _ _) rfl ?_
        refine op_nil ?_
        refine begin_of hloop rfl ?_
        intro wR lo2 hxR hlR hlo2
        have H := G.body hxR
        have O := G.os
        refine W_block ?_
        refine W_region ?_
        refine op_ldb rfl ag_57 rfl H (by first | exact at0 | exact at1 | exact at2 | exact at3 | exact at4 | exact at5 | exact at6 | exact at7 | exact at8 | exact at9) rfl ?_
        refine op_move rfl (.int _ _) rfl ?_
        refine op_build1 [.int .i64 page] (.int .i64 page) rfl el_57 sz_3 zc_3_TrEd rfl (by decide) (by decide) rfl rfl rfl H ?_
        rintro b21 w - H
        refine op_appendb (L := [_]) rfl el_57 el_57 sz_3 by_3_TrEd zc_3_TrEd rfl (by decide) rfl rfl H O rfl (by simp [oneCell]) (by omega) ?_
        rintro a22 c22 f22 w H O22
        refine op_stb (.slice _ _ _) rfl sz_57 rfl rfl rfl H (by first | exact at0 | exact at1 | exact at2 | exact at3 | exact at4 | exact at5 | exact at6 | exact at7 | exact at8 | exact at9) (by first | decide | (simp; done) | (simp; omega)) ?_
        rintro w H
        refine op_nil (at_block ?_)
        have H9 := H
        have hlE : w.heap[l]? = some (.loop lo2) := by
          rw [H9.ext.block l (heap_lt hlR) fun h => ?_]
          · exact hlR
          · obtain ⟨y, hy, he⟩ := List.mem_map.1 h
            exact (G.blk y hy).2.2 he
        refine round_end hlE hlo2 rfl rfl ?_
        intro wF hxF hlF
        have O23 : OS a22 (n + 1) c22 1 f22 ((v ++ [(page, i, L7)]).map fun x => iv x.1) := by rw [List.map_append]; exact O22
        obtain ⟨G9, g9⟩ := G.next h0 (by omega) hxR H9 O23 hxF hlF
        exact ⟨rfl, _, ⟨a22, n + 1, c22, f22, G9⟩, g9⟩
    have hJ0 : (fun (v : List Nd) (M : Mut) (w : World) => ∃ a n c full, GJ w0 bt bd bp ba fr A P F 57 3 1 b4 l lo (v.map fun x => iv x.1) M w a n c full) [] (fun x => x = l ∨ x ∈ ((b4, Bl 57 [.slice none 0 0]) :: ent none 3 []).map (·.1)) w2 := by
      refine ⟨none, 0, 0, [], rfl, T.call (hw03.trans hx2), hrec', fun y hy => ?_, List.pairwise_singleton .., OS.nil⟩
      rw [List.mem_singleton.1 hy]
      exact ⟨up2 hb4, ho4, by dsimp only; omega⟩
    have hnM : ∀ x, x ≠ l → x ≠ b4 → ¬ (x = l ∨ x ∈ ((b4, Bl 57 [.slice none 0 0]) :: ent none 3 []).map (·.1)) := fun x h1 h2 h => by
      rcases h with h | h
      · exact h1 h
      · exact h2 (by simpa [ent] using h)
    refine Ret.mono (nodes1_ok JO hfr hfew hmx hJ0 (fun x h => h.elim) (up2 hx4) (up2 hx3) (up2 hx5) (up2 hb5) (hnM _ (by omega) (by omega)) (hnM _ (by omega) (by omega)) (hnM _ (by omega) (by omega)) (hnM _ (by omega) (Ne.symm hb45)) hr1 hr2 hN') ?_
    rintro v w4 ⟨wx, Mx, ⟨a, n, c, full, G⟩, gx, hx5w, he5⟩
    rw [← hng] at G he5
    have hloop := G.loop
    have hb5l : b5 ≠ l := by omega
    have hx1 : w4.heap[l]? = some (.loop lo) := by rw [hx5w.block l (heap_lt hloop) (by simpa using fun h => hb5l h.symm)]; exact hloop
    refine ⟨_, hx1, by subst hlo; exact (fun h => by cases h), jumped_none (by rw [hlo]) ?_⟩
    have hx6 := Ext.setB w4 l (.loop { lo with state := .exhausted })
    generalize w4.putObj l (.loop { lo with state := .exhausted }) = w6 at hx6 ⊢
    have hEnt : ∀ y ∈ (b4, Bl 57 [.slice a n c]) :: ent a 3 full, w6.heap[y.1]? = some y.2 := fun y hy => by
      have h1 := G.blk y hy
      have h2 : y.1 ≠ b5 := fun e => by
        rcases gx.2 y.1 (by rw [G.M]; exact .inr (List.mem_map.2 ⟨y, hy, rfl⟩)) with h | h
        · exact hnM y.1 h1.2.2 (fun e4 => hb45 (e4 ▸ e)) h
        · omega
      rw [hx6.block y.1 (Nat.lt_of_lt_of_le (heap_lt h1.1) hx5w.size) (by simpa using h1.2.2), hx5w.block y.1 (heap_lt h1.1) (by simpa using h2)]; exact h1.1
    have hb56 : w6.heap[b5]? = some (Bl 31 [.int .i64 ng.1]) := by
      rw [hx6.block b5 (heap_lt he5) (by simpa using hb5l)]; exact he5
    obtain ⟨⟨Sg, hSg, hxg⟩, hgg⟩ := gx
    have hsx := hxg.size
    have hs45 := hx5w.size
    have hs46 := hx6.size
    have hM2 : ∀ x, (x = l ∨ x ∈ ((b4, Bl 57 [.slice none 0 0]) :: ent none 3 []).map (·.1)) → x = l ∨ x = b4 := fun x h => h.imp id fun h => by simpa [ent] using h
    have E06 : Ext [] w0 w6 := (((hw03.trans hx2).then hxg fun x h => .inr (by rcases hM2 x (hSg x h) with h | h <;> omega)).then hx5w fun x h => .inr (by rw [List.mem_singleton.1 h]; exact ho5)).then hx6 fun x h => .inr (by rw [List.mem_singleton.1 h]; omega)
    have hD6 : w6.heap[Db]? = some (.deferred (some [])) := by
      rw [hx6.block Db (by have := heap_lt hD; omega) (by rw [List.mem_singleton]; omega), hx5w.block Db (by have := heap_lt hD; omega) (by rw [List.mem_singleton]; omega), hxg.block Db (heap_lt hD) fun h => by rcases hM2 _ (hSg _ h) with h | h <;> omega]
      exact hD
    have hEne : ∀ y ∈ (b4, Bl 57 [.slice a n c]) :: ent a 3 full, b5 ≠ y.1 := fun y hy e => by
      have h1 := G.blk y hy
      rcases hgg y.1 (by rw [G.M]; exact .inr (List.mem_map.2 ⟨y, hy, rfl⟩)) with h | h
      · rcases hM2 _ h with h | h
        · exact hb5l (e.trans h)
        · exact hb45 (h ▸ e ▸ rfl)
      · omega
    have hEge : ∀ x ∈ (((b5, Bl 31 [.int .i64 ng.1]) :: (b4, Bl 57 [.slice a n c]) :: ent a 3 full).map (·.1)), w0.heap.size ≤ x ∧ x ≠ Db := fun x h => by
      obtain ⟨y, hy, rfl⟩ := List.mem_map.1 h
      rcases List.mem_cons.1 hy with rfl | hy
      · exact ⟨ho5, by dsimp only; omega⟩
      · refine ⟨(G.blk y hy).2.1, fun e => ?_⟩
        have h1 := hEnt y hy
        rw [e, hD6] at h1
        rcases List.mem_cons.1 hy with rfl | hy
        · cases h1
        · cases ha : a with
          | none => rw [ha] at hy; cases hy
          | some q => rw [ha] at hy; rw [List.mem_singleton.1 hy] at h1; cases h1
    have H := Ctx.startL (L := (b5, Bl 31 [.int .i64 ng.1]) :: (b4, Bl 57 [.slice a n c]) :: ent a 3 full) (w := w6) (fun y hy => by
      rcases List.mem_cons.1 hy with rfl | hy
      · exact hb56
      · exact hEnt y hy) (List.pairwise_cons.2 ⟨hEne, G.nd⟩)
    have hnn : n = ng.2.length := by have := G.os.num; exact this
    have hDn : Db ∉ (((b5, Bl 31 [.int .i64 ng.1]) :: (b4, Bl 57 [.slice a n c]) :: ent a 3 full).map (·.1)) := fun h => (hEge Db h).2 rfl
    refine at_block (at_then ?_)
    refine W_seq ?_
    refine W_rseq ?_
    refine op_ldb rfl ag_31_TrEd rfl H (by first | exact at0 | exact at1 | exact at2 | exact at3 | exact at4 | exact at5 | exact at6 | exact at7 | exact at8 | exact at9) rfl ?_
    refine op_neq rfl rfl rfl ?_
    refine op_nil (at_then ?_)
    refine W_cond _ rfl ?_ ?_
    · intro hB
      replace hB := ndec_t hB
      rw [if_pos hB] at hwt
      refine W_sseqz [([0], 1), ([], 2)] (fun z => z.heap[b5]? = some (Bl 31 [.int .i64 ng.1])) [2] mixed (by kernel_rfl) (H.drew.get at0) ?_
      refine seg_cons rfl rfl ?_
      first | refine t_ldb rfl ag_31_TrEd rfl (fun _ _ => Ctx.start _ []) (by first | exact at0 | exact at1 | exact at2 | exact at3 | exact at4 | exact at5 | exact at6 | exact at7 | exact at8 | exact at9) rfl ?_ | refine t_ld rfl ag_31_TrEd rfl (fun _ hx => (by rw [cell_bl hx]; rfl)) ?_
      refine t_nil ?_
      replace H := H.drew
      refine op_stb (.slice _ _ _) rfl sz_57 rfl rfl rfl H (by first | exact at0 | exact at1 | exact at2 | exact at3 | exact at4 | exact at5 | exact at6 | exact at7 | exact at8 | exact at9) (by first | decide | (simp; done) | (simp; omega)) ?_
      rintro w H
      refine op_nil (at_seg (H.get at0) ?_)
      refine seg_cons rfl rfl ?_
      refine t_nil ?_
      refine op_stb (.int _ _) rfl sz_31_TrEd rfl rfl rfl H (by first | exact at0 | exact at1 | exact at2 | exact at3 | exact at4 | exact at5 | exact at6 | exact at7 | exact at8 | exact at9) (by first | decide | (simp; done) | (simp; omega)) ?_
      rintro w H
      refine op_nil (at_segz rfl ?_)
      refine seg_nil ?_
      refine W_ret (ret_then ?_)
      refine leaveM2cc rfl rfl rfl ag_57 ag_31_TrEd (mark_end H hD6 hDn rfl fun wF hxF hkF => ?_)
      exact ⟨_, _, _, _, _, _, hkF _ _ _ (H.get at1), hkF _ _ _ (H.get at0), none, 0, by rw [hwt]; rfl, by rw [hwt]; exact Rd.nil, by rw [hwt]; exact .inl rfl, by rw [hwt]; exact Nat.le_refl _, (E06.then H.ext fun x h => .inr (hEge x h).1).then hxF fun x h => .inr (by rw [List.mem_singleton.1 h]; omega)⟩
    · intro hB
      replace hB := ndec_f hB
      have hB' : ng.1 = 0 := by simpa using hB
      rw [if_neg (by simpa using hB)] at hwt
      have O9 : OS a n c 1 full ((ng.2.map (·.1)).map iv) := by rw [List.map_map]; exact G.os
      refine W_skip (at_then ?_)
      refine W_rseq ?_
      refine op_ldb rfl ag_57 rfl H (by first | exact at0 | exact at1 | exact at2 | exact at3 | exact at4 | exact at5 | exact at6 | exact at7 | exact at8 | exact at9) rfl ?_
      refine op_call rfl ca_76_TrEd (sortO_ok (t := 3) O9 (fun y hy => H.blk y (List.mem_cons_of_mem _ (List.mem_cons_of_mem _ hy))) (by rw [List.length_map]; omega)) rfl ?_
      rintro v w7 ⟨rfl, full', hf7, O7, hx7⟩
      have H7 : Ctx w6 _ w7 ((b5, Bl 31 [.int .i64 ng.1]) :: (b4, Bl 57 [.slice a n c]) :: ent a 3 full') := H.sorted hf7 hx7 (fun y hy => (List.pairwise_cons.1 G.nd).1 y hy) (fun y hy => hEne y (List.mem_cons_of_mem _ hy)) rfl
      replace H := H7
      refine op_nil (at_then ?_)
      refine W_rseq ?_
      refine op_ldb rfl ag_57 rfl H (by first | exact at0 | exact at1 | exact at2 | exact at3 | exact at4 | exact at5 | exact at6 | exact at7 | exact at8 | exact at9) rfl ?_
      refine op_stb (.slice _ _ _) rfl sz_57 rfl rfl rfl H (by first | exact at0 | exact at1 | exact at2 | exact at3 | exact at4 | exact at5 | exact at6 | exact at7 | exact at8 | exact at9) (by first | decide | (simp; done) | (simp; omega)) ?_
      rintro w H
      refine op_stb (.int _ _) rfl sz_31_TrEd rfl rfl rfl H (by first | exact at0 | exact at1 | exact at2 | exact at3 | exact at4 | exact at5 | exact at6 | exact at7 | exact at8 | exact at9) (by first | decide | (simp; done) | (simp; omega)) ?_
      rintro w H
      refine op_nil (at_then ?_)
      refine W_ret ?_
      have hs9 : (sortZ (ng.2.map (·.1))).length = n := by rw [List.length_mergeSort, List.length_map, hnn]
      refine leaveM2cc rfl rfl rfl ag_57 ag_31_TrEd (mark_end H hD6 hDn rfl fun wF hxF hkF => ?_)
      refine ⟨_, _, _, _, _, _, hkF _ _ _ (H.get at1), hkF _ _ _ (H.get at0), a, c, by rw [hwt, hs9], ?_, ?_, ?_, (E06.then H.ext fun x h => .inr (hEge x h).1).then hxF fun x h => .inr (by rw [List.mem_singleton.1 h]; omega)⟩
      · rw [hwt]
        exact OS.rd1 (t := 3) (f := iv) O7 fun y hy => by
          have h1 := H.blk y (List.mem_cons_of_mem _ (List.mem_cons_of_mem _ hy))
          cases ha : a with
          | none => rw [ha] at hy; cases hy
          | some q =>
            rw [ha] at hy
            rw [List.mem_singleton.1 hy] at h1 ⊢
            exact hkF _ _ _ h1
      · rw [hwt]
        cases ha : a with
        | none =>
          left
          have h8 := O7.none' ha; have h9 := O7.le
          exact List.eq_nil_of_length_eq_zero (by rw [hs9]; omega)
        | some q =>
          right
          have h8 := (hEge q.block (by rw [ha]; simp [ent])).1
          obtain ⟨qb, qo, qs⟩ := q
          exact h8
      · rw [hwt, hs9]; exact O7.le

end Go.Proofs.YtbkadlngijkmmaaGreatDoor
