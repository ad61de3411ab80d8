/- Part 9 of the proof. -/
import Derived.Test.YtapphbmlkdhnmaaGreatPart8
/- The solver: finer caps: the walk. -/
namespace Go.Proofs.YtapphbmlkdhnmaaGreat
open Go.GV
theorem ag_26_SeU : aggB Tryz.prog 26 = some false := by kernel_rfl
theorem ag_29_SeU : aggB Tryz.prog 29 = some false := by kernel_rfl
theorem ag_2_SeU : aggB Tryz.prog 2 = some false := by kernel_rfl
theorem ag_3_SeU : aggB Tryz.prog 3 = some false := by kernel_rfl
theorem el_26_SeU : elemT Tryz.prog 26 = some 92 := by kernel_rfl
theorem el_29_SeU : elemT Tryz.prog 29 = some 2 := by kernel_rfl
theorem fo_170_0_SeU : fieldO Tryz.prog 170 0 = some 0 := by kernel_rfl
theorem fo_170_1_SeU : fieldO Tryz.prog 170 1 = some 2 := by kernel_rfl
theorem fo_170_2_SeU : fieldO Tryz.prog 170 2 = some 3 := by kernel_rfl
theorem fo_170_3_SeU : fieldO Tryz.prog 170 3 = some 4 := by kernel_rfl
theorem fo_28_1_SeU : fieldO Tryz.prog 28 1 = some 1 := by kernel_rfl
theorem fo_92_0_SeU : fieldO Tryz.prog 92 0 = some 0 := by kernel_rfl
theorem fo_92_1_SeU : fieldO Tryz.prog 92 1 = some 1 := by kernel_rfl
theorem fo_92_2_SeU : fieldO Tryz.prog 92 2 = some 2 := by kernel_rfl
theorem fo_92_3_SeU : fieldO Tryz.prog 92 3 = some 3 := by kernel_rfl
theorem mixed_SeU : Tryz.prog.follows .mixedOrders = true := by kernel_rfl
theorem sz_2_SeU : tsize Tryz.prog 2 = some 1 := by kernel_rfl
theorem sz_92_SeU : tsize Tryz.prog 92 = some 4 := by kernel_rfl
attribute [local irreducible] Wops W Wq Wt

def capW (c c' : Nat → Int) (i j : Nat) : Int := if j < i then c' j else c j
def flW (g : Gr) (c' x p : Nat → Int) (i j : Nat) : Int := if j < i then finX g c' x p j else x j
theorem capW_ne {c c' : Nat → Int} {i j : Nat} (h : j ≠ i) : capW c c' (i + 1) j = capW c c' i j := by unfold capW; split <;> split <;> first | rfl | omega
theorem flW_ne {g : Gr} {c' x p : Nat → Int} {i j : Nat} (h : j ≠ i) : flW g c' x p (i + 1) j = flW g c' x p i j := by unfold flW; split <;> split <;> first | rfl | omega
abbrev FL (bf bo n N : Nat) (x ov : Nat → Int) (ae : Option Addr) (full : List Value) : List (Nat × Obj) := (bf, Bl 2 (tabV x n)) :: (bo, Bl 2 (tabV ov N)) :: ent ae 92 full

set_option maxRecDepth 20000 in
set_option maxHeartbeats 8000000 in
theorem finer_ok {w : World} {bs : Nat} {N : Nat} {ae aw : Option Addr} {ce cw bf bp bo k : Nat} {kk : Int} {es : List Ed} {c x p ov : Nat → Int} {full : List Value} (H0 : Ctx w ((FL bf bo es.length N x ov ae full).map (·.1)) w (FL bf bo es.length N x ov ae full)) (O : OS ae es.length ce 4 full ((esC es c).flatMap encE))
    (hs : w.heap[bs]? = some (Bl 170 (SC N ae es.length ce bf bp bo kk))) (hbs : bs ∉ (FL bf bo es.length N x ov ae full).map (·.1)) (hp : w.heap[bp]? = some (Bl 2 (tabV p N))) (hbp : bp ∉ (FL bf bo es.length N x ov ae full).map (·.1)) (Rw : Rd w aw 4 encE es) (hRw : es ≠ [] → (adr aw).block ∉ (FL bf bo es.length N x ov ae full).map (·.1))
    (hr : rightN (N : Int) es = true) (hk : k ≤ 64) (hc : ∀ i, i < es.length → 2 * c i ≤ capK es k i ∧ capK es k i ≤ 2 * c i + 1) (hF : Fine (grE (N : Int) es) c x p) (hx0 : ∀ v, v < N → over7 (grE (N : Int) es) x v = 0) (hov : ∀ v, v < N → ov v = 0) (hpb : ∀ v, v < N → -1073741824 ≤ p v ∧ p v ≤ 1073741824) :
    Ret Tryz.prog 119 #[ptr bs, netV (N : Int) aw es.length cw, .int .i64 (k : Int)] w fun v w' => v = .tuple #[] ∧ ∃ full', OS ae es.length ce 4 full' ((esC es (capK es k)).flatMap encE) ∧
      Ctx w ((FL bf bo es.length N x ov ae full).map (·.1)) w' (FL bf bo es.length N (finX (grE (N : Int) es) (capK es k) x p) (over7 (grE (N : Int) es) (finX (grE (N : Int) es) (capK es k) x p)) ae full') := by
  obtain ⟨w0, rfl⟩ : ∃ w0, w0 = w := ⟨_, rfl⟩
  obtain ⟨ids, hids⟩ : ∃ ids, ids = (FL bf bo es.length N x ov ae full).map (·.1) := ⟨_, rfl⟩
  rw [← hids] at H0 hbs hbp hRw ⊢
  have H := H0
  obtain ⟨hN1, hN40, hn200, hall, -⟩ := right_of hr
  obtain ⟨g, hg⟩ : ∃ g, g = grE (N : Int) es := ⟨_, rfl⟩
  obtain ⟨c', hc'⟩ : ∃ c', c' = capK es k := ⟨_, rfl⟩
  have hgE : g.E = es.length := by rw [hg]; rfl
  have hgo : g.Ok := by rw [hg]; exact grE_ok hr
  have hin := capK_in hr k
  have hcb := cap_bnd hr
  rw [← hg] at hF hx0 ⊢
  rw [← hc'] at hc hin ⊢
  have hF2 := finer_fine hF (cap' := c') (fun i hi => hc i (by rw [← hgE]; exact hi))
  have hxb : ∀ i, i < es.length → 0 ≤ x i ∧ 2 * x i ≤ c' i ∧ c' i ≤ 4503599627370496 := fun i hi => by
    have h1 := hF.in' i (by rw [hgE]; exact hi)
    have h2 := hc i hi
    have h3 := hin i hi
    have h4 := hcb i hi
    omega
  have hmix : ∀ i v, -900719925474099200 ≤ over7 g (mixX g c' x p i) v ∧ over7 g (mixX g c' x p i) v ≤ 900719925474099200 := fun i v => over_in (by omega) (fun j hj => by
    have h1 := hxb j (by rw [← hgE]; exact hj)
    have h2 := hF2.in' j hj
    unfold mixX
    split <;> omega) v
  refine ret_of_W (fn := Tryz.f119) Tryz.func119 rfl [.pointer (some ⟨bs, 0, none⟩), netV (N : Int) aw es.length cw, .int .i64 (k : Int)] rfl (by kernel_rfl) ?_
  refine W_rseq ?_
  refine op_box rfl [.int .i64 (N : Int), .slice aw es.length cw] (.agg _) rfl rfl H ?_
  rintro b4 w - H
  refine op_nil (at_then ?_)
  refine W_rseq ?_
  refine op_move rfl (.pointer _) rfl ?_
  refine op_nilCheck rfl rfl ?_
  refine op_fieldAddr rfl fo_170_1_SeU rfl ?_
  first | refine op_ldb rfl ag_29_SeU rfl H (by first | exact at0 | exact at1 | exact at2 | exact at3 | exact at4 | exact at5 | exact at6 | exact at7 | exact at8 | exact at9) rfl ?_ | refine op_ld rfl ag_29_SeU rfl ((by rw [cell_bl (H.ext.to hs hbs)]; rfl)) ?_
  refine op_len rfl el_29_SeU rfl ?_
  refine op_move rfl (.int _ _) rfl ?_
  refine op_nil (at_then ?_)
  refine W_block ?_
  refine W_loop 21778071482940061661655974875633165517248 (α := Nat × List Value) (fun t => [(14, .int .i64 (t.1 : Int))]) (fun t w' => t.1 ≤ es.length ∧ OS ae es.length ce 4 t.2 ((esC es (capW c c' t.1)).flatMap encE) ∧ Ctx w0 ids w' ((b4, Bl 28 [.int .i64 (N : Int), .slice aw es.length cw]) :: FL bf bo es.length N (flW g c' x p t.1) (over7 g (mixX g c' x p t.1)) ae t.2)) (fun t => es.length - t.1) (0, full) rfl ?_ ?_ ?_
  · exact ⟨rfl, trivial⟩
  · refine ⟨Nat.zero_le _, ?_, ?_⟩
    · rw [esC_congr (d := c) fun i _ => by unfold capW; rw [if_neg (Nat.not_lt_zero _)]]
      exact O
    · have e1 : tabV (flW g c' x p 0) es.length = tabV x es.length := List.map_congr_left fun i _ => by unfold flW; rw [if_neg (Nat.not_lt_zero _)]
      have e2 : tabV (over7 g (mixX g c' x p 0)) N = tabV ov N := List.map_congr_left fun v hv => by
        have hv := List.mem_range.1 hv
        rw [mix_zero (hx0 v hv), hov v hv]
      dsimp only [FL]
      rw [e1, e2]
      exact H
  · rintro ⟨i, full1⟩ j w ⟨hi, O, H⟩; dsimp only at hi O H; dsimp only
    refine W_rseq ?_
    refine op_lss rfl rfl rfl ?_
    refine op_nil (at_then ?_)
    refine W_seq ?_
    refine W_cond _ rfl ?_ ?_
    · intro h1
      replace h1 := dec_t h1
      have hil : i < es.length := by omega
      obtain ⟨e, he⟩ := get_some hil
      have hee := edge_of (hall e (List.mem_of_getElem? he))
      obtain ⟨un, hun⟩ : ∃ un : Nat, e.f = un := ⟨e.f.toNat, by omega⟩
      obtain ⟨vn, hvn⟩ : ∃ vn : Nat, e.t = vn := ⟨e.t.toNat, by omega⟩
      obtain ⟨cc, hcc⟩ : ∃ cc : Nat, e.cap = cc := ⟨e.cap.toNat, by omega⟩
      have hgf : g.f i = un := by rw [hg]; show (es.getD i e0).f.toNat = un; rw [getD_of he, hun]; rfl
      have hgt : g.t i = vn := by rw [hg]; show (es.getD i e0).t.toNat = vn; rw [getD_of he, hvn]; rfl
      have hgc : g.co i = e.cost := by rw [hg]; show (es.getD i e0).cost = _; rw [getD_of he]
      have hck : c' i = ((cc / 2 ^ k : Nat) : Int) := by
        rw [hc']; unfold capK capE; rw [getD_of he, hcc]; rfl
      have hunN : un < N := by omega
      have hvnN : vn < N := by omega
      obtain ⟨q, rfl⟩ := O.form (by omega)
      have hxi := hxb i hil
      obtain ⟨xi, hxie⟩ : ∃ xi, xi = x i := ⟨_, rfl⟩
      obtain ⟨ck, hcke⟩ : ∃ ck, ck = c' i := ⟨_, rfl⟩
      rw [← hxie, ← hcke] at hxi
      rw [← hcke] at hck
      have hgx : (tab (flW g c' x p i) es.length)[i]? = some xi := by rw [tab_get hil, hxie]; unfold flW; rw [if_neg (Nat.lt_irrefl _)]
      have hcap2 : (encE e)[2]? = some (.int .i64 (cc : Int)) := by unfold encE; rw [hcc]; rfl
      have hes : es ≠ [] := fun h => by rw [h] at he; cases he
      have hqn := O.le
      have hOl := O.len
      refine W_skip (at_then ?_)
      refine W_seq ?_
      refine W_block ?_
      refine W_rseq ?_
      refine op_move rfl (.int _ _) rfl ?_
      refine op_assign rfl (.int _ _) rfl ?_
      refine op_nil (at_then ?_)
      refine W_rseq ?_
      refine op_move rfl (.pointer _) rfl ?_
      refine op_nilCheck rfl rfl ?_
      refine op_fieldAddr rfl fo_170_0_SeU rfl ?_
      refine op_fieldAddr rfl fo_28_1_SeU rfl ?_
      first | refine op_ldb rfl ag_26_SeU rfl H (by first | exact at0 | exact at1 | exact at2 | exact at3 | exact at4 | exact at5 | exact at6 | exact at7 | exact at8 | exact at9) rfl ?_ | refine op_ld rfl ag_26_SeU rfl ((by rw [cell_bl (H.ext.to hs hbs)]; rfl)) ?_ | refine op_ld rfl ag_26_SeU rfl (((tab_rd (H.get at1)).fld hgx rfl (j := 0) rfl)) ?_
      refine op_move rfl (.int _ _) rfl ?_
      first | refine op_indexRd (tab_rd (H.get at1)) rfl el_26_SeU sz_92_SeU rfl rfl (by omega) (by omega) (by first | rfl | omega) ?_ | refine op_indexAddr rfl el_26_SeU sz_92_SeU rfl rfl (by omega) (by omega) ?_
      refine op_assign rfl (.pointer _) rfl ?_
      refine op_nil (at_then ?_)
      refine W_rseq ?_
      refine op_move rfl (.pointer _) rfl ?_
      refine op_nilCheck rfl rfl ?_
      refine op_fieldAddr rfl fo_170_1_SeU rfl ?_
      first | refine op_ldb rfl ag_29_SeU rfl H (by first | exact at0 | exact at1 | exact at2 | exact at3 | exact at4 | exact at5 | exact at6 | exact at7 | exact at8 | exact at9) rfl ?_ | refine op_ld rfl ag_29_SeU rfl ((by rw [cell_bl (H.ext.to hs hbs)]; rfl)) ?_ | refine op_ld rfl ag_29_SeU rfl (((tab_rd (H.get at1)).fld hgx rfl (j := 0) rfl)) ?_
      refine op_move rfl (.int _ _) rfl ?_
      first | refine op_indexRd (tab_rd (H.get at1)) rfl el_29_SeU sz_2_SeU rfl rfl (by omega) (by omega) (by first | rfl | omega) ?_ | refine op_indexAddr rfl el_29_SeU sz_2_SeU rfl rfl (by omega) (by omega) ?_
      first | refine op_ldb rfl ag_2_SeU rfl H (by first | exact at0 | exact at1 | exact at2 | exact at3 | exact at4 | exact at5 | exact at6 | exact at7 | exact at8 | exact at9) rfl ?_ | refine op_ld rfl ag_2_SeU rfl ((by rw [cell_bl (H.ext.to hs hbs)]; rfl)) ?_ | refine op_ld rfl ag_2_SeU rfl (((tab_rd (H.get at1)).fld hgx rfl (j := 0) rfl)) ?_
      refine op_mul_i64 rfl rfl rfl (by omega) (by omega) ?_
      first | refine op_indexRd (tab_rd (H.get at1)) rfl el_29_SeU sz_2_SeU rfl rfl (by omega) (by omega) (by first | rfl | omega) ?_ | refine op_indexAddr rfl el_29_SeU sz_2_SeU rfl rfl (by omega) (by omega) ?_
      refine op_str i (fun z => .int .i64 (if z = i then xi * 2 else flW g c' x p i z)) (.int _ _) rfl sz_2_SeU rfl rfl rfl H at1 (by simp) hil (by rw [if_pos rfl]) (fun z _ hz => by rw [if_neg hz]) ?_
      rintro w H
      refine op_nil (at_then ?_)
      refine W_rseq ?_
      refine op_move rfl (.pointer _) rfl ?_
      refine op_fieldAddr rfl fo_28_1_SeU rfl ?_
      first | refine op_ldb rfl ag_26_SeU rfl H (by first | exact at0 | exact at1 | exact at2 | exact at3 | exact at4 | exact at5 | exact at6 | exact at7 | exact at8 | exact at9) rfl ?_ | refine op_ld rfl ag_26_SeU rfl (((Rw.ext H.ext (hRw hes)).fld he rfl (j := 2) hcap2)) ?_
      refine op_move rfl (.int _ _) rfl ?_
      first | refine op_indexRd Rw rfl el_26_SeU sz_92_SeU rfl rfl (by omega) (by omega) (by first | rfl | omega) ?_ | refine op_indexAddr rfl el_26_SeU sz_92_SeU rfl rfl (by omega) (by omega) ?_
      refine op_fieldAddr rfl fo_92_2_SeU rfl ?_
      first | refine op_ldb rfl ag_2_SeU rfl H (by first | exact at0 | exact at1 | exact at2 | exact at3 | exact at4 | exact at5 | exact at6 | exact at7 | exact at8 | exact at9) rfl ?_ | refine op_ld rfl ag_2_SeU rfl (((Rw.ext H.ext (hRw hes)).fld he rfl (j := 2) hcap2)) ?_
      refine op_move rfl (.int _ _) rfl ?_
      refine op_shr_i64 (a := cc) (n := k) rfl rfl rfl (by omega) ?_
      rw [← hck]
      refine op_nilCheck rfl rfl ?_
      refine op_fieldAddr rfl fo_92_2_SeU rfl ?_
      refine op_stb (.int _ _) rfl sz_2_SeU rfl rfl rfl H at3 (by omega) ?_
      rintro w H
      refine op_nil (at_then ?_)
      rw [show 0 + ((i : Int)).toNat * 4 + 2 = i * 4 + 2 by omega] at H
      have O1 := OS.setf O (y := edC es (capW c c' (i + 1)) i) (j := 2) (v := .int .i64 ck) (fun _ => rfl) (esC_get (c := capW c c' i) hil) (by decide) (by unfold edC encE capW; dsimp only; rw [if_pos (by omega), ← hcke]; rfl)
      rw [esC_set rfl (fun j _ hj => capW_ne hj)] at O1
      obtain ⟨full2, hf2⟩ : ∃ full2, full2 = full1.set (i * 4 + 2) (.int .i64 ck) := ⟨_, rfl⟩
      rw [← hf2] at O1
      replace H : Ctx w0 ids w ((b4, Bl 28 [.int .i64 (N : Int), .slice aw es.length cw]) :: (bf, Bl 2 (tabV (fun z => if z = i then xi * 2 else flW g c' x p i z) es.length)) :: (bo, Bl 2 (tabV (over7 g (mixX g c' x p i)) N)) :: [(q, Bl 92 full2)]) := by rw [hf2]; exact H
      have hrow := esC_get (c := capW c c' (i + 1)) hil
      have henc : encE (edC es (capW c c' (i + 1)) i) = [.int .i64 (un : Int), .int .i64 (vn : Int), .int .i64 ck, .int .i64 e.cost] := by
        unfold edC encE capW; rw [getD_of he]; dsimp only; rw [if_pos (by omega), hun, hvn, ← hcke]
      have hfin : finX g c' x p i = if 2 * xi < ck ∧ e.cost + p un - p vn < 0 then ck else 2 * xi := by
        unfold finX; rw [hgc, hgf, hgt, ← hxie, ← hcke]
      have hms := fun v => mix_succ (g := g) (cap' := c') (x := x) (p := p) (k := i) (by omega) v
      rw [hgf, hgt, ← hxie] at hms
      obtain ⟨pu, hpu⟩ : ∃ pu, pu = p un := ⟨_, rfl⟩
      obtain ⟨pv, hpv⟩ : ∃ pv, pv = p vn := ⟨_, rfl⟩
      have hpbu := hpb un hunN
      have hpbv := hpb vn hvnN
      rw [← hpu] at hpbu hfin
      rw [← hpv] at hpbv hfin
      have hgpu : (tab p N)[un]? = some pu := by rw [tab_get hunN, hpu]
      have hgpv : (tab p N)[vn]? = some pv := by rw [tab_get hvnN, hpv]
      have hgx2 : (tab (fun z => if z = i then xi * 2 else flW g c' x p i z) es.length)[i]? = some (xi * 2) := by rw [tab_get hil, if_pos rfl]
      have RP := tab_rd hp
      have hRE : ∀ {z : World}, z.heap[q]? = some (Bl 92 full2) → Rd z (some ⟨q, 0, none⟩) 4 encE (esC es (capW c c' (i + 1))) := fun h => O1.rd (t := 92) (fun y hy => by have hy := List.mem_singleton.1 hy; rw [hy]; exact h) (fun _ _ => rfl) (by decide)
      have RE := hRE (H.drew.get at3)
      refine W_join 38685626227650541404553216 (α := Unit) (fun _ => [(84, .bool (decide (xi * 2 < ck ∧ e.cost + pu - pv < 0)))]) (fun _ w' => Ctx w0 ids w' ((b4, Bl 28 [.int .i64 (N : Int), .slice aw es.length cw]) :: (bf, Bl 2 (tabV (fun z => if z = i then xi * 2 else flW g c' x p i z) es.length)) :: (bo, Bl 2 (tabV (over7 g (mixX g c' x p i)) N)) :: [(q, Bl 92 full2)])) rfl ?_ ?_
      · skip
        refine W_quiet (fun x => x = _) mixed_SeU (by kernel_rfl) rfl ?_
        refine q_move rfl (.pointer _) rfl ?_
        refine q_nilCheck rfl rfl ?_
        refine q_fieldAddr rfl fo_170_1_SeU rfl ?_
        first | refine q_ldb rfl ag_29_SeU rfl (by rintro _ rfl; exact H.drew) (by first | exact at0 | exact at1 | exact at2 | exact at3 | exact at4 | exact at5 | exact at6 | exact at7 | exact at8 | exact at9) rfl ?_ | refine q_ld rfl ag_29_SeU rfl (by rintro _ rfl; exact ((by rw [cell_bl (H.drew.ext.to hs hbs)]; rfl))) ?_ | refine q_ld rfl ag_29_SeU rfl (by rintro _ rfl; exact (((tab_rd (H.drew.get at1)).fld hgx2 rfl (j := 0) rfl))) ?_ | refine q_ld rfl ag_29_SeU rfl (by rintro _ rfl; exact ((RE.fld hrow rfl (j := 0) (by rw [henc]; rfl)))) ?_ | refine q_ld rfl ag_29_SeU rfl (by rintro _ rfl; exact ((RE.fld hrow rfl (j := 1) (by rw [henc]; rfl)))) ?_ | refine q_ld rfl ag_29_SeU rfl (by rintro _ rfl; exact ((RE.fld hrow rfl (j := 2) (by rw [henc]; rfl)))) ?_ | refine q_ld rfl ag_29_SeU rfl (by rintro _ rfl; exact ((RE.fld hrow rfl (j := 3) (by rw [henc]; rfl)))) ?_ | refine q_ld rfl ag_29_SeU rfl (by rintro _ rfl; exact (((RP.ext H.drew.ext hbp).fld hgpu rfl (j := 0) rfl))) ?_ | refine q_ld rfl ag_29_SeU rfl (by rintro _ rfl; exact (((RP.ext H.drew.ext hbp).fld hgpv rfl (j := 0) rfl))) ?_
        refine q_move rfl (.int _ _) rfl ?_
        first | refine q_indexRd RP rfl el_29_SeU sz_2_SeU rfl rfl (by omega) (by omega) (by first | rfl | omega) ?_ | refine q_indexRd (tab_rd (H.get at1)) rfl el_29_SeU sz_2_SeU rfl rfl (by omega) (by omega) (by first | rfl | omega) ?_ | refine q_indexAddr rfl el_29_SeU sz_2_SeU rfl rfl (by omega) (by omega) ?_
        first | refine q_ldb rfl ag_2_SeU rfl (by rintro _ rfl; exact H.drew) (by first | exact at0 | exact at1 | exact at2 | exact at3 | exact at4 | exact at5 | exact at6 | exact at7 | exact at8 | exact at9) rfl ?_ | refine q_ld rfl ag_2_SeU rfl (by rintro _ rfl; exact ((by rw [cell_bl (H.drew.ext.to hs hbs)]; rfl))) ?_ | refine q_ld rfl ag_2_SeU rfl (by rintro _ rfl; exact (((tab_rd (H.drew.get at1)).fld hgx2 rfl (j := 0) rfl))) ?_ | refine q_ld rfl ag_2_SeU rfl (by rintro _ rfl; exact ((RE.fld hrow rfl (j := 0) (by rw [henc]; rfl)))) ?_ | refine q_ld rfl ag_2_SeU rfl (by rintro _ rfl; exact ((RE.fld hrow rfl (j := 1) (by rw [henc]; rfl)))) ?_ | refine q_ld rfl ag_2_SeU rfl (by rintro _ rfl; exact ((RE.fld hrow rfl (j := 2) (by rw [henc]; rfl)))) ?_ | refine q_ld rfl ag_2_SeU rfl (by rintro _ rfl; exact ((RE.fld hrow rfl (j := 3) (by rw [henc]; rfl)))) ?_ | refine q_ld rfl ag_2_SeU rfl (by rintro _ rfl; exact (((RP.ext H.drew.ext hbp).fld hgpu rfl (j := 0) rfl))) ?_ | refine q_ld rfl ag_2_SeU rfl (by rintro _ rfl; exact (((RP.ext H.drew.ext hbp).fld hgpv rfl (j := 0) rfl))) ?_
        refine q_move rfl (.pointer _) rfl ?_
        refine q_nilCheck rfl rfl ?_
        refine q_fieldAddr rfl fo_92_2_SeU rfl ?_
        first | refine q_ldb rfl ag_2_SeU rfl (by rintro _ rfl; exact H.drew) (by first | exact at0 | exact at1 | exact at2 | exact at3 | exact at4 | exact at5 | exact at6 | exact at7 | exact at8 | exact at9) rfl ?_ | refine q_ld rfl ag_2_SeU rfl (by rintro _ rfl; exact ((by rw [cell_bl (H.drew.ext.to hs hbs)]; rfl))) ?_ | refine q_ld rfl ag_2_SeU rfl (by rintro _ rfl; exact (((tab_rd (H.drew.get at1)).fld hgx2 rfl (j := 0) rfl))) ?_ | refine q_ld rfl ag_2_SeU rfl (by rintro _ rfl; exact ((RE.fld hrow rfl (j := 0) (by rw [henc]; rfl)))) ?_ | refine q_ld rfl ag_2_SeU rfl (by rintro _ rfl; exact ((RE.fld hrow rfl (j := 1) (by rw [henc]; rfl)))) ?_ | refine q_ld rfl ag_2_SeU rfl (by rintro _ rfl; exact ((RE.fld hrow rfl (j := 2) (by rw [henc]; rfl)))) ?_ | refine q_ld rfl ag_2_SeU rfl (by rintro _ rfl; exact ((RE.fld hrow rfl (j := 3) (by rw [henc]; rfl)))) ?_ | refine q_ld rfl ag_2_SeU rfl (by rintro _ rfl; exact (((RP.ext H.drew.ext hbp).fld hgpu rfl (j := 0) rfl))) ?_ | refine q_ld rfl ag_2_SeU rfl (by rintro _ rfl; exact (((RP.ext H.drew.ext hbp).fld hgpv rfl (j := 0) rfl))) ?_
        refine q_lss rfl rfl rfl ?_
        refine q_move rfl (.bool _) rfl ?_
        refine Wq_split 56 rfl ?_ ?_
        · intro h1
          replace h1 := dec_t h1
          refine q_move rfl (.pointer _) rfl ?_
          refine q_nilCheck rfl rfl ?_
          refine q_fieldAddr rfl fo_92_3_SeU rfl ?_
          first | refine q_ldb rfl ag_2_SeU rfl (by rintro _ rfl; exact H.drew) (by first | exact at0 | exact at1 | exact at2 | exact at3 | exact at4 | exact at5 | exact at6 | exact at7 | exact at8 | exact at9) rfl ?_ | refine q_ld rfl ag_2_SeU rfl (by rintro _ rfl; exact ((by rw [cell_bl (H.drew.ext.to hs hbs)]; rfl))) ?_ | refine q_ld rfl ag_2_SeU rfl (by rintro _ rfl; exact (((tab_rd (H.drew.get at1)).fld hgx2 rfl (j := 0) rfl))) ?_ | refine q_ld rfl ag_2_SeU rfl (by rintro _ rfl; exact ((RE.fld hrow rfl (j := 0) (by rw [henc]; rfl)))) ?_ | refine q_ld rfl ag_2_SeU rfl (by rintro _ rfl; exact ((RE.fld hrow rfl (j := 1) (by rw [henc]; rfl)))) ?_ | refine q_ld rfl ag_2_SeU rfl (by rintro _ rfl; exact ((RE.fld hrow rfl (j := 2) (by rw [henc]; rfl)))) ?_ | refine q_ld rfl ag_2_SeU rfl (by rintro _ rfl; exact ((RE.fld hrow rfl (j := 3) (by rw [henc]; rfl)))) ?_ | refine q_ld rfl ag_2_SeU rfl (by rintro _ rfl; exact (((RP.ext H.drew.ext hbp).fld hgpu rfl (j := 0) rfl))) ?_ | refine q_ld rfl ag_2_SeU rfl (by rintro _ rfl; exact (((RP.ext H.drew.ext hbp).fld hgpv rfl (j := 0) rfl))) ?_
          refine q_move rfl (.pointer _) rfl ?_
          refine q_nilCheck rfl rfl ?_
          refine q_fieldAddr rfl fo_170_2_SeU rfl ?_
          first | refine q_ldb rfl ag_29_SeU rfl (by rintro _ rfl; exact H.drew) (by first | exact at0 | exact at1 | exact at2 | exact at3 | exact at4 | exact at5 | exact at6 | exact at7 | exact at8 | exact at9) rfl ?_ | refine q_ld rfl ag_29_SeU rfl (by rintro _ rfl; exact ((by rw [cell_bl (H.drew.ext.to hs hbs)]; rfl))) ?_ | refine q_ld rfl ag_29_SeU rfl (by rintro _ rfl; exact (((tab_rd (H.drew.get at1)).fld hgx2 rfl (j := 0) rfl))) ?_ | refine q_ld rfl ag_29_SeU rfl (by rintro _ rfl; exact ((RE.fld hrow rfl (j := 0) (by rw [henc]; rfl)))) ?_ | refine q_ld rfl ag_29_SeU rfl (by rintro _ rfl; exact ((RE.fld hrow rfl (j := 1) (by rw [henc]; rfl)))) ?_ | refine q_ld rfl ag_29_SeU rfl (by rintro _ rfl; exact ((RE.fld hrow rfl (j := 2) (by rw [henc]; rfl)))) ?_ | refine q_ld rfl ag_29_SeU rfl (by rintro _ rfl; exact ((RE.fld hrow rfl (j := 3) (by rw [henc]; rfl)))) ?_ | refine q_ld rfl ag_29_SeU rfl (by rintro _ rfl; exact (((RP.ext H.drew.ext hbp).fld hgpu rfl (j := 0) rfl))) ?_ | refine q_ld rfl ag_29_SeU rfl (by rintro _ rfl; exact (((RP.ext H.drew.ext hbp).fld hgpv rfl (j := 0) rfl))) ?_
          refine q_move rfl (.pointer _) rfl ?_
          refine q_nilCheck rfl rfl ?_
          refine q_fieldAddr rfl fo_92_0_SeU rfl ?_
          first | refine q_ldb rfl ag_3_SeU rfl (by rintro _ rfl; exact H.drew) (by first | exact at0 | exact at1 | exact at2 | exact at3 | exact at4 | exact at5 | exact at6 | exact at7 | exact at8 | exact at9) rfl ?_ | refine q_ld rfl ag_3_SeU rfl (by rintro _ rfl; exact ((by rw [cell_bl (H.drew.ext.to hs hbs)]; rfl))) ?_ | refine q_ld rfl ag_3_SeU rfl (by rintro _ rfl; exact (((tab_rd (H.drew.get at1)).fld hgx2 rfl (j := 0) rfl))) ?_ | refine q_ld rfl ag_3_SeU rfl (by rintro _ rfl; exact ((RE.fld hrow rfl (j := 0) (by rw [henc]; rfl)))) ?_ | refine q_ld rfl ag_3_SeU rfl (by rintro _ rfl; exact ((RE.fld hrow rfl (j := 1) (by rw [henc]; rfl)))) ?_ | refine q_ld rfl ag_3_SeU rfl (by rintro _ rfl; exact ((RE.fld hrow rfl (j := 2) (by rw [henc]; rfl)))) ?_ | refine q_ld rfl ag_3_SeU rfl (by rintro _ rfl; exact ((RE.fld hrow rfl (j := 3) (by rw [henc]; rfl)))) ?_ | refine q_ld rfl ag_3_SeU rfl (by rintro _ rfl; exact (((RP.ext H.drew.ext hbp).fld hgpu rfl (j := 0) rfl))) ?_ | refine q_ld rfl ag_3_SeU rfl (by rintro _ rfl; exact (((RP.ext H.drew.ext hbp).fld hgpv rfl (j := 0) rfl))) ?_
          first | refine q_indexRd RP rfl el_29_SeU sz_2_SeU rfl rfl (by omega) (by omega) (by first | rfl | omega) ?_ | refine q_indexRd (tab_rd (H.get at1)) rfl el_29_SeU sz_2_SeU rfl rfl (by omega) (by omega) (by first | rfl | omega) ?_ | refine q_indexAddr rfl el_29_SeU sz_2_SeU rfl rfl (by omega) (by omega) ?_
          first | refine q_ldb rfl ag_2_SeU rfl (by rintro _ rfl; exact H.drew) (by first | exact at0 | exact at1 | exact at2 | exact at3 | exact at4 | exact at5 | exact at6 | exact at7 | exact at8 | exact at9) rfl ?_ | refine q_ld rfl ag_2_SeU rfl (by rintro _ rfl; exact ((by rw [cell_bl (H.drew.ext.to hs hbs)]; rfl))) ?_ | refine q_ld rfl ag_2_SeU rfl (by rintro _ rfl; exact (((tab_rd (H.drew.get at1)).fld hgx2 rfl (j := 0) rfl))) ?_ | refine q_ld rfl ag_2_SeU rfl (by rintro _ rfl; exact ((RE.fld hrow rfl (j := 0) (by rw [henc]; rfl)))) ?_ | refine q_ld rfl ag_2_SeU rfl (by rintro _ rfl; exact ((RE.fld hrow rfl (j := 1) (by rw [henc]; rfl)))) ?_ | refine q_ld rfl ag_2_SeU rfl (by rintro _ rfl; exact ((RE.fld hrow rfl (j := 2) (by rw [henc]; rfl)))) ?_ | refine q_ld rfl ag_2_SeU rfl (by rintro _ rfl; exact ((RE.fld hrow rfl (j := 3) (by rw [henc]; rfl)))) ?_ | refine q_ld rfl ag_2_SeU rfl (by rintro _ rfl; exact (((RP.ext H.drew.ext hbp).fld hgpu rfl (j := 0) rfl))) ?_ | refine q_ld rfl ag_2_SeU rfl (by rintro _ rfl; exact (((RP.ext H.drew.ext hbp).fld hgpv rfl (j := 0) rfl))) ?_
          refine q_add_i64 rfl rfl rfl (by omega) (by omega) ?_
          refine q_move rfl (.pointer _) rfl ?_
          refine q_nilCheck rfl rfl ?_
          refine q_fieldAddr rfl fo_170_2_SeU rfl ?_
          first | refine q_ldb rfl ag_29_SeU rfl (by rintro _ rfl; exact H.drew) (by first | exact at0 | exact at1 | exact at2 | exact at3 | exact at4 | exact at5 | exact at6 | exact at7 | exact at8 | exact at9) rfl ?_ | refine q_ld rfl ag_29_SeU rfl (by rintro _ rfl; exact ((by rw [cell_bl (H.drew.ext.to hs hbs)]; rfl))) ?_ | refine q_ld rfl ag_29_SeU rfl (by rintro _ rfl; exact (((tab_rd (H.drew.get at1)).fld hgx2 rfl (j := 0) rfl))) ?_ | refine q_ld rfl ag_29_SeU rfl (by rintro _ rfl; exact ((RE.fld hrow rfl (j := 0) (by rw [henc]; rfl)))) ?_ | refine q_ld rfl ag_29_SeU rfl (by rintro _ rfl; exact ((RE.fld hrow rfl (j := 1) (by rw [henc]; rfl)))) ?_ | refine q_ld rfl ag_29_SeU rfl (by rintro _ rfl; exact ((RE.fld hrow rfl (j := 2) (by rw [henc]; rfl)))) ?_ | refine q_ld rfl ag_29_SeU rfl (by rintro _ rfl; exact ((RE.fld hrow rfl (j := 3) (by rw [henc]; rfl)))) ?_ | refine q_ld rfl ag_29_SeU rfl (by rintro _ rfl; exact (((RP.ext H.drew.ext hbp).fld hgpu rfl (j := 0) rfl))) ?_ | refine q_ld rfl ag_29_SeU rfl (by rintro _ rfl; exact (((RP.ext H.drew.ext hbp).fld hgpv rfl (j := 0) rfl))) ?_
          refine q_move rfl (.pointer _) rfl ?_
          refine q_nilCheck rfl rfl ?_
          refine q_fieldAddr rfl fo_92_1_SeU rfl ?_
          first | refine q_ldb rfl ag_3_SeU rfl (by rintro _ rfl; exact H.drew) (by first | exact at0 | exact at1 | exact at2 | exact at3 | exact at4 | exact at5 | exact at6 | exact at7 | exact at8 | exact at9) rfl ?_ | refine q_ld rfl ag_3_SeU rfl (by rintro _ rfl; exact ((by rw [cell_bl (H.drew.ext.to hs hbs)]; rfl))) ?_ | refine q_ld rfl ag_3_SeU rfl (by rintro _ rfl; exact (((tab_rd (H.drew.get at1)).fld hgx2 rfl (j := 0) rfl))) ?_ | refine q_ld rfl ag_3_SeU rfl (by rintro _ rfl; exact ((RE.fld hrow rfl (j := 0) (by rw [henc]; rfl)))) ?_ | refine q_ld rfl ag_3_SeU rfl (by rintro _ rfl; exact ((RE.fld hrow rfl (j := 1) (by rw [henc]; rfl)))) ?_ | refine q_ld rfl ag_3_SeU rfl (by rintro _ rfl; exact ((RE.fld hrow rfl (j := 2) (by rw [henc]; rfl)))) ?_ | refine q_ld rfl ag_3_SeU rfl (by rintro _ rfl; exact ((RE.fld hrow rfl (j := 3) (by rw [henc]; rfl)))) ?_ | refine q_ld rfl ag_3_SeU rfl (by rintro _ rfl; exact (((RP.ext H.drew.ext hbp).fld hgpu rfl (j := 0) rfl))) ?_ | refine q_ld rfl ag_3_SeU rfl (by rintro _ rfl; exact (((RP.ext H.drew.ext hbp).fld hgpv rfl (j := 0) rfl))) ?_
          first | refine q_indexRd RP rfl el_29_SeU sz_2_SeU rfl rfl (by omega) (by omega) (by first | rfl | omega) ?_ | refine q_indexRd (tab_rd (H.get at1)) rfl el_29_SeU sz_2_SeU rfl rfl (by omega) (by omega) (by first | rfl | omega) ?_ | refine q_indexAddr rfl el_29_SeU sz_2_SeU rfl rfl (by omega) (by omega) ?_
          first | refine q_ldb rfl ag_2_SeU rfl (by rintro _ rfl; exact H.drew) (by first | exact at0 | exact at1 | exact at2 | exact at3 | exact at4 | exact at5 | exact at6 | exact at7 | exact at8 | exact at9) rfl ?_ | refine q_ld rfl ag_2_SeU rfl (by rintro _ rfl; exact ((by rw [cell_bl (H.drew.ext.to hs hbs)]; rfl))) ?_ | refine q_ld rfl ag_2_SeU rfl (by rintro _ rfl; exact (((tab_rd (H.drew.get at1)).fld hgx2 rfl (j := 0) rfl))) ?_ | refine q_ld rfl ag_2_SeU rfl (by rintro _ rfl; exact ((RE.fld hrow rfl (j := 0) (by rw [henc]; rfl)))) ?_ | refine q_ld rfl ag_2_SeU rfl (by rintro _ rfl; exact ((RE.fld hrow rfl (j := 1) (by rw [henc]; rfl)))) ?_ | refine q_ld rfl ag_2_SeU rfl (by rintro _ rfl; exact ((RE.fld hrow rfl (j := 2) (by rw [henc]; rfl)))) ?_ | refine q_ld rfl ag_2_SeU rfl (by rintro _ rfl; exact ((RE.fld hrow rfl (j := 3) (by rw [henc]; rfl)))) ?_ | refine q_ld rfl ag_2_SeU rfl (by rintro _ rfl; exact (((RP.ext H.drew.ext hbp).fld hgpu rfl (j := 0) rfl))) ?_ | refine q_ld rfl ag_2_SeU rfl (by rintro _ rfl; exact (((RP.ext H.drew.ext hbp).fld hgpv rfl (j := 0) rfl))) ?_
          refine q_sub_i64 rfl rfl rfl (by omega) (by omega) ?_
          refine q_lss rfl rfl rfl ?_
          refine q_pick1 rfl rfl (.bool _) rfl ?_
          refine q_nil ?_
          rintro _ rfl
          replace H := H.drew
          refine at_then ?_
          exact ⟨(), rfl, ⟨congrArg Value.bool (by clear hgx hgx2 hgpu hgpv hcke hxie hpu hpv hms hmix hxb hfin henc hrow hgf hgt hgc; rw [Bool.eq_iff_iff]; simp_all; try omega), trivial⟩, H⟩
        · intro h2
          replace h2 := dec_f h2
          refine q_skip rfl ?_
          refine q_skip rfl ?_
          refine q_skip rfl ?_
          refine q_skip rfl ?_
          refine q_skip rfl ?_
          refine q_skip rfl ?_
          refine q_skip rfl ?_
          refine q_skip rfl ?_
          refine q_skip rfl ?_
          refine q_skip rfl ?_
          refine q_skip rfl ?_
          refine q_skip rfl ?_
          refine q_skip rfl ?_
          refine q_skip rfl ?_
          refine q_skip rfl ?_
          refine q_skip rfl ?_
          refine q_skip rfl ?_
          refine q_skip rfl ?_
          refine q_skip rfl ?_
          refine q_skip rfl ?_
          refine q_skip rfl ?_
          refine q_skip rfl ?_
          refine q_skip rfl ?_
          refine q_skip rfl ?_
          refine q_skip rfl ?_
          refine q_skip rfl ?_
          refine q_skip rfl ?_
          refine q_pick0 rfl rfl (.bool _) rfl ?_
          refine q_nil ?_
          rintro _ rfl
          replace H := H.drew
          refine at_then ?_
          exact ⟨(), rfl, ⟨congrArg Value.bool (by clear hgx hgx2 hgpu hgpv hcke hxie hpu hpv hms hmix hxb hfin henc hrow hgf hgt hgc; rw [Bool.eq_iff_iff]; simp_all; try omega), trivial⟩, H⟩
      · rintro - j6 w H
        refine W_cond _ rfl ?_ ?_
        · intro h2
          have h2 := of_decide_eq_true h2
          rw [if_pos ⟨by omega, h2.2⟩] at hfin
          have ob1 := hmix i un
          have ob2 := hmix i vn
          have ob3 := hmix (i + 1) un
          have ob4 := hmix (i + 1) vn
          obtain ⟨ov1, hov1⟩ : ∃ ov1, ov1 = over7 g (mixX g c' x p i) := ⟨_, rfl⟩
          have hgo2 : (tab ov1 N)[vn]? = some (ov1 vn) := tab_get hvnN
          have hgo1 : (tab (upd ov1 vn (ov1 vn + (ck - xi * 2))) N)[un]? = some (upd ov1 vn (ov1 vn + (ck - xi * 2)) un) := tab_get hunN
          rw [← hov1] at ob1 ob2 H
          rw [hms, hfin, ← hov1] at ob3 ob4
          have ob5 : upd ov1 vn (ov1 vn + (ck - xi * 2)) un = ov1 un + (ck - xi * 2) * one (vn = un) := by
            by_cases e : un = vn
            · rw [e, upd_same, one_t rfl]; omega
            · rw [upd_ne e, one_f (Ne.symm e)]; omega
          have ob6 : ∀ u, one (vn = u) = 0 ∨ one (vn = u) = 1 := fun u => by unfold one; split <;> omega
          have ob7 := ob6 un
          have ob8 : -1801439850948198400 ≤ upd ov1 vn (ov1 vn + (ck - xi * 2)) un ∧ upd ov1 vn (ov1 vn + (ck - xi * 2)) un ≤ 1801439850948198400 := by
            rw [ob5]
            rcases ob7 with h | h <;> rw [h] <;> omega
          refine W_qseq (fun x => x = _) mixed_SeU (by kernel_rfl) rfl ?_
          refine q_move rfl (.pointer _) rfl ?_
          refine q_nilCheck rfl rfl ?_
          refine q_fieldAddr rfl fo_92_2_SeU rfl ?_
          first | refine q_ldb rfl ag_2_SeU rfl (by rintro _ rfl; exact H.drew) (by first | exact at0 | exact at1 | exact at2 | exact at3 | exact at4 | exact at5 | exact at6 | exact at7 | exact at8 | exact at9) rfl ?_ | refine q_ld rfl ag_2_SeU rfl (by rintro _ rfl; exact ((by rw [cell_bl (H.drew.ext.to hs hbs)]; rfl))) ?_ | refine q_ld rfl ag_2_SeU rfl (by rintro _ rfl; exact (((tab_rd (H.drew.get at1)).fld hgx2 rfl (j := 0) rfl))) ?_ | refine q_ld rfl ag_2_SeU rfl (by rintro _ rfl; exact (((hRE (H.drew.get at3)).fld hrow rfl (j := 2) (by rw [henc]; rfl)))) ?_
          refine q_move rfl (.pointer _) rfl ?_
          refine q_nilCheck rfl rfl ?_
          refine q_fieldAddr rfl fo_170_1_SeU rfl ?_
          first | refine q_ldb rfl ag_29_SeU rfl (by rintro _ rfl; exact H.drew) (by first | exact at0 | exact at1 | exact at2 | exact at3 | exact at4 | exact at5 | exact at6 | exact at7 | exact at8 | exact at9) rfl ?_ | refine q_ld rfl ag_29_SeU rfl (by rintro _ rfl; exact ((by rw [cell_bl (H.drew.ext.to hs hbs)]; rfl))) ?_ | refine q_ld rfl ag_29_SeU rfl (by rintro _ rfl; exact (((tab_rd (H.drew.get at1)).fld hgx2 rfl (j := 0) rfl))) ?_ | refine q_ld rfl ag_29_SeU rfl (by rintro _ rfl; exact (((hRE (H.drew.get at3)).fld hrow rfl (j := 2) (by rw [henc]; rfl)))) ?_
          refine q_move rfl (.int _ _) rfl ?_
          first | refine q_indexRd (tab_rd (H.get at1)) rfl el_29_SeU sz_2_SeU rfl rfl (by omega) (by omega) (by first | rfl | omega) ?_ | refine q_indexAddr rfl el_29_SeU sz_2_SeU rfl rfl (by omega) (by omega) ?_
          first | refine q_ldb rfl ag_2_SeU rfl (by rintro _ rfl; exact H.drew) (by first | exact at0 | exact at1 | exact at2 | exact at3 | exact at4 | exact at5 | exact at6 | exact at7 | exact at8 | exact at9) rfl ?_ | refine q_ld rfl ag_2_SeU rfl (by rintro _ rfl; exact ((by rw [cell_bl (H.drew.ext.to hs hbs)]; rfl))) ?_ | refine q_ld rfl ag_2_SeU rfl (by rintro _ rfl; exact (((tab_rd (H.drew.get at1)).fld hgx2 rfl (j := 0) rfl))) ?_ | refine q_ld rfl ag_2_SeU rfl (by rintro _ rfl; exact (((hRE (H.drew.get at3)).fld hrow rfl (j := 2) (by rw [henc]; rfl)))) ?_
          refine q_sub_i64 rfl rfl rfl (by omega) (by omega) ?_
          refine q_assign rfl (.int _ _) rfl ?_
          refine q_nil ?_
          rintro _ rfl
          replace H := H.drew
          refine W_rseq ?_
          refine op_move rfl (.pointer _) rfl ?_
          refine op_nilCheck rfl rfl ?_
          refine op_fieldAddr rfl fo_170_1_SeU rfl ?_
          first | refine op_ldb rfl ag_29_SeU rfl H (by first | exact at0 | exact at1 | exact at2 | exact at3 | exact at4 | exact at5 | exact at6 | exact at7 | exact at8 | exact at9) rfl ?_ | refine op_ld rfl ag_29_SeU rfl ((by rw [cell_bl (H.ext.to hs hbs)]; rfl)) ?_ | refine op_ld rfl ag_29_SeU rfl (((tab_rd (H.get at1)).fld hgx2 rfl (j := 0) rfl)) ?_
          refine op_move rfl (.int _ _) rfl ?_
          first | refine op_indexRd (tab_rd (H.get at1)) rfl el_29_SeU sz_2_SeU rfl rfl (by omega) (by omega) (by first | rfl | omega) ?_ | refine op_indexAddr rfl el_29_SeU sz_2_SeU rfl rfl (by omega) (by omega) ?_
          first | refine op_ldb rfl ag_2_SeU rfl H (by first | exact at0 | exact at1 | exact at2 | exact at3 | exact at4 | exact at5 | exact at6 | exact at7 | exact at8 | exact at9) rfl ?_ | refine op_ld rfl ag_2_SeU rfl ((by rw [cell_bl (H.ext.to hs hbs)]; rfl)) ?_ | refine op_ld rfl ag_2_SeU rfl (((tab_rd (H.get at1)).fld hgx2 rfl (j := 0) rfl)) ?_
          refine op_move rfl (.int _ _) rfl ?_
          refine op_add_i64 rfl rfl rfl (by omega) (by omega) ?_
          first | refine op_indexRd (tab_rd (H.get at1)) rfl el_29_SeU sz_2_SeU rfl rfl (by omega) (by omega) (by first | rfl | omega) ?_ | refine op_indexAddr rfl el_29_SeU sz_2_SeU rfl rfl (by omega) (by omega) ?_
          refine op_str i (fun z => .int .i64 (if z = i then ck else flW g c' x p i z)) (.int _ _) rfl sz_2_SeU rfl rfl rfl H at1 (by simp) hil (by rw [if_pos rfl]; congr 1; omega) (fun z _ hz => by dsimp only; rw [if_neg hz, if_neg hz]) ?_
          rintro w H
          refine op_nil (at_then ?_)
          refine W_tseq 13 mixed_SeU (by kernel_rfl) rfl rfl ?_
          refine q_move rfl (.pointer _) rfl ?_
          refine q_nilCheck rfl rfl ?_
          refine q_fieldAddr rfl fo_170_3_SeU rfl ?_
          first | refine q_ldb rfl ag_29_SeU rfl (by rintro _ rfl; exact H.drew) (by first | exact at0 | exact at1 | exact at2 | exact at3 | exact at4 | exact at5 | exact at6 | exact at7 | exact at8 | exact at9) rfl ?_ | refine q_ld rfl ag_29_SeU rfl (by rintro _ rfl; exact ((by rw [cell_bl (H.drew.ext.to hs hbs)]; rfl))) ?_ | refine q_ld rfl ag_29_SeU rfl (by rintro _ rfl; exact (((hRE (H.drew.get at3)).fld hrow rfl (j := 1) (by rw [henc]; rfl)))) ?_ | refine q_ld rfl ag_29_SeU rfl (by rintro _ rfl; exact (((tab_rd (H.drew.get at2)).fld hgo2 rfl (j := 0) rfl))) ?_
          refine q_move rfl (.pointer _) rfl ?_
          refine q_nilCheck rfl rfl ?_
          refine q_fieldAddr rfl fo_92_1_SeU rfl ?_
          first | refine q_ldb rfl ag_3_SeU rfl (by rintro _ rfl; exact H.drew) (by first | exact at0 | exact at1 | exact at2 | exact at3 | exact at4 | exact at5 | exact at6 | exact at7 | exact at8 | exact at9) rfl ?_ | refine q_ld rfl ag_3_SeU rfl (by rintro _ rfl; exact ((by rw [cell_bl (H.drew.ext.to hs hbs)]; rfl))) ?_ | refine q_ld rfl ag_3_SeU rfl (by rintro _ rfl; exact (((hRE (H.drew.get at3)).fld hrow rfl (j := 1) (by rw [henc]; rfl)))) ?_ | refine q_ld rfl ag_3_SeU rfl (by rintro _ rfl; exact (((tab_rd (H.drew.get at2)).fld hgo2 rfl (j := 0) rfl))) ?_
          first | refine q_indexRd (tab_rd (H.get at2)) rfl el_29_SeU sz_2_SeU rfl rfl (by omega) (by omega) (by first | rfl | omega) ?_ | refine q_indexAddr rfl el_29_SeU sz_2_SeU rfl rfl (by omega) (by omega) ?_
          first | refine q_ldb rfl ag_2_SeU rfl (by rintro _ rfl; exact H.drew) (by first | exact at0 | exact at1 | exact at2 | exact at3 | exact at4 | exact at5 | exact at6 | exact at7 | exact at8 | exact at9) rfl ?_ | refine q_ld rfl ag_2_SeU rfl (by rintro _ rfl; exact ((by rw [cell_bl (H.drew.ext.to hs hbs)]; rfl))) ?_ | refine q_ld rfl ag_2_SeU rfl (by rintro _ rfl; exact (((hRE (H.drew.get at3)).fld hrow rfl (j := 1) (by rw [henc]; rfl)))) ?_ | refine q_ld rfl ag_2_SeU rfl (by rintro _ rfl; exact (((tab_rd (H.drew.get at2)).fld hgo2 rfl (j := 0) rfl))) ?_
          refine q_move rfl (.int _ _) rfl ?_
          refine q_add_i64 rfl rfl rfl (by omega) (by omega) ?_
          first | refine q_indexRd (tab_rd (H.get at2)) rfl el_29_SeU sz_2_SeU rfl rfl (by omega) (by omega) (by first | rfl | omega) ?_ | refine q_indexAddr rfl el_29_SeU sz_2_SeU rfl rfl (by omega) (by omega) ?_
          refine q_nil ?_
          replace H := H.drew
          refine op_str vn (fun z => .int .i64 (upd ov1 vn (ov1 vn + (ck - xi * 2)) z)) (.int _ _) rfl sz_2_SeU rfl rfl rfl H at2 (by simp) hvnN (by rw [upd_same]) (fun z _ hz => by rw [upd_ne hz]) ?_
          rintro w H
          refine op_nil (at_then ?_)
          refine W_tail 13 mixed_SeU (by kernel_rfl) rfl rfl ?_
          refine q_move rfl (.pointer _) rfl ?_
          refine q_nilCheck rfl rfl ?_
          refine q_fieldAddr rfl fo_170_3_SeU rfl ?_
          first | refine q_ldb rfl ag_29_SeU rfl (by rintro _ rfl; exact H.drew) (by first | exact at0 | exact at1 | exact at2 | exact at3 | exact at4 | exact at5 | exact at6 | exact at7 | exact at8 | exact at9) rfl ?_ | refine q_ld rfl ag_29_SeU rfl (by rintro _ rfl; exact ((by rw [cell_bl (H.drew.ext.to hs hbs)]; rfl))) ?_ | refine q_ld rfl ag_29_SeU rfl (by rintro _ rfl; exact (((hRE (H.drew.get at3)).fld hrow rfl (j := 0) (by rw [henc]; rfl)))) ?_ | refine q_ld rfl ag_29_SeU rfl (by rintro _ rfl; exact (((tab_rd (H.drew.get at2)).fld hgo1 rfl (j := 0) rfl))) ?_
          refine q_move rfl (.pointer _) rfl ?_
          refine q_nilCheck rfl rfl ?_
          refine q_fieldAddr rfl fo_92_0_SeU rfl ?_
          first | refine q_ldb rfl ag_3_SeU rfl (by rintro _ rfl; exact H.drew) (by first | exact at0 | exact at1 | exact at2 | exact at3 | exact at4 | exact at5 | exact at6 | exact at7 | exact at8 | exact at9) rfl ?_ | refine q_ld rfl ag_3_SeU rfl (by rintro _ rfl; exact ((by rw [cell_bl (H.drew.ext.to hs hbs)]; rfl))) ?_ | refine q_ld rfl ag_3_SeU rfl (by rintro _ rfl; exact (((hRE (H.drew.get at3)).fld hrow rfl (j := 0) (by rw [henc]; rfl)))) ?_ | refine q_ld rfl ag_3_SeU rfl (by rintro _ rfl; exact (((tab_rd (H.drew.get at2)).fld hgo1 rfl (j := 0) rfl))) ?_
          first | refine q_indexRd (tab_rd (H.get at2)) rfl el_29_SeU sz_2_SeU rfl rfl (by omega) (by omega) (by first | rfl | omega) ?_ | refine q_indexAddr rfl el_29_SeU sz_2_SeU rfl rfl (by omega) (by omega) ?_
          first | refine q_ldb rfl ag_2_SeU rfl (by rintro _ rfl; exact H.drew) (by first | exact at0 | exact at1 | exact at2 | exact at3 | exact at4 | exact at5 | exact at6 | exact at7 | exact at8 | exact at9) rfl ?_ | refine q_ld rfl ag_2_SeU rfl (by rintro _ rfl; exact ((by rw [cell_bl (H.drew.ext.to hs hbs)]; rfl))) ?_ | refine q_ld rfl ag_2_SeU rfl (by rintro _ rfl; exact (((hRE (H.drew.get at3)).fld hrow rfl (j := 0) (by rw [henc]; rfl)))) ?_ | refine q_ld rfl ag_2_SeU rfl (by rintro _ rfl; exact (((tab_rd (H.drew.get at2)).fld hgo1 rfl (j := 0) rfl))) ?_
          refine q_move rfl (.int _ _) rfl ?_
          refine q_sub_i64 rfl rfl rfl (by omega) (by omega) ?_
          first | refine q_indexRd (tab_rd (H.get at2)) rfl el_29_SeU sz_2_SeU rfl rfl (by omega) (by omega) (by first | rfl | omega) ?_ | refine q_indexAddr rfl el_29_SeU sz_2_SeU rfl rfl (by omega) (by omega) ?_
          refine q_nil ?_
          replace H := H.drew
          refine op_str un (fun z => .int .i64 (upd (upd ov1 vn (ov1 vn + (ck - xi * 2))) un (upd ov1 vn (ov1 vn + (ck - xi * 2)) un - (ck - xi * 2)) z)) (.int _ _) rfl sz_2_SeU rfl rfl rfl H at2 (by simp) hunN (by rw [upd_same]) (fun z _ hz => by rw [upd_ne hz]) ?_
          rintro w H
          refine op_nil (at_block (at_then ?_))
          refine W_region ?_
          refine op_add_i64 rfl rfl rfl (by omega) (by omega) ?_
          refine op_move rfl (.int _ _) rfl ?_
          refine op_nil (at_then ?_)
          have e1 : tabV (fun z => if z = i then ck else flW g c' x p i z) es.length = tabV (flW g c' x p (i + 1)) es.length := List.map_congr_left fun z _ => by
            dsimp only
            by_cases e : z = i
            · subst e
              rw [if_pos rfl]; unfold flW; rw [if_pos (by omega), hfin]
            · rw [if_neg e, flW_ne e]
          have e2 : tabV (upd (upd ov1 vn (ov1 vn + (ck - xi * 2))) un (upd ov1 vn (ov1 vn + (ck - xi * 2)) un - (ck - xi * 2))) N = tabV (over7 g (mixX g c' x p (i + 1))) N := List.map_congr_left fun z _ => by
            congr 1
            rw [hms, hfin, ← hov1]
            by_cases e : z = un
            · subst e
              rw [upd_same, ob5, one_t rfl]
              rcases ob7 with h | h <;> rw [h] <;> omega
            · rw [upd_ne e, one_f (p := un = z) (Ne.symm e)]
              by_cases e3 : z = vn
              · subst e3
                rw [upd_same, one_t rfl]; omega
              · rw [upd_ne e3, one_f (Ne.symm e3)]; omega
          refine ⟨(i + 1, full2), rfl, ⟨rfl, trivial⟩, ⟨by dsimp only; omega, O1, ?_⟩, by dsimp only; omega⟩
          dsimp only [FL]
          rw [← e1, ← e2]
          exact H
        · intro h2
          have h2 := of_decide_eq_false h2
          rw [if_neg (fun h => h2 ⟨by omega, h.2⟩)] at hfin
          refine W_skip (at_block (at_then ?_))
          refine W_region ?_
          refine op_add_i64 rfl rfl rfl (by omega) (by omega) ?_
          refine op_move rfl (.int _ _) rfl ?_
          refine op_nil (at_then ?_)
          have e1 : tabV (fun z => if z = i then xi * 2 else flW g c' x p i z) es.length = tabV (flW g c' x p (i + 1)) es.length := List.map_congr_left fun z _ => by
            dsimp only
            by_cases e : z = i
            · subst e
              rw [if_pos rfl]; unfold flW; rw [if_pos (by omega), hfin]; congr 1; omega
            · rw [if_neg e, flW_ne e]
          have e2 : tabV (over7 g (mixX g c' x p i)) N = tabV (over7 g (mixX g c' x p (i + 1))) N := List.map_congr_left fun z _ => by
            congr 1
            rw [hms, hfin, Int.sub_self, Int.zero_mul, Int.add_zero]
          refine ⟨(i + 1, full2), rfl, ⟨rfl, trivial⟩, ⟨by dsimp only; omega, O1, ?_⟩, by dsimp only; omega⟩
          dsimp only [FL]
          rw [← e1, ← e2]
          exact H
    · intro h1
      replace h1 := dec_f h1
      refine W_exit (exit_then (exit_then (exit_here (leave0n rfl rfl ?_))))
      obtain rfl : i = es.length := by omega
      rw [esC_congr (d := c') fun i hi => by unfold capW; rw [if_pos hi]] at O
      have e1 : tabV (flW g c' x p es.length) es.length = tabV (finX g c' x p) es.length := List.map_congr_left fun z hz => by
        unfold flW; rw [if_pos (List.mem_range.1 hz)]
      have e2 : tabV (over7 g (mixX g c' x p es.length)) N = tabV (over7 g (finX g c' x p)) N := List.map_congr_left fun z _ => by
        congr 1
        refine over_congr (fun i hi => ?_) z
        rw [← hgE]; exact mix_end hi
      refine ⟨rfl, full1, O, ?_⟩
      have H := H.tail
      dsimp only [FL] at H ⊢
      rw [e1, e2] at H
      exact H

end Go.Proofs.YtapphbmlkdhnmaaGreat

/- The solver: a way is filled: what the walk needs. -/
namespace Go.Proofs.YtapphbmlkdhnmaaGreat
open Go.GV
attribute [local irreducible] Wops W Wq Wt

section
variable {P : Program} {r : Option Nat} {ops rest : List Oper} {Q : Exit → Env → World → Prop} {e : Env} {w : World} {dst : Option Tmp} {ty : TypeId} {pos : String} {af : Array Edge} {gd : Option (Nat × Bool)} {t t2 : TypeId} {x y : Operand} {a b : Int}
/-- An addition, with what does not fit cut off. -/
theorem op_addw_i64 (hg : wants ⟨dst, .binOp .add t x y t2, ty, pos, af, gd⟩ ops e = true) (hx : ev e x = .int .i64 a) (hy : ev e y = .int .i64 b)
    (h : ∀ z, Wops P r ops Q rest (put e dst (.int .i64 z)) w) : Wops P r ops Q (⟨dst, .binOp .add t x y t2, ty, pos, af, gd⟩ :: rest) e w := op_val (v := .int .i64 (IntKind.i64.wrap (a + b))) hg rfl (run_bin hx hy (by simp [binOp, Op.intArith])) (h _)
theorem marks_two {D1 D2 : Nat} {ds : List Deferred} {K : World → Prop} (h2 : w.heap[D2]? = some (.deferred (some []))) (h1 : w.heap[D1]? = some (.deferred (some []))) (hne : D1 ≠ D2) (hds : ds = [{ target := .collected D2, args := #[] }, { target := .collected D1, args := #[] }]) (hK : ∀ wF, Ext [D2, D1] w wF → K wF) : Marks ds w K := by
  subst hds
  have x2 := Ext.setB w D2 (.deferred none)
  have x1 := Ext.setB (w.putObj D2 (.deferred none)) D1 (.deferred none)
  refine ⟨D2, rfl, h2, D1, rfl, x2.to h1 (by rw [List.mem_singleton]; exact hne), hK _ ((x2.mono (by simp)).trans (x1.mono (by simp)))⟩
end
theorem Rd.map {α β : Type} {w : World} {a : Option Addr} {s : Nat} {enc : α → List Value} {f : β → α} {xs : List β} (R : Rd w a s (fun x => enc (f x)) xs) : Rd w a s enc (xs.map f) := by
  refine ⟨fun h => R.some' fun h' => h (by rw [h']; rfl), fun i x hx j v hv hj => ?_⟩
  rw [List.getElem?_map] at hx
  obtain ⟨y, hy, rfl⟩ := Option.map_eq_some_iff.1 hx
  exact R.cell i y hy j v hv hj
/-- Where a way back begins. -/
def walkN (g : Gr) (v : Nat) (l : List Nat) : Nat := l.foldl (fun _ a => g.u a) v
theorem walk_snoc {g : Gr} {v i a : Nat} {l : List Nat} (h : l[i]? = some a) : walkN g v (l.take (i + 1)) = g.u a := by
  unfold walkN
  rw [take_snoc h, List.foldl_append]; rfl
theorem walk_path {g : Gr} {cap x p : Nat → Int} {s : Lb} {by' : Nat → Option Nat} (hB : Bys g cap x p s by') : ∀ {k v : Nat}, s.d v ≠ -1 → s.h v = k → walkN g v (pathL by' g k v) = pathS by' g k v
  | 0, _, _, _ => rfl
  | k + 1, v, hd, hk => by
    obtain ⟨a, h1, h2, h3⟩ := hB.2 v hd (by omega)
    have hh := h2.h
    rw [h3, hk] at hh
    obtain ⟨e1, e2⟩ := path_succ (g := g) (k := k) h1
    rw [e1, e2, ← walk_path hB h2.du (by omega)]
    rfl
theorem push_snoc {m : Int} {x : Nat → Int} {l : List Nat} {i a : Nat} (h : l[i]? = some a) : pushL m x (l.take (i + 1)) = pushF m (pushL m x (l.take i)) a := by
  unfold pushL
  rw [take_snoc h, List.foldl_append]; rfl
theorem within_fine {N : Int} {es : List Ed} {x p : Nat → Int} (hr : rightN N es = true) (h : Fine (grE N es) (capE es) x p) : withinN N es (tab x es.length) = true := by
  have h1 := within_C (c := capE es) (x := x) hr (fun i hi => by have := cap_bnd hr i hi; omega) (fun i hi => h.in' i hi)
  rw [esC_self] at h1
  exact h1
theorem pot_tab {N : Nat} {p : Nat → Int} (hp : ∀ v, v < N → -1073741824 ≤ p v ∧ p v ≤ 1073741824) : potN (N : Int) (tab p N) = true := by
  unfold potN
  rw [tab_len, decide_eq_true rfl, Bool.and_true]
  refine List.all_eq_true.2 fun x hx => ?_
  obtain ⟨i, hi⟩ := List.getElem?_of_mem hx
  obtain ⟨h1, rfl⟩ := tab_at hi
  have := hp i h1
  unfold farB
  simp only [Bool.and_eq_true, decide_eq_true_eq]
  omega
theorem Ctx.ltI {w0 w : World} {S : List Nat} {L : List (Nat × Obj)} (H : Ctx w0 S w L) : ∀ b ∈ L.map (·.1), b < w.heap.size := fun b hb => by
  obtain ⟨y, hy, rfl⟩ := List.mem_map.1 hb
  exact heap_lt (H.blk y hy)
theorem nd_app2 {L L' : List (Nat × Obj)} (h : (L ++ L').Pairwise (fun x y => x.1 ≠ y.1)) {x : Nat × Obj} (hx : x ∈ L') : x.1 ∉ L.map (·.1) := fun hm => by
  obtain ⟨y, hy, he⟩ := List.mem_map.1 hm
  exact (List.pairwise_append.1 h).2.2 y hy x hx he
theorem pair_take {α : Type} {R : α → α → Prop} {l : List α} (h : l.Pairwise R) {i : Nat} {a : α} (ha : l[i]? = some a) : ∀ b ∈ l.take i, R b a := fun b hb => by
  rw [← List.take_append_drop i l] at h
  exact (List.pairwise_append.1 h).2.2 b hb a (List.mem_of_getElem? (i := 0) (by rw [List.getElem?_drop]; exact ha))
theorem pot_far {N : Nat} {p : Nat → Int} (hpn : potE (tab p N) = p) (hpb : ∀ v, v < N → -1073741824 ≤ p v ∧ p v ≤ 1073741824) (v : Nat) : -1152921504606846976 ≤ p v ∧ p v ≤ 1152921504606846976 := by
  rcases Nat.lt_or_ge v N with h | h
  · have := hpb v h; omega
  · rw [← hpn]
    unfold potE
    rw [List.getD_eq_getElem?_getD, List.getElem?_eq_none (by rw [tab_len]; exact h)]
    exact ⟨by decide, by decide⟩
/-- The solver's blocks. -/
abbrev SL (bs bf bp bo : Nat) (N : Nat) (ae : Option Addr) (n ce : Nat) (k : Int) (x p ov : Nat → Int) (full : List Value) : List (Nat × Obj) :=
  (bs, Bl 170 (SC N ae n ce bf bp bo k)) :: (bf, Bl 2 (tabV x n)) :: (bp, Bl 2 (tabV p N)) :: (bo, Bl 2 (tabV ov N)) :: ent ae 92 full
theorem src_ok {ov : Nat → Int} {N : Nat} : (∀ v ∈ posL ov N, v < N) ∧ (posL ov N).Nodup ∧ ∀ v, v ∈ posL ov N ↔ v < N ∧ 0 < ov v := by
  have h : ∀ v, v ∈ posL ov N ↔ v < N ∧ 0 < ov v := fun v => by unfold posL; rw [List.mem_filter, List.mem_range, decide_eq_true_eq]
  exact ⟨fun v hv => ((h v).1 hv).1, List.nodup_range.filter _, h⟩

end Go.Proofs.YtapphbmlkdhnmaaGreat

/- The solver: a way is filled: the walk. -/
namespace Go.Proofs.YtapphbmlkdhnmaaGreat
open Go.GV
theorem ag_168_SeW : aggB Tryz.prog 168 = some false := by kernel_rfl
theorem ag_28_SeW : aggB Tryz.prog 28 = some true := by kernel_rfl
theorem ag_29_SeW : aggB Tryz.prog 29 = some false := by kernel_rfl
theorem ag_2_SeW : aggB Tryz.prog 2 = some false := by kernel_rfl
theorem ag_3_SeW : aggB Tryz.prog 3 = some false := by kernel_rfl
theorem ca_166_SeW : callable Tryz.prog 166 = true := by kernel_rfl
theorem ca_167_SeW : callable Tryz.prog 167 = true := by kernel_rfl
theorem ca_168_SeW : callable Tryz.prog 168 = true := by kernel_rfl
theorem ca_169_SeW : callable Tryz.prog 169 = true := by kernel_rfl
theorem ca_170_SeW : callable Tryz.prog 170 = true := by kernel_rfl
theorem ca_171_SeW : callable Tryz.prog 171 = true := by kernel_rfl
theorem ca_172_SeW : callable Tryz.prog 172 = true := by kernel_rfl
theorem ca_196_SeW : callable Tryz.prog 196 = true := by kernel_rfl
theorem el_203_SeW : elemT Tryz.prog 203 = some 3 := by kernel_rfl
theorem el_29_SeW : elemT Tryz.prog 29 = some 2 := by kernel_rfl
theorem fo_170_0_SeW : fieldO Tryz.prog 170 0 = some 0 := by kernel_rfl
theorem fo_170_1_SeW : fieldO Tryz.prog 170 1 = some 2 := by kernel_rfl
theorem fo_170_2_SeW : fieldO Tryz.prog 170 2 = some 3 := by kernel_rfl
theorem fo_170_3_SeW : fieldO Tryz.prog 170 3 = some 4 := by kernel_rfl
theorem fo_170_4_SeW : fieldO Tryz.prog 170 4 = some 5 := by kernel_rfl
theorem mixed_SeW : Tryz.prog.follows .mixedOrders = true := by kernel_rfl
theorem sz_28_SeW : tsize Tryz.prog 28 = some 2 := by kernel_rfl
theorem sz_2_SeW : tsize Tryz.prog 2 = some 1 := by kernel_rfl
theorem sz_3_SeW : tsize Tryz.prog 3 = some 1 := by kernel_rfl
theorem zc_2_SeW : zcells Tryz.prog 2 = some ([.int .i64 0]) := by kernel_rfl
theorem zc_3_SeW : zcells Tryz.prog 3 = some ([.int .i64 0]) := by kernel_rfl
attribute [local irreducible] Wops W Wq Wt

set_option maxRecDepth 20000 in
set_option maxHeartbeats 8000000 in
theorem fill_ok {w : World} {bs bf bp bo : Nat} {N : Nat} {ae : Option Addr} {ce : Nat} {kk : Int} {es : List Ed} {x p ov : Nat → Int} {full : List Value} (H0 : Ctx w ((SL bs bf bp bo N ae es.length ce kk x p ov full).map (·.1)) w (SL bs bf bp bo N ae es.length ce kk x p ov full)) (O : OS ae es.length ce 4 full (es.flatMap encE))
    (hr : rightN (N : Int) es = true) (hF : Fine (grE (N : Int) es) (capE es) x p) (hov : ∀ v, v < N → ov v = over7 (grE (N : Int) es) x v) (hpb : ∀ v, v < N → -1073741824 ≤ p v ∧ p v ≤ 1073741824)
    (hxn : flE (tab x es.length) = x) (hpn : potE (tab p N) = p) :
    Ret Tryz.prog 120 #[ptr bs] w fun v w' => ∃ (b : Bool) (x' p' ov' : Nat → Int) (kk' : Int), v = .bool b ∧ Ctx w ((SL bs bf bp bo N ae es.length ce kk x p ov full).map (·.1)) w' (SL bs bf bp bo N ae es.length ce kk' x' p' ov' full) ∧ Fine (grE (N : Int) es) (capE es) x' p' ∧ (∀ v, v < N → ov' v = over7 (grE (N : Int) es) x' v) ∧ (∀ v, v < N → -1073741824 ≤ p' v ∧ p' v ≤ 1073741824) ∧
      (b = false → ∀ v, v < N → over7 (grE (N : Int) es) x' v ≤ 0) ∧ (b = true → excess (grE (N : Int) es) x' + 1 ≤ excess (grE (N : Int) es) x) := by
  obtain ⟨w0, rfl⟩ : ∃ w0, w0 = w := ⟨_, rfl⟩
  obtain ⟨ids, hids⟩ : ∃ ids, ids = (SL bs bf bp bo N ae es.length ce kk x p ov full).map (·.1) := ⟨_, rfl⟩
  rw [← hids] at H0 ⊢
  have H := H0
  obtain ⟨hN1, hN40, hn200, hall, -⟩ := right_of hr
  have hI : I64 (N : Int) := by unfold I64; omega
  have hw := within_fine hr hF
  have hpot := pot_tab hpb
  have hfit : fitsN (N : Int) es (tab x es.length) (tab p N) = true := fits_of_fine hw hpot (by rw [hxn, hpn]; exact hF)
  obtain ⟨hsrc, hsnd, hsm⟩ := src_ok (ov := ov) (N := N)
  have hRe : ∀ {z : World}, (∀ y ∈ ent ae 92 full, z.heap[y.1]? = some y.2) → Rd z ae 4 encE es := fun h => O.rd h (fun _ _ => rfl) (by decide)
  obtain ⟨g, hg⟩ : ∃ g, g = grE (N : Int) es := ⟨_, rfl⟩
  have hgE : g.E = es.length := by rw [hg]; rfl
  have hgN : g.N = N := by rw [hg]; rfl
  have hgo : g.Ok := by rw [hg]; exact grE_ok hr
  have hxb := hF.in'
  rw [← hg] at hF hov hxb ⊢
  rw [hgE] at hxb
  have hcb := cap_bnd hr
  have hovb : ∀ v, v < N → -900719925474099200 ≤ ov v ∧ ov v ≤ 900719925474099200 := fun v hv => by
    rw [hov v hv]
    exact over_in (by omega) (fun i hi => by have h1 := hxb i (by omega); have h2 := hcb i (by omega); omega) v
  refine ret_of_WM (fn := Tryz.f120) Tryz.func120 rfl [.pointer (some ⟨bs, 0, none⟩)] rfl (by kernel_rfl) ?_
  refine W_rseq ?_
  refine op_box rfl _ (.pointer _) rfl rfl H ?_
  rintro b1 w - H
  refine op_assign rfl (.bool _) rfl ?_
  refine op_nil (at_then ?_)
  refine W_rseq ?_
  refine op_ldb rfl ag_168_SeW rfl H (by first | exact at0 | exact at1 | exact at2 | exact at3 | exact at4 | exact at5 | exact at6 | exact at7 | exact at8 | exact at9) rfl ?_
  refine op_call rfl ca_166_SeW (sources_ok (H.get at1) (H.get (k := 4) rfl) (by omega)) rfl ?_
  rintro v w ⟨⟨fr, fn, fc, ff, rfl, Of, hbf⟩, hx14⟩
  have hfn := Of.num
  subst hfn
  have Rs : Rd w fr 1 I1 ((posL ov N).map fun v : Nat => (v : Int)) := Rd.map (Of.rd1 (f := iN) fun y hy => (hbf y hy).1)
  replace H := H.call hx14
  refine op_assign rfl (.slice _ _ _) rfl ?_
  refine op_nil (at_then ?_)
  refine W_seq ?_
  refine W_rseq ?_
  refine op_move rfl (.slice _ _ _) rfl ?_
  refine op_len rfl el_203_SeW rfl ?_
  refine op_eql rfl rfl rfl ?_
  refine op_nil (at_then ?_)
  refine W_cond _ rfl ?_ ?_
  · intro h1
    replace h1 := dec_t h1
    refine W_rseq ?_
    refine op_assign rfl (.bool _) rfl ?_
    refine op_nil (at_then ?_)
    refine W_ret (ret_then (leaveM1 (v := (.bool _)) rfl rfl ?_))
    have hp0 : posL ov N = [] := List.eq_nil_of_length_eq_zero (by omega)
    have H2 := H.tail
    refine ⟨false, x, p, ov, kk, rfl, H2, hF, hov, hpb, fun _ v hv => ?_, fun h => by cases h⟩
    rw [← hov v hv]
    rcases Int.lt_or_le 0 (ov v) with h | h
    · have := (hsm v).2 ⟨hv, h⟩
      rw [hp0] at this; cases this
    · exact h
  · intro h1
    replace h1 := dec_f h1
    have hs0 : 0 < (posL ov N).length := by omega
    refine W_skip (at_then ?_)
    refine W_sseqz [([0, 1, 2, 3, 4, 5, 6, 7, 8, 9, 10, 11, 12], 13), ([14, 15, 16, 17, 18, 19], 20)] (fun z => z.heap[b1]? = some (Bl 168 [ptr bs]) ∧ z.heap[bs]? = some (Bl 170 (SC N ae es.length ce bf bp bo kk))) [] mixed_SeW (by kernel_rfl) (⟨H.drew.get at0, H.drew.get at1⟩) ?_
    refine seg_cons rfl rfl ?_
    first | refine t_ldb rfl ag_168_SeW rfl True.intro (by first | exact at0 | exact at1 | exact at2 | exact at3 | exact at4 | exact at5 | exact at6 | exact at7 | exact at8 | exact at9) rfl ?_ | refine t_ld rfl ag_168_SeW rfl (fun _ hx => (by rw [cell_bl hx.1]; rfl)) ?_ | refine t_ld rfl ag_168_SeW rfl (fun _ hx => (by rw [cell_bl hx.2]; rfl)) ?_
    refine t_nilCheck rfl rfl ?_
    refine t_fieldAddr rfl fo_170_0_SeW rfl ?_
    first | refine t_ldN _ rfl ag_28_SeW sz_28_SeW rfl rfl (fun _ hx => (net_cells hx.2)) ?_ | refine t_ldbN rfl ag_28_SeW sz_28_SeW rfl True.intro (by first | exact at0 | exact at1 | exact at2 | exact at3 | exact at4 | exact at5 | exact at6 | exact at7 | exact at8 | exact at9) rfl ?_
    first | refine t_ldb rfl ag_168_SeW rfl True.intro (by first | exact at0 | exact at1 | exact at2 | exact at3 | exact at4 | exact at5 | exact at6 | exact at7 | exact at8 | exact at9) rfl ?_ | refine t_ld rfl ag_168_SeW rfl (fun _ hx => (by rw [cell_bl hx.1]; rfl)) ?_ | refine t_ld rfl ag_168_SeW rfl (fun _ hx => (by rw [cell_bl hx.2]; rfl)) ?_
    refine t_nilCheck rfl rfl ?_
    refine t_fieldAddr rfl fo_170_1_SeW rfl ?_
    first | refine t_ldb rfl ag_29_SeW rfl True.intro (by first | exact at0 | exact at1 | exact at2 | exact at3 | exact at4 | exact at5 | exact at6 | exact at7 | exact at8 | exact at9) rfl ?_ | refine t_ld rfl ag_29_SeW rfl (fun _ hx => (by rw [cell_bl hx.1]; rfl)) ?_ | refine t_ld rfl ag_29_SeW rfl (fun _ hx => (by rw [cell_bl hx.2]; rfl)) ?_
    first | refine t_ldb rfl ag_168_SeW rfl True.intro (by first | exact at0 | exact at1 | exact at2 | exact at3 | exact at4 | exact at5 | exact at6 | exact at7 | exact at8 | exact at9) rfl ?_ | refine t_ld rfl ag_168_SeW rfl (fun _ hx => (by rw [cell_bl hx.1]; rfl)) ?_ | refine t_ld rfl ag_168_SeW rfl (fun _ hx => (by rw [cell_bl hx.2]; rfl)) ?_
    refine t_nilCheck rfl rfl ?_
    refine t_fieldAddr rfl fo_170_2_SeW rfl ?_
    first | refine t_ldb rfl ag_29_SeW rfl True.intro (by first | exact at0 | exact at1 | exact at2 | exact at3 | exact at4 | exact at5 | exact at6 | exact at7 | exact at8 | exact at9) rfl ?_ | refine t_ld rfl ag_29_SeW rfl (fun _ hx => (by rw [cell_bl hx.1]; rfl)) ?_ | refine t_ld rfl ag_29_SeW rfl (fun _ hx => (by rw [cell_bl hx.2]; rfl)) ?_
    refine t_move rfl (.slice _ _ _) rfl ?_
    refine t_nil ?_
    replace H := H.drew
    refine op_call rfl ca_167_SeW (ways_ok (N : Int) ae (some ⟨bf, 0, none⟩) (some ⟨bp, 0, none⟩) fr es.length ce es.length es.length N N fc es (tab x es.length) (tab p N) (posL ov N) _ (hRe fun y hy => H.blk y (List.mem_append_right [_, _, _, _, _] hy)) rfl hI (tab_rd (H.get at2)) (tab_len _ _) (by omega) (tab_rd (H.get at3)) (tab_len _ _) (by omega) (Rs.ext0 (Ext.drew [] _)) hfit hsrc hsnd hs0) rfl ?_
    rintro rv w ⟨od, ob, s, by', hrv, DN, BY, hby, H3⟩
    rw [Int.toNat_natCast] at hrv DN H3
    subst hrv
    replace H := Ctx.back (L1 := []) (L2 := _ :: _ :: _ :: _ :: _ :: _) H H3
    refine op_nil (at_seg (⟨H.get at2, H.get at3⟩) ?_)
    refine seg_cons rfl rfl ?_
    refine t_move rfl (.tuple _) rfl ?_
    refine t_extract rfl rfl rfl ?_
    refine t_extract rfl rfl rfl ?_
    refine t_extract rfl rfl rfl ?_
    refine t_assign rfl (.slice _ _ _) rfl ?_
    refine t_assign rfl (.slice _ _ _) rfl ?_
    refine t_nil ?_
    refine op_assign rfl (.int _ _) rfl ?_
    refine op_nil (at_seg (⟨H.get at2, H.get at3⟩) ?_)
    refine seg_nil ?_
    refine W_seq ?_
    refine W_rseq ?_
    refine op_move rfl (.int _ _) rfl ?_
    refine op_neq rfl rfl rfl ?_
    refine op_nil (at_then ?_)
    refine W_cond _ rfl ?_ ?_
    · intro h2
      replace h2 := ndec_t h2
      exact absurd h2 (by decide)
    · intro h2
      replace h2 := ndec_f h2
      have hlow := DN.J.low
      have hds : ∀ v, v ∈ posL ov N → s.d v = 0 ∧ s.h v = 0 := fun v hv => (DN.J.src' v hv).2
      rw [← hg, hxn, hpn] at DN BY
      rw [← hgN] at DN
      refine W_skip (at_then ?_)
      refine W_rseq ?_
      refine op_ldb rfl ag_168_SeW rfl H (by first | exact at0 | exact at1 | exact at2 | exact at3 | exact at4 | exact at5 | exact at6 | exact at7 | exact at8 | exact at9) rfl ?_
      refine op_move rfl (.slice _ _ _) rfl ?_
      refine op_call rfl ca_168_SeW (nearest_ok (H.get at3) (H.get at6) (H.get at0) (by omega)) rfl ?_
      rintro rv w ⟨⟨to, rfl, hto⟩, rfl⟩
      refine op_assign rfl (.int _ _) rfl ?_
      refine op_nil (at_then ?_)
      refine W_seq ?_
      refine W_rseq ?_
      refine op_move rfl (.int _ _) rfl ?_
      refine op_lss rfl rfl rfl ?_
      refine op_nil (at_then ?_)
      refine W_cond _ rfl ?_ ?_
      · intro h3
        replace h3 := dec_t h3
        exfalso
        rcases hto with ⟨h, h7⟩ | ⟨tv, _, h, -, -⟩
        · obtain ⟨v0, hv0⟩ := get_some hs0
          have hm := List.mem_of_getElem? hv0
          have h8 := (hsm v0).1 hm
          obtain ⟨z, hz1, hz2, hz3⟩ := reach hgo hF DN (v := v0) (by omega) (by rw [(hds v0 hm).1]; omega) (by rw [← hov v0 h8.1]; exact h8.2)
          rw [hgN] at hz1
          exact h7 z hz1 ⟨by rw [hov z hz1]; exact hz3, (hlow z).resolve_left hz2⟩
        · omega
      · intro h3
        replace h3 := dec_f h3
        obtain ⟨tv, htv, rfl, hov0, hd0⟩ : ∃ tv : Nat, tv < N ∧ to = tv ∧ ov tv < 0 ∧ 0 ≤ s.d tv := by
          rcases hto with ⟨h, _⟩ | h
          · omega
          · exact h
        have hdt : s.d tv ≠ -1 := by omega
        have hovt := hovb tv htv
        have hgot : (tab ov N)[tv]? = some (ov tv) := tab_get htv
        refine W_skip (at_then ?_)
        refine W_join 4494803534349056 (α := Nat × Nat) (fun z => [(8, ptr z.1), (9, ptr z.2)]) (fun z w' => Ctx w0 ids w' ((z.1, Bl 3 [.int .i64 (tv : Int)]) :: (z.2, Bl 2 [.int .i64 (-ov tv)]) :: (od, Bl 2 (tabV s.d N)) :: (ob, Bl 3 (tabV by' N)) :: (b1, Bl 168 [ptr bs]) :: SL bs bf bp bo N ae es.length ce kk x p ov full)) rfl ?_ ?_
        · skip
          refine W_trz (.two [0, 1, 2, 3, 4, 5, 6, 7, 8] 9 (.one [] 10 (.one [] 11 (.one [] 12 .stop))) 10 (.one [] 9 (.one [] 11 (.one [] 12 .stop)))) (fun z => z.heap[b1]? = some (Bl 168 [ptr bs]) ∧ z.heap[bs]? = some (Bl 170 (SC N ae es.length ce bf bp bo kk)) ∧ z.heap[bo]? = some (Bl 2 (tabV ov N))) mixed_SeW (by kernel_rfl) (⟨H.drew.get at2, H.drew.get at3, H.drew.get at6⟩) ?_
          refine tr_two rfl rfl rfl ?_
          refine t_move rfl (.int _ _) rfl ?_
          first | refine t_ldb rfl ag_168_SeW rfl True.intro (by first | exact at0 | exact at1 | exact at2 | exact at3 | exact at4 | exact at5 | exact at6 | exact at7 | exact at8 | exact at9) rfl ?_ | refine t_ld rfl ag_168_SeW rfl (fun _ hx => (by rw [cell_bl hx.1]; rfl)) ?_ | refine t_ld rfl ag_168_SeW rfl (fun _ hx => (by rw [cell_bl hx.2.1]; rfl)) ?_ | refine t_ld rfl ag_168_SeW rfl (fun _ hx => ((tab_rd hx.2.2).fld hgot rfl (j := 0) rfl)) ?_
          refine t_nilCheck rfl rfl ?_
          refine t_fieldAddr rfl fo_170_3_SeW rfl ?_
          first | refine t_ldb rfl ag_29_SeW rfl True.intro (by first | exact at0 | exact at1 | exact at2 | exact at3 | exact at4 | exact at5 | exact at6 | exact at7 | exact at8 | exact at9) rfl ?_ | refine t_ld rfl ag_29_SeW rfl (fun _ hx => (by rw [cell_bl hx.1]; rfl)) ?_ | refine t_ld rfl ag_29_SeW rfl (fun _ hx => (by rw [cell_bl hx.2.1]; rfl)) ?_ | refine t_ld rfl ag_29_SeW rfl (fun _ hx => ((tab_rd hx.2.2).fld hgot rfl (j := 0) rfl)) ?_
          refine t_move rfl (.int _ _) rfl ?_
          first | refine t_indexRd (tab_rd (H.get (k := 6) rfl)) rfl el_29_SeW sz_2_SeW rfl rfl (by omega) (by omega) (by first | rfl | omega) ?_ | refine t_indexAddr rfl el_29_SeW sz_2_SeW rfl rfl (by omega) (by omega) ?_
          first | refine t_ldb rfl ag_2_SeW rfl True.intro (by first | exact at0 | exact at1 | exact at2 | exact at3 | exact at4 | exact at5 | exact at6 | exact at7 | exact at8 | exact at9) rfl ?_ | refine t_ld rfl ag_2_SeW rfl (fun _ hx => (by rw [cell_bl hx.1]; rfl)) ?_ | refine t_ld rfl ag_2_SeW rfl (fun _ hx => (by rw [cell_bl hx.2.1]; rfl)) ?_ | refine t_ld rfl ag_2_SeW rfl (fun _ hx => ((tab_rd hx.2.2).fld hgot rfl (j := 0) rfl)) ?_
          refine t_neg_i64 rfl rfl (by omega) (by omega) ?_
          refine t_nil ?_
          replace H := H.drew
          refine ⟨?_, ?_⟩
          · skip
            refine op_alloc rfl zc_3_SeW H ?_
            rintro b8 w - H
            refine op_nil (at_tr (⟨H.get at3, H.get at4, H.get at7⟩) ?_)
            refine tr_one rfl rfl ?_
            refine t_nil ?_
            refine op_alloc rfl zc_2_SeW H ?_
            rintro b9 w - H
            refine op_nil (at_tr (⟨H.get at4, H.get at5, H.get at8⟩) ?_)
            refine tr_one rfl rfl ?_
            refine t_nil ?_
            refine op_stb (.int _ _) rfl sz_3_SeW rfl rfl rfl H (by first | exact at0 | exact at1 | exact at2 | exact at3 | exact at4 | exact at5 | exact at6 | exact at7 | exact at8 | exact at9) (by first | decide | (simp; done) | (simp; omega)) ?_
            rintro w H
            refine op_nil (at_tr (⟨H.get at4, H.get at5, H.get at8⟩) ?_)
            refine tr_one rfl rfl ?_
            refine t_nil ?_
            refine op_stb (.int _ _) rfl sz_2_SeW rfl rfl rfl H (by first | exact at0 | exact at1 | exact at2 | exact at3 | exact at4 | exact at5 | exact at6 | exact at7 | exact at8 | exact at9) (by first | decide | (simp; done) | (simp; omega)) ?_
            rintro w H
            refine op_nil (at_tr (⟨H.get at4, H.get at5, H.get at8⟩) ?_)
            refine tr_stop ?_
            refine at_then ?_
            exact ⟨(b8, b9), rfl, ⟨rfl, rfl, trivial⟩, H.perm (List.Perm.swap ..)⟩
          · skip
            refine op_alloc rfl zc_2_SeW H ?_
            rintro b9 w - H
            refine op_nil (at_tr (⟨H.get at3, H.get at4, H.get at7⟩) ?_)
            refine tr_one rfl rfl ?_
            refine t_nil ?_
            refine op_alloc rfl zc_3_SeW H ?_
            rintro b8 w - H
            refine op_nil (at_tr (⟨H.get at4, H.get at5, H.get at8⟩) ?_)
            refine tr_one rfl rfl ?_
            refine t_nil ?_
            refine op_stb (.int _ _) rfl sz_3_SeW rfl rfl rfl H (by first | exact at0 | exact at1 | exact at2 | exact at3 | exact at4 | exact at5 | exact at6 | exact at7 | exact at8 | exact at9) (by first | decide | (simp; done) | (simp; omega)) ?_
            rintro w H
            refine op_nil (at_tr (⟨H.get at4, H.get at5, H.get at8⟩) ?_)
            refine tr_one rfl rfl ?_
            refine t_nil ?_
            refine op_stb (.int _ _) rfl sz_2_SeW rfl rfl rfl H (by first | exact at0 | exact at1 | exact at2 | exact at3 | exact at4 | exact at5 | exact at6 | exact at7 | exact at8 | exact at9) (by first | decide | (simp; done) | (simp; omega)) ?_
            rintro w H
            refine op_nil (at_tr (⟨H.get at4, H.get at5, H.get at8⟩) ?_)
            refine tr_stop ?_
            refine at_then ?_
            exact ⟨(b8, b9), rfl, ⟨rfl, rfl, trivial⟩, H⟩
        · rintro ⟨b8, b9⟩ j w H; dsimp only at H; dsimp only
          obtain ⟨path, hpath⟩ : ∃ path, path = pathL (byO by') g (s.h tv) tv := ⟨_, rfl⟩
          have BY' : Bys g (capE es) x p s (byO by') := BY
          obtain ⟨q1, q2, q3, q4⟩ := path_spec BY' hdt rfl
          have hpe := path_edges BY' hdt rfl
          have hwp := walk_path BY' hdt rfl
          rw [← hpath] at q1 hpe hwp
          have hsd0 := fun v => DN.J.dist (by omega) (by omega) v
          refine W_seq ?_
          refine W_rseq ?_
          refine op_ldb rfl ag_168_SeW rfl H (by first | exact at0 | exact at1 | exact at2 | exact at3 | exact at4 | exact at5 | exact at6 | exact at7 | exact at8 | exact at9) rfl ?_
          refine op_move rfl (.slice _ _ _) rfl ?_
          refine op_move rfl (.int _ _) rfl ?_
          have hlt := Ctx.ltI H
          have hwb0 := H.size
          refine op_call rfl ca_169_SeW (sback_ok _ _ (some ⟨ob, 0, none⟩) N N bs (tv : Int) _ rfl rfl) rfl ?_
          rintro rv w ⟨b3, b4, b5, rfl, hb3, hb4, hb5, s3, s4, s5, n53, n54, hx55⟩
          replace H := H.call hx55
          refine op_nil (at_then ?_)
          refine W_block ?_
          obtain ⟨ws, rfl⟩ : ∃ z, z = w := ⟨_, rfl⟩
          have l3 := heap_lt hb3
          have l4 := heap_lt hb4
          have l5 := heap_lt hb5
          have hwsz := H.size
          have h05 : w0.heap.size ≤ b5 := Nat.le_trans hwb0 s5
          have n8 := hlt b8 (List.mem_cons_self ..)
          have n9 := hlt b9 (List.mem_cons_of_mem _ (List.mem_cons_self ..))
          refine W_rangeS (gf := 196) rfl ca_196_SeW (back1_ok (b3 := b3) (b4 := b4) (b5 := b5) (bs := bs) (ob := ob) (N := N) (ae := ae) (ce := ce) (bf := bf) (bp := bp) (bo := bo) (kk := kk) (es := es) (by' := by') (x := x) (p := p) (s := s) hw (by rw [← hg]; exact BY') hby htv hdt rfl) (by kernel_rfl) (by kernel_rfl) (fun v hv => by obtain ⟨p, -, rfl⟩ := List.mem_map.1 hv; rfl)
            (fun i M w' => (M = fun y => y = b8 ∨ y = b9) ∧ (∃ mo : Int, Ctx w0 ids w' ((b8, Bl 3 [.int .i64 ((walkN g tv (path.take i) : Nat) : Int)]) :: (b9, Bl 2 [.int .i64 (mo)]) :: (od, Bl 2 (tabV s.d N)) :: (ob, Bl 3 (tabV by' N)) :: (b1, Bl 168 [ptr bs]) :: SL bs bf bp bo N ae es.length ce kk (x) (p) (ov) full) ∧ 0 < mo ∧ mo ≤ -ov tv ∧ ∀ a ∈ path.take i, mo ≤ roomA (capE es) x a) ∧ w'.heap[b3]? = some (Bl 168 [ptr bs]) ∧ w'.heap[b4]? = some (Bl 203 [.slice (some ⟨ob, 0, none⟩) N N]))
            (fun _ => False) (by simp only [List.mem_singleton]; omega) (fun w2 hx2 => hx2.to hb5 (by simp))
            (fun w2 hx2 _ => ⟨_, rfl, ⟨-ov tv, H.call hx2, by omega, Int.le_refl _, fun a ha => by cases ha⟩, hx2.to hb3 (by simp), hx2.to hb4 (by simp)⟩)
            (fun i M w' w'' hJ hx => ?_) (fun _ _ h _ => h) (fun i M w' hJ => ?_) ?_ ?_ (fun _ h _ => h.elim)
          · obtain ⟨hM, ⟨mo, HJ, m1, m2, m3⟩, g3, g4⟩ := hJ
            refine ⟨hM, ⟨mo, HJ.step hx (fun y hy => ?_) (fun z hz => .inr ?_), m1, m2, m3⟩, hx.to g3 ?_, hx.to g4 ?_⟩
            · have h7 := List.mem_map_of_mem (f := (·.1)) hy
              have := hlt y.1 h7
              simp only [List.mem_cons, List.not_mem_nil, or_false]; omega
            · simp only [List.mem_cons, List.not_mem_nil, or_false] at hz; omega
            · simp only [List.mem_cons, List.not_mem_nil, or_false]; omega
            · simp only [List.mem_cons, List.not_mem_nil, or_false]; omega
          · obtain ⟨hM, ⟨mo, HJ, m1, m2, m3⟩, g3, g4⟩ := hJ
            refine ⟨fun y hy => ?_, g4, g3, HJ.get at5, HJ.get at3, hRe fun y hy => HJ.blk y (List.mem_append_right [_, _, _, _, _, _, _, _, _] hy), ?_⟩
            · rw [hM] at hy
              rcases hy with rfl | rfl
              · exact ⟨heap_lt (HJ.get at0), by omega, by omega⟩
              · exact ⟨heap_lt (HJ.get at1), by omega, by omega⟩
            · rw [hM]; dsimp only; omega
          · rintro i v _ w hxv ⟨rfl, ⟨mo, HJ, m1, m2, m3⟩, g3, g4⟩ hsz
            rw [← hg, ← hpath, List.getElem?_map] at hxv
            obtain ⟨a, ha, rfl⟩ := Option.map_eq_some_iff.1 hxv
            obtain ⟨hWa, -⟩ := q1 a (List.mem_of_getElem? ha)
            have hWlt := hWa.lt
            obtain ⟨-, hR, -⟩ := arc_at hw (k := a) (by omega)
            obtain ⟨w1, rfl⟩ : ∃ z, z = w := ⟨_, rfl⟩
            refine W_rseq ?_
            refine op_assign rfl (.int _ _) rfl ?_
            refine op_nil (at_then ?_)
            refine W_region ?_
            refine op_assign rfl (.int _ _) rfl ?_
            refine op_nil ?_
            refine ⟨Ext.refl _ _, fun wB hxB => ?_⟩
            have HB := HJ.step hxB (fun y hy => by have h7 := List.mem_map_of_mem (f := (·.1)) hy; have := hlt y.1 h7; rw [List.mem_singleton]; omega) (fun z hz => .inr (by rw [List.mem_singleton.1 hz]; omega))
            have e3 := hxB.to g3 (by rw [List.mem_singleton]; omega)
            have e4 := hxB.to g4 (by rw [List.mem_singleton]; omega)
            have k1 := HB.get at4
            have ks := HB.get at5
            have kf := HB.get at6
            have hn1 := nd_app2 (L := [_, _]) HB.nd (x := (b1, _)) (List.mem_of_getElem? (i := 2) rfl)
            have hns := nd_app2 (L := [_, _]) HB.nd (x := (bs, _)) (List.mem_of_getElem? (i := 3) rfl)
            have hnf := nd_app2 (L := [_, _]) HB.nd (x := (bf, _)) (List.mem_of_getElem? (i := 4) rfl)
            have hke : ∀ y ∈ ent ae 92 full, wB.heap[y.1]? = some y.2 ∧ y.1 ∉ [b8, b9] := fun y hy => ⟨HB.blk y (List.mem_append_right [_, _, _, _, _, _, _, _, _] hy), nd_app2 (L := [_, _]) HB.nd (List.mem_append_right [_, _, _, _, _, _, _] hy)⟩
            obtain ⟨w2, rfl⟩ : ∃ z, z = wB := ⟨_, rfl⟩
            have H := Ctx.lend (L1 := [_, _]) (L2 := _ :: _ :: _ :: _ :: _ :: _ :: _ :: _) HB
            refine W_block ?_
            refine W_segz [([0, 1, 2, 3, 4, 5, 6, 7, 8, 9, 10], 11), ([12], 13), ([], 14)] (fun z => z.heap[b9]? = some (Bl 2 [.int .i64 mo]) ∧ z.heap[b1]? = some (Bl 168 [ptr bs]) ∧ z.heap[bs]? = some (Bl 170 (SC N ae es.length ce bf bp bo kk))) [14] mixed_SeW (by kernel_rfl) (⟨H.drew.get at1, H.drew.ext.to k1 hn1, H.drew.ext.to ks hns⟩) ?_
            refine seg_cons rfl rfl ?_
            refine t_move rfl (.int _ _) rfl ?_
            first | refine t_ldb rfl ag_2_SeW rfl True.intro (by first | exact at0 | exact at1 | exact at2 | exact at3 | exact at4 | exact at5 | exact at6 | exact at7 | exact at8 | exact at9) rfl ?_ | refine t_ld rfl ag_2_SeW rfl (fun _ hx => (by rw [cell_bl hx.1]; rfl)) ?_ | refine t_ld rfl ag_2_SeW rfl (fun _ hx => (by rw [cell_bl hx.2.1]; rfl)) ?_ | refine t_ld rfl ag_2_SeW rfl (fun _ hx => (by rw [cell_bl hx.2.2]; rfl)) ?_
            first | refine t_ldb rfl ag_168_SeW rfl True.intro (by first | exact at0 | exact at1 | exact at2 | exact at3 | exact at4 | exact at5 | exact at6 | exact at7 | exact at8 | exact at9) rfl ?_ | refine t_ld rfl ag_168_SeW rfl (fun _ hx => (by rw [cell_bl hx.1]; rfl)) ?_ | refine t_ld rfl ag_168_SeW rfl (fun _ hx => (by rw [cell_bl hx.2.1]; rfl)) ?_ | refine t_ld rfl ag_168_SeW rfl (fun _ hx => (by rw [cell_bl hx.2.2]; rfl)) ?_
            refine t_nilCheck rfl rfl ?_
            refine t_fieldAddr rfl fo_170_0_SeW rfl ?_
            first | refine t_ldN _ rfl ag_28_SeW sz_28_SeW rfl rfl (fun _ hx => (net_cells hx.2.2)) ?_ | refine t_ldbN rfl ag_28_SeW sz_28_SeW rfl True.intro (by first | exact at0 | exact at1 | exact at2 | exact at3 | exact at4 | exact at5 | exact at6 | exact at7 | exact at8 | exact at9) rfl ?_
            first | refine t_ldb rfl ag_168_SeW rfl True.intro (by first | exact at0 | exact at1 | exact at2 | exact at3 | exact at4 | exact at5 | exact at6 | exact at7 | exact at8 | exact at9) rfl ?_ | refine t_ld rfl ag_168_SeW rfl (fun _ hx => (by rw [cell_bl hx.1]; rfl)) ?_ | refine t_ld rfl ag_168_SeW rfl (fun _ hx => (by rw [cell_bl hx.2.1]; rfl)) ?_ | refine t_ld rfl ag_168_SeW rfl (fun _ hx => (by rw [cell_bl hx.2.2]; rfl)) ?_
            refine t_nilCheck rfl rfl ?_
            refine t_fieldAddr rfl fo_170_1_SeW rfl ?_
            first | refine t_ldb rfl ag_29_SeW rfl True.intro (by first | exact at0 | exact at1 | exact at2 | exact at3 | exact at4 | exact at5 | exact at6 | exact at7 | exact at8 | exact at9) rfl ?_ | refine t_ld rfl ag_29_SeW rfl (fun _ hx => (by rw [cell_bl hx.1]; rfl)) ?_ | refine t_ld rfl ag_29_SeW rfl (fun _ hx => (by rw [cell_bl hx.2.1]; rfl)) ?_ | refine t_ld rfl ag_29_SeW rfl (fun _ hx => (by rw [cell_bl hx.2.2]; rfl)) ?_
            refine t_move rfl (.int _ _) rfl ?_
            refine t_nil ?_
            replace H := H.drew
            refine op_call rfl ca_170_SeW (Room_ok (N : Int) ae (some ⟨bf, 0, none⟩) es.length ce es.length es.length es (tab x es.length) _ (hRe fun y hy => H.ext.to (hke y hy).1 (hke y hy).2) rfl (by omega) hI (tab_rd (H.ext.to kf hnf)) (tab_len _ _) (by omega) (a : Int)) rfl ?_
            rintro v w ⟨rfl, hx69⟩
            replace H := H.call hx69
            rw [hR]
            refine op_nil (at_seg (⟨H.get at1, H.ext.to k1 hn1, H.ext.to ks hns⟩) ?_)
            refine seg_cons rfl rfl ?_
            refine t_min2 rfl rfl rfl ?_
            refine t_nil ?_
            refine op_stb (.int _ _) rfl sz_3_SeW rfl rfl rfl H (by first | exact at0 | exact at1 | exact at2 | exact at3 | exact at4 | exact at5 | exact at6 | exact at7 | exact at8 | exact at9) (by first | decide | (simp; done) | (simp; omega)) ?_
            rintro w H
            refine op_nil (at_seg (⟨H.get at1, H.ext.to k1 hn1, H.ext.to ks hns⟩) ?_)
            refine seg_cons rfl rfl ?_
            refine t_nil ?_
            refine op_stb (.int _ _) rfl sz_2_SeW rfl rfl rfl H (by first | exact at0 | exact at1 | exact at2 | exact at3 | exact at4 | exact at5 | exact at6 | exact at7 | exact at8 | exact at9) (by first | decide | (simp; done) | (simp; omega)) ?_
            rintro w H
            refine op_nil (at_segz rfl ?_)
            refine seg_nil ?_
            refine at_block ?_
            have hrm := hWa.room
            have HH := Ctx.back (L1 := [_, _]) (L2 := _ :: _ :: _ :: _ :: _ :: _ :: _ :: _) HB H
            refine ⟨_, ⟨rfl, ⟨min mo (roomA (capE es) x a), by rw [walk_snoc ha]; exact HH, by omega, by omega, fun a' ha' => ?_⟩, H.ext.to e3 (by simp only [List.map_cons, List.map_nil, List.mem_cons, List.not_mem_nil, or_false]; omega), H.ext.to e4 (by simp only [List.map_cons, List.map_nil, List.mem_cons, List.not_mem_nil, or_false]; omega)⟩, fun x hx => .inl hx, _, H.ext, fun x hx => .inl (by simpa using hx)⟩
            rw [take_snoc ha] at ha'
            rcases List.mem_append.1 ha' with h | h
            · have := m3 a' h; omega
            · rw [List.mem_singleton.1 h]; omega
          · rintro M w ⟨-, ⟨mo, HJ, m1, m2, m3⟩, -, -⟩ hD
            have hxl : (List.map (wayV (grE (N : Int) es)) (pathL (byO by') (grE (N : Int) es) (s.h tv) tv)).length = path.length := by rw [List.length_map, ← hg, ← hpath]
            rw [hxl, List.take_length] at HJ m3
            obtain ⟨f0, hf0⟩ : ∃ f0, f0 = walkN g tv path := ⟨_, rfl⟩
            rw [← hf0] at HJ hwp
            rw [← hwp] at q3 q4
            have hf0s := (hsm f0).1 (by have h7 := DN.J.zero f0 q3 q4; rw [hgN] at h7; exact h7)
            have hovf := hovb f0 hf0s.1
            have hgof : (tab ov N)[f0]? = some (ov f0) := tab_get hf0s.1
            have H := HJ.add hD (.inr hwsz) (fun y hy e => by have h7 := List.mem_map_of_mem (f := (·.1)) hy; have := hlt y.1 h7; omega)
            refine at_block (at_then ?_)
            refine W_tseq 9 mixed_SeW (by kernel_rfl) rfl rfl ?_
            first | refine q_ldb rfl ag_2_SeW rfl (by rintro _ rfl; exact H.drew) (by first | exact at0 | exact at1 | exact at2 | exact at3 | exact at4 | exact at5 | exact at6 | exact at7 | exact at8 | exact at9) rfl ?_ | refine q_ld rfl ag_2_SeW rfl (by rintro _ rfl; exact ((by rw [cell_bl hx.1]; rfl))) ?_ | refine q_ld rfl ag_2_SeW rfl (by rintro _ rfl; exact ((by rw [cell_bl hx.2.1]; rfl))) ?_ | refine q_ld rfl ag_2_SeW rfl (by rintro _ rfl; exact ((by rw [cell_bl hx.2.2]; rfl))) ?_ | refine q_ld rfl ag_2_SeW rfl (by rintro _ rfl; exact (((tab_rd (H.drew.get at9)).fld hgof rfl (j := 0) rfl))) ?_
            first | refine q_ldb rfl ag_168_SeW rfl (by rintro _ rfl; exact H.drew) (by first | exact at0 | exact at1 | exact at2 | exact at3 | exact at4 | exact at5 | exact at6 | exact at7 | exact at8 | exact at9) rfl ?_ | refine q_ld rfl ag_168_SeW rfl (by rintro _ rfl; exact ((by rw [cell_bl hx.1]; rfl))) ?_ | refine q_ld rfl ag_168_SeW rfl (by rintro _ rfl; exact ((by rw [cell_bl hx.2.1]; rfl))) ?_ | refine q_ld rfl ag_168_SeW rfl (by rintro _ rfl; exact ((by rw [cell_bl hx.2.2]; rfl))) ?_ | refine q_ld rfl ag_168_SeW rfl (by rintro _ rfl; exact (((tab_rd (H.drew.get at9)).fld hgof rfl (j := 0) rfl))) ?_
            refine q_nilCheck rfl rfl ?_
            refine q_fieldAddr rfl fo_170_3_SeW rfl ?_
            first | refine q_ldb rfl ag_29_SeW rfl (by rintro _ rfl; exact H.drew) (by first | exact at0 | exact at1 | exact at2 | exact at3 | exact at4 | exact at5 | exact at6 | exact at7 | exact at8 | exact at9) rfl ?_ | refine q_ld rfl ag_29_SeW rfl (by rintro _ rfl; exact ((by rw [cell_bl hx.1]; rfl))) ?_ | refine q_ld rfl ag_29_SeW rfl (by rintro _ rfl; exact ((by rw [cell_bl hx.2.1]; rfl))) ?_ | refine q_ld rfl ag_29_SeW rfl (by rintro _ rfl; exact ((by rw [cell_bl hx.2.2]; rfl))) ?_ | refine q_ld rfl ag_29_SeW rfl (by rintro _ rfl; exact (((tab_rd (H.drew.get at9)).fld hgof rfl (j := 0) rfl))) ?_
            first | refine q_ldb rfl ag_3_SeW rfl (by rintro _ rfl; exact H.drew) (by first | exact at0 | exact at1 | exact at2 | exact at3 | exact at4 | exact at5 | exact at6 | exact at7 | exact at8 | exact at9) rfl ?_ | refine q_ld rfl ag_3_SeW rfl (by rintro _ rfl; exact ((by rw [cell_bl hx.1]; rfl))) ?_ | refine q_ld rfl ag_3_SeW rfl (by rintro _ rfl; exact ((by rw [cell_bl hx.2.1]; rfl))) ?_ | refine q_ld rfl ag_3_SeW rfl (by rintro _ rfl; exact ((by rw [cell_bl hx.2.2]; rfl))) ?_ | refine q_ld rfl ag_3_SeW rfl (by rintro _ rfl; exact (((tab_rd (H.drew.get at9)).fld hgof rfl (j := 0) rfl))) ?_
            first | refine q_indexRd (tab_rd (H.get at9)) rfl el_29_SeW sz_2_SeW rfl rfl (by omega) (by omega) (by first | rfl | omega) ?_ | refine q_indexAddr rfl el_29_SeW sz_2_SeW rfl rfl (by omega) (by omega) ?_
            first | refine q_ldb rfl ag_2_SeW rfl (by rintro _ rfl; exact H.drew) (by first | exact at0 | exact at1 | exact at2 | exact at3 | exact at4 | exact at5 | exact at6 | exact at7 | exact at8 | exact at9) rfl ?_ | refine q_ld rfl ag_2_SeW rfl (by rintro _ rfl; exact ((by rw [cell_bl hx.1]; rfl))) ?_ | refine q_ld rfl ag_2_SeW rfl (by rintro _ rfl; exact ((by rw [cell_bl hx.2.1]; rfl))) ?_ | refine q_ld rfl ag_2_SeW rfl (by rintro _ rfl; exact ((by rw [cell_bl hx.2.2]; rfl))) ?_ | refine q_ld rfl ag_2_SeW rfl (by rintro _ rfl; exact (((tab_rd (H.drew.get at9)).fld hgof rfl (j := 0) rfl))) ?_
            refine q_min2 rfl rfl rfl ?_
            refine q_nil ?_
            replace H := H.drew
            refine op_stb (.int _ _) rfl sz_2_SeW rfl rfl rfl H (by first | exact at0 | exact at1 | exact at2 | exact at3 | exact at4 | exact at5 | exact at6 | exact at7 | exact at8 | exact at9) (by first | decide | (simp; done) | (simp; omega)) ?_
            rintro w H
            refine op_nil (at_then ?_)
            refine W_seq ?_
            obtain ⟨mm, hmm⟩ : ∃ mm, mm = min mo (ov f0) := ⟨_, rfl⟩
            rw [← hmm] at H
            have hmm0 : 0 < mm ∧ mm ≤ ov f0 ∧ mm ≤ -ov tv := by omega
            refine W_rseq ?_
            refine op_ldb rfl ag_168_SeW rfl H (by first | exact at0 | exact at1 | exact at2 | exact at3 | exact at4 | exact at5 | exact at6 | exact at7 | exact at8 | exact at9) rfl ?_
            refine op_move rfl (.slice _ _ _) rfl ?_
            refine op_move rfl (.int _ _) rfl ?_
            have hlt2 := Ctx.ltI H
            have hwb2 := H.size
            refine op_call rfl ca_169_SeW (sback_ok _ _ (some ⟨ob, 0, none⟩) N N bs (tv : Int) _ rfl rfl) rfl ?_
            rintro rv w ⟨c3, c4, c5, rfl, hc3, hc4, hc5, t3, t4, t5, nc53, nc54, hx83⟩
            replace H := H.call hx83
            refine op_nil (at_then ?_)
            refine W_block ?_
            obtain ⟨wt, rfl⟩ : ∃ z, z = w := ⟨_, rfl⟩
            have j3 := heap_lt hc3
            have j4 := heap_lt hc4
            have j5 := heap_lt hc5
            have hwtz := H.size
            have nbf := hlt2 bf (List.mem_of_getElem? (i := 7) rfl)
            refine W_rangeS (gf := 196) rfl ca_196_SeW (back1_ok (b3 := c3) (b4 := c4) (b5 := c5) (bs := bs) (ob := ob) (N := N) (ae := ae) (ce := ce) (bf := bf) (bp := bp) (bo := bo) (kk := kk) (es := es) (by' := by') (x := x) (p := p) (s := s) hw (by rw [← hg]; exact BY') hby htv hdt rfl) (by kernel_rfl) (by kernel_rfl) (fun v hv => by obtain ⟨p, -, rfl⟩ := List.mem_map.1 hv; rfl)
              (fun i M w' => (M = fun y => y = bf) ∧ Ctx w0 ids w' ((ws.heap.size, .deferred (some [])) :: ((b8, Bl 3 [.int .i64 (f0 : Int)]) :: (b9, Bl 2 [.int .i64 (mm)]) :: (od, Bl 2 (tabV s.d N)) :: (ob, Bl 3 (tabV by' N)) :: (b1, Bl 168 [ptr bs]) :: SL bs bf bp bo N ae es.length ce kk (pushL mm x (path.take i)) (p) (ov) full)) ∧ w'.heap[c3]? = some (Bl 168 [ptr bs]) ∧ w'.heap[c4]? = some (Bl 203 [.slice (some ⟨ob, 0, none⟩) N N]))
              (fun _ => False) (by simp only [List.mem_singleton]; omega) (fun w2 hx2 => hx2.to hc5 (by simp))
              (fun w2 hx2 _ => ⟨_, rfl, H.call hx2, hx2.to hc3 (by simp), hx2.to hc4 (by simp)⟩)
              (fun i M w' w'' hJ hx => ?_) (fun _ _ h _ => h) (fun i M w' hJ => ?_) ?_ ?_ (fun _ h _ => h.elim)
            · obtain ⟨hM, HJ, g3, g4⟩ := hJ
              refine ⟨hM, HJ.step hx (fun y hy => ?_) (fun z hz => .inr ?_), hx.to g3 ?_, hx.to g4 ?_⟩
              · have h7 := List.mem_map_of_mem (f := (·.1)) hy
                have := hlt2 y.1 h7
                simp only [List.mem_cons, List.not_mem_nil, or_false]; omega
              · simp only [List.mem_cons, List.not_mem_nil, or_false] at hz; omega
              · simp only [List.mem_cons, List.not_mem_nil, or_false]; omega
              · simp only [List.mem_cons, List.not_mem_nil, or_false]; omega
            · obtain ⟨hM, HJ, g3, g4⟩ := hJ
              refine ⟨fun y hy => ?_, g4, g3, HJ.get at6, HJ.get at4, hRe fun y hy => HJ.blk y (List.mem_append_right [_, _, _, _, _, _, _, _, _, _] hy), ?_⟩
              · rw [hM] at hy
                rw [hy]
                exact ⟨heap_lt (HJ.get at7), by omega, by omega⟩
              · rw [hM]; dsimp only; omega
            · rintro i v _ w hxv ⟨rfl, HJ, g3, g4⟩ hsz
              rw [← hg, ← hpath, List.getElem?_map] at hxv
              obtain ⟨a, ha, rfl⟩ := Option.map_eq_some_iff.1 hxv
              have ham := List.mem_of_getElem? ha
              obtain ⟨hWa, -⟩ := q1 a ham
              have hWlt := hWa.lt
              have hai : a / 2 < es.length := by omega
              have hm4 := m3 a ham
              have hcb2 := hcb (a / 2) hai
              have hxb2 := hxb (a / 2) hai
              have hxa : pushL mm x (path.take i) (a / 2) = x (a / 2) := push_other fun b hb => pair_take hpe ha b hb
              have hgxa : (tab (pushL mm x (path.take i)) es.length)[a / 2]? = some (x (a / 2)) := by rw [tab_get hai, hxa]
              have hsuc : ∀ z, pushL mm x (path.take (i + 1)) z = if z = a / 2 then (if a % 2 = 0 then x (a / 2) + mm else x (a / 2) - mm) else pushL mm x (path.take i) z := fun z => by
                rw [push_snoc ha]
                unfold pushF
                by_cases e : z = a / 2
                · rw [if_pos e, if_pos e, e, hxa]
                · rw [if_neg e, if_neg e]
              have ha9 : a < 9223372036854775808 := by omega
              have hml : mm ≤ roomA (capE es) x a := by omega
              obtain ⟨w1, rfl⟩ : ∃ z, z = w := ⟨_, rfl⟩
              refine W_region ?_
              refine op_assign rfl (.int _ _) rfl ?_
              refine op_nil ?_
              refine ⟨Ext.refl _ _, fun wB hxB => ?_⟩
              have HB := HJ.step hxB (fun y hy => by have h7 := List.mem_map_of_mem (f := (·.1)) hy; have := hlt2 y.1 h7; rw [List.mem_singleton]; omega) (fun z hz => .inr (by rw [List.mem_singleton.1 hz]; omega))
              have e3 := hxB.to g3 (by rw [List.mem_singleton]; omega)
              have e4 := hxB.to g4 (by rw [List.mem_singleton]; omega)
              have HP := HB.perm (List.perm_middle (l₁ := [_, _, _, _, _, _, _]) (l₂ := _ :: _ :: _))
              have k1 := HP.get at6
              have ks := HP.get at7
              have k9 := HP.get at3
              have hn1 := nd_app2 (L := [_]) HP.nd (x := (b1, _)) (List.mem_of_getElem? (i := 5) rfl)
              have hns := nd_app2 (L := [_]) HP.nd (x := (bs, _)) (List.mem_of_getElem? (i := 6) rfl)
              have hn9 := nd_app2 (L := [_]) HP.nd (x := (b9, _)) (List.mem_of_getElem? (i := 2) rfl)
              have hnc : bf ≠ c3 ∧ bf ≠ c4 := by omega
              obtain ⟨w2, rfl⟩ : ∃ z, z = wB := ⟨_, rfl⟩
              have H := Ctx.lend (L1 := [_]) (L2 := _ :: _ :: _ :: _ :: _ :: _ :: _ :: _ :: _ :: _) HP
              clear HJ g3 g4 hlt hlt2 m1 m2 m3 q1 hpe hwp hRe hall hxb hovb hsrc hsnd hsm hds hlow hto hfit hpot hw hov hpb DN BY BY' hby hd0 hovt hgot hgof hwb0 hwb2 hWa ham ha hxv hsz hxB hsd0 hcb q2 q3 q4 hF
              refine W_block ?_
              refine W_rseq ?_
              refine op_move rfl (.int _ _) rfl ?_
              refine op_and_i64 (a := a) (b := 1) rfl rfl rfl ha9 (by decide) ?_
              rw [Nat.and_one_is_mod]
              refine op_eql rfl rfl rfl ?_
              refine op_nil (at_then ?_)
              refine W_cond _ rfl ?_ ?_
              · intro hpar
                replace hpar := dec_t hpar
                have hp2 : a % 2 = 0 := by omega
                unfold roomA at hml
                rw [if_pos hp2] at hml
                refine W_segz [([0, 1, 2, 3, 4, 5, 6, 7, 8, 9, 10], 11)] (fun z => z.heap[b1]? = some (Bl 168 [ptr bs]) ∧ z.heap[bs]? = some (Bl 170 (SC N ae es.length ce bf bp bo kk)) ∧ z.heap[b9]? = some (Bl 2 [.int .i64 mm]) ∧ z.heap[bf]? = some (Bl 2 (tabV (pushL mm x (path.take i)) es.length))) [11] mixed_SeW (by kernel_rfl) (⟨H.drew.ext.to k1 hn1, H.drew.ext.to ks hns, H.drew.ext.to k9 hn9, H.drew.get at0⟩) ?_
                refine seg_cons rfl rfl ?_
                first | refine t_ldb rfl ag_168_SeW rfl True.intro (by first | exact at0 | exact at1 | exact at2 | exact at3 | exact at4 | exact at5 | exact at6 | exact at7 | exact at8 | exact at9) rfl ?_ | refine t_ld rfl ag_168_SeW rfl (fun _ hx => (by rw [cell_bl hx.1]; rfl)) ?_ | refine t_ld rfl ag_168_SeW rfl (fun _ hx => (by rw [cell_bl hx.2.1]; rfl)) ?_ | refine t_ld rfl ag_168_SeW rfl (fun _ hx => (by rw [cell_bl hx.2.2.1]; rfl)) ?_ | refine t_ld rfl ag_168_SeW rfl (fun _ hx => ((tab_rd hx.2.2.2).fld hgxa rfl (j := 0) rfl)) ?_
                refine t_nilCheck rfl rfl ?_
                refine t_fieldAddr rfl fo_170_1_SeW rfl ?_
                first | refine t_ldb rfl ag_29_SeW rfl True.intro (by first | exact at0 | exact at1 | exact at2 | exact at3 | exact at4 | exact at5 | exact at6 | exact at7 | exact at8 | exact at9) rfl ?_ | refine t_ld rfl ag_29_SeW rfl (fun _ hx => (by rw [cell_bl hx.1]; rfl)) ?_ | refine t_ld rfl ag_29_SeW rfl (fun _ hx => (by rw [cell_bl hx.2.1]; rfl)) ?_ | refine t_ld rfl ag_29_SeW rfl (fun _ hx => (by rw [cell_bl hx.2.2.1]; rfl)) ?_ | refine t_ld rfl ag_29_SeW rfl (fun _ hx => ((tab_rd hx.2.2.2).fld hgxa rfl (j := 0) rfl)) ?_
                refine t_move rfl (.int _ _) rfl ?_
                refine t_shr_i64 (a := a) (n := 1) rfl rfl rfl (by decide) ?_
                rw [Nat.pow_one]
                refine t_indexAddr rfl el_29_SeW sz_2_SeW rfl rfl (by omega) (by omega) ?_
                first | refine t_ldb rfl ag_2_SeW rfl True.intro (by first | exact at0 | exact at1 | exact at2 | exact at3 | exact at4 | exact at5 | exact at6 | exact at7 | exact at8 | exact at9) rfl ?_ | refine t_ld rfl ag_2_SeW rfl (fun _ hx => (by rw [cell_bl hx.1]; rfl)) ?_ | refine t_ld rfl ag_2_SeW rfl (fun _ hx => (by rw [cell_bl hx.2.1]; rfl)) ?_ | refine t_ld rfl ag_2_SeW rfl (fun _ hx => (by rw [cell_bl hx.2.2.1]; rfl)) ?_ | refine t_ld rfl ag_2_SeW rfl (fun _ hx => ((tab_rd hx.2.2.2).fld hgxa rfl (j := 0) rfl)) ?_
                first | refine t_ldb rfl ag_2_SeW rfl True.intro (by first | exact at0 | exact at1 | exact at2 | exact at3 | exact at4 | exact at5 | exact at6 | exact at7 | exact at8 | exact at9) rfl ?_ | refine t_ld rfl ag_2_SeW rfl (fun _ hx => (by rw [cell_bl hx.1]; rfl)) ?_ | refine t_ld rfl ag_2_SeW rfl (fun _ hx => (by rw [cell_bl hx.2.1]; rfl)) ?_ | refine t_ld rfl ag_2_SeW rfl (fun _ hx => (by rw [cell_bl hx.2.2.1]; rfl)) ?_ | refine t_ld rfl ag_2_SeW rfl (fun _ hx => ((tab_rd hx.2.2.2).fld hgxa rfl (j := 0) rfl)) ?_
                refine t_add_i64 rfl rfl rfl (by omega) (by omega) ?_
                refine t_indexAddr rfl el_29_SeW sz_2_SeW rfl rfl (by omega) (by omega) ?_
                refine t_nil ?_
                replace H := H.drew
                refine op_str (a / 2) (fun z => .int .i64 (pushL mm x (path.take (i + 1)) z)) (.int _ _) rfl sz_2_SeW rfl rfl rfl H at0 (by omega) hai (by rw [hsuc, if_pos rfl, if_pos hp2]) (fun z _ hz => by (try dsimp only); rw [hsuc, if_neg hz]) ?_
                rintro w H
                refine op_nil (at_segz rfl ?_)
                refine seg_nil ?_
                refine at_block ?_
                have HH := (Ctx.back (L1 := [_]) (L2 := _ :: _ :: _ :: _ :: _ :: _ :: _ :: _ :: _ :: _) HP H).perm (List.perm_middle (l₁ := [_, _, _, _, _, _, _]) (l₂ := _ :: _ :: _)).symm
                exact ⟨_, ⟨rfl, HH, H.ext.to e3 (by rw [List.map_cons, List.map_nil, List.mem_singleton]; exact Ne.symm hnc.1), H.ext.to e4 (by rw [List.map_cons, List.map_nil, List.mem_singleton]; exact Ne.symm hnc.2)⟩, fun x hx => .inl hx, _, H.ext, fun x hx => .inl (List.mem_singleton.1 hx)⟩
              · intro hpar
                replace hpar := dec_f hpar
                have hp2 : ¬ a % 2 = 0 := by omega
                unfold roomA at hml
                rw [if_neg hp2] at hml
                refine W_segz [([0, 1, 2, 3, 4, 5, 6, 7, 8, 9, 10], 11)] (fun z => z.heap[b1]? = some (Bl 168 [ptr bs]) ∧ z.heap[bs]? = some (Bl 170 (SC N ae es.length ce bf bp bo kk)) ∧ z.heap[b9]? = some (Bl 2 [.int .i64 mm]) ∧ z.heap[bf]? = some (Bl 2 (tabV (pushL mm x (path.take i)) es.length))) [11] mixed_SeW (by kernel_rfl) (⟨H.drew.ext.to k1 hn1, H.drew.ext.to ks hns, H.drew.ext.to k9 hn9, H.drew.get at0⟩) ?_
                refine seg_cons rfl rfl ?_
                first | refine t_ldb rfl ag_168_SeW rfl True.intro (by first | exact at0 | exact at1 | exact at2 | exact at3 | exact at4 | exact at5 | exact at6 | exact at7 | exact at8 | exact at9) rfl ?_ | refine t_ld rfl ag_168_SeW rfl (fun _ hx => (by rw [cell_bl hx.1]; rfl)) ?_ | refine t_ld rfl ag_168_SeW rfl (fun _ hx => (by rw [cell_bl hx.2.1]; rfl)) ?_ | refine t_ld rfl ag_168_SeW rfl (fun _ hx => (by rw [cell_bl hx.2.2.1]; rfl)) ?_ | refine t_ld rfl ag_168_SeW rfl (fun _ hx => ((tab_rd hx.2.2.2).fld hgxa rfl (j := 0) rfl)) ?_
                refine t_nilCheck rfl rfl ?_
                refine t_fieldAddr rfl fo_170_1_SeW rfl ?_
                first | refine t_ldb rfl ag_29_SeW rfl True.intro (by first | exact at0 | exact at1 | exact at2 | exact at3 | exact at4 | exact at5 | exact at6 | exact at7 | exact at8 | exact at9) rfl ?_ | refine t_ld rfl ag_29_SeW rfl (fun _ hx => (by rw [cell_bl hx.1]; rfl)) ?_ | refine t_ld rfl ag_29_SeW rfl (fun _ hx => (by rw [cell_bl hx.2.1]; rfl)) ?_ | refine t_ld rfl ag_29_SeW rfl (fun _ hx => (by rw [cell_bl hx.2.2.1]; rfl)) ?_ | refine t_ld rfl ag_29_SeW rfl (fun _ hx => ((tab_rd hx.2.2.2).fld hgxa rfl (j := 0) rfl)) ?_
                refine t_move rfl (.int _ _) rfl ?_
                refine t_shr_i64 (a := a) (n := 1) rfl rfl rfl (by decide) ?_
                rw [Nat.pow_one]
                refine t_indexAddr rfl el_29_SeW sz_2_SeW rfl rfl (by omega) (by omega) ?_
                first | refine t_ldb rfl ag_2_SeW rfl True.intro (by first | exact at0 | exact at1 | exact at2 | exact at3 | exact at4 | exact at5 | exact at6 | exact at7 | exact at8 | exact at9) rfl ?_ | refine t_ld rfl ag_2_SeW rfl (fun _ hx => (by rw [cell_bl hx.1]; rfl)) ?_ | refine t_ld rfl ag_2_SeW rfl (fun _ hx => (by rw [cell_bl hx.2.1]; rfl)) ?_ | refine t_ld rfl ag_2_SeW rfl (fun _ hx => (by rw [cell_bl hx.2.2.1]; rfl)) ?_ | refine t_ld rfl ag_2_SeW rfl (fun _ hx => ((tab_rd hx.2.2.2).fld hgxa rfl (j := 0) rfl)) ?_
                first | refine t_ldb rfl ag_2_SeW rfl True.intro (by first | exact at0 | exact at1 | exact at2 | exact at3 | exact at4 | exact at5 | exact at6 | exact at7 | exact at8 | exact at9) rfl ?_ | refine t_ld rfl ag_2_SeW rfl (fun _ hx => (by rw [cell_bl hx.1]; rfl)) ?_ | refine t_ld rfl ag_2_SeW rfl (fun _ hx => (by rw [cell_bl hx.2.1]; rfl)) ?_ | refine t_ld rfl ag_2_SeW rfl (fun _ hx => (by rw [cell_bl hx.2.2.1]; rfl)) ?_ | refine t_ld rfl ag_2_SeW rfl (fun _ hx => ((tab_rd hx.2.2.2).fld hgxa rfl (j := 0) rfl)) ?_
                refine t_sub_i64 rfl rfl rfl (by omega) (by omega) ?_
                refine t_indexAddr rfl el_29_SeW sz_2_SeW rfl rfl (by omega) (by omega) ?_
                refine t_nil ?_
                replace H := H.drew
                refine op_str (a / 2) (fun z => .int .i64 (pushL mm x (path.take (i + 1)) z)) (.int _ _) rfl sz_2_SeW rfl rfl rfl H at0 (by omega) hai (by rw [hsuc, if_pos rfl, if_neg hp2]) (fun z _ hz => by (try dsimp only); rw [hsuc, if_neg hz]) ?_
                rintro w H
                refine op_nil (at_segz rfl ?_)
                refine seg_nil ?_
                refine at_block ?_
                have HH := (Ctx.back (L1 := [_]) (L2 := _ :: _ :: _ :: _ :: _ :: _ :: _ :: _ :: _ :: _) HP H).perm (List.perm_middle (l₁ := [_, _, _, _, _, _, _]) (l₂ := _ :: _ :: _)).symm
                exact ⟨_, ⟨rfl, HH, H.ext.to e3 (by rw [List.map_cons, List.map_nil, List.mem_singleton]; exact Ne.symm hnc.1), H.ext.to e4 (by rw [List.map_cons, List.map_nil, List.mem_singleton]; exact Ne.symm hnc.2)⟩, fun x hx => .inl hx, _, H.ext, fun x hx => .inl (List.mem_singleton.1 hx)⟩
            · rintro M w ⟨-, HJ, -, -⟩ hD2
              rw [hxl, List.take_length] at HJ
              have H := HJ.add hD2 (.inr hwtz) (fun y hy e => by have h7 := List.mem_map_of_mem (f := (·.1)) hy; have := hlt2 y.1 h7; omega)
              replace H := H.erase 5
              obtain ⟨x', hx'⟩ : ∃ x', x' = pushL mm x path := ⟨_, rfl⟩
              rw [← hx'] at H
              have FF := fill_fine hF DN BY' hdt (m := mm) (by omega) (fun a ha => by have := m3 a (hpath ▸ ha); omega)
              rw [← hpath, ← hx'] at FF
              have hov' : ∀ z, over7 g x' z = over7 g x z + mm * (one (tv = z) - one (f0 = z)) := fun z => by rw [hx', hpath, hwp]; exact pushes_over g mm BY' z x hdt rfl
              have hw' := within_fine hr (x := x') (by rw [← hg]; exact FF)
              have hne : tv ≠ f0 := fun e => by rw [e] at hov0; omega
              have hgo2 : (tab (upd ov f0 (ov f0 - mm)) N)[tv]? = some (ov tv) := by rw [tab_get htv, upd_ne hne]
              have hgdt : (tab s.d N)[tv]? = some (s.d tv) := tab_get htv
              have hsdt := hsd0 tv
              have hpf := pot_far hpn hpb
              have hne0 : es ≠ [] → (adr ae).block ≠ bp := fun h e => by
                obtain ⟨q, rfl⟩ := O.form (List.length_pos_iff.2 h)
                have h7 := nd_app (L := [_, _, _, _]) H0.nd (x := (bp, _)) (List.mem_of_getElem? (i := 2) rfl)
                exact h7 (by show bp ∈ [q]; rw [List.mem_singleton]; exact e.symm)
              have hex := fill_less (g := g) (x := x) (x' := x') (u := f0) (v := tv) (m := mm) (by omega) (by omega) (by rw [← hov f0 hf0s.1]; omega) (by rw [← hov tv htv]; omega) hov'
              refine at_block (at_then ?_)
              clear hlt hlt2 q1 hpe hall hxb hovb hsrc hsnd hsm hds hlow hto hfit hpot hw DN BY BY' hby hwb0 hwb2 hsd0 hcb q2 q3 q4 HJ
              refine W_tseq 10 mixed_SeW (by kernel_rfl) rfl rfl ?_
              first | refine q_ldb rfl ag_168_SeW rfl (by rintro _ rfl; exact H.drew) (by first | exact at0 | exact at1 | exact at2 | exact at3 | exact at4 | exact at5 | exact at6 | exact at7 | exact at8 | exact at9) rfl ?_ | refine q_ld rfl ag_168_SeW rfl (by rintro _ rfl; exact ((by rw [cell_bl hx.1]; rfl))) ?_ | refine q_ld rfl ag_168_SeW rfl (by rintro _ rfl; exact ((by rw [cell_bl hx.2.1]; rfl))) ?_ | refine q_ld rfl ag_168_SeW rfl (by rintro _ rfl; exact ((by rw [cell_bl hx.2.2.1]; rfl))) ?_ | refine q_ld rfl ag_168_SeW rfl (by rintro _ rfl; exact (((tab_rd hx.2.2.2).fld hgxa rfl (j := 0) rfl))) ?_ | refine q_ld rfl ag_168_SeW rfl (by rintro _ rfl; exact (((tab_rd (H.drew.get at9)).fld hgof rfl (j := 0) rfl))) ?_
              refine q_nilCheck rfl rfl ?_
              refine q_fieldAddr rfl fo_170_3_SeW rfl ?_
              first | refine q_ldb rfl ag_29_SeW rfl (by rintro _ rfl; exact H.drew) (by first | exact at0 | exact at1 | exact at2 | exact at3 | exact at4 | exact at5 | exact at6 | exact at7 | exact at8 | exact at9) rfl ?_ | refine q_ld rfl ag_29_SeW rfl (by rintro _ rfl; exact ((by rw [cell_bl hx.1]; rfl))) ?_ | refine q_ld rfl ag_29_SeW rfl (by rintro _ rfl; exact ((by rw [cell_bl hx.2.1]; rfl))) ?_ | refine q_ld rfl ag_29_SeW rfl (by rintro _ rfl; exact ((by rw [cell_bl hx.2.2.1]; rfl))) ?_ | refine q_ld rfl ag_29_SeW rfl (by rintro _ rfl; exact (((tab_rd hx.2.2.2).fld hgxa rfl (j := 0) rfl))) ?_ | refine q_ld rfl ag_29_SeW rfl (by rintro _ rfl; exact (((tab_rd (H.drew.get at9)).fld hgof rfl (j := 0) rfl))) ?_
              first | refine q_ldb rfl ag_3_SeW rfl (by rintro _ rfl; exact H.drew) (by first | exact at0 | exact at1 | exact at2 | exact at3 | exact at4 | exact at5 | exact at6 | exact at7 | exact at8 | exact at9) rfl ?_ | refine q_ld rfl ag_3_SeW rfl (by rintro _ rfl; exact ((by rw [cell_bl hx.1]; rfl))) ?_ | refine q_ld rfl ag_3_SeW rfl (by rintro _ rfl; exact ((by rw [cell_bl hx.2.1]; rfl))) ?_ | refine q_ld rfl ag_3_SeW rfl (by rintro _ rfl; exact ((by rw [cell_bl hx.2.2.1]; rfl))) ?_ | refine q_ld rfl ag_3_SeW rfl (by rintro _ rfl; exact (((tab_rd hx.2.2.2).fld hgxa rfl (j := 0) rfl))) ?_ | refine q_ld rfl ag_3_SeW rfl (by rintro _ rfl; exact (((tab_rd (H.drew.get at9)).fld hgof rfl (j := 0) rfl))) ?_
              first | refine q_indexRd (tab_rd (H.get at9)) rfl el_29_SeW sz_2_SeW rfl rfl (by omega) (by omega) (by first | rfl | omega) ?_ | refine q_indexAddr rfl el_29_SeW sz_2_SeW rfl rfl (by omega) (by omega) ?_
              first | refine q_ldb rfl ag_2_SeW rfl (by rintro _ rfl; exact H.drew) (by first | exact at0 | exact at1 | exact at2 | exact at3 | exact at4 | exact at5 | exact at6 | exact at7 | exact at8 | exact at9) rfl ?_ | refine q_ld rfl ag_2_SeW rfl (by rintro _ rfl; exact ((by rw [cell_bl hx.1]; rfl))) ?_ | refine q_ld rfl ag_2_SeW rfl (by rintro _ rfl; exact ((by rw [cell_bl hx.2.1]; rfl))) ?_ | refine q_ld rfl ag_2_SeW rfl (by rintro _ rfl; exact ((by rw [cell_bl hx.2.2.1]; rfl))) ?_ | refine q_ld rfl ag_2_SeW rfl (by rintro _ rfl; exact (((tab_rd hx.2.2.2).fld hgxa rfl (j := 0) rfl))) ?_ | refine q_ld rfl ag_2_SeW rfl (by rintro _ rfl; exact (((tab_rd (H.drew.get at9)).fld hgof rfl (j := 0) rfl))) ?_
              first | refine q_ldb rfl ag_2_SeW rfl (by rintro _ rfl; exact H.drew) (by first | exact at0 | exact at1 | exact at2 | exact at3 | exact at4 | exact at5 | exact at6 | exact at7 | exact at8 | exact at9) rfl ?_ | refine q_ld rfl ag_2_SeW rfl (by rintro _ rfl; exact ((by rw [cell_bl hx.1]; rfl))) ?_ | refine q_ld rfl ag_2_SeW rfl (by rintro _ rfl; exact ((by rw [cell_bl hx.2.1]; rfl))) ?_ | refine q_ld rfl ag_2_SeW rfl (by rintro _ rfl; exact ((by rw [cell_bl hx.2.2.1]; rfl))) ?_ | refine q_ld rfl ag_2_SeW rfl (by rintro _ rfl; exact (((tab_rd hx.2.2.2).fld hgxa rfl (j := 0) rfl))) ?_ | refine q_ld rfl ag_2_SeW rfl (by rintro _ rfl; exact (((tab_rd (H.drew.get at9)).fld hgof rfl (j := 0) rfl))) ?_
              refine q_sub_i64 rfl rfl rfl (by omega) (by omega) ?_
              first | refine q_indexRd (tab_rd (H.get at9)) rfl el_29_SeW sz_2_SeW rfl rfl (by omega) (by omega) (by first | rfl | omega) ?_ | refine q_indexAddr rfl el_29_SeW sz_2_SeW rfl rfl (by omega) (by omega) ?_
              refine q_nil ?_
              replace H := H.drew
              refine op_str f0 (fun z => .int .i64 (upd ov f0 (ov f0 - mm) z)) (.int _ _) rfl sz_2_SeW rfl rfl rfl H at9 (by simp) hf0s.1 (by rw [upd_same]) (fun z _ hz => by (try dsimp only); rw [upd_ne hz]) ?_
              rintro w H
              refine op_nil (at_then ?_)
              refine W_tseq 10 mixed_SeW (by kernel_rfl) rfl rfl ?_
              first | refine q_ldb rfl ag_168_SeW rfl (by rintro _ rfl; exact H.drew) (by first | exact at0 | exact at1 | exact at2 | exact at3 | exact at4 | exact at5 | exact at6 | exact at7 | exact at8 | exact at9) rfl ?_ | refine q_ld rfl ag_168_SeW rfl (by rintro _ rfl; exact (((tab_rd (H.drew.get at9)).fld hgo2 rfl (j := 0) rfl))) ?_
              refine q_nilCheck rfl rfl ?_
              refine q_fieldAddr rfl fo_170_3_SeW rfl ?_
              first | refine q_ldb rfl ag_29_SeW rfl (by rintro _ rfl; exact H.drew) (by first | exact at0 | exact at1 | exact at2 | exact at3 | exact at4 | exact at5 | exact at6 | exact at7 | exact at8 | exact at9) rfl ?_ | refine q_ld rfl ag_29_SeW rfl (by rintro _ rfl; exact (((tab_rd (H.drew.get at9)).fld hgo2 rfl (j := 0) rfl))) ?_
              refine q_move rfl (.int _ _) rfl ?_
              first | refine q_indexRd (tab_rd (H.get at9)) rfl el_29_SeW sz_2_SeW rfl rfl (by omega) (by omega) (by first | rfl | omega) ?_ | refine q_indexAddr rfl el_29_SeW sz_2_SeW rfl rfl (by omega) (by omega) ?_
              first | refine q_ldb rfl ag_2_SeW rfl (by rintro _ rfl; exact H.drew) (by first | exact at0 | exact at1 | exact at2 | exact at3 | exact at4 | exact at5 | exact at6 | exact at7 | exact at8 | exact at9) rfl ?_ | refine q_ld rfl ag_2_SeW rfl (by rintro _ rfl; exact (((tab_rd (H.drew.get at9)).fld hgo2 rfl (j := 0) rfl))) ?_
              first | refine q_ldb rfl ag_2_SeW rfl (by rintro _ rfl; exact H.drew) (by first | exact at0 | exact at1 | exact at2 | exact at3 | exact at4 | exact at5 | exact at6 | exact at7 | exact at8 | exact at9) rfl ?_ | refine q_ld rfl ag_2_SeW rfl (by rintro _ rfl; exact (((tab_rd (H.drew.get at9)).fld hgo2 rfl (j := 0) rfl))) ?_
              refine q_add_i64 rfl rfl rfl (by omega) (by omega) ?_
              first | refine q_indexRd (tab_rd (H.get at9)) rfl el_29_SeW sz_2_SeW rfl rfl (by omega) (by omega) (by first | rfl | omega) ?_ | refine q_indexAddr rfl el_29_SeW sz_2_SeW rfl rfl (by omega) (by omega) ?_
              refine q_nil ?_
              replace H := H.drew
              refine op_str tv (fun z => .int .i64 (upd (upd ov f0 (ov f0 - mm)) tv (ov tv + mm) z)) (.int _ _) rfl sz_2_SeW rfl rfl rfl H at9 (by simp) htv (by rw [upd_same]) (fun z _ hz => by (try dsimp only); rw [upd_ne hz]) ?_
              rintro w H
              refine op_nil (at_then ?_)
              refine W_tseq 6 mixed_SeW (by kernel_rfl) rfl rfl ?_
              first | refine q_ldb rfl ag_168_SeW rfl (by rintro _ rfl; exact H.drew) (by first | exact at0 | exact at1 | exact at2 | exact at3 | exact at4 | exact at5 | exact at6 | exact at7 | exact at8 | exact at9) rfl ?_ | refine q_ld rfl ag_168_SeW rfl (by rintro _ rfl; exact (((tab_rd (H.drew.get at4)).fld hgdt rfl (j := 0) rfl))) ?_
              refine q_move rfl (.slice _ _ _) rfl ?_
              refine q_move rfl (.slice _ _ _) rfl ?_
              refine q_move rfl (.int _ _) rfl ?_
              first | refine q_indexRd (tab_rd (H.get at4)) rfl el_29_SeW sz_2_SeW rfl rfl (by omega) (by omega) (by first | rfl | omega) ?_ | refine q_indexAddr rfl el_29_SeW sz_2_SeW rfl rfl (by omega) (by omega) ?_
              first | refine q_ldb rfl ag_2_SeW rfl (by rintro _ rfl; exact H.drew) (by first | exact at0 | exact at1 | exact at2 | exact at3 | exact at4 | exact at5 | exact at6 | exact at7 | exact at8 | exact at9) rfl ?_ | refine q_ld rfl ag_2_SeW rfl (by rintro _ rfl; exact (((tab_rd (H.drew.get at4)).fld hgdt rfl (j := 0) rfl))) ?_
              refine q_nil ?_
              replace H := H.drew
              have Hp := H.perm (List.perm_middle (l₁ := [_, _, _, _, _, _, _, _]) (l₂ := _ :: _))
              refine op_call rfl ca_171_SeW (raise_ok (H.get at6) (H.get at8) (H.get at4) (H.ne at6 at8 (by decide)) (H.ne at4 at8 (by decide)) (by omega) ⟨by omega, by omega⟩ hpf) rfl ?_
              rintro rv w ⟨rfl, H2⟩
              replace H := Ctx.back (L1 := [_]) (L2 := _ :: _ :: _ :: _ :: _ :: _ :: _ :: _ :: _ :: _) Hp H2
              refine op_nil (at_then ?_)
              refine W_rseq ?_
              first | refine op_ldb rfl ag_168_SeW rfl H (by first | exact at0 | exact at1 | exact at2 | exact at3 | exact at4 | exact at5 | exact at6 | exact at7 | exact at8 | exact at9) rfl ?_ | refine op_ld rfl ag_168_SeW rfl (((tab_rd (H.drew.get at4)).fld hgdt rfl (j := 0) rfl)) ?_
              refine op_call rfl ca_172_SeW (narrow_ok (H.get at7) (hRe fun y hy => H.blk y (List.mem_append_right [_, _, _, _, _, _, _, _, _, _] hy)) hne0 (H.get at8) (H.get at0) (H.ne at7 at0 (by decide)) (H.ne at8 at0 (by decide)) hw' (by rw [← hg]; exact FF)) rfl ?_
              rintro rv w ⟨rfl, p', FF2, hpb', H2⟩
              replace H := Ctx.back (L1 := [_]) (L2 := _ :: _ :: _ :: _ :: _ :: _ :: _ :: _ :: _ :: _) H H2
              refine op_nil (at_then ?_)
              refine W_rseq ?_
              first | refine op_ldb rfl ag_168_SeW rfl H (by first | exact at0 | exact at1 | exact at2 | exact at3 | exact at4 | exact at5 | exact at6 | exact at7 | exact at8 | exact at9) rfl ?_ | refine op_ld rfl ag_168_SeW rfl (((tab_rd (H.drew.get at4)).fld hgdt rfl (j := 0) rfl)) ?_
              refine op_nilCheck rfl rfl ?_
              refine op_fieldAddr rfl fo_170_4_SeW rfl ?_
              first | refine op_ldb rfl ag_3_SeW rfl H (by first | exact at0 | exact at1 | exact at2 | exact at3 | exact at4 | exact at5 | exact at6 | exact at7 | exact at8 | exact at9) rfl ?_ | refine op_ld rfl ag_3_SeW rfl (((tab_rd (H.drew.get at4)).fld hgdt rfl (j := 0) rfl)) ?_
              refine op_addw_i64 rfl rfl rfl ?_
              intro kk2
              refine op_nilCheck rfl rfl ?_
              refine op_fieldAddr rfl fo_170_4_SeW rfl ?_
              refine op_stb (.int _ _) rfl sz_3_SeW rfl rfl rfl H (by first | exact at0 | exact at1 | exact at2 | exact at3 | exact at4 | exact at5 | exact at6 | exact at7 | exact at8 | exact at9) (by first | decide | (simp; done) | (simp; omega)) ?_
              rintro w H
              refine op_nil (at_then ?_)
              refine W_rseq ?_
              refine op_assign rfl (.bool _) rfl ?_
              refine op_nil (at_then ?_)
              refine W_ret (leaveM1 (v := (.bool _)) rfl rfl ?_)
              refine marks_two (H.get at1) (H.get at2) (H.ne at2 at1 (by decide)) rfl fun wF hxF => ?_
              have HF := (H.perm (List.perm_middle (l₁ := [_, _, _, _, _, _, _, _]) (l₂ := _ :: _)).symm)
              rw [← hg] at FF2
              refine ⟨true, x', p', upd (upd ov f0 (ov f0 - mm)) tv (ov tv + mm), kk2, rfl, (HF.drop 6).step hxF (fun y hy => nd_app2 (L := [_, _]) HF.nd (List.mem_of_mem_drop (i := 4) hy)) (fun z hz => .inr ?_), FF2, fun z hz => ?_, hpb', (fun h => by cases h), fun _ => by omega⟩
              · simp only [List.mem_cons, List.not_mem_nil, or_false] at hz
                omega
              · rw [hov', ← hov z hz]
                by_cases e1 : z = tv
                · subst e1
                  rw [upd_same, one_t rfl, one_f (Ne.symm hne)]; omega
                · rw [upd_ne e1, one_f (Ne.symm e1)]
                  by_cases e2 : z = f0
                  · subst e2
                    rw [upd_same, one_t rfl]; omega
                  · rw [upd_ne e2, one_f (Ne.symm e2)]; omega

end Go.Proofs.YtapphbmlkdhnmaaGreat
