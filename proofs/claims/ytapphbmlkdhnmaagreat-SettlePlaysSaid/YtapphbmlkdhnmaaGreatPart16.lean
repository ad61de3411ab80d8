/- Part 16 of the proof. -/
import Derived.Test.YtapphbmlkdhnmaaGreatPart15
/- A round's edges, one by one. -/
namespace Go.Proofs.YtapphbmlkdhnmaaGreat
open Go.GV
theorem ag_23_SpA : aggB Tryz.prog 23 = some false := by kernel_rfl
theorem ag_29_SpA : aggB Tryz.prog 29 = some false := by kernel_rfl
theorem ag_2_SpA : aggB Tryz.prog 2 = some false := by kernel_rfl
theorem ag_3_SpA : aggB Tryz.prog 3 = some false := by kernel_rfl
theorem ag_4_SpA : aggB Tryz.prog 4 = some false := by kernel_rfl
theorem ag_62_SpA : aggB Tryz.prog 62 = some true := by kernel_rfl
theorem el_23_SpA : elemT Tryz.prog 23 = some 62 := by kernel_rfl
theorem el_29_SpA : elemT Tryz.prog 29 = some 2 := by kernel_rfl
theorem fo_62_1_SpA : fieldO Tryz.prog 62 1 = some 1 := by kernel_rfl
theorem fo_62_2_SpA : fieldO Tryz.prog 62 2 = some 2 := by kernel_rfl
theorem fo_62_3_SpA : fieldO Tryz.prog 62 3 = some 3 := by kernel_rfl
theorem fo_62_4_SpA : fieldO Tryz.prog 62 4 = some 4 := by kernel_rfl
theorem pl_92_SpA : placesB Tryz.prog 92 = some [(0, 1), (1, 1), (2, 1), (3, 1)] := by kernel_rfl
theorem sz_2_SpA : tsize Tryz.prog 2 = some 1 := by kernel_rfl
theorem sz_62_SpA : tsize Tryz.prog 62 = some 7 := by kernel_rfl
theorem zc_62_SpA : zcells Tryz.prog 62 = some ([.int .u64 0, .int .i64 0, .int .i64 0, .int .i64 0, .int .i64 0, .int .i64 0, .bool false]) := by kernel_rfl
theorem zc_92_SpA : zcells Tryz.prog 92 = some ([.int .i64 0, .int .i64 0, .int .i64 0, .int .i64 0]) := by kernel_rfl
attribute [local irreducible] Wops W Wq Wt

def dueE (d : Du) : Ed := ⟨d.fr, d.to, d.am, -d.we⟩
def hubE (rs : List Int) : List Ed := (List.range (2 * rs.length)).map fun j => if j % 2 = 0 then ⟨rs.length, (j / 2 : Nat), rs.getD (j / 2) 0, 0⟩ else ⟨(j / 2 : Nat), rs.length, 4503599627370496, 0⟩
def roundE (rs : List Int) (ds : List Du) (net : Bool) : List Ed := ds.map dueE ++ if net = true then [] else hubE rs
theorem hub_even {rs : List Int} {i : Nat} {x : Int} (h : rs[i]? = some x) : (hubE rs)[2 * i]? = some ⟨rs.length, i, x, 0⟩ := by
  have hl := get_lt h
  unfold hubE
  rw [range_get (by omega), if_pos (by omega), show 2 * i / 2 = i by omega, getD_of h]
theorem hub_odd {rs : List Int} {i : Nat} (h : i < rs.length) : (hubE rs)[2 * i + 1]? = some ⟨i, rs.length, 4503599627370496, 0⟩ := by
  unfold hubE
  rw [range_get (by omega), if_neg (by omega), show (2 * i + 1) / 2 = i by omega]
theorem hub_len (rs : List Int) : (hubE rs).length = 2 * rs.length := by unfold hubE; simp
def edV (e : Ed) : List Value := [.agg (encE e).toArray]
structure RndK (b1 b2 b3 : Nat) (a b : Option Addr) (n c m e : Nat) (rs : List Int) (ds : List Du) (net : Bool) (w : World) : Prop where
  h1 : w.heap[b1]? = some (Bl 23 [.slice b m e])
  h2 : w.heap[b2]? = some (Bl 4 [.bool net])
  h3 : w.heap[b3]? = some (Bl 29 [.slice a n c])
  R : Rd w a 1 I1 rs
  Rd' : Rd w b 7 encD ds
set_option maxRecDepth 20000 in
set_option maxHeartbeats 4000000 in
theorem redges1_ok {b1 b2 b3 : Nat} {a b : Option Addr} {n c m e : Nat} {rs : List Int} {ds : List Du} {net : Bool} (hn : rs.length = n) (hm : ds.length = m) (hn2 : n ≤ 1000000) (hm2 : m ≤ 1000000) (hw : ∀ d ∈ ds, -1000000000 ≤ d.we ∧ d.we ≤ 1000000000) :
    IterOk Tryz.prog 162 #[ptr b1, ptr b2, ptr b3] [] (fun _ w => RndK b1 b2 b3 a b n c m e rs ds net w) ((roundE rs ds net).map edV) := by
  subst hn hm
  intro l w J E hJ0 hJs hEs hK hY
  obtain ⟨M0, hJ0⟩ := hJ0
  obtain ⟨w0, rfl⟩ : ∃ w0, w0 = w := ⟨_, rfl⟩
  have hat1 : ∀ (i : Nat) (d : Du), ds[i]? = some d → ((roundE rs ds net).map edV)[i]? = some (edV (dueE d)) := fun i d hd => by
    unfold roundE
    have hl := get_lt hd
    rw [List.getElem?_map, List.getElem?_append_left (by rw [List.length_map]; exact hl), List.getElem?_map, hd]; rfl
  have hat2 : net = false → ∀ (j : Nat) (x : Ed), (hubE rs)[j]? = some x → ((roundE rs ds net).map edV)[ds.length + j]? = some (edV x) := fun h0 j x hx => by
    unfold roundE
    rw [h0, List.getElem?_map, List.getElem?_append_right (by rw [List.length_map]; omega), List.length_map, show ds.length + j - ds.length = j by omega]
    show ((hubE rs)[j]?).map edV = _
    rw [hx]; rfl
  have hlen : ((roundE rs ds net).map edV).length = ds.length + if net = true then 0 else 2 * rs.length := by
    unfold roundE
    rw [List.length_map, List.length_append, List.length_map]
    split
    · rfl
    · rw [hub_len]
  refine ret_of_W (fn := Tryz.f162) Tryz.func162 rfl [.func (.yield l) #[] #[], .pointer (some ⟨b1, 0, none⟩), .pointer (some ⟨b2, 0, none⟩), .pointer (some ⟨b3, 0, none⟩)] rfl (by kernel_rfl) ?_
  have K0 := (hK _ _ _ hJ0).2
  have H := Ctx.start w0 []
  refine W_seq ?_
  refine W_rseq ?_
  first | refine op_ldb rfl ag_23_SpA rfl H (by first | exact at0 | exact at1 | exact at2 | exact at3 | exact at4 | exact at5 | exact at6 | exact at7 | exact at8 | exact at9) rfl ?_ | refine op_ld rfl ag_23_SpA rfl ((by rw [cell_bl K0.h1]; rfl)) ?_
  refine op_len rfl el_23_SpA rfl ?_
  refine op_move rfl (.int _ _) rfl ?_
  refine op_nil (at_then ?_)
  refine W_block ?_
  refine W_loop 1073737792 (α := Nat) (fun i => [(12, .int .i64 (i : Int))]) (fun i w' => i ≤ ds.length ∧ ∃ M, J i M w') (fun i => ds.length - i) 0 rfl ?_ ?_ ?_
  · exact ⟨rfl, trivial⟩
  · exact ⟨Nat.zero_le _, M0, hJ0⟩
  · clear H
    rintro i j w ⟨hi, M, hJ⟩
    have KK := (hK _ _ _ hJ).2
    have R := KK.Rd'
    obtain ⟨w1, rfl⟩ : ∃ w1, w1 = w := ⟨_, rfl⟩
    have H := Ctx.start w1 []
    refine W_rseq ?_
    refine op_lss rfl rfl rfl ?_
    refine op_nil (at_then ?_)
    refine W_seq ?_
    refine W_cond _ rfl ?_ ?_
    · intro h1
      replace h1 := dec_t h1
      obtain ⟨d, hd⟩ := get_some (l := ds) (i := i) (by omega)
      have hwd := hw d (List.mem_of_getElem? hd)
      refine W_skip (at_then ?_)
      refine W_seq ?_
      refine W_block ?_
      refine W_rseq ?_
      first | refine op_indexRd R rfl el_23_SpA sz_62_SpA rfl rfl (by omega) (by omega) (by first | rfl | omega) ?_ | refine op_indexAddr rfl el_23_SpA sz_62_SpA rfl rfl (by omega) (by omega) ?_
      first | refine op_ldN _ rfl ag_62_SpA sz_62_SpA rfl rfl ((R.ext0 H.ext).row hd rfl) ?_ | refine op_ldbN rfl ag_62_SpA sz_62_SpA rfl H (by first | exact at0 | exact at1 | exact at2 | exact at3 | exact at4 | exact at5 | exact at6 | exact at7 | exact at8 | exact at9) rfl ?_
      refine op_alloc rfl zc_62_SpA H ?_
      rintro b6 w - H
      refine op_stb0 rfl sz_62_SpA rfl rfl rfl (by first | exact encD_one _ | simp [oneCell]) H (by first | exact at0 | exact at1 | exact at2 | exact at3 | exact at4 | exact at5 | exact at6 | exact at7 | exact at8 | exact at9) rfl ?_
      rintro w H
      refine op_nil (at_then ?_)
      refine W_rseq ?_
      refine op_move rfl (.func _ _ _) rfl ?_
      refine op_fieldAddr rfl fo_62_1_SpA rfl ?_
      first | refine op_ldb rfl ag_3_SpA rfl H (by first | exact at0 | exact at1 | exact at2 | exact at3 | exact at4 | exact at5 | exact at6 | exact at7 | exact at8 | exact at9) rfl ?_ | refine op_ld rfl ag_3_SpA rfl ((by rw [cell_bl K0.h1]; rfl)) ?_
      refine op_fieldAddr rfl fo_62_2_SpA rfl ?_
      first | refine op_ldb rfl ag_3_SpA rfl H (by first | exact at0 | exact at1 | exact at2 | exact at3 | exact at4 | exact at5 | exact at6 | exact at7 | exact at8 | exact at9) rfl ?_ | refine op_ld rfl ag_3_SpA rfl ((by rw [cell_bl K0.h1]; rfl)) ?_
      refine op_fieldAddr rfl fo_62_3_SpA rfl ?_
      first | refine op_ldb rfl ag_2_SpA rfl H (by first | exact at0 | exact at1 | exact at2 | exact at3 | exact at4 | exact at5 | exact at6 | exact at7 | exact at8 | exact at9) rfl ?_ | refine op_ld rfl ag_2_SpA rfl ((by rw [cell_bl K0.h1]; rfl)) ?_
      refine op_fieldAddr rfl fo_62_4_SpA rfl ?_
      first | refine op_ldb rfl ag_2_SpA rfl H (by first | exact at0 | exact at1 | exact at2 | exact at3 | exact at4 | exact at5 | exact at6 | exact at7 | exact at8 | exact at9) rfl ?_ | refine op_ld rfl ag_2_SpA rfl ((by rw [cell_bl K0.h1]; rfl)) ?_
      refine op_neg_i64 rfl rfl (by omega) (by omega) ?_
      refine op_buildS (encE (dueE d)) rfl pl_92_SpA zc_92_SpA (by kernel_rfl) ?_
      have hY1 := hY i (edV (dueE d)) M _ (hat1 i d hd) (hJs _ _ _ _ hJ H.ext)
      refine op_yield (vs := edV (dueE d)) rfl rfl hY1 rfl ?_
      rintro u w hu
      obtain ⟨bb, rfl, hu1, hu0⟩ : ∃ bb, u = .bool bb ∧ (bb = true → ∃ M, J (i + 1) M w) ∧ (bb = false → E w) := hu.elim (fun h => ⟨true, h.1, fun _ => let ⟨M', h1, _⟩ := h.2; ⟨M', h1⟩, fun h => by cases h⟩) (fun h => ⟨false, h.1, (fun h => by cases h), fun _ => h.2⟩)
      refine op_not rfl rfl ?_
      refine op_nil (at_then ?_)
      refine W_cond _ rfl ?_ ?_
      · intro h2
        replace h2 := nvar_t h2
        refine W_ret (ret_block (ret_then (ret_then (ret_block (ret_then (leave0 rfl rfl ?_))))))
        exact .inr (hu0 (by simpa using h2))
      · intro h2
        replace h2 := nvar_f h2
        refine W_skip (at_block (at_then ?_))
        refine W_region ?_
        refine op_add_i64 rfl rfl rfl (by omega) (by omega) ?_
        refine op_move rfl (.int _ _) rfl ?_
        refine op_nil (at_then ?_)
        exact ⟨i + 1, rfl, ⟨rfl, trivial⟩, ⟨by omega, hu1 (by simpa using h2)⟩, by omega⟩
    · intro h1
      replace h1 := dec_f h1
      obtain rfl : i = ds.length := by omega
      refine W_exit (exit_then (exit_then (exit_here (at_then ?_))))
      refine W_seq ?_
      refine W_rseq ?_
      first | refine op_ldb rfl ag_4_SpA rfl H (by first | exact at0 | exact at1 | exact at2 | exact at3 | exact at4 | exact at5 | exact at6 | exact at7 | exact at8 | exact at9) rfl ?_ | refine op_ld rfl ag_4_SpA rfl ((by rw [cell_bl K0.h1]; rfl)) ?_ | refine op_ld rfl ag_4_SpA rfl ((H.old0 (by rw [cell_bl KK.h2]; rfl))) ?_ | refine op_ld rfl ag_4_SpA rfl ((H.old0 (by rw [cell_bl KK.h3]; rfl))) ?_
      refine op_nil (at_then ?_)
      refine W_cond _ rfl ?_ ?_
      · intro h2
        refine W_ret (ret_then (leave0 rfl rfl ?_))
        exact .inl ⟨M, by rw [hlen, if_pos h2]; exact hJ⟩
      · intro h2
        refine W_skip (at_then ?_)
        refine W_rseq ?_
        first | refine op_ldb rfl ag_29_SpA rfl H (by first | exact at0 | exact at1 | exact at2 | exact at3 | exact at4 | exact at5 | exact at6 | exact at7 | exact at8 | exact at9) rfl ?_ | refine op_ld rfl ag_29_SpA rfl ((by rw [cell_bl K0.h1]; rfl)) ?_ | refine op_ld rfl ag_29_SpA rfl ((H.old0 (by rw [cell_bl KK.h2]; rfl))) ?_ | refine op_ld rfl ag_29_SpA rfl ((H.old0 (by rw [cell_bl KK.h3]; rfl))) ?_
        refine op_len rfl el_29_SpA rfl ?_
        refine op_assign rfl (.int _ _) rfl ?_
        refine op_nil (at_then ?_)
        refine W_rseq ?_
        first | refine op_ldb rfl ag_29_SpA rfl H (by first | exact at0 | exact at1 | exact at2 | exact at3 | exact at4 | exact at5 | exact at6 | exact at7 | exact at8 | exact at9) rfl ?_ | refine op_ld rfl ag_29_SpA rfl ((by rw [cell_bl K0.h1]; rfl)) ?_ | refine op_ld rfl ag_29_SpA rfl ((H.old0 (by rw [cell_bl KK.h2]; rfl))) ?_ | refine op_ld rfl ag_29_SpA rfl ((H.old0 (by rw [cell_bl KK.h3]; rfl))) ?_
        refine op_len rfl el_29_SpA rfl ?_
        refine op_move rfl (.int _ _) rfl ?_
        refine op_nil (at_then ?_)
        refine W_block ?_
        refine W_loop 72057559678190336 (α := Nat) (fun i => [(35, .int .i64 (i : Int))]) (fun i w' => i ≤ rs.length ∧ ∃ M, J (ds.length + 2 * i) M w') (fun i => rs.length - i) 0 rfl ?_ ?_ ?_
        · exact ⟨rfl, trivial⟩
        · exact ⟨Nat.zero_le _, M, hJ⟩
        · clear H
          rintro i j2 w ⟨hi, M, hJ⟩
          have KK := (hK _ _ _ hJ).2
          have R := KK.R
          obtain ⟨w1, rfl⟩ : ∃ w1, w1 = w := ⟨_, rfl⟩
          have H := Ctx.start w1 []
          refine W_rseq ?_
          refine op_lss rfl rfl rfl ?_
          refine op_nil (at_then ?_)
          refine W_seq ?_
          refine W_cond _ rfl ?_ ?_
          · intro h3
            replace h3 := dec_t h3
            obtain ⟨x, hx⟩ := get_some (l := rs) (i := i) (by omega)
            refine W_skip (at_then ?_)
            refine W_seq ?_
            refine W_block ?_
            refine W_rseq ?_
            refine op_move rfl (.int _ _) rfl ?_
            first | refine op_indexRd R rfl el_29_SpA sz_2_SpA rfl rfl (by omega) (by omega) (by first | rfl | omega) ?_ | refine op_indexRd R rfl el_29_SpA sz_2_SpA rfl rfl (by omega) (by omega) (by first | rfl | omega) ?_ | refine op_indexAddr rfl el_29_SpA sz_2_SpA rfl rfl (by omega) (by omega) ?_
            first | refine op_ldb rfl ag_2_SpA rfl H (by first | exact at0 | exact at1 | exact at2 | exact at3 | exact at4 | exact at5 | exact at6 | exact at7 | exact at8 | exact at9) rfl ?_ | refine op_ld rfl ag_2_SpA rfl ((by rw [cell_bl K0.h1]; rfl)) ?_ | refine op_ld rfl ag_2_SpA rfl ((H.old0 (by rw [cell_bl KK.h2]; rfl))) ?_ | refine op_ld rfl ag_2_SpA rfl ((H.old0 (by rw [cell_bl KK.h3]; rfl))) ?_ | refine op_ld rfl ag_2_SpA rfl (((R.ext0 H.ext).fld hx rfl (j := 0) rfl)) ?_
            refine op_assign rfl (.int _ _) rfl ?_
            refine op_assign rfl (.int _ _) rfl ?_
            refine op_nil (at_then ?_)
            refine W_rseq ?_
            refine op_move rfl (.func _ _ _) rfl ?_
            refine op_move rfl (.int _ _) rfl ?_
            refine op_move rfl (.int _ _) rfl ?_
            refine op_move rfl (.int _ _) rfl ?_
            refine op_buildS (encE ⟨rs.length, i, x, 0⟩) rfl pl_92_SpA zc_92_SpA (by kernel_rfl) ?_
            have hY1 := hY _ (edV ⟨rs.length, i, x, 0⟩) M _ (hat2 h2 _ _ (hub_even hx)) (hJs _ _ _ _ hJ H.ext)
            refine op_yield (vs := edV ⟨rs.length, i, x, 0⟩) rfl rfl hY1 rfl ?_
            rintro u w hu
            clear H
            obtain ⟨bb, rfl, hu1, hu0⟩ : ∃ bb, u = .bool bb ∧ (bb = true → ∃ M, J (ds.length + 2 * i + 1) M w) ∧ (bb = false → E w) := hu.elim (fun h => ⟨true, h.1, fun _ => let ⟨M', h1, _⟩ := h.2; ⟨M', h1⟩, fun h => by cases h⟩) (fun h => ⟨false, h.1, (fun h => by cases h), fun _ => h.2⟩)
            refine op_not rfl rfl ?_
            refine op_move rfl (.bool _) rfl ?_
            refine Wops_split 47 rfl ?_ ?_
            · intro h4
              replace h4 := nvar_t h4
              refine op_skip rfl ?_
              refine op_skip rfl ?_
              refine op_skip rfl ?_
              refine op_skip rfl ?_
              refine op_skip rfl ?_
              refine op_skip rfl ?_
              refine op_pick1 rfl rfl (.bool _) rfl ?_
              refine op_nil (at_then ?_)
              refine W_cond1 rfl ?_
              refine W_ret (ret_block (ret_then (ret_then (ret_block (leave0 rfl rfl ?_)))))
              exact .inr (hu0 (by simpa using h4))
            · intro h4
              replace h4 := nvar_f h4
              refine op_move rfl (.func _ _ _) rfl ?_
              refine op_move rfl (.int _ _) rfl ?_
              refine op_move rfl (.int _ _) rfl ?_
              refine op_buildS (encE ⟨i, rs.length, 4503599627370496, 0⟩) rfl pl_92_SpA zc_92_SpA (by kernel_rfl) ?_
              obtain ⟨M2, hJ2⟩ : ∃ M, J (ds.length + 2 * i + 1) M w := hu1 (by simp_all)
              have hY2 := hY _ (edV ⟨i, rs.length, 4503599627370496, 0⟩) M2 _ (hat2 h2 _ _ (hub_odd (by omega))) hJ2
              refine op_yield (vs := edV ⟨i, rs.length, 4503599627370496, 0⟩) rfl rfl hY2 rfl ?_
              rintro u w hu
              obtain ⟨bb, rfl, hv1, hv0⟩ : ∃ bb, u = .bool bb ∧ (bb = true → ∃ M, J (ds.length + 2 * i + 1 + 1) M w) ∧ (bb = false → E w) := hu.elim (fun h => ⟨true, h.1, fun _ => let ⟨M', h1, _⟩ := h.2; ⟨M', h1⟩, fun h => by cases h⟩) (fun h => ⟨false, h.1, (fun h => by cases h), fun _ => h.2⟩)
              refine op_not rfl rfl ?_
              refine op_pick0 rfl rfl (.bool _) rfl ?_
              refine op_nil (at_then ?_)
              refine W_cond _ rfl ?_ ?_
              · intro h5
                replace h5 := nvar_t h5
                refine W_ret (ret_block (ret_then (ret_then (ret_block (leave0 rfl rfl ?_)))))
                exact .inr (hv0 (by simpa using h5))
              · intro h5
                replace h5 := nvar_f h5
                refine W_skip (at_block (at_then ?_))
                refine W_region ?_
                refine op_add_i64 rfl rfl rfl (by omega) (by omega) ?_
                refine op_move rfl (.int _ _) rfl ?_
                refine op_nil (at_then ?_)
                exact ⟨i + 1, rfl, ⟨rfl, trivial⟩, ⟨by omega, by rw [show ds.length + 2 * (i + 1) = ds.length + 2 * i + 1 + 1 by omega]; exact hv1 (by simpa using h5)⟩, by omega⟩
          · intro h3
            replace h3 := dec_f h3
            refine W_exit (exit_then (exit_then (exit_here (leave0n rfl rfl ?_))))
            obtain rfl : i = rs.length := by omega
            exact .inl ⟨M, by rw [hlen, if_neg (by rw [h2]; decide)]; exact hJ⟩
end Go.Proofs.YtapphbmlkdhnmaaGreat

/- Rounds: their edges; comparisons of edges and numbers. -/
namespace Go.Proofs.YtapphbmlkdhnmaaGreat
open Go.GV
theorem ag_24_SpB : aggB Tryz.prog 24 = some false := by kernel_rfl
theorem ag_92_SpB : aggB Tryz.prog 92 = some true := by kernel_rfl
theorem el_25_SpB : elemT Tryz.prog 25 = some 24 := by kernel_rfl
theorem el_26_SpB : elemT Tryz.prog 26 = some 92 := by kernel_rfl
theorem mixed_SpB : Tryz.prog.follows .mixedOrders = true := by kernel_rfl
theorem sz_24_SpB : tsize Tryz.prog 24 = some 1 := by kernel_rfl
theorem sz_92_SpB : tsize Tryz.prog 92 = some 4 := by kernel_rfl
attribute [local irreducible] Wops W Wq Wt

abbrev U1 (x : Int) : List Value := [u64v x]
instance : DecidableEq Ed := fun x y => if h : x.f = y.f ∧ x.t = y.t ∧ x.cap = y.cap ∧ x.cost = y.cost then isTrue (by cases x; cases y; simp_all) else isFalse fun e => h (by subst e; exact ⟨rfl, rfl, rfl, rfl⟩)
theorem encE_inj (x y : Ed) : decide (x = y) = true ↔ encE x = encE y := by
  obtain ⟨a, b, c, d⟩ := x
  obtain ⟨a', b', c', d'⟩ := y
  simp [encE]
set_option maxRecDepth 20000 in
theorem eqE_ok (a b : Option Addr) (n c m d : Nat) (xs ys : List Ed) (w : World) (R : Rd w a 4 encE xs) (hn : xs.length = n) (hn2 : n ≤ 1000000) (Ry : Rd w b 4 encE ys) (hm : ys.length = m) (hm2 : m ≤ 1000000) :
    Ret Tryz.prog 136 #[.slice a n c, .slice b m d] w fun v w' => v = .bool (decide (xs = ys)) ∧ Ext [] w w' := by
  subst hn hm
  obtain ⟨w0, rfl⟩ : ∃ w0, w0 = w := ⟨_, rfl⟩
  have H := Ctx.start w0 []
  refine ret_of_W (fn := Tryz.f136) Tryz.func136 rfl [.slice a xs.length c, .slice b ys.length d] rfl (by kernel_rfl) ?_
  refine W_rseq ?_
  refine op_assign rfl (.bool _) rfl ?_
  refine op_nil (at_then ?_)
  refine W_seq ?_
  refine W_rseq ?_
  refine op_move rfl (.slice _ _ _) rfl ?_
  refine op_len rfl el_26_SpB rfl ?_
  refine op_move rfl (.slice _ _ _) rfl ?_
  refine op_len rfl el_26_SpB rfl ?_
  refine op_neq rfl rfl rfl ?_
  refine op_nil (at_then ?_)
  refine W_cond _ rfl ?_ ?_
  · intro h1
    replace h1 := ndec_t h1
    refine W_rseq ?_
    refine op_assign rfl (.bool _) rfl ?_
    refine op_nil (at_then ?_)
    refine W_ret (ret_then (leave1 (v := (.bool _)) rfl rfl rfl ?_))
    exact ⟨congrArg Value.bool (decide_eq_false fun h => by rw [h] at h1; simp at h1).symm, H.ext⟩
  · intro h1
    replace h1 := ndec_f h1
    have hle : xs.length = ys.length := by omega
    refine W_skip (at_then ?_)
    refine W_seq ?_
    refine W_rseq ?_
    refine op_move rfl (.slice _ _ _) rfl ?_
    refine op_len rfl el_26_SpB rfl ?_
    refine op_move rfl (.int _ _) rfl ?_
    refine op_nil (at_then ?_)
    refine W_block ?_
    refine W_loop 67100720 (α := Nat) (fun i => [(13, .int .i64 (i : Int))]) (fun i w' => i ≤ xs.length ∧ Ctx w0 [] w' [] ∧ ∀ (k : Nat) (x y : Ed), k < i → xs[k]? = some x → ys[k]? = some y → x = y) (fun i => xs.length - i) 0 rfl ?_ ?_ ?_
    · exact ⟨rfl, trivial⟩
    · exact ⟨Nat.zero_le _, H, fun k x y h => absurd h (Nat.not_lt_zero _)⟩
    · clear H
      rintro i j w ⟨hi, H, hb⟩
      refine W_rseq ?_
      refine op_lss rfl rfl rfl ?_
      refine op_nil (at_then ?_)
      refine W_seq ?_
      refine W_cond _ rfl ?_ ?_
      · intro h2
        replace h2 := dec_t h2
        obtain ⟨x, hx⟩ := get_some (l := xs) (i := i) (by omega)
        obtain ⟨y, hy⟩ := get_some (l := ys) (i := i) (by omega)
        refine W_skip (at_then ?_)
        refine W_seq ?_
        refine W_block ?_
        refine W_rseq ?_
        refine op_move rfl (.int _ _) rfl ?_
        refine op_assign rfl (.int _ _) rfl ?_
        refine op_nil (at_then ?_)
        refine W_qseq (fun x => x = _) mixed_SpB (by kernel_rfl) rfl ?_
        refine q_move rfl (.slice _ _ _) rfl ?_
        refine q_move rfl (.int _ _) rfl ?_
        first | refine q_indexRd R rfl el_26_SpB sz_92_SpB rfl rfl (by omega) (by omega) (by first | rfl | omega) ?_ | refine q_indexRd Ry rfl el_26_SpB sz_92_SpB rfl rfl (by omega) (by omega) (by first | rfl | omega) ?_ | refine q_indexAddr rfl el_26_SpB sz_92_SpB rfl rfl (by omega) (by omega) ?_
        first | refine q_ldN _ rfl ag_92_SpB sz_92_SpB rfl rfl (by rintro _ rfl; exact ((R.ext0 H.drew.ext).row hx rfl)) ?_ | refine q_ldN _ rfl ag_92_SpB sz_92_SpB rfl rfl (by rintro _ rfl; exact ((Ry.ext0 H.drew.ext).row hy rfl)) ?_ | refine q_ldbN rfl ag_92_SpB sz_92_SpB rfl (by rintro _ rfl; exact H.drew) (by first | exact at0 | exact at1 | exact at2 | exact at3 | exact at4 | exact at5 | exact at6 | exact at7 | exact at8 | exact at9) rfl ?_
        refine q_move rfl (.slice _ _ _) rfl ?_
        refine q_move rfl (.int _ _) rfl ?_
        first | refine q_indexRd R rfl el_26_SpB sz_92_SpB rfl rfl (by omega) (by omega) (by first | rfl | omega) ?_ | refine q_indexRd Ry rfl el_26_SpB sz_92_SpB rfl rfl (by omega) (by omega) (by first | rfl | omega) ?_ | refine q_indexAddr rfl el_26_SpB sz_92_SpB rfl rfl (by omega) (by omega) ?_
        first | refine q_ldN _ rfl ag_92_SpB sz_92_SpB rfl rfl (by rintro _ rfl; exact ((R.ext0 H.drew.ext).row hx rfl)) ?_ | refine q_ldN _ rfl ag_92_SpB sz_92_SpB rfl rfl (by rintro _ rfl; exact ((Ry.ext0 H.drew.ext).row hy rfl)) ?_ | refine q_ldbN rfl ag_92_SpB sz_92_SpB rfl (by rintro _ rfl; exact H.drew) (by first | exact at0 | exact at1 | exact at2 | exact at3 | exact at4 | exact at5 | exact at6 | exact at7 | exact at8 | exact at9) rfl ?_
        refine q_neS (ks := [true, true, true, true]) (xs := encE x) (ys := encE y) (decide (x = y)) rfl (by kernel_rfl) rfl rfl ⟨rfl, rfl, rfl, rfl, trivial⟩ (encE_inj x y) ?_
        refine q_nil ?_
        rintro _ rfl
        replace H := H.drew
        refine W_cond _ rfl ?_ ?_
        · intro h3
          refine W_rseq ?_
          refine op_assign rfl (.bool _) rfl ?_
          refine op_nil (at_then ?_)
          refine W_ret (ret_block (ret_then (ret_then (ret_block (ret_then (leave1 (v := (.bool _)) rfl rfl rfl ?_))))))
          have hne : ¬ x = y := by simpa using h3
          exact ⟨congrArg Value.bool (decide_eq_false fun h => by subst h; rw [hx] at hy; injection hy with hy; exact hne hy).symm, H.ext⟩
        · intro h3
          refine W_skip (at_block (at_then ?_))
          refine W_region ?_
          refine op_add_i64 rfl rfl rfl (by omega) (by omega) ?_
          refine op_move rfl (.int _ _) rfl ?_
          refine op_nil (at_then ?_)
          have heq : x = y := by simpa using h3
          refine ⟨i + 1, rfl, ⟨rfl, trivial⟩, ⟨by omega, H, fun k x' y' hk hx' hy' => ?_⟩, by omega⟩
          rcases Nat.lt_or_ge k i with h7 | h7
          · exact hb k x' y' h7 hx' hy'
          · obtain rfl : k = i := by omega
            rw [hx] at hx'; rw [hy] at hy'
            cases hx'; cases hy'
            exact heq
      · intro h2
        replace h2 := dec_f h2
        refine W_exit (exit_then (exit_then (exit_here (at_then ?_))))
        refine W_rseq ?_
        refine op_assign rfl (.bool _) rfl ?_
        refine op_nil (at_then ?_)
        refine W_ret (leave1 (v := (.bool _)) rfl rfl rfl ?_)
        obtain rfl : i = xs.length := by omega
        exact ⟨congrArg Value.bool (decide_eq_true (list_eq hle hb)).symm, H.ext⟩
set_option maxRecDepth 20000 in
theorem eqU_ok (a b : Option Addr) (n c m d : Nat) (xs ys : List Int) (w : World) (R : Rd w a 1 U1 xs) (hn : xs.length = n) (hn2 : n ≤ 1000000) (Ry : Rd w b 1 U1 ys) (hm : ys.length = m) (hm2 : m ≤ 1000000) :
    Ret Tryz.prog 137 #[.slice a n c, .slice b m d] w fun v w' => v = .bool (decide (xs = ys)) ∧ Ext [] w w' := by
  subst hn hm
  obtain ⟨w0, rfl⟩ : ∃ w0, w0 = w := ⟨_, rfl⟩
  have H := Ctx.start w0 []
  refine ret_of_W (fn := Tryz.f137) Tryz.func137 rfl [.slice a xs.length c, .slice b ys.length d] rfl (by kernel_rfl) ?_
  refine W_rseq ?_
  refine op_assign rfl (.bool _) rfl ?_
  refine op_nil (at_then ?_)
  refine W_seq ?_
  refine W_rseq ?_
  refine op_move rfl (.slice _ _ _) rfl ?_
  refine op_len rfl el_25_SpB rfl ?_
  refine op_move rfl (.slice _ _ _) rfl ?_
  refine op_len rfl el_25_SpB rfl ?_
  refine op_neq rfl rfl rfl ?_
  refine op_nil (at_then ?_)
  refine W_cond _ rfl ?_ ?_
  · intro h1
    replace h1 := ndec_t h1
    refine W_rseq ?_
    refine op_assign rfl (.bool _) rfl ?_
    refine op_nil (at_then ?_)
    refine W_ret (ret_then (leave1 (v := (.bool _)) rfl rfl rfl ?_))
    exact ⟨congrArg Value.bool (decide_eq_false fun h => by rw [h] at h1; simp at h1).symm, H.ext⟩
  · intro h1
    replace h1 := ndec_f h1
    have hle : xs.length = ys.length := by omega
    refine W_skip (at_then ?_)
    refine W_seq ?_
    refine W_rseq ?_
    refine op_move rfl (.slice _ _ _) rfl ?_
    refine op_len rfl el_25_SpB rfl ?_
    refine op_move rfl (.int _ _) rfl ?_
    refine op_nil (at_then ?_)
    refine W_block ?_
    refine W_loop 67100720 (α := Nat) (fun i => [(13, .int .i64 (i : Int))]) (fun i w' => i ≤ xs.length ∧ Ctx w0 [] w' [] ∧ ∀ (k : Nat) (x y : Int), k < i → xs[k]? = some x → ys[k]? = some y → x = y) (fun i => xs.length - i) 0 rfl ?_ ?_ ?_
    · exact ⟨rfl, trivial⟩
    · exact ⟨Nat.zero_le _, H, fun k x y h => absurd h (Nat.not_lt_zero _)⟩
    · clear H
      rintro i j w ⟨hi, H, hb⟩
      refine W_rseq ?_
      refine op_lss rfl rfl rfl ?_
      refine op_nil (at_then ?_)
      refine W_seq ?_
      refine W_cond _ rfl ?_ ?_
      · intro h2
        replace h2 := dec_t h2
        obtain ⟨x, hx⟩ := get_some (l := xs) (i := i) (by omega)
        obtain ⟨y, hy⟩ := get_some (l := ys) (i := i) (by omega)
        refine W_skip (at_then ?_)
        refine W_seq ?_
        refine W_block ?_
        refine W_rseq ?_
        refine op_move rfl (.int _ _) rfl ?_
        refine op_assign rfl (.int _ _) rfl ?_
        refine op_nil (at_then ?_)
        refine W_qseq (fun x => x = _) mixed_SpB (by kernel_rfl) rfl ?_
        refine q_move rfl (.slice _ _ _) rfl ?_
        refine q_move rfl (.int _ _) rfl ?_
        first | refine q_indexRd R rfl el_25_SpB sz_24_SpB rfl rfl (by omega) (by omega) (by first | rfl | omega) ?_ | refine q_indexRd Ry rfl el_25_SpB sz_24_SpB rfl rfl (by omega) (by omega) (by first | rfl | omega) ?_ | refine q_indexAddr rfl el_25_SpB sz_24_SpB rfl rfl (by omega) (by omega) ?_
        first | refine q_ldb rfl ag_24_SpB rfl (by rintro _ rfl; exact H.drew) (by first | exact at0 | exact at1 | exact at2 | exact at3 | exact at4 | exact at5 | exact at6 | exact at7 | exact at8 | exact at9) rfl ?_ | refine q_ld rfl ag_24_SpB rfl (by rintro _ rfl; exact (((R.ext0 H.drew.ext).fld hx rfl (j := 0) rfl))) ?_ | refine q_ld rfl ag_24_SpB rfl (by rintro _ rfl; exact (((Ry.ext0 H.drew.ext).fld hy rfl (j := 0) rfl))) ?_
        refine q_move rfl (.slice _ _ _) rfl ?_
        refine q_move rfl (.int _ _) rfl ?_
        first | refine q_indexRd R rfl el_25_SpB sz_24_SpB rfl rfl (by omega) (by omega) (by first | rfl | omega) ?_ | refine q_indexRd Ry rfl el_25_SpB sz_24_SpB rfl rfl (by omega) (by omega) (by first | rfl | omega) ?_ | refine q_indexAddr rfl el_25_SpB sz_24_SpB rfl rfl (by omega) (by omega) ?_
        first | refine q_ldb rfl ag_24_SpB rfl (by rintro _ rfl; exact H.drew) (by first | exact at0 | exact at1 | exact at2 | exact at3 | exact at4 | exact at5 | exact at6 | exact at7 | exact at8 | exact at9) rfl ?_ | refine q_ld rfl ag_24_SpB rfl (by rintro _ rfl; exact (((R.ext0 H.drew.ext).fld hx rfl (j := 0) rfl))) ?_ | refine q_ld rfl ag_24_SpB rfl (by rintro _ rfl; exact (((Ry.ext0 H.drew.ext).fld hy rfl (j := 0) rfl))) ?_
        refine q_neq rfl rfl rfl ?_
        refine q_nil ?_
        rintro _ rfl
        replace H := H.drew
        refine W_cond _ rfl ?_ ?_
        · intro h3
          replace h3 := ndec_t h3
          refine W_rseq ?_
          refine op_assign rfl (.bool _) rfl ?_
          refine op_nil (at_then ?_)
          refine W_ret (ret_block (ret_then (ret_then (ret_block (ret_then (leave1 (v := (.bool _)) rfl rfl rfl ?_))))))
          have hne : ¬ x = y := h3
          exact ⟨congrArg Value.bool (decide_eq_false fun h => by subst h; rw [hx] at hy; injection hy with hy; exact hne hy).symm, H.ext⟩
        · intro h3
          replace h3 := ndec_f h3
          refine W_skip (at_block (at_then ?_))
          refine W_region ?_
          refine op_add_i64 rfl rfl rfl (by omega) (by omega) ?_
          refine op_move rfl (.int _ _) rfl ?_
          refine op_nil (at_then ?_)
          have heq : x = y := by omega
          refine ⟨i + 1, rfl, ⟨rfl, trivial⟩, ⟨by omega, H, fun k x' y' hk hx' hy' => ?_⟩, by omega⟩
          rcases Nat.lt_or_ge k i with h7 | h7
          · exact hb k x' y' h7 hx' hy'
          · obtain rfl : k = i := by omega
            rw [hx] at hx'; rw [hy] at hy'
            cases hx'; cases hy'
            exact heq
      · intro h2
        replace h2 := dec_f h2
        refine W_exit (exit_then (exit_then (exit_here (at_then ?_))))
        refine W_rseq ?_
        refine op_assign rfl (.bool _) rfl ?_
        refine op_nil (at_then ?_)
        refine W_ret (leave1 (v := (.bool _)) rfl rfl rfl ?_)
        obtain rfl : i = xs.length := by omega
        exact ⟨congrArg Value.bool (decide_eq_true (list_eq hle hb)).symm, H.ext⟩
theorem redges_ok (a b : Option Addr) (n c m d : Nat) (net : Bool) (w : World) : Ret Tryz.prog 116 #[.slice a n c, .slice b m d, .bool net] w fun v w' => ∃ b1 b2 b3, v = .func (.func 162) #[] #[ptr b1, ptr b2, ptr b3] ∧ Ctx w [] w' [(b2, Bl 4 [.bool net]), (b1, Bl 23 [.slice b m d]), (b3, Bl 29 [.slice a n c])] := by
  obtain ⟨w0, rfl⟩ : ∃ w0, w0 = w := ⟨_, rfl⟩
  have H := Ctx.start w0 []
  refine ret_of_W (fn := Tryz.f116) Tryz.func116 rfl [.slice a n c, .slice b m d, .bool net] rfl (by kernel_rfl) ?_
  refine W_rseq ?_
  refine op_box rfl _ (.slice _ _ _) rfl rfl H ?_
  rintro b3 w - H
  refine op_box rfl _ (.slice _ _ _) rfl rfl H ?_
  rintro b4 w - H
  refine op_box rfl _ (.bool _) rfl rfl H ?_
  rintro b5 w - H
  refine op_assign rfl .nilFunc rfl ?_
  refine op_nil (at_then ?_)
  refine W_rseq ?_
  refine op_makeFuncL rfl [.pointer _, .pointer _, .pointer _] rfl ?_
  refine op_assign rfl (.func _ _ _) rfl ?_
  refine op_nil (at_then ?_)
  refine W_ret (leave1 (v := (.func _ _ _)) rfl rfl rfl ?_)
  exact ⟨_, _, _, rfl, H⟩
end Go.Proofs.YtapphbmlkdhnmaaGreat

/- Dues that are open, as the reference has them. -/
namespace Go.Proofs.YtapphbmlkdhnmaaGreat
open Go.GV
theorem ag_4_SpC : aggB Tryz.prog 4 = some false := by kernel_rfl
theorem ag_62_SpC : aggB Tryz.prog 62 = some true := by kernel_rfl
theorem by_62_SpC : tbytes Tryz.prog 62 = some 56 := by kernel_rfl
theorem el_23_SpC : elemT Tryz.prog 23 = some 62 := by kernel_rfl
theorem fo_62_6_SpC : fieldO Tryz.prog 62 6 = some 6 := by kernel_rfl
theorem sz_62_SpC : tsize Tryz.prog 62 = some 7 := by kernel_rfl
theorem zc_62_SpC : zcells Tryz.prog 62 = some ([.int .u64 0, .int .i64 0, .int .i64 0, .int .i64 0, .int .i64 0, .int .i64 0, .bool false]) := by kernel_rfl
attribute [local irreducible] Wops W Wq Wt

set_option maxRecDepth 20000 in
set_option maxHeartbeats 2000000 in
theorem r19open_ok (a : Option Addr) (n c : Nat) (ds : List Du) (w : World) (R : Rd w a 7 encD ds) (hn : ds.length = n) (hm : n ≤ 1000000) :
    Ret Tryz.prog 49 #[.slice a n c] w fun v w' => Fresh w w' 62 7 v ((opn ds).flatMap encD) := by
  subst hn
  obtain ⟨w0, rfl⟩ : ∃ w0, w0 = w := ⟨_, rfl⟩
  have H := Ctx.start w0 []
  refine ret_of_W (fn := Tryz.f49) Tryz.func49 rfl [.slice a ds.length c] rfl (by kernel_rfl) ?_
  refine W_rseq ?_
  refine op_assign rfl (.slice _ _ _) rfl ?_
  refine op_nil (at_then ?_)
  refine W_rseq ?_
  refine op_assign rfl (.slice _ _ _) rfl ?_
  refine op_nil (at_then ?_)
  refine W_seq ?_
  refine W_rseq ?_
  refine op_assign rfl (.int _ _) rfl ?_
  refine op_nil (at_then ?_)
  refine W_block ?_
  refine W_loop 16777208 (α := LSt) (fun t => [(3, .slice t.a (opn (ds.take t.i)).length t.c), (4, .int .i64 (t.i : Int))]) (fun t w' => t.i ≤ ds.length ∧ OS t.a (opn (ds.take t.i)).length t.c 7 t.full ((opn (ds.take t.i)).flatMap encD) ∧ Ctx w0 [] w' (ent t.a 62 t.full)) (fun t => ds.length - t.i) ⟨0, none, 0, []⟩ rfl ?_ ?_ ?_
  · exact ⟨rfl, rfl, trivial⟩
  · exact ⟨Nat.zero_le _, OS.nil, H⟩
  · clear H
    rintro ⟨i, a2, c2, full⟩ j w ⟨hi, O, H⟩; dsimp only at hi O H; dsimp only
    have hol : (opn (ds.take i)).length ≤ i := Nat.le_trans (List.length_filter_le _ _) (by rw [List.length_take]; omega)
    refine W_seq ?_
    refine W_rseq ?_
    refine op_move rfl (.int _ _) rfl ?_
    refine op_move rfl (.slice _ _ _) rfl ?_
    refine op_len rfl el_23_SpC rfl ?_
    refine op_lss rfl rfl rfl ?_
    refine op_nil (at_then ?_)
    refine W_cond _ rfl ?_ ?_
    · intro h1
      replace h1 := dec_t h1
      obtain ⟨d, hd⟩ := get_some (l := ds) (i := i) (by omega)
      have hos : opn (ds.take (i + 1)) = opn (ds.take i) ++ if d.held = true then [] else [d] := by
        rw [List.take_succ, hd]; exact opn_snoc _ _
      refine W_skip (at_then ?_)
      refine W_seq ?_
      refine W_block ?_
      refine W_rseq ?_
      refine op_move rfl (.slice _ _ _) rfl ?_
      refine op_move rfl (.int _ _) rfl ?_
      first | refine op_indexRd R rfl el_23_SpC sz_62_SpC rfl rfl (by omega) (by omega) (by first | rfl | omega) ?_ | refine op_indexAddr rfl el_23_SpC sz_62_SpC rfl rfl (by omega) (by omega) ?_
      refine op_fieldAddr rfl fo_62_6_SpC rfl ?_
      first | refine op_ldb rfl ag_4_SpC rfl H (by first | exact at0 | exact at1 | exact at2 | exact at3 | exact at4 | exact at5 | exact at6 | exact at7 | exact at8 | exact at9) rfl ?_ | refine op_ld rfl ag_4_SpC rfl (((R.ext0 H.ext).fld hd rfl (j := 6) rfl)) ?_
      refine op_not rfl rfl ?_
      refine op_nil (at_then ?_)
      refine W_cond _ rfl ?_ ?_
      · intro h2
        replace h2 := nvar_t h2
        have h2' : ¬ d.held = true := by simpa using h2
        rw [if_neg h2'] at hos
        refine W_region ?_
        refine op_move rfl (.slice _ _ _) rfl ?_
        refine op_move rfl (.slice _ _ _) rfl ?_
        refine op_move rfl (.int _ _) rfl ?_
        first | refine op_indexRd R rfl el_23_SpC sz_62_SpC rfl rfl (by omega) (by omega) (by first | rfl | omega) ?_ | refine op_indexAddr rfl el_23_SpC sz_62_SpC rfl rfl (by omega) (by omega) ?_
        first | refine op_ldN _ rfl ag_62_SpC sz_62_SpC rfl rfl ((R.ext0 H.ext).row hd rfl) ?_ | refine op_ldbN rfl ag_62_SpC sz_62_SpC rfl H (by first | exact at0 | exact at1 | exact at2 | exact at3 | exact at4 | exact at5 | exact at6 | exact at7 | exact at8 | exact at9) rfl ?_
        refine op_build1 _ (.agg _) rfl el_23_SpC sz_62_SpC zc_62_SpC rfl (by decide) (by decide) rfl rfl rfl H ?_
        rintro b22 w - H
        refine op_appendb (L := []) rfl el_23_SpC el_23_SpC sz_62_SpC by_62_SpC zc_62_SpC rfl (by decide) rfl rfl H O rfl (by simp [oneCell]) (by omega) ?_
        rintro a' c' full' w H O
        refine op_assign rfl (.slice _ _ _) rfl ?_
        refine op_nil (at_block (at_then ?_))
        refine W_region ?_
        refine op_move rfl (.int _ _) rfl ?_
        refine op_add_i64 rfl rfl rfl (by omega) (by omega) ?_
        refine op_assign rfl (.int _ _) rfl ?_
        refine op_nil (at_then ?_)
        exact ⟨⟨i + 1, a', c', full'⟩, rfl, ⟨by dsimp only; rw [hos, List.length_append]; rfl, rfl, trivial⟩, ⟨by dsimp only; omega, by dsimp only; rw [hos, List.length_append, List.flatMap_append]; exact O, H⟩, by dsimp only; omega⟩
      · intro h2
        replace h2 := nvar_f h2
        have h2' : d.held = true := by simpa using h2
        rw [if_pos h2', List.append_nil] at hos
        refine W_skip (at_block (at_then ?_))
        refine W_region ?_
        refine op_move rfl (.int _ _) rfl ?_
        refine op_add_i64 rfl rfl rfl (by omega) (by omega) ?_
        refine op_assign rfl (.int _ _) rfl ?_
        refine op_nil (at_then ?_)
        exact ⟨⟨i + 1, a2, c2, full⟩, rfl, ⟨by dsimp only; rw [hos]; rfl, rfl, trivial⟩, ⟨by dsimp only; omega, by dsimp only; rw [hos]; exact O, H⟩, by dsimp only; omega⟩
    · intro h1
      replace h1 := dec_f h1
      refine W_exit (exit_then (exit_then (exit_here (at_then ?_))))
      refine W_rseq ?_
      refine op_move rfl (.slice _ _ _) rfl ?_
      refine op_assign rfl (.slice _ _ _) rfl ?_
      refine op_nil (at_then ?_)
      refine W_ret (leave1 (v := (.slice _ _ _)) rfl rfl rfl ?_)
      obtain rfl : i = ds.length := by omega
      rw [List.take_length] at O ⊢
      exact Ctx.fresh (L := []) H O
end Go.Proofs.YtapphbmlkdhnmaaGreat

/- What a round pays. -/
namespace Go.Proofs.YtapphbmlkdhnmaaGreat
open Go.GV
theorem by_2_SpD : tbytes Tryz.prog 2 = some 8 := by kernel_rfl
theorem ca_106_SpD : callable Tryz.prog 106 = true := by kernel_rfl
theorem el_29_SpD : elemT Tryz.prog 29 = some 2 := by kernel_rfl
theorem sz_2_SpD : tsize Tryz.prog 2 = some 1 := by kernel_rfl
theorem zc_2_SpD : zcells Tryz.prog 2 = some ([.int .i64 0]) := by kernel_rfl
attribute [local irreducible] Wops W Wq Wt

theorem i64v_one (l : List Int) : ∀ v ∈ l.map i64v, oneCell v = true := fun v hv => by
  obtain ⟨x, _, rfl⟩ := List.mem_map.1 hv; rfl
theorem iclone_ok (a : Option Addr) (n c : Nat) (xs : List Int) (w : World) (R : Rd w a 1 I1 xs) (hn : xs.length = n) (hm : n ≤ 1000000000) :
    Ret Tryz.prog 106 #[.slice a n c] w fun v w' => Fresh w w' 2 1 v (xs.map i64v) := by
  subst hn
  obtain ⟨w0, rfl⟩ : ∃ w0, w0 = w := ⟨_, rfl⟩
  have H := Ctx.start w0 []
  refine ret_of_W (fn := Tryz.f106) Tryz.func106 rfl [.slice a xs.length c] rfl (by kernel_rfl) ?_
  refine W_rseq ?_
  refine op_assign rfl (.slice _ _ _) rfl ?_
  refine op_nil (at_then ?_)
  refine W_seq ?_
  refine W_rseq ?_
  refine op_move rfl (.slice _ _ _) rfl ?_
  refine op_eqlnil rfl el_29_SpD rfl ?_
  refine op_nil (at_then ?_)
  refine W_cond _ rfl ?_ ?_
  · intro h1
    have ha : a = none := by simpa using h1
    subst ha
    have hxs : xs = [] := by
      cases xs with
      | nil => rfl
      | cons x xs => obtain ⟨b, o, h⟩ := R.some' (by simp); cases h
    subst hxs
    refine W_rseq ?_
    refine op_assign rfl (.slice _ _ _) rfl ?_
    refine op_nil (at_then ?_)
    refine W_ret (ret_then (leave1 (v := (.slice _ _ _)) rfl rfl rfl ?_))
    exact Fresh.nil H _ _
  · intro h1
    refine W_skip (at_then ?_)
    refine W_rseq ?_
    refine op_build0 rfl el_29_SpD sz_2_SpD H ?_
    rintro b5 w H O
    refine op_move rfl (.slice _ _ _) rfl ?_
    refine op_append rfl el_29_SpD el_29_SpD sz_2_SpD by_2_SpD zc_2_SpD rfl (by decide) (xs.map i64v) rfl rfl H O (by simp) (i64v_one xs) (Rd.app1 (f := i64v) (R.ext0 H.ext)) (by omega) ?_
    rintro a7 c7 full7 w H O
    refine op_assign rfl (.slice _ _ _) rfl ?_
    refine op_nil (at_then ?_)
    refine W_ret (leave1 (v := (.slice _ _ _)) rfl rfl rfl ?_)
    exact H.fresh O
/-- How many are paid. -/
def cutK (k : Int) (n : Nat) : Nat := (max 0 (min k (n : Int))).toNat
theorem pays_ok (N : Int) (a b : Option Addr) (n c m d : Nat) (k : Int) (fl : List Int) (w : World) (R : Rd w b 1 I1 fl) (hm : fl.length = m) (hd : m ≤ d) (hm2 : m ≤ 1000000) :
    Ret Tryz.prog 70 #[netV N a n c, .slice b m d, .int .i64 k] w fun v w' => Fresh w w' 2 1 v ((fl.take (cutK k m)).map i64v) := by
  subst hm
  obtain ⟨w0, rfl⟩ : ∃ w0, w0 = w := ⟨_, rfl⟩
  have H := Ctx.start w0 []
  have hk : cutK k fl.length ≤ fl.length := by unfold cutK; omega
  refine ret_of_W (fn := Tryz.f70) Tryz.func70 rfl [netV N a n c, .slice b fl.length d, .int .i64 k] rfl (by kernel_rfl) ?_
  refine W_rseq ?_
  refine op_box rfl [.int .i64 N, .slice a n c] (.agg _) rfl rfl H ?_
  rintro b3 w - H
  refine op_assign rfl (.slice _ _ _) rfl ?_
  refine op_nil (at_then ?_)
  refine W_rseq ?_
  refine op_move rfl (.slice _ _ _) rfl ?_
  refine op_move rfl (.int _ _) rfl ?_
  refine op_move rfl (.slice _ _ _) rfl ?_
  refine op_len rfl el_29_SpD rfl ?_
  refine op_min2 rfl rfl rfl ?_
  refine op_max2 rfl rfl rfl ?_
  refine op_slice_hi rfl el_29_SpD sz_2_SpD rfl rfl (by omega) (by omega) ?_
  refine op_call rfl ca_106_SpD (iclone_ok b (cutK k fl.length) d (fl.take (cutK k fl.length)) _ ((R.ext0 H.ext).take _) (by rw [List.length_take]; omega) (by omega)) rfl ?_
  rintro v w F
  obtain ⟨a9, n9, c9, f9, rfl, O9, hb9⟩ := F.ex
  refine op_assign rfl (.slice _ _ _) rfl ?_
  refine op_nil (at_then ?_)
  refine W_ret (leave1 (v := (.slice _ _ _)) rfl rfl rfl ?_)
  exact ⟨⟨a9, n9, c9, f9, rfl, O9, fun x hx => ⟨(hb9 x hx).1, Nat.le_trans H.size (hb9 x hx).2⟩⟩, H.ext.trans F.ext⟩
end Go.Proofs.YtapphbmlkdhnmaaGreat

/- Dues and accounts, looked up. -/
namespace Go.Proofs.YtapphbmlkdhnmaaGreat
open Go.GV
theorem ag_121_SpE : aggB Tryz.prog 121 = some false := by kernel_rfl
theorem ag_62_SpE : aggB Tryz.prog 62 = some true := by kernel_rfl
theorem fo_123_0_SpE : fieldO Tryz.prog 123 0 = some 0 := by kernel_rfl
theorem mt_121_SpE : mapT Tryz.prog 121 = some (24, 62) := by kernel_rfl
theorem pl_123_SpE : placesB Tryz.prog 123 = some [(0, 1), (1, 1)] := by kernel_rfl
theorem sz_62_SpE : tsize Tryz.prog 62 = some 7 := by kernel_rfl
theorem un_24_SpE : Tryz.prog.underlying 24 = some (.int .u64) := by kernel_rfl
theorem un_36_SpE : Tryz.prog.underlying 36 = some (.pointer 123) := by kernel_rfl
theorem zc_123_SpE : zcells Tryz.prog 123 = some ([.map none, .int .u64 0]) := by kernel_rfl
theorem zc_62_SpE : zcells Tryz.prog 62 = some ([.int .u64 0, .int .i64 0, .int .i64 0, .int .i64 0, .int .i64 0, .int .i64 0, .bool false]) := by kernel_rfl
theorem zv_62_SpE : (Tryz.prog.info? 62).bind (·.zero) = some (.agg #[.int .u64 0, .int .i64 0, .int .i64 0, .int .i64 0, .int .i64 0, .int .i64 0, .bool false]) := by kernel_rfl
attribute [local irreducible] Wops W Wq Wt

section
variable {P : Program} {r : Option Nat} {ops rest : List Oper} {Q : Exit → Env → World → Prop} {e : Env} {w : World} {dst : Option Tmp} {ty : TypeId} {pos : String} {af : Array Edge} {g : Option (Nat × Bool)}
/-- A look into a map that is read alone. -/
theorem op_lookupOkH {t k el : TypeId} {kk : IntKind} {x y : Operand} {b : Nat} {o : Obj} {m : List (Int × Value)} {n : Int} {z : Value} (hg : wants ⟨dst, .lookup t x y true, ty, pos, af, g⟩ ops e = true)
    (ht : mapT P t = some (k, el)) (hk : P.underlying k = some (.int kk)) (hz : (P.info? el).bind (·.zero) = some z) (hx : ev e x = .map (some b)) (hy : ev e y = .int kk n) (hb : w.heap[b]? = some o) (hM : MapO kk m o)
    (h : Wops P r ops Q rest (put e dst (.tuple #[(mget m n).getD z, .bool (mget m n).isSome])) w) : Wops P r ops Q (⟨dst, .lookup t x y true, ty, pos, af, g⟩ :: rest) e w := by
  have H : Ctx w [b] w [(b, o)] := Ctx.start1 hb
  exact op_lookupOk hg ht hk hz hx hy H at0 hM h
end
/-- The due of a number, and whether there is one. -/
def getD7 (ds : List Du) (k : Int) : Du := (findD ds k).getD d00
set_option maxRecDepth 20000 in
set_option maxHeartbeats 2000000 in
theorem dget_ok {bd b : Nat} {nx k : Int} {o : Obj} {ds : List Du} (w : World) (hd : w.heap[bd]? = some (Bl 123 (DU b nx))) (hb : w.heap[b]? = some o) (hM : MapO .u64 (dm ds) o) :
    Ret Tryz.prog 54 #[ptr bd, .int .u64 k] w fun v w' => v = .tuple #[dueV (getD7 ds k), .bool (findD ds k).isSome] ∧ Ext [] w w' := by
  obtain ⟨w0, rfl⟩ : ∃ w0, w0 = w := ⟨_, rfl⟩
  have H := Ctx.start w0 []
  have hmg : (mget (dm ds) k).getD (dueV d00) = dueV (getD7 ds k) := by
    rw [mget_find]
    unfold getD7
    cases findD ds k <;> rfl
  have hms : (mget (dm ds) k).isSome = (findD ds k).isSome := by
    rw [mget_find]
    cases findD ds k <;> rfl
  refine ret_of_W (fn := Tryz.f54) Tryz.func54 rfl [.pointer (some ⟨bd, 0, none⟩), .int .u64 k] rfl (by kernel_rfl) ?_
  refine W_rseq ?_
  refine op_alloc rfl zc_62_SpE H ?_
  rintro b4 w - H
  refine op_assign rfl (.bool _) rfl ?_
  refine op_nil (at_then ?_)
  refine W_seq ?_
  refine W_rseq ?_
  refine op_move rfl (.pointer _) rfl ?_
  refine op_eqlptr rfl un_36_SpE rfl ?_
  refine op_nil (at_then ?_)
  refine W_cond _ rfl ?_ ?_
  · intro h0
    cases h0
  · intro h0
    refine W_skip (at_then ?_)
    refine W_rseq ?_
    refine op_move rfl (.pointer _) rfl ?_
    refine op_nilCheck rfl rfl ?_
    refine op_fieldAddr rfl fo_123_0_SpE rfl ?_
    first | refine op_ldb rfl ag_121_SpE rfl H (by first | exact at0 | exact at1 | exact at2 | exact at3 | exact at4 | exact at5 | exact at6 | exact at7 | exact at8 | exact at9) rfl ?_ | refine op_ld rfl ag_121_SpE rfl ((H.old0 (by rw [cell_bl hd]; rfl))) ?_
    refine op_move rfl (.int _ _) rfl ?_
    refine op_lookupOkH (z := dueV d00) rfl mt_121_SpE un_24_SpE zv_62_SpE rfl rfl (H.ext.to hb (by simp)) hM ?_
    rw [hmg, hms]
    refine op_move rfl (.tuple _) rfl ?_
    refine op_extract rfl rfl rfl ?_
    refine op_extract rfl rfl rfl ?_
    refine op_alloc rfl zc_62_SpE H ?_
    rintro b6 w - H
    refine op_stb0 rfl sz_62_SpE rfl rfl rfl (by first | exact encD_one (getD7 ds k) | simp [oneCell]) H (by first | exact at0 | exact at1 | exact at2 | exact at3 | exact at4 | exact at5 | exact at6 | exact at7 | exact at8 | exact at9) rfl ?_
    rintro w H
    refine op_assign rfl (.bool _) rfl ?_
    refine op_nil (at_then ?_)
    refine W_rseq ?_
    refine op_ldbN rfl ag_62_SpE sz_62_SpE rfl H (by first | exact at0 | exact at1 | exact at2 | exact at3 | exact at4 | exact at5 | exact at6 | exact at7 | exact at8 | exact at9) rfl ?_
    refine op_move rfl (.bool _) rfl ?_
    refine op_stb0 rfl sz_62_SpE rfl rfl rfl (by first | exact encD_one (getD7 ds k) | simp [oneCell]) H (by first | exact at0 | exact at1 | exact at2 | exact at3 | exact at4 | exact at5 | exact at6 | exact at7 | exact at8 | exact at9) rfl ?_
    rintro w H
    refine op_assign rfl (.bool _) rfl ?_
    refine op_nil (at_then ?_)
    refine W_ret (leave2b rfl rfl rfl ag_62_SpE sz_62_SpE H (by first | exact at0 | exact at1 | exact at2 | exact at3 | exact at4 | exact at5 | exact at6 | exact at7 | exact at8 | exact at9) rfl (show _ = (.bool _) from rfl) ?_)
    exact ⟨rfl, H.ext⟩
theorem dnew_ok (w : World) : Ret Tryz.prog 51 #[] w fun v w' => ∃ bd b o, v = ptr bd ∧ MapO .u64 (dm []) o ∧ Ctx w [] w' [(bd, Bl 123 (DU b 1)), (b, o)] := by
  obtain ⟨w0, rfl⟩ : ∃ w0, w0 = w := ⟨_, rfl⟩
  have H := Ctx.start w0 []
  refine ret_of_W (fn := Tryz.f51) Tryz.func51 rfl [] rfl (by kernel_rfl) ?_
  refine W_rseq ?_
  refine op_assign rfl (.pointer _) rfl ?_
  refine op_nil (at_then ?_)
  refine W_rseq ?_
  refine op_makeMap .u64 rfl H ?_
  rintro b o w hM H
  refine op_buildS (DU b 1) rfl pl_123_SpE zc_123_SpE (by kernel_rfl) ?_
  refine op_box rfl (DU b 1) (.agg _) rfl rfl H ?_
  rintro b3 w - H
  refine op_assign rfl (.pointer _) rfl ?_
  refine op_nil (at_then ?_)
  refine W_ret (leave1 (v := (.pointer _)) rfl rfl rfl ?_)
  exact ⟨b3, b, o, rfl, hM, H⟩
end Go.Proofs.YtapphbmlkdhnmaaGreat

/- May a round be built, as the reference has it. -/
namespace Go.Proofs.YtapphbmlkdhnmaaGreat
open Go.GV
theorem ag_2_SpF : aggB Tryz.prog 2 = some false := by kernel_rfl
theorem ag_3_SpF : aggB Tryz.prog 3 = some false := by kernel_rfl
theorem ag_62_SpF : aggB Tryz.prog 62 = some true := by kernel_rfl
theorem by_2_SpF : tbytes Tryz.prog 2 = some 8 := by kernel_rfl
theorem ca_75_SpF : callable Tryz.prog 75 = true := by kernel_rfl
theorem ca_76_SpF : callable Tryz.prog 76 = true := by kernel_rfl
theorem ca_77_SpF : callable Tryz.prog 77 = true := by kernel_rfl
theorem el_23_SpF : elemT Tryz.prog 23 = some 62 := by kernel_rfl
theorem el_29_SpF : elemT Tryz.prog 29 = some 2 := by kernel_rfl
theorem fo_62_1_SpF : fieldO Tryz.prog 62 1 = some 1 := by kernel_rfl
theorem fo_62_2_SpF : fieldO Tryz.prog 62 2 = some 2 := by kernel_rfl
theorem fo_62_3_SpF : fieldO Tryz.prog 62 3 = some 3 := by kernel_rfl
theorem sz_2_SpF : tsize Tryz.prog 2 = some 1 := by kernel_rfl
theorem sz_62_SpF : tsize Tryz.prog 62 = some 7 := by kernel_rfl
theorem zc_2_SpF : zcells Tryz.prog 2 = some ([.int .i64 0]) := by kernel_rfl
attribute [local irreducible] Wops W Wq Wt

def dueB (n : Nat) (d : Du) : Bool := mayD d && (decide (d.fr < n) && decide (d.to < n))
def r19B (rs : List Int) (ds : List Du) : Bool := (decide (rs.length ≤ 16) && decide (ds.length ≤ 64)) && (rs.all mayM && (ds.all (dueB rs.length) && decide ((totM (ds.map Du.am)).2 = 0)))
theorem renum_am (ds : List Du) : ∀ i, (renum i ds).map Du.am = ds.map Du.am := by
  induction ds with
  | nil => intro i; rfl
  | cons d ds ih => intro i; show d.am :: (renum (i + 1) ds).map Du.am = d.am :: ds.map Du.am; rw [ih]
theorem totM_one (rs : List Int) : decide ((totM rs).2 = 1) = !rs.all mayM := by
  unfold totM
  cases h : rs.all mayM with
  | false => rw [if_pos rfl]; rfl
  | true =>
    rw [if_neg (by decide)]
    split <;> rfl
theorem r19_eq (rs : List Int) (ds : List Du) (hl : ds.length ≤ 1000000) : r19B rs ds = brightB rs ds := by
  have h1 : decide (ofC (renum 0 ds) (ds.length + 1) = 0) = (decide (ds.length ≤ 64) && (ds.all mayD && decide ((totM (ds.map Du.am)).2 = 0))) := by
    have ha := renum_asc (ds := ds) 0
    rw [show (((0 : Nat) : Int) + ds.length + 1) = (ds.length : Int) + 1 by omega] at ha
    have ham : (renum 0 ds).map (·.am) = ds.map Du.am := renum_am ds 0
    unfold ofC
    rw [renum_len, ham, show ascB ((ds.length : Int) + 1) 0 (renum 0 ds) = ds.all mayD from ha]
    by_cases h64 : 64 < ds.length
    · rw [if_pos h64, decide_eq_false (show ¬ ds.length ≤ 64 by omega)]; rfl
    · rw [if_neg h64, decide_eq_true (show ds.length ≤ 64 by omega), Bool.true_and, if_neg (by rw [decide_eq_true (show 1 ≤ (ds.length : Int) + 1 by omega), decide_eq_true (show (ds.length : Int) + 1 ≤ 4611686018427387904 by omega)]; decide)]
      cases hm : ds.all mayD with
      | false => rw [if_pos rfl]; rfl
      | true => rw [if_neg (by decide), Bool.true_and]
  have h2 : ds.all (dueB rs.length) = (ds.all (fun d => decide (max d.fr d.to < rs.length)) && ds.all mayD) := by
    rw [Bool.eq_iff_iff]
    simp only [Bool.and_eq_true, List.all_eq_true, decide_eq_true_eq, dueB]
    constructor
    · intro h
      exact ⟨fun d hd => by have := h d hd; omega, fun d hd => (h d hd).1⟩
    · intro h d hd
      have := h.1 d hd
      exact ⟨h.2 d hd, by omega, by omega⟩
  unfold r19B brightB
  rw [h1, h2, totM_one]
  cases decide (rs.length ≤ 16) <;> cases decide (ds.length ≤ 64) <;> cases rs.all mayM <;> cases ds.all (fun d => decide (max d.fr d.to < rs.length)) <;> cases ds.all mayD <;> rfl
set_option maxRecDepth 20000 in
set_option maxHeartbeats 4000000 in
theorem r19right_ok (a b : Option Addr) (n c m e : Nat) (rs : List Int) (ds : List Du) (w : World) (R : Rd w a 1 I1 rs) (hn : rs.length = n) (hn2 : n ≤ 1000000) (Rd' : Rd w b 7 encD ds) (hm : ds.length = m) (hm2 : m ≤ 1000000) :
    Ret Tryz.prog 25 #[.slice a n c, .slice b m e] w fun v w' => v = .bool (brightB rs ds) ∧ Ext [] w w' := by
  rw [← r19_eq rs ds (by omega)]
  subst hn hm
  obtain ⟨w0, rfl⟩ : ∃ w0, w0 = w := ⟨_, rfl⟩
  have H := Ctx.start w0 []
  obtain ⟨tt, htt⟩ : ∃ tt, tt = totM (ds.map Du.am) := ⟨_, rfl⟩
  refine ret_of_W (fn := Tryz.f25) Tryz.func25 rfl [.slice a rs.length c, .slice b ds.length e] rfl (by kernel_rfl) ?_
  refine W_rseq ?_
  refine op_assign rfl (.bool _) rfl ?_
  refine op_nil (at_then ?_)
  refine W_seq ?_
  refine W_rseq (Wops_join (α := Unit) 261120 (fun _ => [(17, .bool (!(decide (rs.length ≤ 16) && decide (ds.length ≤ 64))))]) (fun _ w' => Ctx w0 [] w' []) rfl ?_ ?_)
  · refine op_move rfl (.slice _ _ _) rfl ?_
    refine op_len rfl el_29_SpF rfl ?_
    refine op_gtr rfl rfl rfl ?_
    refine op_move rfl (.bool _) rfl ?_
    refine Wops_split 13 rfl ?_ ?_
    · intro h1
      replace h1 := dec_t h1
      refine op_skip rfl ?_
      refine op_skip rfl ?_
      refine op_skip rfl ?_
      refine op_pick1 rfl rfl (.bool _) rfl ?_
      refine op_nil ?_
      exact ⟨rfl, (), rfl, ⟨congrArg Value.bool (by rw [Bool.eq_iff_iff]; simp_all; try omega), trivial⟩, H⟩
    · intro h2
      replace h2 := dec_f h2
      refine op_move rfl (.slice _ _ _) rfl ?_
      refine op_len rfl el_23_SpF rfl ?_
      refine op_gtr rfl rfl rfl ?_
      refine op_pick0 rfl rfl (.bool _) rfl ?_
      refine op_nil ?_
      exact ⟨rfl, (), rfl, ⟨congrArg Value.bool (by rw [Bool.eq_iff_iff]; simp_all; try omega), trivial⟩, H⟩
  rintro - j17 w H
  refine W_cond _ rfl ?_ ?_
  · intro h1
    replace h1 := nvar_t h1
    refine W_rseq ?_
    refine op_assign rfl (.bool _) rfl ?_
    refine op_nil (at_then ?_)
    refine W_ret (ret_then (leave1 (v := (.bool _)) rfl rfl rfl ?_))
    exact ⟨congrArg Value.bool (by unfold r19B; rw [show (decide (rs.length ≤ 16) && decide (ds.length ≤ 64)) = false by simpa using h1]; rfl), H.ext⟩
  · intro h1
    replace h1 := nvar_f h1
    have h1' : (decide (rs.length ≤ 16) && decide (ds.length ≤ 64)) = true := by simpa using h1
    have hB : r19B rs ds = (rs.all mayM && (ds.all (dueB rs.length) && decide (tt.2 = 0))) := by unfold r19B; rw [h1', htt]; rfl
    rw [hB]
    refine W_skip (at_then ?_)
    refine W_rseq ?_
    refine op_assign rfl (.slice _ _ _) rfl ?_
    refine op_nil (at_then ?_)
    refine W_seq ?_
    refine W_rseq ?_
    refine op_assign rfl (.int _ _) rfl ?_
    refine op_nil (at_then ?_)
    refine W_block ?_
    refine W_loop 1073479760 (α := Nat) (fun i => [(6, .int .i64 (i : Int))]) (fun i w' => i ≤ rs.length ∧ Ctx w0 [] w' [] ∧ ∀ (k : Nat) (x : Int), k < i → rs[k]? = some x → mayM x = true) (fun i => rs.length - i) 0 rfl ?_ ?_ ?_
    · exact ⟨rfl, trivial⟩
    · exact ⟨Nat.zero_le _, H, fun k x h => absurd h (Nat.not_lt_zero _)⟩
    · clear H
      rintro i j w ⟨hi, H, hb⟩
      refine W_seq ?_
      refine W_rseq ?_
      refine op_move rfl (.int _ _) rfl ?_
      refine op_move rfl (.slice _ _ _) rfl ?_
      refine op_len rfl el_29_SpF rfl ?_
      refine op_lss rfl rfl rfl ?_
      refine op_nil (at_then ?_)
      refine W_cond _ rfl ?_ ?_
      · intro h2
        replace h2 := dec_t h2
        obtain ⟨x, hx⟩ := get_some (l := rs) (i := i) (by omega)
        refine W_skip (at_then ?_)
        refine W_seq ?_
        refine W_block ?_
        refine W_rseq ?_
        refine op_move rfl (.slice _ _ _) rfl ?_
        refine op_move rfl (.int _ _) rfl ?_
        first | refine op_indexRd R rfl el_29_SpF sz_2_SpF rfl rfl (by omega) (by omega) (by first | rfl | omega) ?_ | refine op_indexAddr rfl el_29_SpF sz_2_SpF rfl rfl (by omega) (by omega) ?_
        first | refine op_ldb rfl ag_2_SpF rfl H (by first | exact at0 | exact at1 | exact at2 | exact at3 | exact at4 | exact at5 | exact at6 | exact at7 | exact at8 | exact at9) rfl ?_ | refine op_ld rfl ag_2_SpF rfl (((R.ext0 H.ext).fld hx rfl (j := 0) rfl)) ?_
        refine op_call rfl ca_75_SpF (rmay16_ok x _) rfl ?_
        rintro v w ⟨rfl, rfl⟩
        refine op_not rfl rfl ?_
        refine op_nil (at_then ?_)
        refine W_cond _ rfl ?_ ?_
        · intro h3
          replace h3 := nvar_t h3
          refine W_rseq ?_
          refine op_assign rfl (.bool _) rfl ?_
          refine op_nil (at_then ?_)
          refine W_ret (ret_block (ret_then (ret_then (ret_block (ret_then (leave1 (v := (.bool _)) rfl rfl rfl ?_))))))
          exact ⟨congrArg Value.bool (by rw [all_false hx (show mayM x = false by simpa using h3)]; rfl), H.ext⟩
        · intro h3
          replace h3 := nvar_f h3
          refine W_skip (at_block (at_then ?_))
          refine W_region ?_
          refine op_move rfl (.int _ _) rfl ?_
          refine op_add_i64 rfl rfl rfl (by omega) (by omega) ?_
          refine op_assign rfl (.int _ _) rfl ?_
          refine op_nil (at_then ?_)
          exact ⟨i + 1, rfl, ⟨rfl, trivial⟩, ⟨by omega, H, all_snoc hx hb (by simpa using h3)⟩, by omega⟩
      · intro h2
        replace h2 := dec_f h2
        obtain rfl : i = rs.length := by omega
        have hal : rs.all mayM = true := all_true fun k x hk hx => hb k x hk hx
        rw [hal, Bool.true_and]
        refine W_exit (exit_then (exit_then (exit_here (at_then ?_))))
        refine W_seq ?_
        refine W_rseq ?_
        refine op_assign rfl (.int _ _) rfl ?_
        refine op_nil (at_then ?_)
        refine W_block ?_
        refine W_loop 1180591620716337561776 (α := LSt) (fun t => [(5, .slice t.a t.i t.c), (7, .int .i64 (t.i : Int))]) (fun t w' => t.i ≤ ds.length ∧ OS t.a t.i t.c 1 t.full (((ds.take t.i).map Du.am).map i64v) ∧ Ctx w0 [] w' (ent t.a 2 t.full) ∧ ∀ (k : Nat) (d : Du), k < t.i → ds[k]? = some d → dueB rs.length d = true) (fun t => ds.length - t.i) ⟨0, none, 0, []⟩ rfl ?_ ?_ ?_
        · exact ⟨rfl, rfl, trivial⟩
        · exact ⟨Nat.zero_le _, OS.nil, H, fun k x h => absurd h (Nat.not_lt_zero _)⟩
        · clear H
          rintro ⟨i, a2, c2, full⟩ jj w ⟨hi, O, H, hdb⟩; dsimp only at hi O H hdb; dsimp only
          refine W_seq ?_
          refine W_rseq ?_
          refine op_move rfl (.int _ _) rfl ?_
          refine op_move rfl (.slice _ _ _) rfl ?_
          refine op_len rfl el_23_SpF rfl ?_
          refine op_lss rfl rfl rfl ?_
          refine op_nil (at_then ?_)
          refine W_cond _ rfl ?_ ?_
          · intro h3
            replace h3 := dec_t h3
            obtain ⟨d, hd⟩ := get_some (l := ds) (i := i) (by omega)
            refine W_skip (at_then ?_)
            refine W_seq ?_
            refine W_block ?_
            refine W_seq ?_
            refine W_rseq (Wops_join (α := Unit) 4611685949707911168 (fun _ => [(61, .bool (!dueB rs.length d))]) (fun _ w' => Ctx w0 [] w' (ent a2 2 full)) rfl ?_ ?_)
            · refine op_move rfl (.slice _ _ _) rfl ?_
              refine op_move rfl (.int _ _) rfl ?_
              first | refine op_indexRd R rfl el_23_SpF sz_62_SpF rfl rfl (by omega) (by omega) (by first | rfl | omega) ?_ | refine op_indexRd Rd' rfl el_23_SpF sz_62_SpF rfl rfl (by omega) (by omega) (by first | rfl | omega) ?_ | refine op_indexAddr rfl el_23_SpF sz_62_SpF rfl rfl (by omega) (by omega) ?_
              first | refine op_ldN _ rfl ag_62_SpF sz_62_SpF rfl rfl ((Rd'.ext0 H.ext).row hd rfl) ?_ | refine op_ldbN rfl ag_62_SpF sz_62_SpF rfl H (by first | exact at0 | exact at1 | exact at2 | exact at3 | exact at4 | exact at5 | exact at6 | exact at7 | exact at8 | exact at9) rfl ?_
              refine op_call rfl ca_76_SpF (r18may_ok d _) rfl ?_
              rintro v w ⟨rfl, hx40⟩
              replace H := H.call hx40
              refine op_not rfl rfl ?_
              refine op_move rfl (.bool _) rfl ?_
              refine Wops_split 42 rfl ?_ ?_
              · intro h3
                replace h3 := nvar_t h3
                refine op_skip rfl ?_
                refine op_skip rfl ?_
                refine op_skip rfl ?_
                refine op_skip rfl ?_
                refine op_skip rfl ?_
                refine op_skip rfl ?_
                refine op_skip rfl ?_
                refine op_skip rfl ?_
                refine op_pick1 rfl rfl (.bool _) rfl ?_
                refine op_move rfl (.bool _) rfl ?_
                refine op_skip rfl ?_
                refine op_skip rfl ?_
                refine op_skip rfl ?_
                refine op_skip rfl ?_
                refine op_skip rfl ?_
                refine op_skip rfl ?_
                refine op_skip rfl ?_
                refine op_skip rfl ?_
                refine op_pick1 rfl rfl (.bool _) rfl ?_
                refine op_nil ?_
                exact ⟨rfl, (), rfl, ⟨congrArg Value.bool (by unfold dueB; rw [Bool.eq_iff_iff]; simp_all; try omega), trivial⟩, H⟩
              · intro h4
                replace h4 := nvar_f h4
                refine op_move rfl (.slice _ _ _) rfl ?_
                refine op_move rfl (.int _ _) rfl ?_
                first | refine op_indexRd R rfl el_23_SpF sz_62_SpF rfl rfl (by omega) (by omega) (by first | rfl | omega) ?_ | refine op_indexRd Rd' rfl el_23_SpF sz_62_SpF rfl rfl (by omega) (by omega) (by first | rfl | omega) ?_ | refine op_indexAddr rfl el_23_SpF sz_62_SpF rfl rfl (by omega) (by omega) ?_
                refine op_fieldAddr rfl fo_62_1_SpF rfl ?_
                first | refine op_ldb rfl ag_3_SpF rfl H (by first | exact at0 | exact at1 | exact at2 | exact at3 | exact at4 | exact at5 | exact at6 | exact at7 | exact at8 | exact at9) rfl ?_ | refine op_ld rfl ag_3_SpF rfl (((R.ext0 H.ext).fld hx rfl (j := 0) rfl)) ?_ | refine op_ld rfl ag_3_SpF rfl (((Rd'.ext0 H.ext).fld hd rfl (j := 1) rfl)) ?_ | refine op_ld rfl ag_3_SpF rfl (((Rd'.ext0 H.ext).fld hd rfl (j := 2) rfl)) ?_ | refine op_ld rfl ag_3_SpF rfl (((Rd'.ext0 H.ext).fld hd rfl (j := 3) rfl)) ?_
                refine op_move rfl (.slice _ _ _) rfl ?_
                refine op_len rfl el_29_SpF rfl ?_
                refine op_geq rfl rfl rfl ?_
                refine op_pick0 rfl rfl (.bool _) rfl ?_
                refine op_move rfl (.bool _) rfl ?_
                refine Wops_split 52 rfl ?_ ?_
                · intro h5
                  replace h5 := dec_t h5
                  refine op_skip rfl ?_
                  refine op_skip rfl ?_
                  refine op_skip rfl ?_
                  refine op_skip rfl ?_
                  refine op_skip rfl ?_
                  refine op_skip rfl ?_
                  refine op_skip rfl ?_
                  refine op_skip rfl ?_
                  refine op_pick1 rfl rfl (.bool _) rfl ?_
                  refine op_nil ?_
                  exact ⟨rfl, (), rfl, ⟨congrArg Value.bool (by unfold dueB; rw [Bool.eq_iff_iff]; simp_all; try omega), trivial⟩, H⟩
                · intro h6
                  replace h6 := dec_f h6
                  refine op_move rfl (.slice _ _ _) rfl ?_
                  refine op_move rfl (.int _ _) rfl ?_
                  first | refine op_indexRd R rfl el_23_SpF sz_62_SpF rfl rfl (by omega) (by omega) (by first | rfl | omega) ?_ | refine op_indexRd Rd' rfl el_23_SpF sz_62_SpF rfl rfl (by omega) (by omega) (by first | rfl | omega) ?_ | refine op_indexAddr rfl el_23_SpF sz_62_SpF rfl rfl (by omega) (by omega) ?_
                  refine op_fieldAddr rfl fo_62_2_SpF rfl ?_
                  first | refine op_ldb rfl ag_3_SpF rfl H (by first | exact at0 | exact at1 | exact at2 | exact at3 | exact at4 | exact at5 | exact at6 | exact at7 | exact at8 | exact at9) rfl ?_ | refine op_ld rfl ag_3_SpF rfl (((R.ext0 H.ext).fld hx rfl (j := 0) rfl)) ?_ | refine op_ld rfl ag_3_SpF rfl (((Rd'.ext0 H.ext).fld hd rfl (j := 1) rfl)) ?_ | refine op_ld rfl ag_3_SpF rfl (((Rd'.ext0 H.ext).fld hd rfl (j := 2) rfl)) ?_ | refine op_ld rfl ag_3_SpF rfl (((Rd'.ext0 H.ext).fld hd rfl (j := 3) rfl)) ?_
                  refine op_move rfl (.slice _ _ _) rfl ?_
                  refine op_len rfl el_29_SpF rfl ?_
                  refine op_geq rfl rfl rfl ?_
                  refine op_pick0 rfl rfl (.bool _) rfl ?_
                  refine op_nil ?_
                  exact ⟨rfl, (), rfl, ⟨congrArg Value.bool (by unfold dueB; rw [Bool.eq_iff_iff]; simp_all; try omega), trivial⟩, H⟩
            rintro - j61 w H
            refine W_cond _ rfl ?_ ?_
            · intro h4
              replace h4 := nvar_t h4
              refine W_rseq ?_
              refine op_assign rfl (.bool _) rfl ?_
              refine op_nil (at_then ?_)
              refine W_ret (ret_then (ret_block (ret_then (ret_then (ret_block (ret_then (leave1 (v := (.bool _)) rfl rfl rfl ?_)))))))
              have h5 : ds.all (dueB rs.length) = false := by
                rw [List.all_eq_false]
                exact ⟨d, List.mem_of_getElem? hd, by simpa using h4⟩
              exact ⟨congrArg Value.bool (by rw [h5]; rfl), H.ext⟩
            · intro h4
              replace h4 := nvar_f h4
              refine W_skip (at_then ?_)
              refine W_region ?_
              refine op_move rfl (.slice _ _ _) rfl ?_
              refine op_move rfl (.slice _ _ _) rfl ?_
              refine op_move rfl (.int _ _) rfl ?_
              first | refine op_indexRd R rfl el_23_SpF sz_62_SpF rfl rfl (by omega) (by omega) (by first | rfl | omega) ?_ | refine op_indexRd Rd' rfl el_23_SpF sz_62_SpF rfl rfl (by omega) (by omega) (by first | rfl | omega) ?_ | refine op_indexAddr rfl el_23_SpF sz_62_SpF rfl rfl (by omega) (by omega) ?_
              refine op_fieldAddr rfl fo_62_3_SpF rfl ?_
              first | refine op_ldb rfl ag_2_SpF rfl H (by first | exact at0 | exact at1 | exact at2 | exact at3 | exact at4 | exact at5 | exact at6 | exact at7 | exact at8 | exact at9) rfl ?_ | refine op_ld rfl ag_2_SpF rfl (((R.ext0 H.ext).fld hx rfl (j := 0) rfl)) ?_ | refine op_ld rfl ag_2_SpF rfl (((Rd'.ext0 H.ext).fld hd rfl (j := 1) rfl)) ?_ | refine op_ld rfl ag_2_SpF rfl (((Rd'.ext0 H.ext).fld hd rfl (j := 2) rfl)) ?_ | refine op_ld rfl ag_2_SpF rfl (((Rd'.ext0 H.ext).fld hd rfl (j := 3) rfl)) ?_
              refine op_build1 _ (.int _ _) rfl el_29_SpF sz_2_SpF zc_2_SpF rfl (by decide) (by decide) rfl rfl rfl H ?_
              rintro b68 w - H
              refine op_appendb (L := []) rfl el_29_SpF el_29_SpF sz_2_SpF by_2_SpF zc_2_SpF rfl (by decide) rfl rfl H O rfl (by simp [oneCell]) (by omega) ?_
              rintro a' c' full' w H O
              refine op_assign rfl (.slice _ _ _) rfl ?_
              refine op_nil (at_block (at_then ?_))
              refine W_region ?_
              refine op_move rfl (.int _ _) rfl ?_
              refine op_add_i64 rfl rfl rfl (by omega) (by omega) ?_
              refine op_assign rfl (.int _ _) rfl ?_
              refine op_nil (at_then ?_)
              refine ⟨⟨i + 1, a', c', full'⟩, rfl, ⟨rfl, rfl, trivial⟩, ⟨by dsimp only; omega, by dsimp only; rw [take_map hd, List.map_append]; exact O, H, fun k x hk hx => ?_⟩, by dsimp only; omega⟩
              rcases Nat.lt_or_ge k i with h7 | h7
              · exact hdb k x h7 hx
              · obtain rfl : k = i := by dsimp only at hk; omega
                rw [hd] at hx
                cases hx
                simpa using h4
          · intro h3
            replace h3 := dec_f h3
            obtain rfl : i = ds.length := by omega
            rw [List.take_length] at O
            have had : ds.all (dueB rs.length) = true := by
              rw [List.all_eq_true]
              intro d hd
              obtain ⟨k, hk⟩ := List.mem_iff_getElem?.1 hd
              exact hdb k d (get_lt hk) hk
            rw [had, Bool.true_and]
            refine W_exit (exit_then (exit_then (exit_here (at_then ?_))))
            refine W_rseq ?_
            refine op_move rfl (.slice _ _ _) rfl ?_
            refine op_call rfl ca_77_SpF (r16sum_ok a2 ds.length c2 (ds.map Du.am) _ (O.rd1 fun x hx => H.blk x hx) (by rw [List.length_map]) (by omega)) rfl ?_
            rintro v w ⟨rfl, rfl⟩
            rw [← htt]
            refine op_move rfl (.tuple _) rfl ?_
            refine op_extract rfl rfl rfl ?_
            refine op_extract rfl rfl rfl ?_
            refine op_assign rfl (.int _ _) rfl ?_
            refine op_assign rfl (.int _ _) rfl ?_
            refine op_nil (at_then ?_)
            refine W_rseq ?_
            refine op_move rfl (.int _ _) rfl ?_
            refine op_eql rfl rfl rfl ?_
            refine op_assign rfl (.bool _) rfl ?_
            refine op_nil (at_then ?_)
            refine W_ret (leave1 (v := (.bool _)) rfl rfl rfl ?_)
            exact ⟨rfl, H.ext⟩
end Go.Proofs.YtapphbmlkdhnmaaGreat

/- Accounts, looked up. -/
namespace Go.Proofs.YtapphbmlkdhnmaaGreat
open Go.GV
theorem ag_22_SpG : aggB Tryz.prog 22 = some false := by kernel_rfl
theorem ag_64_SpG : aggB Tryz.prog 64 = some true := by kernel_rfl
theorem el_22_SpG : elemT Tryz.prog 22 = some 64 := by kernel_rfl
theorem fo_116_0_SpG : fieldO Tryz.prog 116 0 = some 0 := by kernel_rfl
theorem pl_64_SpG : placesB Tryz.prog 64 = some [(0, 1), (1, 1)] := by kernel_rfl
theorem sz_64_SpG : tsize Tryz.prog 64 = some 2 := by kernel_rfl
theorem un_35_SpG : Tryz.prog.underlying 35 = some (.pointer 116) := by kernel_rfl
theorem zc_64_SpG : zcells Tryz.prog 64 = some ([.int .i64 0, .int .i64 0]) := by kernel_rfl
attribute [local irreducible] Wops W Wq Wt

def inA (acs : List Ac) (k : Int) : Bool := decide (0 ≤ k) && decide (k < acs.length)
def getA (acs : List Ac) (k : Int) : Ac := if inA acs k = true then acs.getD k.toNat a00 else a00
set_option maxRecDepth 20000 in
set_option maxHeartbeats 2000000 in
theorem aget_ok {bd : Nat} (a : Option Addr) (n c : Nat) (acs : List Ac) (k : Int) (w : World) (hd : w.heap[bd]? = some (Bl 116 [.slice a n c])) (R : Rd w a 2 encA acs) (hn : acs.length = n) (hm : n ≤ 1000000) :
    Ret Tryz.prog 53 #[ptr bd, .int .i64 k] w fun v w' => v = .tuple #[.agg (encA (getA acs k)).toArray, .bool (inA acs k)] ∧ Ext [] w w' := by
  subst hn
  obtain ⟨w0, rfl⟩ : ∃ w0, w0 = w := ⟨_, rfl⟩
  have H := Ctx.start w0 []
  refine ret_of_W (fn := Tryz.f53) Tryz.func53 rfl [.pointer (some ⟨bd, 0, none⟩), .int .i64 k] rfl (by kernel_rfl) ?_
  refine W_rseq ?_
  refine op_alloc rfl zc_64_SpG H ?_
  rintro b4 w - H
  refine op_assign rfl (.bool _) rfl ?_
  refine op_nil (at_then ?_)
  refine W_seq ?_
  refine W_rseq (Wops_join (α := Unit) 2097088 (fun _ => [(20, .bool (!inA acs k))]) (fun _ w' => Ctx w0 [] w' [(b4, Bl 64 (encA a00))]) rfl ?_ ?_)
  · refine op_move rfl (.pointer _) rfl ?_
    refine op_eqlptr rfl un_35_SpG rfl ?_
    refine op_move rfl (.bool _) rfl ?_
    refine Wops_split 8 rfl ?_ ?_
    · intro h1
      refine op_skip rfl ?_
      refine op_skip rfl ?_
      refine op_pick1 rfl rfl (.bool _) rfl ?_
      refine op_move rfl (.bool _) rfl ?_
      refine op_skip rfl ?_
      refine op_skip rfl ?_
      refine op_skip rfl ?_
      refine op_skip rfl ?_
      refine op_skip rfl ?_
      refine op_skip rfl ?_
      refine op_skip rfl ?_
      refine op_pick1 rfl rfl (.bool _) rfl ?_
      refine op_nil ?_
      exact ⟨rfl, (), rfl, ⟨congrArg Value.bool (by unfold inA; rw [Bool.eq_iff_iff]; simp_all; try omega), trivial⟩, H⟩
    · intro h2
      refine op_move rfl (.int _ _) rfl ?_
      refine op_lss rfl rfl rfl ?_
      refine op_pick0 rfl rfl (.bool _) rfl ?_
      refine op_move rfl (.bool _) rfl ?_
      refine Wops_split 12 rfl ?_ ?_
      · intro h3
        replace h3 := dec_t h3
        refine op_skip rfl ?_
        refine op_skip rfl ?_
        refine op_skip rfl ?_
        refine op_skip rfl ?_
        refine op_skip rfl ?_
        refine op_skip rfl ?_
        refine op_skip rfl ?_
        refine op_pick1 rfl rfl (.bool _) rfl ?_
        refine op_nil ?_
        exact ⟨rfl, (), rfl, ⟨congrArg Value.bool (by unfold inA; rw [Bool.eq_iff_iff]; simp_all; try omega), trivial⟩, H⟩
      · intro h4
        replace h4 := dec_f h4
        refine op_move rfl (.int _ _) rfl ?_
        refine op_move rfl (.pointer _) rfl ?_
        refine op_nilCheck rfl rfl ?_
        refine op_fieldAddr rfl fo_116_0_SpG rfl ?_
        first | refine op_ldb rfl ag_22_SpG rfl H (by first | exact at0 | exact at1 | exact at2 | exact at3 | exact at4 | exact at5 | exact at6 | exact at7 | exact at8 | exact at9) rfl ?_ | refine op_ld rfl ag_22_SpG rfl ((H.old0 (by rw [cell_bl hd]; rfl))) ?_
        refine op_len rfl el_22_SpG rfl ?_
        refine op_geq rfl rfl rfl ?_
        refine op_pick0 rfl rfl (.bool _) rfl ?_
        refine op_nil ?_
        exact ⟨rfl, (), rfl, ⟨congrArg Value.bool (by unfold inA; rw [Bool.eq_iff_iff]; simp_all; try omega), trivial⟩, H⟩
  rintro - j20 w H
  refine W_cond _ rfl ?_ ?_
  · intro h1
    replace h1 := nvar_t h1
    refine W_rseq ?_
    refine op_buildS [.int .i64 0, .int .i64 0] rfl pl_64_SpG zc_64_SpG (by kernel_rfl) ?_
    refine op_stb0 rfl sz_64_SpG rfl rfl rfl (by simp [oneCell]) H (by first | exact at0 | exact at1 | exact at2 | exact at3 | exact at4 | exact at5 | exact at6 | exact at7 | exact at8 | exact at9) rfl ?_
    rintro w H
    refine op_assign rfl (.bool _) rfl ?_
    refine op_nil (at_then ?_)
    refine W_ret (ret_then (leave2b rfl rfl rfl ag_64_SpG sz_64_SpG H (by first | exact at0 | exact at1 | exact at2 | exact at3 | exact at4 | exact at5 | exact at6 | exact at7 | exact at8 | exact at9) rfl (show _ = (.bool _) from rfl) ?_))
    have h1' : inA acs k = false := by simpa using h1
    exact ⟨by unfold getA; rw [h1', if_neg (by decide)]; rfl, H.ext⟩
  · intro h1
    replace h1 := nvar_f h1
    have h1' : inA acs k = true := by simpa using h1
    have h2 : 0 ≤ k ∧ k < acs.length := by unfold inA at h1'; simpa using h1'
    obtain ⟨i, rfl⟩ : ∃ i : Nat, k = (i : Int) := ⟨k.toNat, by omega⟩
    obtain ⟨x, hx⟩ := get_some (l := acs) (i := i) (by omega)
    refine W_skip (at_then ?_)
    refine W_rseq ?_
    refine op_move rfl (.pointer _) rfl ?_
    refine op_nilCheck rfl rfl ?_
    refine op_fieldAddr rfl fo_116_0_SpG rfl ?_
    first | refine op_ldb rfl ag_22_SpG rfl H (by first | exact at0 | exact at1 | exact at2 | exact at3 | exact at4 | exact at5 | exact at6 | exact at7 | exact at8 | exact at9) rfl ?_ | refine op_ld rfl ag_22_SpG rfl ((H.old0 (by rw [cell_bl hd]; rfl))) ?_
    refine op_move rfl (.int _ _) rfl ?_
    first | refine op_indexRd R rfl el_22_SpG sz_64_SpG rfl rfl (by omega) (by omega) (by first | rfl | omega) ?_ | refine op_indexAddr rfl el_22_SpG sz_64_SpG rfl rfl (by omega) (by omega) ?_
    first | refine op_ldN _ rfl ag_64_SpG sz_64_SpG rfl rfl ((R.ext0 H.ext).row hx rfl) ?_ | refine op_ldbN rfl ag_64_SpG sz_64_SpG rfl H (by first | exact at0 | exact at1 | exact at2 | exact at3 | exact at4 | exact at5 | exact at6 | exact at7 | exact at8 | exact at9) rfl ?_
    refine op_stb0 rfl sz_64_SpG rfl rfl rfl (by first | exact encA_one _ | simp [oneCell]) H (by first | exact at0 | exact at1 | exact at2 | exact at3 | exact at4 | exact at5 | exact at6 | exact at7 | exact at8 | exact at9) rfl ?_
    rintro w H
    refine op_assign rfl (.bool _) rfl ?_
    refine op_nil (at_then ?_)
    refine W_ret (leave2b rfl rfl rfl ag_64_SpG sz_64_SpG H (by first | exact at0 | exact at1 | exact at2 | exact at3 | exact at4 | exact at5 | exact at6 | exact at7 | exact at8 | exact at9) rfl (show _ = (.bool _) from rfl) ?_)
    exact ⟨by unfold getA; rw [h1', if_pos rfl, show ((i : Int)).toNat = i from rfl, getD_of hx], H.ext⟩
end Go.Proofs.YtapphbmlkdhnmaaGreat

/- The dues: Add, where nothing stands against it. -/
namespace Go.Proofs.YtapphbmlkdhnmaaGreat
open Go.GV
theorem ag_121_SpH : aggB Tryz.prog 121 = some false := by kernel_rfl
theorem ag_24_SpH : aggB Tryz.prog 24 = some false := by kernel_rfl
theorem ag_62_SpH : aggB Tryz.prog 62 = some true := by kernel_rfl
theorem by_2_SpH : tbytes Tryz.prog 2 = some 8 := by kernel_rfl
theorem ca_110_SpH : callable Tryz.prog 110 = true := by kernel_rfl
theorem ca_112_SpH : callable Tryz.prog 112 = true := by kernel_rfl
theorem ca_113_SpH : callable Tryz.prog 113 = true := by kernel_rfl
theorem el_29_SpH : elemT Tryz.prog 29 = some 2 := by kernel_rfl
theorem fo_123_0_SpH : fieldO Tryz.prog 123 0 = some 0 := by kernel_rfl
theorem fo_123_1_SpH : fieldO Tryz.prog 123 1 = some 1 := by kernel_rfl
theorem fo_62_0_SpH : fieldO Tryz.prog 62 0 = some 0 := by kernel_rfl
theorem mixed_SpH : Tryz.prog.follows .mixedOrders = true := by kernel_rfl
theorem mt_121_SpH : mapT Tryz.prog 121 = some (24, 62) := by kernel_rfl
theorem pl_62_SpH : placesB Tryz.prog 62 = some [(0, 1), (1, 1), (2, 1), (3, 1), (4, 1), (5, 1), (6, 1)] := by kernel_rfl
theorem sz_24_SpH : tsize Tryz.prog 24 = some 1 := by kernel_rfl
theorem sz_2_SpH : tsize Tryz.prog 2 = some 1 := by kernel_rfl
theorem sz_62_SpH : tsize Tryz.prog 62 = some 7 := by kernel_rfl
theorem un_24_SpH : Tryz.prog.underlying 24 = some (.int .u64) := by kernel_rfl
theorem un_36_SpH : Tryz.prog.underlying 36 = some (.pointer 123) := by kernel_rfl
theorem zc_2_SpH : zcells Tryz.prog 2 = some ([.int .i64 0]) := by kernel_rfl
theorem zc_62_SpH : zcells Tryz.prog 62 = some ([.int .u64 0, .int .i64 0, .int .i64 0, .int .i64 0, .int .i64 0, .int .i64 0, .bool false]) := by kernel_rfl
attribute [local irreducible] Wops W Wq Wt

section
variable {P : Program} {r : Option Nat} {ops rest : List Oper} {Q : Exit → Env → World → Prop} {e : Env} {w : World} {dst : Option Tmp} {ty : TypeId} {pos : String} {af : Array Edge} {g : Option (Nat × Bool)}
theorem op_lenM {t k el : TypeId} {kk : IntKind} {x : Operand} {b : Nat} {o : Obj} {m : List (Int × Value)} (hg : wants ⟨dst, .call ⟨.builtin .len, #[x], #[t]⟩, ty, pos, af, g⟩ ops e = true) (ht : mapT P t = some (k, el)) (hx : ev e x = .map (some b)) (hb : w.heap[b]? = some o) (hM : MapO kk m o)
    (h : Wops P r ops Q rest (put e dst (.int .i64 (m.length : Int))) w) : Wops P r ops Q (⟨dst, .call ⟨.builtin .len, #[x], #[t]⟩, ty, pos, af, g⟩ :: rest) e w := by
  obtain ⟨es, clock, rfl, hes, _⟩ := hM
  have hl : es.size = m.length := by
    have := congrArg List.length hes
    simpa using this
  have hgo : (getObj b).run P w = .ok (.map es clock) w := by simp [getObj, Sem.run, hb]
  exact op_val hg rfl (by simp [execOp, resolve, invoke, builtin, hx, Builtin.len_, run_under (mapT_u ht), hgo, goInt, hl]) h
end
theorem mset_new {ds : List Du} {d : Du} (h : mget (dm ds) d.id = none) : mset (dm ds) d.id (dueV d) = dm (ds ++ [d]) := by
  rw [← dm_app]
  generalize dm ds = m at h
  induction m with
  | nil => rfl
  | cons p m ih =>
    have hp : ¬ p.1 = d.id := by
      intro hp
      simp [mget, hp] at h
    have hb2 : (p.1 == d.id) = false := by simpa using hp
    have hm2 : mget m d.id = none := by rw [← h]; simp [mget, hb2]
    simp [mset, hp, ih hm2]
set_option maxRecDepth 20000 in
set_option maxHeartbeats 4000000 in
theorem dadd_ok {bd b : Nat} {nx : Int} {o : Obj} {ds : List Du} {d : Du} (w : World) (hd : w.heap[bd]? = some (Bl 123 (DU b nx))) (hb : w.heap[b]? = some o) (hM : MapO .u64 (dm ds) o) (hbd : bd ≠ b) (hid : d.id = nx) (hheld : d.held = false) (hmay : mayD d = true) (hlen : ds.length < 64)
    (hnx : 1 ≤ nx ∧ nx < 4611686018427387904) (hnew : ∀ x ∈ ds, x.id ≠ nx) (htot : (totM (ds.map Du.am ++ [d.am])).2 = 0) :
    Ret Tryz.prog 52 #[ptr bd, .int .i64 d.fr, .int .i64 d.to, .int .i64 d.am, .int .i64 d.we, .int .i64 d.un] w fun v w' => v = .tuple #[.int .u64 nx, .int .i64 0] ∧ ∃ o', MapO .u64 (dm (ds ++ [d])) o' ∧ Ctx w [bd, b] w' [(bd, Bl 123 (DU b (nx + 1))), (b, o')] := by
  obtain ⟨w0, rfl⟩ : ∃ w0, w0 = w := ⟨_, rfl⟩
  have H : Ctx w0 [bd, b] w0 [(bd, Bl 123 (DU b nx)), (b, o)] := ⟨Ext.refl _ _, fun y hy => by
    simp only [List.mem_cons, List.not_mem_nil, or_false] at hy
    rcases hy with rfl | rfl
    · exact hd
    · exact hb, by simp only [List.pairwise_cons, List.mem_singleton, forall_eq, List.not_mem_nil, false_implies, implies_true, List.Pairwise.nil, and_true]; exact hbd, fun y hy => by
    simp only [List.mem_cons, List.not_mem_nil, or_false] at hy
    rcases hy with rfl | rfl
    · exact .inl (List.mem_cons_self ..)
    · exact .inl (List.mem_cons_of_mem _ (List.mem_cons_self ..))⟩
  have hdl : (dm ds).length = ds.length := by unfold dm; rw [List.length_map]
  have hno : mget (dm ds) d.id = none := mget_none fun x hx => by rw [hid]; exact hnew x hx
  obtain ⟨tt, htt⟩ : ∃ tt, tt = totM (ds.map Du.am ++ [d.am]) := ⟨_, rfl⟩
  rw [← htt] at htot
  have henc : [Value.int .u64 nx, .int .i64 d.fr, .int .i64 d.to, .int .i64 d.am, .int .i64 d.we, .int .i64 d.un, .bool false] = encD d := by rw [← hid, ← hheld]
  refine ret_of_W (fn := Tryz.f52) Tryz.func52 rfl [.pointer (some ⟨bd, 0, none⟩), .int .i64 d.fr, .int .i64 d.to, .int .i64 d.am, .int .i64 d.we, .int .i64 d.un] rfl (by kernel_rfl) ?_
  refine W_rseq ?_
  refine op_assign rfl (.int _ _) rfl ?_
  refine op_assign rfl (.int _ _) rfl ?_
  refine op_nil (at_then ?_)
  refine W_seq ?_
  refine W_rseq ?_
  refine op_move rfl (.pointer _) rfl ?_
  refine op_eqlptr rfl un_36_SpH rfl ?_
  refine op_nil (at_then ?_)
  refine W_cond _ rfl ?_ ?_
  · intro h0
    cases h0
  · intro h0
    refine W_skip (at_then ?_)
    refine W_rseq ?_
    refine op_move rfl (.pointer _) rfl ?_
    refine op_nilCheck rfl rfl ?_
    refine op_fieldAddr rfl fo_123_1_SpH rfl ?_
    refine op_ldb rfl ag_24_SpH rfl H (by first | exact at0 | exact at1 | exact at2 | exact at3 | exact at4 | exact at5 | exact at6 | exact at7 | exact at8 | exact at9) rfl ?_
    refine op_move rfl (.int _ _) rfl ?_
    refine op_move rfl (.int _ _) rfl ?_
    refine op_move rfl (.int _ _) rfl ?_
    refine op_move rfl (.int _ _) rfl ?_
    refine op_move rfl (.int _ _) rfl ?_
    refine op_buildS (encD d) rfl pl_62_SpH zc_62_SpH (by rw [← henc]; kernel_rfl) ?_
    refine op_alloc rfl zc_62_SpH H ?_
    rintro b14 w - H
    refine op_stb0 rfl sz_62_SpH rfl rfl rfl (by first | exact encD_one d | simp [oneCell]) H (by first | exact at0 | exact at1 | exact at2 | exact at3 | exact at4 | exact at5 | exact at6 | exact at7 | exact at8 | exact at9) rfl ?_
    rintro w H
    refine op_nil (at_then ?_)
    refine W_seq ?_
    refine W_block ?_
    refine W_rseq ?_
    refine op_ldbN rfl ag_62_SpH sz_62_SpH rfl H (by first | exact at0 | exact at1 | exact at2 | exact at3 | exact at4 | exact at5 | exact at6 | exact at7 | exact at8 | exact at9) rfl ?_
    refine op_call rfl ca_112_SpH (dmay_ok d _) rfl ?_
    rintro v w ⟨rfl, hx31⟩
    replace H := H.call hx31
    rw [hmay]
    refine op_not rfl rfl ?_
    refine op_assign rfl (.bool _) rfl ?_
    refine op_nil (at_then ?_)
    refine W_cond _ rfl ?_ ?_
    · intro h1
      replace h1 := nvar_t h1
      cases h1
    · intro h1
      replace h1 := nvar_f h1
      refine W_seq ?_
      refine W_rseq ?_
      refine op_move rfl (.pointer _) rfl ?_
      refine op_nilCheck rfl rfl ?_
      refine op_fieldAddr rfl fo_123_0_SpH rfl ?_
      refine op_ldb rfl ag_121_SpH rfl H (by first | exact at0 | exact at1 | exact at2 | exact at3 | exact at4 | exact at5 | exact at6 | exact at7 | exact at8 | exact at9) rfl ?_
      refine op_lenM rfl mt_121_SpH rfl (H.get at2) hM ?_
      rw [hdl]
      refine op_geq rfl rfl rfl ?_
      refine op_assign rfl (.bool _) rfl ?_
      refine op_nil (at_then ?_)
      refine W_csplit 33 rfl ?_ ?_
      · intro h2
        replace h2 := dec_t h2
        omega
      · intro h2
        replace h2 := dec_f h2
        refine W_region ?_
        refine op_move rfl (.pointer _) rfl ?_
        refine op_nilCheck rfl rfl ?_
        refine op_fieldAddr rfl fo_123_1_SpH rfl ?_
        refine op_ldb rfl ag_24_SpH rfl H (by first | exact at0 | exact at1 | exact at2 | exact at3 | exact at4 | exact at5 | exact at6 | exact at7 | exact at8 | exact at9) rfl ?_
        refine op_geq rfl rfl rfl ?_
        refine op_assign rfl (.bool _) rfl ?_
        refine op_nil (at_then ?_)
        refine W_csplit 33 rfl ?_ ?_
        · intro h3
          replace h3 := dec_t h3
          omega
        · intro h3
          replace h3 := dec_f h3
          refine W_skip (at_block (at_then ?_))
          refine W_seq ?_
          refine W_rseq ?_
          refine op_move rfl (.pointer _) rfl ?_
          refine op_call rfl ca_113_SpH (amounts_ok _ (H.get at1) (H.get at2) hM (by omega)) rfl ?_
          rintro v w ⟨l, hlp, F⟩
          obtain ⟨a3, n3, c3, f3, rfl, O3, hb3⟩ := F.ex
          have hl3 := O3.llen
          rw [List.length_map] at hl3
          have hlq := hlp.length_eq
          rw [List.length_map] at hlq
          replace H : Ctx w0 [bd, b] w ([(b14, Bl 62 (encD d)), (bd, Bl 123 (DU b nx)), (b, o)] ++ ent a3 2 f3) := H.callEnt F.ext hb3 ent_nd
          refine op_move rfl (.int _ _) rfl ?_
          refine op_build1 _ (.int _ _) rfl el_29_SpH sz_2_SpH zc_2_SpH rfl (by decide) (by decide) rfl rfl rfl H ?_
          rintro b49 w - H
          refine op_appendb (L := [_, _, _]) rfl el_29_SpH el_29_SpH sz_2_SpH by_2_SpH zc_2_SpH rfl (by decide) rfl rfl H O3 rfl (by simp [oneCell]) (by omega) ?_
          rintro a' c' full' w H O
          refine op_call rfl ca_110_SpH (msum_ok a' (n3 + 1) c' (l ++ [d.am]) _ (OS.rd1 (f := i64v) (t := 2) (xs := l ++ [d.am]) (by rw [List.map_append]; exact O) (fun x hx => H.blk x (List.mem_append_right [_, _, _] hx))) (by rw [List.length_append]; show l.length + 1 = _; omega) (by omega)) rfl ?_
          rintro v w ⟨rfl, rfl⟩
          rw [totM_perm (hlp.append_right [d.am])]
          rw [← htt]
          refine op_move rfl (.tuple _) rfl ?_
          refine op_extract rfl rfl rfl ?_
          refine op_extract rfl rfl rfl ?_
          refine op_assign rfl (.int _ _) rfl ?_
          refine op_assign rfl (.int _ _) rfl ?_
          refine op_nil (at_then ?_)
          refine W_rseq ?_
          refine op_move rfl (.int _ _) rfl ?_
          refine op_neq rfl rfl rfl ?_
          refine op_nil (at_then ?_)
          refine W_cond _ rfl ?_ ?_
          · intro h4
            replace h4 := ndec_t h4
            exact absurd htot h4
          · intro h4
            replace h4 := ndec_f h4
            replace H := H.left
            refine W_skip (at_then ?_)
            refine W_tseq 7 mixed_SpH (by kernel_rfl) rfl rfl ?_
            refine q_move rfl (.pointer _) rfl ?_
            refine q_nilCheck rfl rfl ?_
            refine q_fieldAddr rfl fo_123_0_SpH rfl ?_
            refine q_ldb rfl ag_121_SpH rfl (by rintro _ rfl; exact H.drew) (by first | exact at0 | exact at1 | exact at2 | exact at3 | exact at4 | exact at5 | exact at6 | exact at7 | exact at8 | exact at9) rfl ?_
            refine q_fieldAddr rfl fo_62_0_SpH rfl ?_
            refine q_ldb rfl ag_24_SpH rfl (by rintro _ rfl; exact H.drew) (by first | exact at0 | exact at1 | exact at2 | exact at3 | exact at4 | exact at5 | exact at6 | exact at7 | exact at8 | exact at9) rfl ?_
            refine q_ldbN rfl ag_62_SpH sz_62_SpH rfl (by rintro _ rfl; exact H.drew) (by first | exact at0 | exact at1 | exact at2 | exact at3 | exact at4 | exact at5 | exact at6 | exact at7 | exact at8 | exact at9) rfl ?_
            refine q_nil ?_
            replace H := H.drew
            refine op_mapUpdate (dueV d) rfl mt_121_SpH un_24_SpH rfl rfl rfl H at2 hM ?_
            rintro o2 w hM2 H
            refine op_nil (at_then ?_)
            refine W_rseq ?_
            refine op_move rfl (.pointer _) rfl ?_
            refine op_nilCheck rfl rfl ?_
            refine op_fieldAddr rfl fo_123_1_SpH rfl ?_
            refine op_ldb rfl ag_24_SpH rfl H (by first | exact at0 | exact at1 | exact at2 | exact at3 | exact at4 | exact at5 | exact at6 | exact at7 | exact at8 | exact at9) rfl ?_
            refine op_add_u64 rfl rfl rfl (by omega) (by omega) ?_
            refine op_nilCheck rfl rfl ?_
            refine op_fieldAddr rfl fo_123_1_SpH rfl ?_
            refine op_stb (.int _ _) rfl sz_24_SpH rfl rfl rfl H (by first | exact at0 | exact at1 | exact at2 | exact at3 | exact at4 | exact at5 | exact at6 | exact at7 | exact at8 | exact at9) (by first | decide | (simp; done) | (simp; omega)) ?_
            rintro w H
            refine op_nil (at_then ?_)
            refine W_rseq ?_
            refine op_fieldAddr rfl fo_62_0_SpH rfl ?_
            refine op_ldb rfl ag_24_SpH rfl H (by first | exact at0 | exact at1 | exact at2 | exact at3 | exact at4 | exact at5 | exact at6 | exact at7 | exact at8 | exact at9) rfl ?_
            refine op_assign rfl (.int _ _) rfl ?_
            refine op_assign rfl (.int _ _) rfl ?_
            refine op_nil (at_then ?_)
            refine W_ret (leave2 (v1 := (.int _ _)) (v2 := (.int _ _)) rfl rfl rfl rfl ?_)
            rw [mset_new hno] at hM2
            exact ⟨by rw [hid], o2, hM2, H.tail⟩
end Go.Proofs.YtapphbmlkdhnmaaGreat

/- Nets, as the reference has them. -/
namespace Go.Proofs.YtapphbmlkdhnmaaGreat
open Go.GV
theorem ag_3_SpI : aggB Tryz.prog 3 = some false := by kernel_rfl
theorem fo_28_0_SpI : fieldO Tryz.prog 28 0 = some 0 := by kernel_rfl
attribute [local irreducible] Wops W Wq Wt

def nodeR (N k : Int) : Bool := decide (0 ≤ k) && decide (k < N)
theorem rnode_ok (N : Int) (a : Option Addr) (n c : Nat) (k : Int) (w : World) : Ret Tryz.prog 124 #[netV N a n c, .int .i64 k] w fun v w' => v = .bool (nodeR N k) ∧ Ext [] w w' := by
  obtain ⟨w0, rfl⟩ : ∃ w0, w0 = w := ⟨_, rfl⟩
  have H := Ctx.start w0 []
  refine ret_of_W (fn := Tryz.f124) Tryz.func124 rfl [netV N a n c, .int .i64 k] rfl (by kernel_rfl) ?_
  refine W_rseq ?_
  refine op_box rfl [.int .i64 N, .slice a n c] (.agg _) rfl rfl H ?_
  rintro b2 w - H
  refine op_assign rfl (.bool _) rfl ?_
  refine op_nil (at_then ?_)
  refine W_rseq ?_
  refine op_move rfl (.int _ _) rfl ?_
  refine op_geq rfl rfl rfl ?_
  refine op_move rfl (.bool _) rfl ?_
  refine Wops_split 7 rfl ?_ ?_
  · intro h1
    replace h1 := dec_t h1
    refine op_move rfl (.int _ _) rfl ?_
    refine op_fieldAddr rfl fo_28_0_SpI rfl ?_
    refine op_ldb rfl ag_3_SpI rfl H (by first | exact at0 | exact at1 | exact at2 | exact at3 | exact at4 | exact at5 | exact at6 | exact at7 | exact at8 | exact at9) rfl ?_
    refine op_lss rfl rfl rfl ?_
    refine op_pick1 rfl rfl (.bool _) rfl ?_
    refine op_assign rfl (.bool _) rfl ?_
    refine op_nil (at_then ?_)
    refine W_ret (leave1 (v := (.bool _)) rfl rfl rfl ?_)
    exact ⟨congrArg Value.bool (by unfold nodeR; rw [Bool.eq_iff_iff]; simp_all; try omega), H.ext⟩
  · intro h2
    replace h2 := dec_f h2
    refine op_skip rfl ?_
    refine op_skip rfl ?_
    refine op_skip rfl ?_
    refine op_skip rfl ?_
    refine op_pick0 rfl rfl (.bool _) rfl ?_
    refine op_assign rfl (.bool _) rfl ?_
    refine op_nil (at_then ?_)
    refine W_ret (leave1 (v := (.bool _)) rfl rfl rfl ?_)
    exact ⟨congrArg Value.bool (by unfold nodeR; rw [Bool.eq_iff_iff]; simp_all; try omega), H.ext⟩
end Go.Proofs.YtapphbmlkdhnmaaGreat

/- What is left when open dues are paid, one by one: plain law. -/
namespace Go.Proofs.YtapphbmlkdhnmaaGreat
open Go.GV

theorem totM_zero {xs : List Int} : (totM xs).2 = 0 ↔ (∀ x ∈ xs, mayM x = true) ∧ sumM xs ≤ 4503599627370496 := by
  unfold totM
  cases h : xs.all mayM with
  | false =>
    rw [if_pos rfl]
    refine ⟨fun h => by simp at h, fun h2 => ?_⟩
    rw [List.all_eq_true.2 h2.1] at h; cases h
  | true =>
    rw [if_neg (by decide)]
    rw [List.all_eq_true] at h
    split
    · rename_i h3; exact ⟨fun _ => ⟨h, h3⟩, fun _ => rfl⟩
    · rename_i h3; exact ⟨fun h => by simp at h, fun h4 => absurd h4.2 h3⟩
theorem ofC_iff {ds : List Du} {nx : Int} : ofC ds nx = 0 ↔ ds.length ≤ 64 ∧ (1 ≤ nx ∧ nx ≤ 4611686018427387904) ∧ ascB nx 0 ds = true ∧ (totM (ds.map (·.am))).2 = 0 := by
  unfold ofC
  by_cases h1 : 64 < ds.length
  · rw [if_pos h1]; exact ⟨fun h => by simp at h, fun h => absurd h.1 (by omega)⟩
  rw [if_neg h1]
  by_cases h2 : 1 ≤ nx ∧ nx ≤ 4611686018427387904
  · rw [decide_eq_true h2.1, decide_eq_true h2.2, if_neg (by decide)]
    cases h3 : ascB nx 0 ds with
    | false => rw [if_pos rfl]; exact ⟨fun h => by simp at h, fun h => by cases h.2.2.1⟩
    | true => rw [if_neg (by decide)]; exact ⟨fun h => ⟨by omega, h2, rfl, h⟩, fun h => h.2.2.2⟩
  · have : (decide (1 ≤ nx) && decide (nx ≤ 4611686018427387904)) = false := by
      rw [Bool.eq_false_iff]; intro h; simp only [Bool.and_eq_true, decide_eq_true_eq] at h; exact h2 h
    rw [if_pos this]
    exact ⟨fun h => by simp at h, fun h => absurd h.2.1 h2⟩
theorem ascB_le {nx a b : Int} {ds : List Du} (h : ascB nx b ds = true) (hab : a ≤ b) : ascB nx a ds = true := by
  cases ds with
  | nil => rfl
  | cons d ds =>
    simp only [ascB, Bool.and_eq_true, decide_eq_true_eq] at h ⊢
    exact ⟨⟨h.1.1, by omega, h.1.2.2⟩, h.2⟩
/-- What is left when the open ones are paid. -/
def leftL : List Du → List Int → List Du
  | [], _ => []
  | d :: ds, [] => d :: ds
  | d :: ds, x :: xs => if d.held = true then d :: leftL ds (x :: xs) else if d.am = x then leftL ds xs else { d with am := d.am - x } :: leftL ds xs
theorem leftL_nil (ds : List Du) : leftL ds [] = ds := by cases ds <;> rfl
theorem leftL_held {d : Du} (h : d.held = true) (ds : List Du) (xs : List Int) : leftL (d :: ds) xs = d :: leftL ds xs := by
  cases xs with
  | nil => rw [leftL_nil, leftL_nil]
  | cons x xs => show (if d.held = true then _ else _) = _; rw [if_pos h]
theorem leftL_free {d : Du} (h : ¬ d.held = true) (ds : List Du) (x : Int) (xs : List Int) : leftL (d :: ds) (x :: xs) = (if d.am = x then [] else [{ d with am := d.am - x }]) ++ leftL ds xs := by
  show (if d.held = true then _ else _) = _
  rw [if_neg h]
  split <;> rfl
theorem opn_cons (d : Du) (ds : List Du) : opn (d :: ds) = (if d.held = true then [] else [d]) ++ opn ds := by
  unfold opn
  rw [List.filter_cons]
  cases d.held <;> rfl
/-- What is paid may be. -/
def PayIn (os : List Du) (xs : List Int) : Prop := os.length = xs.length ∧ ∀ (i : Nat) (d : Du) (x : Int), os[i]? = some d → xs[i]? = some x → 0 ≤ x ∧ x ≤ d.am
theorem PayIn.tail {d : Du} {x : Int} {os : List Du} {xs : List Int} (h : PayIn (d :: os) (x :: xs)) : (0 ≤ x ∧ x ≤ d.am) ∧ PayIn os xs :=
  ⟨h.2 0 d x rfl rfl, by have := h.1; simp only [List.length_cons] at this; omega, fun i e y he hy => h.2 (i + 1) e y he hy⟩
theorem PayIn.cons {d : Du} {os : List Du} {xs : List Int} (h : PayIn (d :: os) xs) : ∃ x xs', xs = x :: xs' := by
  cases xs with
  | nil => have := h.1; simp at this
  | cons x xs => exact ⟨x, xs, rfl⟩
/-- Through the dues, one by one: what is held stays, what is open is paid. -/
theorem left_ind {motive : List Du → List Int → Prop} (h0 : ∀ xs, motive [] xs) (h1 : ∀ d ds xs, d.held = true → motive ds xs → motive (d :: ds) xs) (h2 : ∀ d ds x xs, ¬ d.held = true → 0 ≤ x → x ≤ d.am → motive ds xs → motive (d :: ds) (x :: xs)) : ∀ (ds : List Du) (xs : List Int), PayIn (opn ds) xs → motive ds xs
  | [], xs, _ => h0 xs
  | d :: ds, xs, h => by
    rw [opn_cons] at h
    by_cases hd : d.held = true
    · rw [if_pos hd] at h
      exact h1 d ds xs hd (left_ind h0 h1 h2 ds xs h)
    · rw [if_neg hd] at h
      obtain ⟨x, xs, rfl⟩ := PayIn.cons h
      obtain ⟨ha, hb⟩ := PayIn.tail h
      exact h2 d ds x xs hd ha.1 ha.2 (left_ind h0 h1 h2 ds xs hb)
theorem left_asc {nx : Int} {ds : List Du} {xs : List Int} (h : PayIn (opn ds) xs) : ∀ ah, ascB nx ah ds = true → ascB nx ah (leftL ds xs) = true := by
  refine left_ind (motive := fun ds xs => ∀ ah, ascB nx ah ds = true → ascB nx ah (leftL ds xs) = true) ?_ ?_ ?_ ds xs h
  · intro xs ah h; exact h
  · intro d ds xs hd ih ah h
    rw [leftL_held hd]
    simp only [ascB, Bool.and_eq_true, decide_eq_true_eq] at h ⊢
    exact ⟨h.1, ih _ h.2⟩
  · intro d ds x xs hd h0 h1 ih ah h
    rw [leftL_free hd]
    simp only [ascB, Bool.and_eq_true, decide_eq_true_eq] at h
    by_cases he : d.am = x
    · rw [if_pos he]
      exact ascB_le (ih _ h.2) (by omega)
    · rw [if_neg he]
      show ascB nx ah ({ d with am := d.am - x } :: leftL ds xs) = true
      simp only [ascB, Bool.and_eq_true, decide_eq_true_eq]
      refine ⟨⟨?_, h.1.2⟩, ih _ h.2⟩
      have hm := h.1.1
      unfold mayD mayM at hm ⊢
      simp only [Bool.and_eq_true, decide_eq_true_eq, Bool.not_eq_true', decide_eq_false_iff_not] at hm ⊢
      exact ⟨hm.1, by omega, by omega, hm.2.2.2⟩
theorem left_len {ds : List Du} {xs : List Int} (h : PayIn (opn ds) xs) : (leftL ds xs).length ≤ ds.length := by
  refine left_ind (motive := fun ds xs => (leftL ds xs).length ≤ ds.length) ?_ ?_ ?_ ds xs h
  · intro xs; exact Nat.le_refl _
  · intro d ds xs hd ih; rw [leftL_held hd]; simpa using ih
  · intro d ds x xs hd _ _ ih
    rw [leftL_free hd, List.length_append, List.length_cons]
    split <;> simp <;> omega
/-- A sum over dues, each by what it weighs: less what was paid. -/
theorem left_sum (c : Du → Int) (hc : ∀ d z, c { d with am := z } = c d) {ds : List Du} {xs : List Int} (h : PayIn (opn ds) xs) : sumM ((leftL ds xs).map fun d => c d * d.am) = sumM (ds.map fun d => c d * d.am) - sumM (List.zipWith (fun d x => c d * x) (opn ds) xs) := by
  refine left_ind (motive := fun ds xs => sumM ((leftL ds xs).map fun d => c d * d.am) = sumM (ds.map fun d => c d * d.am) - sumM (List.zipWith (fun d x => c d * x) (opn ds) xs)) ?_ ?_ ?_ ds xs h
  · intro xs; rfl
  · intro d ds xs hd ih
    rw [leftL_held hd, opn_cons, if_pos hd, List.map_cons, List.map_cons, sumM_cons, sumM_cons, ih, List.nil_append]; omega
  · intro d ds x xs hd _ _ ih
    rw [leftL_free hd, opn_cons, if_neg hd, List.cons_append, List.nil_append, List.map_append, sumM_append, ih, List.map_cons, sumM_cons]
    show _ = _ - sumM ((c d * x) :: List.zipWith _ _ _)
    rw [sumM_cons]
    by_cases he : d.am = x
    · rw [if_pos he, he]
      show sumM [] + _ = _
      have : sumM [] = 0 := rfl
      rw [this]; omega
    · rw [if_neg he]
      show sumM [c { d with am := d.am - x } * (d.am - x)] + _ = _
      have h1 : ∀ z : Int, sumM [z] = z := fun z => by rw [sumM_cons]; show z + 0 = z; omega
      rw [h1, hc, Int.mul_sub]; omega
theorem left_of {nx : Int} {ds : List Du} {xs : List Int} (h : PayIn (opn ds) xs) (ho : ofC ds nx = 0) : ofC (leftL ds xs) nx = 0 := by
  obtain ⟨h1, h2, h3, h4⟩ := ofC_iff.1 ho
  have h5 := left_asc h 0 h3
  have h6 := left_len h
  have h7 := left_sum (fun _ => 1) (fun _ _ => rfl) h
  simp only [Int.one_mul] at h7
  obtain ⟨ha, hb⟩ := totM_zero.1 h4
  refine ofC_iff.2 ⟨by omega, h2, h5, totM_zero.2 ⟨fun x hx => ?_, ?_⟩⟩
  · obtain ⟨d, hd, rfl⟩ := List.mem_map.1 hx
    have := ((asc_lt h5).1 d hd).2.2.2
    unfold mayD at this
    simp only [Bool.and_eq_true] at this
    exact this.2.2.1
  · have h8 : 0 ≤ sumM (List.zipWith (fun _ x => x) (opn ds) xs) := sumM_nonneg fun x hx => by
      obtain ⟨i, hi⟩ := List.mem_iff_getElem?.1 hx
      rw [List.getElem?_zipWith] at hi
      cases h9 : (opn ds)[i]? with
      | none => rw [h9] at hi; cases hi
      | some d =>
        cases h10 : xs[i]? with
        | none => rw [h9, h10] at hi; cases hi
        | some y =>
          rw [h9, h10] at hi
          injection hi with hi
          have := (h.2 i d y h9 h10).1
          omega
    show sumM ((leftL ds xs).map fun d => d.am) ≤ _
    rw [h7]
    show sumM (ds.map fun d => d.am) - _ ≤ _
    have hb' : sumM (ds.map fun d => d.am) ≤ 4503599627370496 := hb
    omega
/-- Pays, one by one, each right. -/
def payOK (ds : List Du) : List (Du × Int) → Prop
  | [] => True
  | p :: ps => (findD ds p.1.id = some p.1 ∧ p.1.held = false ∧ 0 ≤ p.2 ∧ p.2 ≤ p.1.am) ∧ payOK (payL ds p.1.id p.2) ps
def payA (ds : List Du) : List (Du × Int) → List Du
  | [] => ds
  | p :: ps => payA (payL ds p.1.id p.2) ps
theorem payA_append (ps qs : List (Du × Int)) : ∀ ds, payA ds (ps ++ qs) = payA (payA ds ps) qs := by
  induction ps with
  | nil => intro ds; rfl
  | cons p ps ih => intro ds; exact ih _
theorem payOK_append {ps qs : List (Du × Int)} : ∀ {ds}, payOK ds (ps ++ qs) → payOK ds ps ∧ payOK (payA ds ps) qs := by
  induction ps with
  | nil => intro ds h; exact ⟨trivial, h⟩
  | cons p ps ih => intro ds h; exact ⟨⟨h.1, (ih h.2).1⟩, (ih h.2).2⟩
/-- A step. -/
theorem payOK_at {ds : List Du} {ps : List (Du × Int)} (h : payOK ds ps) {i : Nat} {p : Du × Int} (hp : ps[i]? = some p) : (findD (payA ds (ps.take i)) p.1.id = some p.1 ∧ p.1.held = false ∧ 0 ≤ p.2 ∧ p.2 ≤ p.1.am) ∧ payA ds (ps.take (i + 1)) = payL (payA ds (ps.take i)) p.1.id p.2 := by
  have hs : ps = ps.take i ++ ps.drop i := (List.take_append_drop i ps).symm
  have hd : ps.drop i = p :: ps.drop (i + 1) := by
    have hl := get_lt hp
    rw [List.drop_eq_getElem_cons hl]
    rw [List.getElem?_eq_getElem hl] at hp
    injection hp with hp
    rw [hp]
  rw [hs, hd] at h
  refine ⟨(payOK_append h).2.1, ?_⟩
  rw [List.take_succ, hp]
  exact payA_append _ [p] ds
theorem payC_zero {ds : List Du} {p : Du × Int} (h : findD ds p.1.id = some p.1 ∧ p.1.held = false ∧ 0 ≤ p.2 ∧ p.2 ≤ p.1.am) : payC ds p.1.id p.2 = 0 ∧ payS ds p.1.id p.2 = payL ds p.1.id p.2 := by
  have h1 : payC ds p.1.id p.2 = 0 := by
    unfold payC pC
    rw [h.1]
    show (if p.2 < 0 then (1 : Int) else if p.1.held = true then 14 else if p.1.am < p.2 then 12 else 0) = 0
    rw [if_neg (by omega), h.2.1, if_neg (by decide), if_neg (by omega)]
  exact ⟨h1, by unfold payS; rw [if_pos h1]⟩
theorem payL_pre {P ds : List Du} {k x : Int} (h : ∀ d ∈ P, d.id ≠ k) : payL (P ++ ds) k x = P ++ payL ds k x := by
  induction P with
  | nil => rfl
  | cons y P ih =>
    show (if y.id = k then _ else y :: payL (P ++ ds) k x) = _
    rw [if_neg (h y (List.mem_cons_self ..)), ih fun d hd => h d (List.mem_cons_of_mem _ hd)]; rfl
theorem findD_pre {P ds : List Du} {k : Int} (h : ∀ d ∈ P, d.id ≠ k) : findD (P ++ ds) k = findD ds k := by
  unfold findD
  rw [List.find?_append, List.find?_eq_none.2 fun d hd => by simpa using h d hd]; rfl
theorem pay_all {ds : List Du} {xs : List Int} (h : PayIn (opn ds) xs) : ∀ P : List Du, ((P ++ ds).map (·.id)).Nodup → payOK (P ++ ds) ((opn ds).zip xs) ∧ payA (P ++ ds) ((opn ds).zip xs) = P ++ leftL ds xs := by
  refine left_ind (motive := fun ds xs => ∀ P : List Du, ((P ++ ds).map (·.id)).Nodup → payOK (P ++ ds) ((opn ds).zip xs) ∧ payA (P ++ ds) ((opn ds).zip xs) = P ++ leftL ds xs) ?_ ?_ ?_ ds xs h
  · intro xs P _; exact ⟨trivial, rfl⟩
  · intro d ds xs hd ih P hn
    rw [opn_cons, if_pos hd, leftL_held hd, List.nil_append]
    have := ih (P ++ [d]) (by rw [List.append_assoc]; exact hn)
    rw [List.append_assoc, List.append_assoc] at this
    exact this
  · intro d ds x xs hd h0 h1 ih P hn
    have hP : ∀ e ∈ P, e.id ≠ d.id := fun e he h => by
      rw [List.map_append, List.nodup_append] at hn
      exact hn.2.2 e.id (List.mem_map_of_mem (f := fun d : Du => d.id) he) d.id (List.mem_map_of_mem (f := fun d : Du => d.id) (List.mem_cons_self ..)) h
    have hpl : payL (P ++ d :: ds) d.id x = P ++ ((if d.am = x then [] else [{ d with am := d.am - x }]) ++ ds) := by
      rw [payL_pre hP]
      congr 1
      show (if d.id = d.id then _ else _) = _
      rw [if_pos rfl]
      split <;> rfl
    rw [opn_cons, if_neg hd, leftL_free hd]
    show ((findD (P ++ d :: ds) d.id = some d ∧ d.held = false ∧ 0 ≤ x ∧ x ≤ d.am) ∧ payOK (payL (P ++ d :: ds) d.id x) ((opn ds).zip xs)) ∧ payA (payL (P ++ d :: ds) d.id x) ((opn ds).zip xs) = _
    rw [hpl, ← List.append_assoc]
    have hn2 : ((P ++ (if d.am = x then ([] : List Du) else [{ d with am := d.am - x }]) ++ ds).map fun d : Du => d.id).Nodup := by
      split
      · rw [List.append_nil]
        refine List.Nodup.sublist ?_ hn
        exact List.Sublist.map _ (List.Sublist.append (List.Sublist.refl _) (List.sublist_cons_self _ _))
      · rw [List.append_assoc, List.map_append] at *
        exact hn
    obtain ⟨i1, i2⟩ := ih _ hn2
    refine ⟨⟨⟨?_, by simpa using hd, h0, h1⟩, i1⟩, by rw [i2, List.append_assoc]⟩
    rw [findD_pre hP]
    unfold findD
    rw [List.find?_cons, show (d.id == d.id) = true by simp]
theorem nodup_lt {l : List Int} (h : l.Pairwise (· < ·)) : l.Nodup := h.imp fun h => by omega
theorem of_nodup {nx : Int} {ds : List Du} (h : ofC ds nx = 0) : (ds.map (·.id)).Nodup := nodup_lt (asc_lt (ofC_iff.1 h).2.2.1).2.1
theorem of_may {nx : Int} {ds : List Du} (h : ofC ds nx = 0) {d : Du} (hd : d ∈ ds) : 0 < d.id ∧ d.id < nx ∧ mayD d = true := by
  have := (asc_lt (ofC_iff.1 h).2.2.1).1 d hd
  exact ⟨this.1, this.2.2⟩
theorem mayD_am {d : Du} (h : mayD d = true) : (0 ≤ d.fr ∧ d.fr < 16) ∧ (0 ≤ d.to ∧ d.to < 16) ∧ d.fr ≠ d.to ∧ (1 ≤ d.am ∧ d.am ≤ 4503599627370496) ∧ (1 ≤ d.we ∧ d.we ≤ 1000) ∧ 0 ≤ d.un := by
  unfold mayD mayM bankB at h
  simp only [Bool.and_eq_true, decide_eq_true_eq, Bool.not_eq_true', decide_eq_false_iff_not] at h
  exact ⟨h.1.1, h.1.2.1, h.1.2.2, ⟨h.2.1, h.2.2.1.2⟩, ⟨h.2.2.2.1, h.2.2.2.2.1⟩, h.2.2.2.2.2⟩
/-- Amounts stay small. -/
def AmOk (ds : List Du) : Prop := ∀ d ∈ ds, 0 ≤ d.am ∧ d.am ≤ 4503599627370496
theorem of_am {nx : Int} {ds : List Du} (h : ofC ds nx = 0) : AmOk ds := fun d hd => by
  have := (mayD_am (of_may h hd).2.2).2.2.2.1
  omega
theorem payL_am {ds : List Du} {k x : Int} {e : Du} (h : AmOk ds) (hf : findD ds k = some e) (h0 : 0 ≤ x) (h1 : x ≤ e.am) : AmOk (payL ds k x) ∧ (payL ds k x).length ≤ ds.length := by
  induction ds with
  | nil => cases hf
  | cons d ds ih =>
    unfold findD at hf
    rw [List.find?_cons] at hf
    have hd := h d (List.mem_cons_self ..)
    unfold payL
    by_cases hk : d.id = k
    · rw [show (d.id == k) = true by simpa using hk] at hf
      injection hf with hf
      subst hf
      rw [if_pos hk]
      split
      · exact ⟨fun e he => h e (List.mem_cons_of_mem _ he), by simp⟩
      · refine ⟨fun e he => ?_, by simp⟩
        rcases List.mem_cons.1 he with rfl | he
        · exact ⟨by show 0 ≤ d.am - x; omega, by show d.am - x ≤ _; omega⟩
        · exact h e (List.mem_cons_of_mem _ he)
    · rw [show (d.id == k) = false by simpa using hk] at hf
      obtain ⟨i1, i2⟩ := ih (fun e he => h e (List.mem_cons_of_mem _ he)) hf
      rw [if_neg hk]
      refine ⟨fun e he => ?_, by simpa using i2⟩
      rcases List.mem_cons.1 he with rfl | he
      · exact hd
      · exact i1 e he
theorem payA_am {ds : List Du} {ps : List (Du × Int)} (h : AmOk ds) (hp : payOK ds ps) : ∀ i, AmOk (payA ds (ps.take i)) ∧ (payA ds (ps.take i)).length ≤ ds.length
  | 0 => ⟨h, Nat.le_refl _⟩
  | i + 1 => by
    obtain ⟨i1, i2⟩ := payA_am h hp i
    cases hi : ps[i]? with
    | none => rw [List.take_succ, hi]; show AmOk (payA ds (ps.take i ++ [])) ∧ (payA ds (ps.take i ++ [])).length ≤ _; rw [List.append_nil]; exact ⟨i1, i2⟩
    | some p =>
      obtain ⟨h1, h2⟩ := payOK_at hp hi
      rw [h2]
      obtain ⟨h3, h4⟩ := payL_am i1 h1.1 h1.2.2.1 h1.2.2.2
      exact ⟨h3, Nat.le_trans h4 i2⟩
end Go.Proofs.YtapphbmlkdhnmaaGreat
