/- Part 12 of the proof. -/
import Derived.Test.YtbkadlngijkmmaaGreatDoorPart8
import Derived.Test.YtbkadlngijkmmaaGreatDoorPart11
import Derived.Test.YtbkadlngijkmmaaGreatDoorPart10
/- What a node has, each part as full as goes: the walk. -/
namespace Go.Proofs.YtbkadlngijkmmaaGreatDoor
open Go.GV
theorem ag_114_TrBa : aggB Tryz.prog 114 = some false := by kernel_rfl
theorem ag_116_TrBa : aggB Tryz.prog 116 = some true := by kernel_rfl
theorem ag_120_TrBa : aggB Tryz.prog 120 = some true := by kernel_rfl
theorem by_116_TrBa : tbytes Tryz.prog 116 = some 32 := by kernel_rfl
theorem by_120_TrBa : tbytes Tryz.prog 120 = some 56 := by kernel_rfl
theorem ca_137_TrBa : callable Tryz.prog 137 = true := by kernel_rfl
theorem ca_138_TrBa : callable Tryz.prog 138 = true := by kernel_rfl
theorem ca_74_TrBa : callable Tryz.prog 74 = true := by kernel_rfl
theorem el_114_TrBa : elemT Tryz.prog 114 = some 120 := by kernel_rfl
theorem el_137_TrBa : elemT Tryz.prog 137 = some 116 := by kernel_rfl
theorem el_196_TrBa : elemT Tryz.prog 196 = some 114 := by kernel_rfl
theorem fo_116_0_TrBa : fieldO Tryz.prog 116 0 = some 0 := by kernel_rfl
theorem fo_116_1_TrBa : fieldO Tryz.prog 116 1 = some 1 := by kernel_rfl
theorem pl_116_TrBa : placesB Tryz.prog 116 = some [(0, 1), (1, 1)] := by kernel_rfl
theorem sz_114_TrBa : tsize Tryz.prog 114 = some 1 := by kernel_rfl
theorem sz_116_TrBa : tsize Tryz.prog 116 = some 2 := by kernel_rfl
theorem sz_120_TrBa : tsize Tryz.prog 120 = some 3 := by kernel_rfl
theorem zc_114_TrBa : zcells Tryz.prog 114 = some ([.slice none 0 0]) := by kernel_rfl
theorem zc_116_TrBa : zcells Tryz.prog 116 = some ([.bool false, .slice none 0 0]) := by kernel_rfl
theorem zc_120_TrBa : zcells Tryz.prog 120 = some ([.slice none 0 0, .slice none 0 0, .int .i64 0]) := by kernel_rfl
attribute [local irreducible] Wops W Wq Wt

theorem OS.setN {a : Option Addr} {n c s : Nat} {full l : List Value} (O : OS a n c s full l) (k : Nat) (v : Value) : OS a n c s (full.set k v) (l.set k v) :=
  ⟨O.zero, O.none', by rw [List.length_set]; exact O.len, O.le, by rw [List.take_set, O.pre]⟩
theorem encN_len (inner : Bool) (ps : List SN) : (ps.flatMap (encN inner)).length = ps.length * 2 := by
  induction ps with
  | nil => rfl
  | cons p ps ih => rw [List.flatMap_cons, List.length_append, ih, List.length_cons]; show 2 + _ = _; omega
theorem encN_last (inner : Bool) (qs : List SN) (q : SN) (v : Value) (p : SN) (hv : v = .slice p.1 p.2.1.length p.2.2) : ((qs ++ [q]).flatMap (encN inner)).set (qs.length * 2 + 1) v = (qs ++ [p]).flatMap (encN inner) := by
  have h := encN_len inner qs
  rw [List.flatMap_append, List.flatMap_append, List.set_append_right _ _ (by omega), h, show qs.length * 2 + 1 - qs.length * 2 = 1 by omega, hv]
  rfl
theorem snoc_of {α : Type} {l : List α} (h : l ≠ []) : ∃ qs q, l = qs ++ [q] := ⟨l.dropLast, l.getLast h, (List.dropLast_concat_getLast h).symm⟩
theorem MY.sub {M : Mut} {Y Y2 : List (Nat × Obj)} (h : ∀ y ∈ Y2, y ∈ Y) : ∀ x, MY M Y2 x → MY M Y x := fun _ hx => hx.imp id fun hx => by
  obtain ⟨y, hy, rfl⟩ := List.mem_map.1 hx
  exact List.mem_map.2 ⟨y, h y hy, rfl⟩
theorem Fo.sub {w : World} {M : Mut} {Y Y2 : List (Nat × Obj)} (O : Fo w M Y) (h : ∀ y ∈ Y2, y ∈ Y) (nd : Y2.Pairwise fun x y => x.1 ≠ y.1) : Fo w M Y2 := ⟨fun y hy => O.blk y (h y hy), nd, fun y hy => O.off y (h y hy)⟩
/-- Items of one's own, in whatever block. -/
theorem Its.mine {w : World} {M : Mut} {Y : List (Nat × Obj)} (O : Fo w M Y) {pa : Option Addr} {pc : Nat} {pf : List Value} {pm : List Im} (OA : OS pa pm.length pc 3 pf (pm.flatMap Im.enc)) (hb : ∀ x ∈ ent pa 120 pf, x ∈ Y) (hm : ∀ m ∈ pm, m.Ok w M) : Its w M pa pm.length pc (pm.map (·.it)) := by
  refine ⟨⟨pm, OS.rd OA (fun y hy => O.blk y (hb y hy)) (fun _ _ => rfl) (by decide), ?_, rfl, hm⟩, by simp, OA.le⟩
  cases ha : pa with
  | none => exact .inl (List.eq_nil_of_length_eq_zero (by have h8 := OA.le; have h9 := OA.none' ha; omega))
  | some q =>
    subst ha
    exact .inr fun h => O.off (q.block, _) (hb _ (List.mem_singleton.2 rfl)) (by obtain ⟨qb, qo, qs⟩ := q; exact h)
theorem Its.push {w : World} {M : Mut} {Y : List (Nat × Obj)} {pa : Option Addr} {pc : Nat} {pf : List Value} {pm : List Im} (O : Fo w M (Y ++ ent pa 120 pf)) (OA : OS pa pm.length pc 3 pf (pm.flatMap Im.enc)) (hm : ∀ m ∈ pm, m.Ok w (MY M (Y ++ ent pa 120 pf))) :
    Fo w M Y ∧ Its w (MY M Y) pa pm.length pc (pm.map (·.it)) := by
  have hnd := List.pairwise_append.1 O.nd
  refine ⟨O.sub (fun y hy => List.mem_append_left _ hy) hnd.1, ⟨⟨pm, OS.rd OA (fun y hy => O.blk y (List.mem_append_right _ hy)) (fun _ _ => rfl) (by decide), ?_, rfl, fun m h => (hm m h).weak (MY.sub fun y hy => List.mem_append_left _ hy)⟩, by simp, OA.le⟩⟩
  cases ha : pa with
  | none => exact .inl (List.eq_nil_of_length_eq_zero (by have h8 := OA.le; have h9 := OA.none' ha; omega))
  | some q =>
    subst ha
    refine .inr fun h => ?_
    have hq : (adr (some q)).block = q.block := by obtain ⟨qb, qo, qs⟩ := q; rfl
    rw [hq] at h
    rcases h with h | h
    · exact O.off (q.block, _) (List.mem_append_right _ (List.mem_singleton.2 rfl)) h
    · obtain ⟨y, hy, he⟩ := List.mem_map.1 h
      exact hnd.2.2 y hy (q.block, _) (List.mem_singleton.2 rfl) he
theorem Ctx.nilE {w0 w : World} {S : List Nat} {L : List (Nat × Obj)} (t : TypeId) (H : Ctx w0 S w L) : Ctx w0 S w (L ++ ent none t []) := by simpa [ent] using H
theorem encN_oneE (inner : Bool) (a : Option Addr) (n c : Nat) : ∀ v ∈ [Value.bool inner, .slice a n c], oneCell v = true := fun v hv => by
  simp only [List.mem_cons, List.not_mem_nil, or_false] at hv
  rcases hv with rfl | rfl <;> rfl
theorem fixL_last (i : Bool) (l : List (List It)) (q part : List It) : fixL i (l ++ [q]) part = if i = true ∧ part.length = 1 then l ++ [q.take (q.length - 1)] ++ [q.drop (q.length - 1) ++ part] else l ++ [q] ++ [part] := by
  unfold fixL lastI
  have h1 : (l ++ [q]) ≠ [] := by simp
  have h2 : (l ++ [q]).getLastD [] = q := by simp
  have h3 : (l ++ [q]).take ((l ++ [q]).length - 1) = l := by simp
  rw [h2, h3]
  by_cases h : i = true ∧ part.length = 1
  · rw [if_pos ⟨h.1, h.2, h1⟩, if_pos h]
  · rw [if_neg fun h5 => h ⟨h5.1, h5.2.1⟩, if_neg h]

theorem fullG_flat (i : Bool) : ∀ (M part : List It) (l : List (List It)), (fullG i M part l).1.flatten ++ (fullG i M part l).2 = l.flatten ++ (part ++ M)
  | [], part, l => by simp [fullG]
  | x :: M, part, l => by
    unfold fullG
    split
    · rw [fullG_flat i M]; simp
    · rw [fullG_flat i M]; simp
/-- Where the walk stands: the parts, and the one that is not full. -/
structure FS where
  i : Nat
  la : Option Addr
  lc : Nat
  lf : List Value
  ps : List SN
  pa : Option Addr
  pc : Nat
  pf : List Value
  pm : List Im
abbrev FY (b1 b3 : Nat) (inner : Bool) (a : Option Addr) (n cc : Nat) (s : FS) : List (Nat × Obj) :=
  (b3, Bl 116 [.bool inner, .slice s.pa s.pm.length s.pc]) :: (b1, Bl 116 [.bool inner, .slice a n cc]) :: (ent s.la 116 s.lf ++ ent s.pa 120 s.pf)
structure FInv (w0 w : World) (M : Mut) (b1 b3 : Nat) (inner : Bool) (a : Option Addr) (n cc : Nat) (L : List It) (s : FS) : Prop where
  O : Fo w M (FY b1 b3 inner a n cc s)
  I : Its w (MY M (FY b1 b3 inner a n cc s)) a n cc L
  OL : OS s.la s.ps.length s.lc 2 s.lf (s.ps.flatMap (encN inner))
  OP : OS s.pa s.pm.length s.pc 3 s.pf (s.pm.flatMap Im.enc)
  pm : ∀ m ∈ s.pm, m.Ok w (MY M (FY b1 b3 inner a n cc s)) ∧ m.it ∈ L
  ps : ∀ p ∈ s.ps, Its w (MY M (FY b1 b3 inner a n cc s)) p.1 p.2.1.length p.2.2 p.2.1 ∧ p.2.1 ≠ []
  eq : fullG inner (L.drop s.i) (s.pm.map (·.it)) (s.ps.map (fun p => p.2.1)) = fullG inner L [] []
  hx : Ext [] w0 w
  yo : ∀ y ∈ (FY b1 b3 inner a n cc s).map (·.1), w0.heap.size ≤ y
  num : s.ps.length + s.pm.length ≤ s.i

set_option maxRecDepth 20000 in
set_option maxHeartbeats 8000000 in
theorem full_ok {w : World} {M : Mut} (hM : ∀ x, M x → x < w.heap.size) (inner : Bool) {a : Option Addr} {n c : Nat} {L : List It} (I : Its w M a n c L) (hm : n ≤ 100000) (hsz : ∀ x ∈ L, x.key.length ≤ 65535 ∧ x.val.length ≤ 65535) (hs5 : ∀ x ∈ L, sizeI inner x ≤ 503) :
    Ret Tryz.prog 79 #[.agg #[.bool inner, .slice a n c]] w fun v w' => ∃ a' n' c', v = .slice a' n' c' ∧ Nds w' M inner a' n' c' (fullN inner L) ∧ Ext [] w w' := by
  obtain ⟨w0, rfl⟩ : ∃ w0, w0 = w := ⟨_, rfl⟩
  have H := Ctx.start w0 []
  have hnum := I.num
  refine ret_of_W (fn := Tryz.f79) Tryz.func79 rfl [.agg #[.bool inner, .slice a n c]] rfl (by kernel_rfl) ?_
  refine W_rseq ?_
  refine op_box rfl [.bool inner, .slice a n c] (.agg _) rfl rfl H ?_
  rintro b1 w - H
  refine op_assign rfl (.slice _ _ _) rfl ?_
  refine op_nil (at_then ?_)
  refine W_rseq ?_
  refine op_fieldAddr rfl fo_116_0_TrBa rfl ?_
  refine op_ldb rfl ag_4 rfl H (by first | exact at0 | exact at1 | exact at2 | exact at3 | exact at4 | exact at5 | exact at6 | exact at7 | exact at8 | exact at9) rfl ?_
  refine op_buildS [.bool inner, .slice none 0 0] rfl pl_116_TrBa zc_116_TrBa (by kernel_rfl) ?_
  refine op_alloc rfl zc_116_TrBa H ?_
  rintro b3 w - H
  refine op_stb0 rfl sz_116_TrBa rfl rfl rfl (by first | exact encN_oneE _ _ _ _ | simp [oneCell]) H (by first | exact at0 | exact at1 | exact at2 | exact at3 | exact at4 | exact at5 | exact at6 | exact at7 | exact at8 | exact at9) rfl ?_
  rintro w H
  refine op_nil (at_then ?_)
  refine W_seq ?_
  refine W_rseq ?_
  refine op_fieldAddr rfl fo_116_1_TrBa rfl ?_
  refine op_ldb rfl ag_114_TrBa rfl H (by first | exact at0 | exact at1 | exact at2 | exact at3 | exact at4 | exact at5 | exact at6 | exact at7 | exact at8 | exact at9) rfl ?_
  refine op_len rfl el_114_TrBa rfl ?_
  refine op_move rfl (.int _ _) rfl ?_
  refine op_nil (at_then ?_)
  refine W_block ?_
  have hlt0 : ∀ {z : World}, Ext [] w0 z → ∀ x, M x → x < z.heap.size := fun {z} hz x h => Nat.lt_of_lt_of_le (hM x h) hz.size
  obtain ⟨O0, G0⟩ := (Fo.nil (w := w0) (M := M)).own hM H
  refine W_loop 549755797540 (α := FS) (fun s => [(14, .int .i64 (s.i : Int)), (2, .slice s.la s.ps.length s.lc)]) (fun s w' => s.i ≤ n ∧ FInv w0 w' M b1 b3 inner a n c L s) (fun s => n - s.i) ⟨0, none, 0, [], [], none, 0, [], []⟩ rfl ?_ ?_ ?_
  · exact ⟨rfl, rfl, trivial⟩
  · exact ⟨Nat.zero_le _, ⟨O0, (I.weak MY.nil).turn G0, OS.nil, OS.nil, (fun m h => by cases h), (fun p h => by cases h), rfl, H.ext, young (w0 := w0) (Y := []) (fun y h => by cases h) (Nat.le_refl _) H, Nat.le_refl _⟩⟩
  · rintro ⟨i, la, lc, lf, ps, pa, pc, pf, pm⟩ j w ⟨hi, V⟩; dsimp only at hi; dsimp only
    have hpn := V.num
    have VOP := V.OP
    have VOL := V.OL
    dsimp only at hpn VOP VOL
    refine W_rseq ?_
    refine op_lss rfl rfl rfl ?_
    refine op_nil (at_then ?_)
    refine W_seq ?_
    refine W_cond _ rfl ?_ ?_
    · intro h1
      replace h1 := dec_t h1
      obtain ⟨ms, R, -, hl, hok⟩ := V.I.ex
      have hml : ms.length = n := by rw [hnum, ← hl, List.length_map]
      obtain ⟨x, hx1⟩ := get_some (l := ms) (i := i) (by omega)
      have hxL := Im.at hl hx1
      have hxm := List.mem_of_getElem? hxL
      have hxs := hsz x.it hxm
      have hx5 := hs5 x.it hxm
      have hxo := hok x (List.mem_of_getElem? hx1)
      have heq := V.eq
      dsimp only at heq
      rw [drop_cons hxL, fullG] at heq
      obtain ⟨w3, rfl⟩ : ∃ z, z = w := ⟨_, rfl⟩
      have H := V.O.ctx
      have hlt3 := hlt0 V.hx
      have hyo3 := V.yo
      refine W_skip (at_then ?_)
      refine W_seq ?_
      refine W_block ?_
      refine W_rseq ?_
      first | refine op_indexRd R rfl el_114_TrBa sz_120_TrBa rfl rfl (by omega) (by omega) (by first | rfl | omega) ?_ | refine op_indexAddr rfl el_114_TrBa sz_120_TrBa rfl rfl (by omega) (by omega) ?_
      first | refine op_ldN _ rfl ag_120_TrBa sz_120_TrBa rfl rfl (R.row hx1 rfl) ?_ | refine op_ldbN rfl ag_120_TrBa sz_120_TrBa rfl H (by first | exact at0 | exact at1 | exact at2 | exact at3 | exact at4 | exact at5 | exact at6 | exact at7 | exact at8 | exact at9) rfl ?_
      refine op_alloc rfl zc_120_TrBa H ?_
      rintro b5 w - H
      refine op_stb0 rfl sz_120_TrBa rfl rfl rfl (by first | exact encN_oneE _ _ _ _ | exact Im.oneE _ | simp [oneCell]) H (by first | exact at0 | exact at1 | exact at2 | exact at3 | exact at4 | exact at5 | exact at6 | exact at7 | exact at8 | exact at9) rfl ?_
      rintro w H
      refine op_nil (at_then ?_)
      refine W_seq ?_
      obtain ⟨w4, rfl⟩ : ∃ z, z = w := ⟨_, rfl⟩
      obtain ⟨O4, G4⟩ := V.O.own hlt3 H
      have hx04 : Ext [] w0 w4 := V.hx.then H.ext fun x hx => .inr (hyo3 x hx)
      have hyo4 := young hyo3 V.hx.size H
      have hlt4 := hlt0 hx04
      have hb5 := H.get at0
      have hb3 := H.get at1
      have hb1 := H.get at2
      have hxo4 := hxo.turn G4
      have Ip : Its w4 M pa pm.length pc (pm.map (·.it)) := Its.mine O4 V.OP (fun y hy => List.mem_cons_of_mem _ (List.mem_cons_of_mem _ (List.mem_cons_of_mem _ (List.mem_append_right _ hy)))) (fun m hm => ((V.pm m hm).1.turn G4).weak MY.le)
      have hszp : ∀ y ∈ pm.map (·.it), y.key.length ≤ 65535 ∧ y.val.length ≤ 65535 := fun y hy => by
        obtain ⟨m, hm, rfl⟩ := List.mem_map.1 hy
        exact hsz _ (V.pm m hm).2
      have htp := total_le (inner := inner) hszp
      rw [List.length_map] at htp
      have hD := Ext.drew [] w4
      have hk3 : ∀ {z : World}, Ext [] w4 z → z.heap[b3]? = some (Bl 116 [.bool inner, .slice pa pm.length pc]) := fun {z} h => by rw [h.block b3 (heap_lt hb3) (by simp)]; exact hb3
      have hk1 : ∀ {z : World}, Ext [] w4 z → z.heap[b1]? = some (Bl 116 [.bool inner, .slice a n c]) := fun {z} h => by rw [h.block b1 (heap_lt hb1) (by simp)]; exact hb1
      have hk5 : ∀ {z : World}, Ext [] w4 z → z.heap[b5]? = some (Bl 120 x.enc) := fun {z} h => by rw [h.block b5 (heap_lt hb5) (by simp)]; exact hb5
      refine W_sseqz [([0, 2, 3], 1), ([], 4), ([5], 6)] (fun z => Ext [] w4 z) [] mixed (by kernel_rfl) (hD) ?_
      refine seg_cons rfl rfl ?_
      first | refine t_ldN _ rfl ag_116_TrBa sz_116_TrBa rfl rfl (fun _ hx => (fun j v hv => by rw [cell_bl (hk3 hx), Nat.zero_add]; exact hv)) ?_ | refine t_ldN _ rfl ag_116_TrBa sz_116_TrBa rfl rfl (fun _ hx => (fun j v hv => by rw [cell_bl (hk1 hx), Nat.zero_add]; exact hv)) ?_ | refine t_ldN _ rfl ag_116_TrBa sz_116_TrBa rfl rfl (fun _ hx => (fun j v hv => by rw [cell_bl (hk5 hx), Nat.zero_add]; exact hv)) ?_ | refine t_ldbN rfl ag_116_TrBa sz_116_TrBa rfl (fun _ _ => Ctx.start _ []) (by first | exact at0 | exact at1 | exact at2 | exact at3 | exact at4 | exact at5 | exact at6 | exact at7 | exact at8 | exact at9) rfl ?_
      first | refine t_ldN _ rfl ag_116_TrBa sz_116_TrBa rfl rfl (fun _ hx => (fun j v hv => by rw [cell_bl (hk3 hx), Nat.zero_add]; exact hv)) ?_ | refine t_ldN _ rfl ag_116_TrBa sz_116_TrBa rfl rfl (fun _ hx => (fun j v hv => by rw [cell_bl (hk1 hx), Nat.zero_add]; exact hv)) ?_ | refine t_ldN _ rfl ag_116_TrBa sz_116_TrBa rfl rfl (fun _ hx => (fun j v hv => by rw [cell_bl (hk5 hx), Nat.zero_add]; exact hv)) ?_ | refine t_ldbN rfl ag_116_TrBa sz_116_TrBa rfl (fun _ _ => Ctx.start _ []) (by first | exact at0 | exact at1 | exact at2 | exact at3 | exact at4 | exact at5 | exact at6 | exact at7 | exact at8 | exact at9) rfl ?_
      first | refine t_ldN _ rfl ag_120_TrBa sz_120_TrBa rfl rfl (fun _ hx => (fun j v hv => by rw [cell_bl (hk3 hx), Nat.zero_add]; exact hv)) ?_ | refine t_ldN _ rfl ag_120_TrBa sz_120_TrBa rfl rfl (fun _ hx => (fun j v hv => by rw [cell_bl (hk1 hx), Nat.zero_add]; exact hv)) ?_ | refine t_ldN _ rfl ag_120_TrBa sz_120_TrBa rfl rfl (fun _ hx => (fun j v hv => by rw [cell_bl (hk5 hx), Nat.zero_add]; exact hv)) ?_ | refine t_ldbN rfl ag_120_TrBa sz_120_TrBa rfl (fun _ _ => Ctx.start _ []) (by first | exact at0 | exact at1 | exact at2 | exact at3 | exact at4 | exact at5 | exact at6 | exact at7 | exact at8 | exact at9) rfl ?_
      refine t_nil ?_
      skip
      refine op_call rfl ca_137_TrBa (total_ok inner (Ip.call hD) (by omega) hszp) rfl ?_
      rintro v w5 ⟨rfl, hx19⟩
      have hx5 := hD.trans hx19
      refine op_nil (at_seg (hx5) ?_)
      refine seg_cons rfl rfl ?_
      refine t_nil ?_
      refine op_call rfl ca_138_TrBa (size_ok7 inner a n c (hxo4.call hx5) (by omega) (by omega)) rfl ?_
      rintro v w6 ⟨rfl, hx22⟩
      have hx6 := hx5.trans hx22
      refine op_nil (at_seg (hx6) ?_)
      refine seg_cons rfl rfl ?_
      refine t_add_i64 rfl rfl rfl (by omega) (by omega) ?_
      refine t_nil ?_
      refine op_gtr rfl rfl rfl ?_
      refine op_nil (at_seg (hx6) ?_)
      refine seg_nil ?_
      refine W_cond _ rfl ?_ ?_
      · intro h2
        replace h2 := dec_t h2
        rw [if_pos (by omega)] at heq
        have hpm0 : pm.map (·.it) ≠ [] := fun h => by
          rw [h] at h2
          have : totalI inner [] = 0 := rfl
          omega
        obtain ⟨w6, rfl⟩ : ∃ z, z = w := ⟨_, rfl⟩
        obtain ⟨O6, G6⟩ := O4.call (.call0 hx6)
        have G36 := G4.trans G6
        obtain ⟨O7, Ipush⟩ := Its.push (Y := (b5, Bl 120 x.enc) :: (b3, Bl 116 [.bool inner, .slice pa pm.length pc]) :: (b1, Bl 116 [.bool inner, .slice a n c]) :: ent la 116 lf) O6 V.OP fun m hm => (V.pm m hm).1.turn G36
        have hsub : ∀ x, MY M ((b5, Bl 120 _) :: (b3, Bl 116 [.bool inner, .slice pa pm.length pc]) :: (b1, Bl 116 [.bool inner, .slice a n c]) :: ent la 116 lf) x → _ := MY.sub (Y := ((b5, Bl 120 x.enc) :: (b3, Bl 116 [.bool inner, .slice pa pm.length pc]) :: (b1, Bl 116 [.bool inner, .slice a n c]) :: ent la 116 lf) ++ ent pa 120 pf) fun y hy => List.mem_append_left _ hy
        have hyo7 : ∀ y ∈ ((b5, Bl 120 x.enc) :: (b3, Bl 116 [.bool inner, .slice pa pm.length pc]) :: (b1, Bl 116 [.bool inner, .slice a n c]) :: ent la 116 lf).map (·.1), w0.heap.size ≤ y := fun y hy => by
          obtain ⟨z, hz, rfl⟩ := List.mem_map.1 hy
          exact hyo4 _ (List.mem_map.2 ⟨z, List.mem_append_left (bs := ent pa 120 pf) hz, rfl⟩)
        have hx06 := hx04.trans hx6
        have hlt6 := hlt0 hx06
        have H := O7.ctx
        have hb1' := H.get at2
        have hb3' := H.get at1
        refine W_segz [([0, 1, 4, 5, 6], 2), ([], 3), ([7], 8)] (fun z => z.heap[b1]? = some (Bl 116 [.bool inner, .slice a n c]) ∧ z.heap[b3]? = some (Bl 116 [.bool inner, .slice pa pm.length pc])) [8] mixed (by kernel_rfl) (⟨hb1', hb3'⟩) ?_
        refine seg_cons rfl rfl ?_
        refine t_move rfl (.slice _ _ _) rfl ?_
        first | refine t_ldN _ rfl ag_116_TrBa sz_116_TrBa rfl rfl (fun _ hx => (fun j v hv => by rw [cell_bl hx.2, Nat.zero_add]; exact hv)) ?_ | refine t_ldbN rfl ag_116_TrBa sz_116_TrBa rfl (fun _ _ => Ctx.start _ []) (by first | exact at0 | exact at1 | exact at2 | exact at3 | exact at4 | exact at5 | exact at6 | exact at7 | exact at8 | exact at9) rfl ?_
        refine t_fieldAddr rfl fo_116_0_TrBa rfl ?_
        first | refine t_ldb rfl ag_4 rfl (fun _ _ => Ctx.start _ []) (by first | exact at0 | exact at1 | exact at2 | exact at3 | exact at4 | exact at5 | exact at6 | exact at7 | exact at8 | exact at9) rfl ?_ | refine t_ld rfl ag_4 rfl (fun _ hx => cell_bl hx.1 (0 + 0)) ?_
        refine t_buildS [.bool inner, .slice none 0 0] rfl pl_116_TrBa zc_116_TrBa (by kernel_rfl) ?_
        refine t_nil ?_
        replace H := H.drew
        refine op_build1 _ (.agg _) rfl el_137_TrBa sz_116_TrBa zc_116_TrBa rfl (by decide) (by decide) rfl rfl rfl H ?_
        rintro b27 w - H
        refine op_nil (at_seg (⟨H.get at3, H.get at2⟩) ?_)
        refine seg_cons rfl rfl ?_
        refine t_nil ?_
        refine op_appendb (L := [_, _, _]) rfl el_137_TrBa el_137_TrBa sz_116_TrBa by_116_TrBa zc_116_TrBa rfl (by decide) rfl rfl H VOL rfl (encN_oneE _ _ _ _) (by omega) ?_
        rintro a28 c28 f28 w H O28
        refine op_nil (at_seg (⟨H.get at2, H.get at1⟩) ?_)
        refine seg_cons rfl rfl ?_
        refine t_assign rfl (.slice _ _ _) rfl ?_
        refine t_nil ?_
        refine op_stb0 rfl sz_116_TrBa rfl rfl rfl (by first | exact encN_oneE _ _ _ _ | exact Im.oneE _ | simp [oneCell]) H (by first | exact at0 | exact at1 | exact at2 | exact at3 | exact at4 | exact at5 | exact at6 | exact at7 | exact at8 | exact at9) rfl ?_
        rintro w H
        refine op_nil (at_segz rfl ?_)
        refine seg_nil ?_
        refine at_then ?_
        refine W_region ?_
        refine op_fieldAddr rfl fo_116_1_TrBa rfl ?_
        refine op_ldb rfl ag_114_TrBa rfl H (by first | exact at0 | exact at1 | exact at2 | exact at3 | exact at4 | exact at5 | exact at6 | exact at7 | exact at8 | exact at9) rfl ?_
        refine op_ldbN rfl ag_120_TrBa sz_120_TrBa rfl H (by first | exact at0 | exact at1 | exact at2 | exact at3 | exact at4 | exact at5 | exact at6 | exact at7 | exact at8 | exact at9) rfl ?_
        refine op_build1 _ (.agg _) rfl el_114_TrBa sz_120_TrBa zc_120_TrBa rfl (by decide) (by decide) rfl rfl rfl H ?_
        rintro b35 w - H
        refine op_appendb (L := _ :: _ :: _ :: ent a28 116 f28) (a := none) (full := []) (l := []) rfl el_114_TrBa el_114_TrBa sz_120_TrBa by_120_TrBa zc_120_TrBa rfl (by decide) rfl rfl (Ctx.nilE _ H) OS.nil rfl (Im.oneE x) (by omega) ?_
        rintro a36 c36 f36 w H O36
        refine op_fieldAddr rfl fo_116_1_TrBa rfl ?_
        refine op_stb (.slice _ _ _) rfl sz_114_TrBa rfl rfl rfl H (by first | exact at0 | exact at1 | exact at2 | exact at3 | exact at4 | exact at5 | exact at6 | exact at7 | exact at8 | exact at9) (by first | decide | (simp; done) | (simp; omega)) ?_
        rintro w H
        refine op_nil (at_block (at_then ?_))
        refine W_region ?_
        refine op_add_i64 rfl rfl rfl (by omega) (by omega) ?_
        refine op_move rfl (.int _ _) rfl ?_
        refine op_nil (at_then ?_)
        have H8 := H.tail
        obtain ⟨O8, G8⟩ := O7.own hlt6 H8
        have hpl : (ps ++ [((pa, pm.map (·.it), pc) : SN)]).length = ps.length + 1 := by simp
        refine ⟨⟨i + 1, a28, c28, f28, ps ++ [(pa, pm.map (·.it), pc)], a36, c36, f36, [x]⟩, rfl, ⟨rfl, by rw [hpl]; rfl, trivial⟩, ⟨by dsimp only; omega, ?_⟩, by dsimp only; omega⟩
        refine ⟨O8, ((V.I.turn G36).weak hsub).turn G8, ?_, O36, fun m hm => ?_, fun p hp => ?_, ?_, hx06.then H8.ext fun x hx => .inr (hyo7 x hx), young hyo7 hx06.size H8, ?_⟩
        · dsimp only
          rw [hpl, List.flatMap_append]
          simpa [encN] using O28
        · dsimp only at hm ⊢
          rw [List.mem_singleton.1 hm]
          exact ⟨((hxo.turn G36).weak hsub).turn G8, hxm⟩
        · dsimp only at hp ⊢
          rcases List.mem_append.1 hp with hp | hp
          · exact ⟨(((V.ps p hp).1.turn G36).weak hsub).turn G8, (V.ps p hp).2⟩
          · rw [List.mem_singleton.1 hp]
            refine ⟨?_, hpm0⟩
            have := Ipush.turn G8
            dsimp only
            rw [List.length_map]
            exact this
        · dsimp only
          rw [← heq]
          simp
        · dsimp only
          rw [hpl]; simp; omega
      · intro h2
        replace h2 := dec_f h2
        rw [if_neg (by omega)] at heq
        obtain ⟨w6, rfl⟩ : ∃ z, z = w := ⟨_, rfl⟩
        obtain ⟨O6, G6⟩ := O4.call (.call0 hx6)
        have G36 := G4.trans G6
        have hx06 := hx04.trans hx6
        have hlt6 := hlt0 hx06
        have H := O6.ctx
        refine W_skip (at_then ?_)
        refine W_region ?_
        refine op_fieldAddr rfl fo_116_1_TrBa rfl ?_
        refine op_ldb rfl ag_114_TrBa rfl H (by first | exact at0 | exact at1 | exact at2 | exact at3 | exact at4 | exact at5 | exact at6 | exact at7 | exact at8 | exact at9) rfl ?_
        refine op_ldbN rfl ag_120_TrBa sz_120_TrBa rfl H (by first | exact at0 | exact at1 | exact at2 | exact at3 | exact at4 | exact at5 | exact at6 | exact at7 | exact at8 | exact at9) rfl ?_
        refine op_build1 _ (.agg _) rfl el_114_TrBa sz_120_TrBa zc_120_TrBa rfl (by decide) (by decide) rfl rfl rfl H ?_
        rintro b35 w - H
        refine op_appendb (n := pm.length) (L := _ :: _ :: _ :: ent la 116 lf) rfl el_114_TrBa el_114_TrBa sz_120_TrBa by_120_TrBa zc_120_TrBa rfl (by decide) rfl rfl H VOP rfl (Im.oneE x) (by omega) ?_
        rintro a36 c36 f36 w H O36
        refine op_fieldAddr rfl fo_116_1_TrBa rfl ?_
        refine op_stb (.slice _ _ _) rfl sz_114_TrBa rfl rfl rfl H (by first | exact at0 | exact at1 | exact at2 | exact at3 | exact at4 | exact at5 | exact at6 | exact at7 | exact at8 | exact at9) (by first | decide | (simp; done) | (simp; omega)) ?_
        rintro w H
        refine op_nil (at_block (at_then ?_))
        refine W_region ?_
        refine op_add_i64 rfl rfl rfl (by omega) (by omega) ?_
        refine op_move rfl (.int _ _) rfl ?_
        refine op_nil (at_then ?_)
        have H8 := H.tail
        obtain ⟨O8, G8⟩ := O6.own hlt6 H8
        have hql : (pm ++ [x]).length = pm.length + 1 := by simp
        refine ⟨⟨i + 1, la, lc, lf, ps, a36, c36, f36, pm ++ [x]⟩, rfl, ⟨rfl, rfl, trivial⟩, ⟨by dsimp only; omega, ?_⟩, by dsimp only; omega⟩
        have hFY : FY b1 b3 inner a n c ⟨i + 1, la, lc, lf, ps, a36, c36, f36, pm ++ [x]⟩ = (b3, Bl 116 [.bool inner, .slice a36 (pm.length + 1) c36]) :: (b1, Bl 116 [.bool inner, .slice a n c]) :: (ent la 116 lf ++ ent a36 120 f36) := by
          unfold FY; dsimp only; rw [hql]
        have hV : ∀ Y, Y = FY b1 b3 inner a n c ⟨i + 1, la, lc, lf, ps, a36, c36, f36, pm ++ [x]⟩ → Fo w M Y → Its w (MY M Y) a n c L → (∀ m ∈ pm ++ [x], m.Ok w (MY M Y) ∧ m.it ∈ L) → (∀ p ∈ ps, Its w (MY M Y) p.1 p.2.1.length p.2.2 p.2.1 ∧ p.2.1 ≠ []) → (∀ y ∈ Y.map (·.1), w0.heap.size ≤ y) → FInv w0 w M b1 b3 inner a n c L ⟨i + 1, la, lc, lf, ps, a36, c36, f36, pm ++ [x]⟩ := by
          rintro Y rfl v1 v2 v3 v4 v5
          refine ⟨v1, v2, V.OL, ?_, v3, v4, ?_, hx06.then H8.ext fun x hx => .inr (hyo4 x hx), v5, ?_⟩
          · dsimp only
            rw [hql, List.flatMap_append]
            simpa using O36
          · dsimp only
            rw [← heq]; simp
          · dsimp only
            rw [hql]; omega
        refine hV _ hFY.symm O8 ((V.I.turn G36).turn G8) (fun m hm => ?_) (fun p hp => ⟨((V.ps p hp).1.turn G36).turn G8, (V.ps p hp).2⟩) (young hyo4 hx06.size H8)
        rcases List.mem_append.1 hm with hm | hm
        · exact ⟨((V.pm m hm).1.turn G36).turn G8, (V.pm m hm).2⟩
        · rw [List.mem_singleton.1 hm]
          exact ⟨(hxo.turn G36).turn G8, hxm⟩
    · intro h1
      replace h1 := dec_f h1
      have heq := V.eq
      dsimp only at heq
      rw [List.drop_of_length_le (by omega), fullG] at heq
      have hflat := fullG_flat inner L [] []
      rw [← heq] at hflat
      have hfull : fullN inner L = fixL inner (ps.map fun p => p.2.1) (pm.map (·.it)) := by unfold fullN; rw [← heq]
      obtain ⟨w9, rfl⟩ : ∃ z, z = w := ⟨_, rfl⟩
      have H := V.O.ctx
      have hlt9 := hlt0 V.hx
      have hyo9 := V.yo
      refine W_exit (exit_then (exit_then (exit_here (at_then ?_))))
      refine W_seq ?_
      refine W_rseq ?_
      refine op_move rfl (.slice _ _ _) rfl ?_
      refine op_len rfl el_137_TrBa rfl ?_
      refine op_sub_i64 rfl rfl rfl (by omega) (by omega) ?_
      refine op_assign rfl (.int _ _) rfl ?_
      refine op_nil (at_then ?_)
      refine W_rseq (Wops_join (α := Unit) 18010000462970880 (fun _ => [(53, .bool ((inner && decide (pm.length = 1)) && decide (0 < ps.length)))]) (fun _ w' => w9 = w') rfl ?_ ?_)
      · refine op_fieldAddr rfl fo_116_0_TrBa rfl ?_
        refine op_ldb rfl ag_4 rfl H (by first | exact at0 | exact at1 | exact at2 | exact at3 | exact at4 | exact at5 | exact at6 | exact at7 | exact at8 | exact at9) rfl ?_
        refine op_move rfl (.bool _) rfl ?_
        refine Wops_split 44 rfl ?_ ?_
        · intro h1
          refine op_fieldAddr rfl fo_116_1_TrBa rfl ?_
          refine op_ldb rfl ag_114_TrBa rfl H (by first | exact at0 | exact at1 | exact at2 | exact at3 | exact at4 | exact at5 | exact at6 | exact at7 | exact at8 | exact at9) rfl ?_
          refine op_len rfl el_114_TrBa rfl ?_
          refine op_eql rfl rfl rfl ?_
          refine op_pick1 rfl rfl (.bool _) rfl ?_
          refine op_move rfl (.bool _) rfl ?_
          refine Wops_split 50 rfl ?_ ?_
          · intro h2
            replace h2 := dec_t h2
            refine op_move rfl (.int _ _) rfl ?_
            refine op_geq rfl rfl rfl ?_
            refine op_pick1 rfl rfl (.bool _) rfl ?_
            refine op_nil ?_
            exact ⟨rfl, (), rfl, ⟨congrArg Value.bool (by rw [Bool.eq_iff_iff]; simp_all; try omega), trivial⟩, rfl⟩
          · intro h3
            replace h3 := dec_f h3
            refine op_skip rfl ?_
            refine op_skip rfl ?_
            refine op_pick0 rfl rfl (.bool _) rfl ?_
            refine op_nil ?_
            exact ⟨rfl, (), rfl, ⟨congrArg Value.bool (by rw [Bool.eq_iff_iff]; simp_all; try omega), trivial⟩, rfl⟩
        · intro h4
          refine op_skip rfl ?_
          refine op_skip rfl ?_
          refine op_skip rfl ?_
          refine op_skip rfl ?_
          refine op_pick0 rfl rfl (.bool _) rfl ?_
          refine op_move rfl (.bool _) rfl ?_
          refine op_skip rfl ?_
          refine op_skip rfl ?_
          refine op_pick0 rfl rfl (.bool _) rfl ?_
          refine op_nil ?_
          exact ⟨rfl, (), rfl, ⟨congrArg Value.bool (by rw [Bool.eq_iff_iff]; simp_all; try omega), trivial⟩, rfl⟩
      rintro - j53 w rfl
      refine W_cond _ rfl ?_ ?_
      · intro h5
        simp only [Bool.and_eq_true, decide_eq_true_eq] at h5
        obtain ⟨⟨hin, hp1⟩, hps⟩ := h5
        obtain ⟨qs, q, rfl⟩ := snoc_of (l := ps) (fun h => by rw [h] at hps; exact absurd hps (by simp))
        have hql : (qs ++ [q]).length = qs.length + 1 := by simp
        rw [show (((qs ++ [q]).length : Nat) : Int) - 1 = ((qs.length : Nat) : Int) by omega]
        have hq1 : (qs ++ [q])[qs.length]? = some q := by simp
        obtain ⟨Iq, hqne⟩ := V.ps q (List.mem_append_right _ (List.mem_singleton.2 rfl))
        obtain ⟨r, hr⟩ : ∃ r, q.2.1.length = r + 1 := ⟨q.2.1.length - 1, by have := List.length_pos_iff.2 hqne; omega⟩
        have hq5 : q.2.1.length ≤ n := by
          have h := congrArg List.length hflat
          simp at h
          omega
        obtain ⟨bl, hbl⟩ := V.OL.form (by dsimp only; omega)
        dsimp only at hbl
        subst hbl
        have hcap := V.OL.le
        have hlfl := V.OL.len
        dsimp only at hcap hlfl
        have hqcap := Iq.le
        have hRL : ∀ {z : World} {S : List Nat} {A B : List (Nat × Obj)} {z0 : World}, Ctx z0 S z (A ++ ((bl, Bl 116 lf) :: B)) → Rd z (some ⟨bl, 0, none⟩) 2 (encN inner) (qs ++ [q]) := fun {z S A B z0} H => OS.rd V.OL (fun y hy => H.blk y (List.mem_append_right _ (List.mem_cons.2 (.inl (List.mem_singleton.1 hy))))) (fun _ _ => rfl) (by decide)
        have RL := hRL (A := [_, _]) H
        refine W_rseq ?_
        refine op_move rfl (.slice _ _ _) rfl ?_
        refine op_move rfl (.int _ _) rfl ?_
        first | refine op_indexRd R rfl el_137_TrBa sz_116_TrBa rfl rfl (by omega) (by omega) (by first | rfl | omega) ?_ | refine op_indexRd RL rfl el_137_TrBa sz_116_TrBa rfl rfl (by omega) (by omega) (by first | rfl | omega) ?_ | refine op_indexAddr rfl el_137_TrBa sz_116_TrBa rfl rfl (by omega) (by omega) ?_
        refine op_fieldAddr rfl fo_116_1_TrBa rfl ?_
        first | refine op_ldb rfl ag_114_TrBa rfl H (by first | exact at0 | exact at1 | exact at2 | exact at3 | exact at4 | exact at5 | exact at6 | exact at7 | exact at8 | exact at9) rfl ?_ | refine op_ld rfl ag_114_TrBa rfl (RL.fld hq1 rfl (j := 1) rfl) ?_
        refine op_len rfl el_114_TrBa rfl ?_
        refine op_sub_i64 rfl rfl rfl (by omega) (by omega) ?_
        rw [show ((q.2.1.length : Nat) : Int) - 1 = (r : Int) by omega]
        refine op_assign rfl (.int _ _) rfl ?_
        refine op_nil (at_then ?_)
        obtain ⟨O2, Ip⟩ := Its.push (Y := (b3, Bl 116 [.bool inner, .slice pa pm.length pc]) :: (b1, Bl 116 [.bool inner, .slice a n c]) :: [(bl, Bl 116 lf)]) V.O V.OP fun m hm => (V.pm m hm).1
        have hsub : ∀ x, MY M ((b3, Bl 116 [.bool inner, .slice pa pm.length pc]) :: (b1, Bl 116 [.bool inner, .slice a n c]) :: [(bl, Bl 116 lf)]) x → _ := MY.sub (Y := ((b3, Bl 116 [.bool inner, .slice pa pm.length pc]) :: (b1, Bl 116 [.bool inner, .slice a n c]) :: [(bl, Bl 116 lf)]) ++ ent pa 120 pf) fun y hy => List.mem_append_left _ hy
        have hyo2 : ∀ y ∈ ((b3, Bl 116 [.bool inner, .slice pa pm.length pc]) :: (b1, Bl 116 [.bool inner, .slice a n c]) :: [(bl, Bl 116 lf)]).map (·.1), w0.heap.size ≤ y := fun y hy => by
          obtain ⟨z, hz, rfl⟩ := List.mem_map.1 hy
          exact hyo9 _ (List.mem_map.2 ⟨z, List.mem_append_left (bs := ent pa 120 pf) hz, rfl⟩)
        have Iq2 := (Iq.weak hsub).drop (k := r) (by omega)
        have Iq3 := (Iq.weak hsub).take (k := r) (by omega)
        have hdl : (q.2.1.drop r).length = q.2.1.length - r := List.length_drop
        have htl : (q.2.1.take r).length = r := by rw [List.length_take]; omega
        have hpml : (pm.map (·.it)).length = pm.length := List.length_map ..
        have H := O2.ctx
        have hb3 := H.get at0
        have RL2 := hRL (A := [_, _]) (B := []) H
        refine W_sseqz [([0, 1, 2, 3, 4, 5, 6, 7, 8], 9), ([], 10), ([11], 12)] (fun z => z.heap[b3]? = some (Bl 116 [.bool inner, .slice pa pm.length pc]) ∧ Rd z (some ⟨bl, 0, none⟩) 2 (encN inner) (qs ++ [q])) [12] mixed (by kernel_rfl) (⟨hb3, RL2.ext0 (Ext.drew [] w9)⟩) ?_
        refine seg_cons rfl rfl ?_
        refine t_move rfl (.slice _ _ _) rfl ?_
        refine t_move rfl (.int _ _) rfl ?_
        first | refine t_indexRd R rfl el_137_TrBa sz_116_TrBa rfl rfl (by omega) (by omega) (by first | rfl | omega) ?_ | refine t_indexRd RL rfl el_137_TrBa sz_116_TrBa rfl rfl (by omega) (by omega) (by first | rfl | omega) ?_ | refine t_indexAddr rfl el_137_TrBa sz_116_TrBa rfl rfl (by omega) (by omega) ?_
        refine t_fieldAddr rfl fo_116_1_TrBa rfl ?_
        first | refine t_ldb rfl ag_114_TrBa rfl (fun _ _ => Ctx.start _ []) (by first | exact at0 | exact at1 | exact at2 | exact at3 | exact at4 | exact at5 | exact at6 | exact at7 | exact at8 | exact at9) rfl ?_ | refine t_ld rfl ag_114_TrBa rfl (fun _ hx => hx.2.fld hq1 rfl (j := 1) rfl) ?_ | refine t_ld rfl ag_114_TrBa rfl (fun _ hx => cell_bl hx.1 (0 + 1)) ?_
        refine t_move rfl (.int _ _) rfl ?_
        refine t_slice_lo rfl el_114_TrBa sz_120_TrBa rfl rfl (by omega) (by omega) ?_
        refine t_fieldAddr rfl fo_116_1_TrBa rfl ?_
        first | refine t_ldb rfl ag_114_TrBa rfl (fun _ _ => Ctx.start _ []) (by first | exact at0 | exact at1 | exact at2 | exact at3 | exact at4 | exact at5 | exact at6 | exact at7 | exact at8 | exact at9) rfl ?_ | refine t_ld rfl ag_114_TrBa rfl (fun _ hx => hx.2.fld hq1 rfl (j := 1) rfl) ?_ | refine t_ld rfl ag_114_TrBa rfl (fun _ hx => cell_bl hx.1 (0 + 1)) ?_
        refine t_nil ?_
        replace H := H.drew
        refine op_buildL [.slice (cutA q.1 q.2.2 r 3) (q.2.1.length - r) (q.2.2 - r), .slice pa pm.length pc] rfl el_196_TrBa sz_114_TrBa zc_114_TrBa (by decide) (by decide) (by kernel_rfl) H ?_
        rintro b70 w10 - H
        refine op_nil (at_seg (⟨H.get at1, hRL (A := [_, _, _]) (B := []) H⟩) ?_)
        refine seg_cons rfl rfl ?_
        refine t_nil ?_
        obtain ⟨O10, G10⟩ := O2.own hlt9 H
        have hx10 : Ext [] w0 w10 := V.hx.then H.ext (fun x hx => .inr (hyo2 x hx))
        have hyo10 := young hyo2 V.hx.size H
        refine op_call rfl ca_74_TrBa (concatI_ok (O10.lt (hlt0 hx10)) [(cutA q.1 q.2.2 r 3, q.2.1.drop r, q.2.2 - r), (pa, pm.map (·.it), pc)] (Rd.of_bl (r := []) (H.get at0) (by simp [encT]) (fun _ _ => rfl)) (fun x hx => (List.mem_cons.1 hx).elim (fun e => by subst e; dsimp only; rw [hdl]; exact Iq2.turn G10) fun hx => by rw [List.mem_singleton.1 hx]; dsimp only; rw [hpml]; exact Ip.turn G10) rfl (by show 2 ≤ 1000000; omega) (by simp; omega)) rfl ?_
        rintro v w11 ⟨a71, c71, rfl, I71, hx71⟩
        obtain ⟨O11, G11⟩ := O10.call (.call0 hx71)
        have hx11 := hx10.trans hx71
        replace H := O11.ctx
        refine op_nil (at_seg (⟨H.get at1, hRL (A := [_, _, _]) (B := []) H⟩) ?_)
        refine seg_cons rfl rfl ?_
        refine t_fieldAddr rfl fo_116_1_TrBa rfl ?_
        refine t_nil ?_
        refine op_stb (.slice _ _ _) rfl sz_114_TrBa rfl rfl rfl H (by first | exact at0 | exact at1 | exact at2 | exact at3 | exact at4 | exact at5 | exact at6 | exact at7 | exact at8 | exact at9) (by first | decide | (simp; done) | (simp; omega)) ?_
        rintro w H
        refine op_nil (at_segz rfl ?_)
        refine seg_nil ?_
        have RL3 := hRL (A := [_, _, _]) (B := []) H
        refine W_region ?_
        refine op_move rfl (.slice _ _ _) rfl ?_
        refine op_move rfl (.int _ _) rfl ?_
        refine op_move rfl (.slice _ _ _) rfl ?_
        refine op_move rfl (.int _ _) rfl ?_
        first | refine op_indexRd RL3 rfl el_137_TrBa sz_116_TrBa rfl rfl (by omega) (by omega) (by first | rfl | omega) ?_ | refine op_indexAddr rfl el_137_TrBa sz_116_TrBa rfl rfl (by omega) (by omega) ?_
        refine op_fieldAddr rfl fo_116_1_TrBa rfl ?_
        first | refine op_ldb rfl ag_114_TrBa rfl H (by first | exact at0 | exact at1 | exact at2 | exact at3 | exact at4 | exact at5 | exact at6 | exact at7 | exact at8 | exact at9) rfl ?_ | refine op_ld rfl ag_114_TrBa rfl (RL3.fld hq1 rfl (j := 1) rfl) ?_
        refine op_move rfl (.int _ _) rfl ?_
        refine op_slice_hi rfl el_114_TrBa sz_120_TrBa rfl rfl (by omega) (by omega) ?_
        first | refine op_indexRd RL3 rfl el_137_TrBa sz_116_TrBa rfl rfl (by omega) (by omega) (by first | rfl | omega) ?_ | refine op_indexAddr rfl el_137_TrBa sz_116_TrBa rfl rfl (by omega) (by omega) ?_
        refine op_fieldAddr rfl fo_116_1_TrBa rfl ?_
        refine op_stb (.slice _ _ _) rfl sz_114_TrBa rfl rfl rfl H at3 (by show 0 + qs.length * 2 + 1 < _; omega) ?_
        rintro w H
        refine op_nil (at_then ?_)
        have O13 : OS (some ⟨bl, 0, none⟩) (qs ++ [q]).length lc 2 (lf.set (0 + qs.length * 2 + 1) (.slice q.1 r q.2.2)) (((qs ++ [q]).flatMap (encN inner)).set (qs.length * 2 + 1) (.slice q.1 r q.2.2)) := by rw [Nat.zero_add]; exact OS.setN V.OL _ _
        rw [encN_last inner qs q _ (q.1, q.2.1.take r, q.2.2) (by rw [htl])] at O13
        refine W_rseq ?_
        refine op_move rfl (.slice _ _ _) rfl ?_
        refine op_ldbN rfl ag_116_TrBa sz_116_TrBa rfl H (by first | exact at0 | exact at1 | exact at2 | exact at3 | exact at4 | exact at5 | exact at6 | exact at7 | exact at8 | exact at9) rfl ?_
        refine op_build1 _ (.agg _) rfl el_137_TrBa sz_116_TrBa zc_116_TrBa rfl (by decide) (by decide) rfl rfl rfl H ?_
        rintro b86 w - H
        refine op_appendb (L := [_, _, _]) rfl el_137_TrBa el_137_TrBa sz_116_TrBa by_116_TrBa zc_116_TrBa rfl (by decide) rfl rfl H O13 rfl (encN_oneE _ _ _ _) (by omega) ?_
        rintro a87 c87 f87 w H O87
        refine op_assign rfl (.slice _ _ _) rfl ?_
        refine op_nil (at_then ?_)
        refine W_ret (leave1 (v := (.slice _ _ _)) rfl rfl rfl ?_)
        obtain ⟨O14, G14⟩ := O11.own (hlt0 hx11) H
        have GT := (G10.trans G11).trans G14
        have I71' := I71.turn G14
        have hfm : ([(cutA q.1 q.2.2 r 3, q.2.1.drop r, q.2.2 - r), (pa, pm.map (·.it), pc)] : List SI).flatMap (fun x => x.2.1) = q.2.1.drop r ++ pm.map (·.it) := by simp
        rw [hfm] at I71' O87
        have heqF : ((qs ++ [((q.1, q.2.1.take r, q.2.2) : SN)]) ++ [((a71, q.2.1.drop r ++ pm.map (·.it), c71) : SN)]).map (fun x => x.2.1) = fullN inner L := by
          rw [hfull, show (qs ++ [q]).map (fun p => p.2.1) = qs.map (fun p => p.2.1) ++ [q.2.1] by simp, fixL_last, if_pos ⟨hin, by rw [hpml]; exact hp1⟩, show q.2.1.length - 1 = r by omega]
          simp
        have O88 : OS a87 ((qs ++ [q]).length + 1) c87 2 f87 (((qs ++ [((q.1, q.2.1.take r, q.2.2) : SN)]) ++ [((a71, q.2.1.drop r ++ pm.map (·.it), c71) : SN)]).flatMap (encN inner)) := by
          rw [List.flatMap_append, List.flatMap_singleton]; exact O87
        refine ⟨a87, (qs ++ [q]).length + 1, c87, rfl, ⟨⟨_, OS.rd O88 (fun y hy => O14.blk y (List.mem_append_right _ hy)) (fun _ _ => rfl) (by decide), ?_, heqF, fun m hm => ?_⟩, by rw [← heqF]; simp⟩, hx11.then H.ext fun x hx => .inr (hyo10 x hx)⟩
        · obtain ⟨b, rfl⟩ := O88.form (by omega)
          exact .inr fun h => O14.off (b, _) (List.mem_append_right _ (List.mem_singleton.2 rfl)) h
        · rcases List.mem_append.1 hm with hm | hm
          · rcases List.mem_append.1 hm with hm | hm
            · exact (((V.ps m (List.mem_append_left _ hm)).1.weak hsub).turn GT).weak MY.le
            · rw [List.mem_singleton.1 hm]
              have := (Iq3.turn GT).weak MY.le
              dsimp only
              rw [htl]; exact this
          · rw [List.mem_singleton.1 hm]
            exact I71'.weak MY.le
      · intro h5
        refine W_skip (at_then ?_)
        have H := V.O.ctx
        refine W_rseq ?_
        refine op_move rfl (.slice _ _ _) rfl ?_
        refine op_ldbN rfl ag_116_TrBa sz_116_TrBa rfl H (by first | exact at0 | exact at1 | exact at2 | exact at3 | exact at4 | exact at5 | exact at6 | exact at7 | exact at8 | exact at9) rfl ?_
        refine op_build1 _ (.agg _) rfl el_137_TrBa sz_116_TrBa zc_116_TrBa rfl (by decide) (by decide) rfl rfl rfl H ?_
        rintro b86 w - H
        refine op_appendb (L := _ :: _ :: ent pa 120 pf) rfl el_137_TrBa el_137_TrBa sz_116_TrBa by_116_TrBa zc_116_TrBa rfl (by decide) rfl rfl (H.perm (List.Perm.cons _ (List.Perm.cons _ (List.Perm.cons _ List.perm_append_comm)))) VOL rfl (encN_oneE _ _ _ _) (by omega) ?_
        rintro a87 c87 f87 w H O87
        refine op_assign rfl (.slice _ _ _) rfl ?_
        refine op_nil (at_then ?_)
        refine W_ret (leave1 (v := (.slice _ _ _)) rfl rfl rfl ?_)
        obtain ⟨O14, G14⟩ := V.O.own hlt9 H
        have hpml : (pm.map (·.it)).length = pm.length := List.length_map ..
        have heqF : (ps ++ [((pa, pm.map (·.it), pc) : SN)]).map (fun x => x.2.1) = fullN inner L := by
          rw [hfull]
          unfold fixL
          have hn : ¬ (inner = true ∧ (pm.map (·.it)).length = 1 ∧ (ps.map fun p => p.2.1) ≠ []) := fun ⟨h1, h2, h3⟩ => by
            have e : ((inner && decide (pm.length = 1)) && decide (0 < ps.length)) = true := by
              rw [h1, decide_eq_true (show pm.length = 1 by rw [← hpml]; exact h2), decide_eq_true (show 0 < ps.length from List.length_pos_iff.2 fun e => h3 (by rw [e]; rfl))]; rfl
            exact absurd (e.symm.trans h5) (by decide)
          rw [if_neg hn, List.map_append]
          rfl
        have O88 : OS a87 (ps.length + 1) c87 2 f87 ((ps ++ [((pa, pm.map (·.it), pc) : SN)]).flatMap (encN inner)) := by
          rw [List.flatMap_append, List.flatMap_singleton]
          show OS _ _ _ _ _ (_ ++ [.bool inner, .slice pa (pm.map (·.it)).length pc])
          rw [hpml]; exact O87
        refine ⟨a87, ps.length + 1, c87, rfl, ⟨⟨_, OS.rd O88 (fun y hy => O14.blk y (List.mem_append_right _ hy)) (fun _ _ => rfl) (by decide), ?_, heqF, fun m hm => ?_⟩, by rw [← heqF]; simp⟩, V.hx.then H.ext fun x hx => .inr (hyo9 x hx)⟩
        · obtain ⟨b, rfl⟩ := O88.form (by omega)
          exact .inr fun h => O14.off (b, _) (List.mem_append_right _ (List.mem_singleton.2 rfl)) h
        · rcases List.mem_append.1 hm with hm | hm
          · exact ((V.ps m hm).1.turn G14).weak MY.le
          · rw [List.mem_singleton.1 hm]
            have := Its.mine O14 V.OP (fun y hy => List.mem_append_left _ (List.mem_cons_of_mem _ (List.mem_cons_of_mem _ hy))) fun m hm => ((V.pm m hm).1.turn G14).weak MY.le
            dsimp only
            rw [hpml]; exact this

end Go.Proofs.YtbkadlngijkmmaaGreatDoor

/- Pairs are built: the walk. -/
namespace Go.Proofs.YtbkadlngijkmmaaGreatDoor
open Go.GV
theorem ag_114_TrBb : aggB Tryz.prog 114 = some false := by kernel_rfl
theorem ag_116_TrBb : aggB Tryz.prog 116 = some true := by kernel_rfl
theorem ag_120_TrBb : aggB Tryz.prog 120 = some true := by kernel_rfl
theorem ag_133_TrBb : aggB Tryz.prog 133 = some false := by kernel_rfl
theorem ag_31_TrBb : aggB Tryz.prog 31 = some false := by kernel_rfl
theorem ag_70_TrBb : aggB Tryz.prog 70 = some true := by kernel_rfl
theorem by_120_TrBb : tbytes Tryz.prog 120 = some 56 := by kernel_rfl
theorem ca_65_TrBb : callable Tryz.prog 65 = true := by kernel_rfl
theorem ca_71_TrBb : callable Tryz.prog 71 = true := by kernel_rfl
theorem ca_77_TrBb : callable Tryz.prog 77 = true := by kernel_rfl
theorem ca_78_TrBb : callable Tryz.prog 78 = true := by kernel_rfl
theorem ca_79_TrBb : callable Tryz.prog 79 = true := by kernel_rfl
theorem ca_80_TrBb : callable Tryz.prog 80 = true := by kernel_rfl
theorem el_114_TrBb : elemT Tryz.prog 114 = some 120 := by kernel_rfl
theorem el_137_TrBb : elemT Tryz.prog 137 = some 116 := by kernel_rfl
theorem el_28_TrBb : elemT Tryz.prog 28 = some 70 := by kernel_rfl
theorem fo_116_1_TrBb : fieldO Tryz.prog 116 1 = some 1 := by kernel_rfl
theorem fo_120_2_TrBb : fieldO Tryz.prog 120 2 = some 2 := by kernel_rfl
theorem fo_70_0_TrBb : fieldO Tryz.prog 70 0 = some 0 := by kernel_rfl
theorem fo_70_1_TrBb : fieldO Tryz.prog 70 1 = some 1 := by kernel_rfl
theorem pl_116_TrBb : placesB Tryz.prog 116 = some [(0, 1), (1, 1)] := by kernel_rfl
theorem pl_120_TrBb : placesB Tryz.prog 120 = some [(0, 1), (1, 1), (2, 1)] := by kernel_rfl
theorem pl_135_TrBb : placesB Tryz.prog 135 = some [(0, 1), (1, 1), (2, 1)] := by kernel_rfl
theorem sz_114_TrBb : tsize Tryz.prog 114 = some 1 := by kernel_rfl
theorem sz_116_TrBb : tsize Tryz.prog 116 = some 2 := by kernel_rfl
theorem sz_120_TrBb : tsize Tryz.prog 120 = some 3 := by kernel_rfl
theorem sz_133_TrBb : tsize Tryz.prog 133 = some 1 := by kernel_rfl
theorem sz_31_TrBb : tsize Tryz.prog 31 = some 1 := by kernel_rfl
theorem sz_70_TrBb : tsize Tryz.prog 70 = some 2 := by kernel_rfl
theorem un_34_TrBb : Tryz.prog.underlying 34 = some (.pointer 146) := by kernel_rfl
theorem zc_116_TrBb : zcells Tryz.prog 116 = some ([.bool false, .slice none 0 0]) := by kernel_rfl
theorem zc_120_TrBb : zcells Tryz.prog 120 = some ([.slice none 0 0, .slice none 0 0, .int .i64 0]) := by kernel_rfl
theorem zc_133_TrBb : zcells Tryz.prog 133 = some ([.pointer none]) := by kernel_rfl
theorem zc_135_TrBb : zcells Tryz.prog 135 = some ([.pointer none, .slice none 0 0, .slice none 0 0]) := by kernel_rfl
theorem zc_31_TrBb : zcells Tryz.prog 31 = some ([.int .i64 0]) := by kernel_rfl
theorem zc_70_TrBb : zcells Tryz.prog 70 = some ([.slice none 0 0, .slice none 0 0]) := by kernel_rfl
attribute [local irreducible] Wops W Wq Wt

theorem leaveD0 {P : Program} {fn : Func} {R : Value → World → Prop} {e : Env} {w : World} (hd : e.ds = []) (hK : ∀ tmps : Array Value, (∀ i, tmps.getD i undef = e.g i) → ∃ v, (results fn tmps).run P w = .ok v w ∧ R v w) : QretD P fn R .ret e w := by
  show Defs P e.ds w _
  rw [hd]; exact hK
theorem build1_ok {w : World} {bt bd bp ba fr bc : Nat} {c : Ch} {F : Mut} {L : List (Nat × Obj)} (X : Cx w bt bd bp ba fr bc c F L) {b10 b9 t1 t2 : Nat} {e : Int} {l1 l2 : List Value} (h10 : w.heap[b10]? = some (Bl t1 (ptr bc :: l1))) (h9 : w.heap[b9]? = some (Bl t2 (.int .i64 e :: l2))) (htk : c.tk.length ≤ 1000000) (hgn : c.gn.length ≤ 1000000) :
    RetD Tryz.prog 77 #[ptr b10, ptr b9] w fun w' => Cx w' bt bd bp ba fr bc (overC c e) F L ∧ Grown (TM F ba bt bp L) (TM F ba bt bp L) w w' := by
  obtain ⟨w0, rfl⟩ : ∃ w0, w0 = w := ⟨_, rfl⟩
  have H := Ctx.start w0 []
  refine retD_of_W (fn := Tryz.f77) Tryz.func77 rfl [.pointer (some ⟨b10, 0, none⟩), .pointer (some ⟨b9, 0, none⟩)] rfl (by kernel_rfl) ?_
  refine W_region ?_
  first | refine op_ldb rfl ag_133_TrBb rfl H (by first | exact at0 | exact at1 | exact at2 | exact at3 | exact at4 | exact at5 | exact at6 | exact at7 | exact at8 | exact at9) rfl ?_ | refine op_ld rfl ag_133_TrBb rfl ((by rw [cell_bl h10]; rfl)) ?_ | refine op_ld rfl ag_133_TrBb rfl ((by rw [cell_bl h9]; rfl)) ?_
  first | refine op_ldb rfl ag_31_TrBb rfl H (by first | exact at0 | exact at1 | exact at2 | exact at3 | exact at4 | exact at5 | exact at6 | exact at7 | exact at8 | exact at9) rfl ?_ | refine op_ld rfl ag_31_TrBb rfl ((by rw [cell_bl h10]; rfl)) ?_ | refine op_ld rfl ag_31_TrBb rfl ((by rw [cell_bl h9]; rfl)) ?_
  refine op_call rfl ca_78_TrBb (over_ok7 X e htk hgn) rfl ?_
  rintro v w2 ⟨rfl, X2, g2⟩
  refine op_nil (leave0n rfl rfl ?_)
  exact ⟨X2, g2⟩
theorem Fr.sub {w0 w : World} {Z M0 : Mut} {bt bd bp ba fr bc : Nat} {c : Ch} {F : Mut} {L Y Y2 : List (Nat × Obj)} (E : Fr w0 Z M0 w bt bd bp ba fr bc c F L Y) (h : ∀ y ∈ Y2, y ∈ Y) (nd : Y2.Pairwise fun x y => x.1 ≠ y.1) : Fr w0 Z M0 w bt bd bp ba fr bc c F L Y2 :=
  ⟨E.X, E.O.sub h nd, E.GT, E.GA.weak (MY.sub h), fun y hy => by
    obtain ⟨z, hz, rfl⟩ := List.mem_map.1 hy
    exact E.yo _ (List.mem_map.2 ⟨z, h z hz, rfl⟩), E.sz, E.hZ⟩
theorem wrC_fewtk {fr : Nat} {c : Ch} {inner : Bool} {M : List It} {m : Nat} (h : Few c.A (m + c.tk.length)) : Few (wrC fr c inner M).2.A (m + (wrC fr c inner M).2.tk.length) := by
  unfold wrC
  split
  · exact h
  · split
    · rw [List.length_append]; exact h.mono (by rw [List.length_singleton]; omega)
    · rw [List.length_append]
      exact write_few h _ _
theorem okF_of {c : Ch} {i : Bool} {M : List It} (h : okF c i M = true) : M.length ≤ 100000 ∧ c.tk.length + (fullN i M).length ≤ 50000 ∧ (∀ x ∈ M, x.key.length ≤ 65535 ∧ x.val.length ≤ 65535) ∧ (∀ x ∈ M, x.page < 9223372036854775808) ∧ (∀ x ∈ M, sizeI i x ≤ 503) ∧ ∀ a ∈ fullN i M, a ≠ [] ∧ a.length ≤ 1000 ∧ ∀ x ∈ a, x ∈ M := by
  unfold okF at h
  simp only [Bool.and_eq_true, decide_eq_true_eq, List.all_eq_true] at h
  obtain ⟨h1, h2, h3, h4⟩ := h
  refine ⟨h1, h2, fun x hx => ⟨(h3 x hx).1, (h3 x hx).2.1⟩, fun x hx => (h3 x hx).2.2.1, fun x hx => (h3 x hx).2.2.2, fun a ha => ⟨(h4 a ha).1, (h4 a ha).2, fun x hx => ?_⟩⟩
  have hf : (fullN i M).flatten = M := by
    have hfl := fullG_flat i M [] []
    simp only [List.flatten_nil, List.nil_append] at hfl
    unfold fullN
    obtain ⟨l, hl⟩ : ∃ l, l = (fullG i M [] []).1 := ⟨_, rfl⟩
    obtain ⟨pt, hpt⟩ : ∃ pt, pt = (fullG i M [] []).2 := ⟨_, rfl⟩
    rw [← hl, ← hpt] at hfl ⊢
    unfold fixL
    split
    · rename_i hc
      have hs := getLast_split hc.2.2
      rw [← hfl]
      conv => rhs; rw [hs]
      simp only [List.flatten_append, List.flatten_singleton, List.append_assoc]
      congr 1
      rw [← List.append_assoc, lastI_split]
    · rw [List.flatten_append, List.flatten_singleton]; exact hfl
  rw [← hf]
  exact List.mem_flatten.2 ⟨a, ha, hx⟩
def zI (m : Im) : Im := ⟨m.ka, m.kc, m.va, m.vc, leafI (prI m.it)⟩
/-- Where the walk stands between two levels. -/
structure BS where
  n : Nat
  i : Bool
  a : Option Addr
  k : Nat
  c : Nat
  M : List It
  ch : Ch
  F : Mut
  L : List (Nat × Obj)
abbrev Y0 (b5 b6 b9 bc : Nat) (i : Bool) (a : Option Addr) (k c : Nat) : List (Nat × Obj) :=
  [(b9, Bl 133 [ptr bc]), (b6, Bl 116 [.bool i, .slice a k c]), (b5, Bl 31 [.int .i64 0])]
structure BInv (w0 w : World) (Z M0 : Mut) (bt bd bp ba fr bc b5 b6 b9 mx : Nat) (R : Int × Ch × Int) (s : BS) : Prop where
  E : Fr w0 Z M0 w bt bd bp ba fr bc s.ch s.F s.L (Y0 b5 b6 b9 bc s.i s.a s.k s.c)
  I : Its w (MY (MZ (TM s.F ba bt bp s.L) Z) (Y0 b5 b6 b9 bc s.i s.a s.k s.c)) s.a s.k s.c s.M
  eq : R = buildC fr s.n s.ch s.i s.M
  few : Few s.ch.A (mx + s.ch.tk.length)
  gn : s.ch.gn = []
  tk : s.ch.tk.length ≤ 50000
/-- Where it stands in the midst of a level. -/
structure LS where
  j : Nat
  a : Option Addr
  c : Nat
  full : List Value
  ms : List Im
  ch : Ch
  F : Mut
  L : List (Nat × Obj)
abbrev Y1 (b5 b6 b9 b10 bc : Nat) (i : Bool) (a : Option Addr) (k c : Nat) (s : LS) : List (Nat × Obj) :=
  (b10, Bl 116 [.bool true, .slice s.a s.ms.length s.c]) :: (Y0 b5 b6 b9 bc i a k c ++ ent s.a 120 s.full)
structure LInv (w0 w : World) (Z M0 : Mut) (bt bd bp ba fr bc b5 b6 b9 b10 mx : Nat) (i : Bool) (a : Option Addr) (k c : Nat) (an : Option Addr) (nn cn : Nat) (Ps : List (List It)) (T : Int × Ch × List It) (c0 : Ch) (s : LS) : Prop where
  E : Fr w0 Z M0 w bt bd bp ba fr bc s.ch s.F s.L (Y1 b5 b6 b9 b10 bc i a k c s)
  N : Nds w (MY (MZ (TM s.F ba bt bp s.L) Z) (Y1 b5 b6 b9 b10 bc i a k c s)) i an nn cn Ps
  O : OS s.a s.ms.length s.c 3 s.full (s.ms.flatMap Im.enc)
  ms : ∀ m ∈ s.ms, m.Ok w (MY (MZ (TM s.F ba bt bp s.L) Z) (Y1 b5 b6 b9 b10 bc i a k c s))
  eq : T = putF fr i (Ps.drop s.j) s.ch (s.ms.map (·.it))
  few : Few s.ch.A (mx + s.ch.tk.length)
  gn : s.ch.gn = []
  tk : s.ch.tk.length ≤ c0.tk.length + s.j
  num : s.ms.length = s.j

set_option maxRecDepth 20000 in
set_option maxHeartbeats 16000000 in
theorem build7_ok {w : World} {bt bd bp ba : Nat} {A : Dev} {P : List Nat} {F : Mut} (T : Tx w bt bd bp ba 10 A P F []) {a : Option Addr} {n c : Nat} {L : List Pr} (PL : Prs w (TM F ba bt bp []) a n c L) (hn : n ≤ 1000) {mx : Nat} (hfew : Few A mx) (hmx : mx ≤ 800000000) (hok : (∀ i, i < L.length → GoodP L i) → L ≠ [] → (bldC A P L).1 ≠ 99) :
    Ret Tryz.prog 29 #[ptr bt, .slice a n c] w fun v w' =>
      ((∃ i, i < L.length ∧ ¬ GoodP L i) ∧ v = .tuple #[.int .i64 (-1), .int .i64 1] ∧ Ext [] w w') ∨
      ((∀ i, i < L.length → GoodP L i) ∧ L = [] ∧ v = .tuple #[.int .i64 (-1), .int .i64 0] ∧ Ext [] w w') ∨
      ((∀ i, i < L.length → GoodP L i) ∧ L ≠ [] ∧ ∃ F', v = .tuple #[.int .i64 (bldC A P L).2.2, .int .i64 (bldC A P L).1] ∧ Tx w' bt bd bp ba 10 (bldC A P L).2.1.A (overC (bldC A P L).2.1 (bldC A P L).1).P F' [] ∧ Grown (TM F ba bt bp []) (TM F' ba bt bp []) w w') := by
  obtain ⟨w0, rfl⟩ : ∃ w0, w0 = w := ⟨_, rfl⟩
  have hnL := PL.num
  obtain ⟨ps, Rp, hps, hl, hp⟩ := PL.ex
  have hpn : ps.length = n := by rw [hnL, ← hl, List.length_map]
  have hmlt := T.mlt
  have H := Ctx.start w0 []
  refine ret_of_WD (fn := Tryz.f29) Tryz.func29 rfl [.pointer (some ⟨bt, 0, none⟩), .slice a n c] rfl (by kernel_rfl) ?_
  refine W_rseq ?_
  refine op_assign rfl (.int _ _) rfl ?_
  refine op_alloc rfl zc_31_TrBb H ?_
  rintro b5 w - H
  refine op_nil (at_then ?_)
  refine W_seq ?_
  refine W_rseq ?_
  refine op_move rfl (.pointer _) rfl ?_
  refine op_eqlptr rfl un_34_TrBb rfl ?_
  refine op_nil (at_then ?_)
  refine W_cond0 rfl ?_
  refine W_skip (at_then ?_)
  refine W_rseq ?_
  refine op_buildS [.bool false, .slice none 0 0] rfl pl_116_TrBb zc_116_TrBb (by kernel_rfl) ?_
  refine op_alloc rfl zc_116_TrBb H ?_
  rintro b6 w - H
  refine op_stb0 rfl sz_116_TrBb rfl rfl rfl (by first | exact encN_oneE _ _ _ _ | exact encP_one _ | exact Im.oneE _ | simp [oneCell]) H (by first | exact at0 | exact at1 | exact at2 | exact at3 | exact at4 | exact at5 | exact at6 | exact at7 | exact at8 | exact at9) rfl ?_
  rintro w H
  refine op_nil (at_then ?_)
  refine W_seq ?_
  refine W_rseq ?_
  refine op_move rfl (.slice _ _ _) rfl ?_
  refine op_len rfl el_28_TrBb rfl ?_
  refine op_move rfl (.int _ _) rfl ?_
  refine op_nil (at_then ?_)
  refine W_block ?_
  refine W_loop 72057594036879760 (α := Nat × Option Addr × Nat × List Value) (fun s => [(20, .int .i64 (s.1 : Int))]) (fun s w' => s.1 ≤ n ∧ (∀ i, i < s.1 → GoodP L i) ∧ Ctx w0 [] w' ([(b6, Bl 116 [.bool false, .slice s.2.1 s.1 s.2.2.1]), (b5, Bl 31 [.int .i64 0])] ++ ent s.2.1 120 s.2.2.2) ∧ OS s.2.1 s.1 s.2.2.1 3 s.2.2.2 (((ps.take s.1).map zI).flatMap Im.enc)) (fun s => n - s.1) (0, none, 0, []) rfl ?_ ?_ ?_
  · exact ⟨rfl, trivial⟩
  · exact ⟨Nat.zero_le _, (fun i h => absurd h (Nat.not_lt_zero _)), H, OS.nil⟩
  · rintro ⟨i, ia, ic, fi⟩ j w ⟨hi, hg, H, O⟩; dsimp only at hi hg H O; dsimp only
    refine W_rseq ?_
    refine op_lss rfl rfl rfl ?_
    refine op_nil (at_then ?_)
    refine W_seq ?_
    refine W_cond _ rfl ?_ ?_
    · intro h1
      replace h1 := dec_t h1
      obtain ⟨x, hx1⟩ := get_some (l := ps) (i := i) (by omega)
      have hxo := hp x (List.mem_of_getElem? hx1)
      have hxL : L[i]? = some (prI x.it) := by rw [← hl, List.getElem?_map, hx1]; rfl
      have hts : ((ps.take (i + 1)).map zI).flatMap Im.enc = ((ps.take i).map zI).flatMap Im.enc ++ (zI x).enc := by rw [take_snoc hx1, List.map_append, List.flatMap_append]; simp
      refine W_skip (at_then ?_)
      refine W_seq ?_
      refine W_block ?_
      refine W_rseq ?_
      refine op_move rfl (.int _ _) rfl ?_
      first | refine op_indexRd Rp rfl el_28_TrBb sz_70_TrBb rfl rfl (by omega) (by omega) (by first | rfl | omega) ?_ | refine op_indexAddr rfl el_28_TrBb sz_70_TrBb rfl rfl (by omega) (by omega) ?_
      first | refine op_ldN _ rfl ag_70_TrBb sz_70_TrBb rfl rfl ((Rp.ext0 H.ext).row hx1 rfl) ?_ | refine op_ldbN rfl ag_70_TrBb sz_70_TrBb rfl H (by first | exact at0 | exact at1 | exact at2 | exact at3 | exact at4 | exact at5 | exact at6 | exact at7 | exact at8 | exact at9) rfl ?_
      refine op_alloc rfl zc_70_TrBb H ?_
      rintro b8 w - H
      refine op_assign rfl (.int _ _) rfl ?_
      refine op_stb0 rfl sz_70_TrBb rfl rfl rfl (by first | exact encN_oneE _ _ _ _ | exact encP_one _ | exact Im.oneE _ | simp [oneCell]) H (by first | exact at0 | exact at1 | exact at2 | exact at3 | exact at4 | exact at5 | exact at6 | exact at7 | exact at8 | exact at9) rfl ?_
      rintro w H
      refine op_nil (at_then ?_)
      refine W_seq ?_
      refine W_rseq ?_
      refine op_fieldAddr rfl fo_70_0_TrBb rfl ?_
      refine op_ldb rfl ag_23 rfl H (by first | exact at0 | exact at1 | exact at2 | exact at3 | exact at4 | exact at5 | exact at6 | exact at7 | exact at8 | exact at9) rfl ?_
      refine op_fieldAddr rfl fo_70_1_TrBb rfl ?_
      refine op_ldb rfl ag_23 rfl H (by first | exact at0 | exact at1 | exact at2 | exact at3 | exact at4 | exact at5 | exact at6 | exact at7 | exact at8 | exact at9) rfl ?_
      refine op_call rfl ca_65_TrBb (right7_ok x.ka x.va _ _ x.kc x.vc _) rfl ?_
      rintro v w9 ⟨rfl, rfl⟩
      refine op_not rfl rfl ?_
      refine op_nil (at_then ?_)
      refine W_cond _ rfl ?_ ?_
      · intro h2
        replace h2 := nvar_t h2
        refine W_rseq ?_
        refine op_assign rfl (.int _ _) rfl ?_
        refine op_stb (.int _ _) rfl sz_31_TrBb rfl rfl rfl H (by first | exact at0 | exact at1 | exact at2 | exact at3 | exact at4 | exact at5 | exact at6 | exact at7 | exact at8 | exact at9) (by first | decide | (simp; done) | (simp; omega)) ?_
        rintro w H
        refine op_nil (at_then ?_)
        refine W_ret (ret_then (ret_block (ret_then (ret_then (ret_block (ret_then ?_))))))
        refine leaveD0 rfl fun tmps ht => ⟨_, res2c rfl ht rfl rfl ag_31_TrBb (H.get at2), .inl ⟨⟨i, by omega, fun ⟨p, q1, q2, _⟩ => ?_⟩, rfl, H.ext⟩⟩
        rw [hxL] at q1
        cases q1
        have q3 : rightK x.it.key.length x.it.val.length = true := q2
        rw [h2] at q3; cases q3
      · intro h2
        replace h2 := nvar_f h2
        obtain ⟨w8, rfl⟩ : ∃ z, z = w := ⟨_, rfl⟩
        have hb8 := H.get at0
        have hx08 := H.ext
        have hk8 : ∀ {z : World}, Ext [] w8 z → z.heap[b8]? = some (Bl 70 (encP x)) := fun {z} h => by rw [h.block b8 (heap_lt hb8) (by simp)]; exact hb8
        have hD := Ext.drew [] w8
        refine W_skip (at_then ?_)
        refine W_seq ?_
        refine W_sseqz [([0, 1, 2, 3, 4, 5, 6, 7, 8, 9, 10], 11), ([12], 13)] (fun z => Ext [] w8 z) [] mixed (by kernel_rfl) (hD) ?_
        refine seg_cons rfl rfl ?_
        refine t_move rfl (.int _ _) rfl ?_
        refine t_gtr rfl rfl rfl ?_
        refine t_move rfl (.bool _) rfl ?_
        refine Wt_split 33 rfl ?_ ?_
        · intro h3
          replace h3 := dec_t h3
          refine t_move rfl (.slice _ _ _) rfl ?_
          refine t_move rfl (.int _ _) rfl ?_
          obtain ⟨y, hy⟩ := get_some (l := ps) (i := i - 1) (by omega)
          have hyo := hp y (List.mem_of_getElem? hy)
          refine t_sub_i64 rfl rfl rfl (by omega) (by omega) ?_
          rw [show (i : Int) - 1 = ((i - 1 : Nat) : Int) by omega]
          first | refine t_indexRd Rp rfl el_28_TrBb sz_70_TrBb rfl rfl (by omega) (by omega) (by first | rfl | omega) ?_ | refine t_indexAddr rfl el_28_TrBb sz_70_TrBb rfl rfl (by omega) (by omega) ?_
          refine t_fieldAddr rfl fo_70_0_TrBb rfl ?_
          first | refine t_ldb rfl ag_23 rfl (fun _ _ => Ctx.start _ []) (by first | exact at0 | exact at1 | exact at2 | exact at3 | exact at4 | exact at5 | exact at6 | exact at7 | exact at8 | exact at9) rfl ?_ | refine t_ld rfl ag_23 rfl (fun _ hx => (((Rp.ext0 hx08).ext0 hx).fld hy rfl (j := 0) rfl)) ?_ | refine t_ld rfl ag_23 rfl (fun _ hx => (by rw [cell_bl (hk8 hx)]; rfl)) ?_
          refine t_fieldAddr rfl fo_70_0_TrBb rfl ?_
          first | refine t_ldb rfl ag_23 rfl (fun _ _ => Ctx.start _ []) (by first | exact at0 | exact at1 | exact at2 | exact at3 | exact at4 | exact at5 | exact at6 | exact at7 | exact at8 | exact at9) rfl ?_ | refine t_ld rfl ag_23 rfl (fun _ hx => (((Rp.ext0 hx08).ext0 hx).fld hy rfl (j := 0) rfl)) ?_ | refine t_ld rfl ag_23 rfl (fun _ hx => (by rw [cell_bl (hk8 hx)]; rfl)) ?_
          refine t_nil ?_
          replace H := H.drew
          refine op_call rfl ca_71_TrBb (compare_ok y.ka x.ka y.kc x.kc _ _ y.it.key x.it.key (hyo.k.1.ext0 (hx08.trans hD)) (hxo.k.1.ext0 (hx08.trans hD)) rfl rfl) rfl ?_
          rintro v w9 ⟨rfl, rfl⟩
          refine op_nil (at_seg (hD) ?_)
          refine seg_cons rfl rfl ?_
          refine t_geq rfl rfl rfl ?_
          refine t_nil ?_
          refine op_pick1 rfl rfl (.bool _) rfl ?_
          refine op_nil (at_seg (hD) ?_)
          refine seg_nil ?_
          refine W_cond _ rfl ?_ ?_
          · intro h4
            replace h4 := dec_t h4
            refine W_rseq ?_
            refine op_assign rfl (.int _ _) rfl ?_
            refine op_stb (.int _ _) rfl sz_31_TrBb rfl rfl rfl H (by first | exact at0 | exact at1 | exact at2 | exact at3 | exact at4 | exact at5 | exact at6 | exact at7 | exact at8 | exact at9) (by first | decide | (simp; done) | (simp; omega)) ?_
            rintro w H
            refine op_nil (at_then ?_)
            refine W_ret (ret_then (ret_block (ret_then (ret_then (ret_block (ret_then ?_))))))
            refine leaveD0 rfl fun tmps ht => ⟨_, res2c rfl ht rfl rfl ag_31_TrBb (H.get at2), .inl ⟨⟨i, by omega, fun ⟨p, q1, _, q3⟩ => ?_⟩, rfl, H.ext⟩⟩
            rw [hxL] at q1
            cases q1
            have hyL : L[i - 1]? = some (prI y.it) := by rw [← hl, List.getElem?_map, hy]; rfl
            have q4 : cmpB y.it.key x.it.key < 0 := cmpB_lt.2 (q3 _ (by omega) hyL)
            omega
          · intro h4
            replace h4 := dec_f h4
            refine W_skip (at_then ?_)
            refine W_region ?_
            refine op_fieldAddr rfl fo_116_1_TrBb rfl ?_
            refine op_ldb rfl ag_114_TrBb rfl H (by first | exact at0 | exact at1 | exact at2 | exact at3 | exact at4 | exact at5 | exact at6 | exact at7 | exact at8 | exact at9) rfl ?_
            refine op_fieldAddr rfl fo_70_0_TrBb rfl ?_
            refine op_ldb rfl ag_23 rfl H (by first | exact at0 | exact at1 | exact at2 | exact at3 | exact at4 | exact at5 | exact at6 | exact at7 | exact at8 | exact at9) rfl ?_
            refine op_fieldAddr rfl fo_70_1_TrBb rfl ?_
            refine op_ldb rfl ag_23 rfl H (by first | exact at0 | exact at1 | exact at2 | exact at3 | exact at4 | exact at5 | exact at6 | exact at7 | exact at8 | exact at9) rfl ?_
            refine op_buildS (zI x).enc rfl pl_120_TrBb zc_120_TrBb (by kernel_rfl) ?_
            refine op_build1 _ (.agg _) rfl el_114_TrBb sz_120_TrBb zc_120_TrBb rfl (by decide) (by decide) rfl rfl rfl H ?_
            rintro b52 w - H
            refine op_appendb (L := [_, _, _]) rfl el_114_TrBb el_114_TrBb sz_120_TrBb by_120_TrBb zc_120_TrBb rfl (by decide) rfl rfl H O rfl (Im.oneE (zI x)) (by omega) ?_
            rintro a53 c53 f53 w H O53
            refine op_fieldAddr rfl fo_116_1_TrBb rfl ?_
            refine op_stb (.slice _ _ _) rfl sz_114_TrBb rfl rfl rfl H (by first | exact at0 | exact at1 | exact at2 | exact at3 | exact at4 | exact at5 | exact at6 | exact at7 | exact at8 | exact at9) (by first | decide | (simp; done) | (simp; omega)) ?_
            rintro w H
            refine op_nil (at_block (at_then ?_))
            refine W_region ?_
            refine op_add_i64 rfl rfl rfl (by omega) (by omega) ?_
            refine op_move rfl (.int _ _) rfl ?_
            refine op_nil (at_then ?_)
            refine ⟨(i + 1, a53, c53, f53), rfl, ⟨rfl, trivial⟩, ⟨by dsimp only; omega, fun k hk => ?_, H.tail, by dsimp only; rw [hts]; exact O53⟩, by dsimp only; omega⟩
            dsimp only at hk
            rcases Nat.lt_or_ge k i with h7 | h7
            · exact hg k h7
            · obtain rfl : k = i := by omega
              exact ⟨_, hxL, h2, fun q h0 hq => by
                have hyL : L[k - 1]? = some (prI y.it) := by rw [← hl, List.getElem?_map, hy]; rfl
                rw [hyL] at hq
                cases hq
                exact cmpB_lt.1 (show cmpB y.it.key x.it.key < 0 by omega)⟩

        · intro h3
          replace h3 := dec_f h3
          refine t_skip rfl ?_
          refine t_skip rfl ?_
          refine t_skip rfl ?_
          refine t_skip rfl ?_
          refine t_skip rfl ?_
          refine t_skip rfl ?_
          refine t_skip rfl ?_
          refine t_skip rfl ?_
          refine t_nil ?_
          replace H := H.drew
          refine op_skip rfl ?_
          refine op_nil (at_seg (hD) ?_)
          refine seg_cons rfl rfl ?_
          refine t_skip rfl ?_
          refine t_nil ?_
          refine op_pick0 rfl rfl (.bool _) rfl ?_
          refine op_nil (at_seg (hD) ?_)
          refine seg_nil ?_
          refine W_cond0 rfl ?_
          refine W_skip (at_then ?_)
          refine W_region ?_
          refine op_fieldAddr rfl fo_116_1_TrBb rfl ?_
          refine op_ldb rfl ag_114_TrBb rfl H (by first | exact at0 | exact at1 | exact at2 | exact at3 | exact at4 | exact at5 | exact at6 | exact at7 | exact at8 | exact at9) rfl ?_
          refine op_fieldAddr rfl fo_70_0_TrBb rfl ?_
          refine op_ldb rfl ag_23 rfl H (by first | exact at0 | exact at1 | exact at2 | exact at3 | exact at4 | exact at5 | exact at6 | exact at7 | exact at8 | exact at9) rfl ?_
          refine op_fieldAddr rfl fo_70_1_TrBb rfl ?_
          refine op_ldb rfl ag_23 rfl H (by first | exact at0 | exact at1 | exact at2 | exact at3 | exact at4 | exact at5 | exact at6 | exact at7 | exact at8 | exact at9) rfl ?_
          refine op_buildS (zI x).enc rfl pl_120_TrBb zc_120_TrBb (by kernel_rfl) ?_
          refine op_build1 _ (.agg _) rfl el_114_TrBb sz_120_TrBb zc_120_TrBb rfl (by decide) (by decide) rfl rfl rfl H ?_
          rintro b52 w - H
          refine op_appendb (L := [_, _, _]) rfl el_114_TrBb el_114_TrBb sz_120_TrBb by_120_TrBb zc_120_TrBb rfl (by decide) rfl rfl H O rfl (Im.oneE (zI x)) (by omega) ?_
          rintro a53 c53 f53 w H O53
          refine op_fieldAddr rfl fo_116_1_TrBb rfl ?_
          refine op_stb (.slice _ _ _) rfl sz_114_TrBb rfl rfl rfl H (by first | exact at0 | exact at1 | exact at2 | exact at3 | exact at4 | exact at5 | exact at6 | exact at7 | exact at8 | exact at9) (by first | decide | (simp; done) | (simp; omega)) ?_
          rintro w H
          refine op_nil (at_block (at_then ?_))
          refine W_region ?_
          refine op_add_i64 rfl rfl rfl (by omega) (by omega) ?_
          refine op_move rfl (.int _ _) rfl ?_
          refine op_nil (at_then ?_)
          refine ⟨(i + 1, a53, c53, f53), rfl, ⟨rfl, trivial⟩, ⟨by dsimp only; omega, fun k hk => ?_, H.tail, by dsimp only; rw [hts]; exact O53⟩, by dsimp only; omega⟩
          dsimp only at hk
          rcases Nat.lt_or_ge k i with h7 | h7
          · exact hg k h7
          · obtain rfl : k = i := by omega
            exact ⟨_, hxL, h2, fun q h0 hq => absurd h0 (by omega)⟩

    · intro h1
      replace h1 := dec_f h1
      have hin : i = n := by omega
      rw [List.take_of_length_le (by omega)] at O
      have hgood : ∀ k, k < L.length → GoodP L k := fun k hk => hg k (by omega)
      refine W_exit (exit_then (exit_then (exit_here (at_then ?_))))
      refine W_seq ?_
      refine W_rseq ?_
      refine op_move rfl (.slice _ _ _) rfl ?_
      refine op_len rfl el_28_TrBb rfl ?_
      refine op_eql rfl rfl rfl ?_
      refine op_nil (at_then ?_)
      refine W_cond _ rfl ?_ ?_
      · intro h5
        replace h5 := dec_t h5
        refine W_rseq ?_
        refine op_assign rfl (.int _ _) rfl ?_
        refine op_stb (.int _ _) rfl sz_31_TrBb rfl rfl rfl H (by first | exact at0 | exact at1 | exact at2 | exact at3 | exact at4 | exact at5 | exact at6 | exact at7 | exact at8 | exact at9) (by first | decide | (simp; done) | (simp; omega)) ?_
        rintro w H
        refine op_nil (at_then ?_)
        refine W_ret (ret_then ?_)
        exact leaveD0 rfl fun tmps ht => ⟨_, res2c rfl ht rfl rfl ag_31_TrBb (H.get at1), .inr (.inl ⟨hgood, List.eq_nil_of_length_eq_zero (by omega), rfl, H.ext⟩)⟩
      · intro h5
        replace h5 := dec_f h5
        have hne : L ≠ [] := fun e => h5 (by rw [hnL, e]; rfl)
        have hok' := hok hgood hne
        obtain ⟨R, hR⟩ : ∃ R, R = bldC A P L := ⟨_, rfl⟩
        rw [← hR] at hok' ⊢
        refine W_skip (at_then ?_)
        refine W_rseq ?_
        refine op_move rfl (.pointer _) rfl ?_
        refine op_buildS [ptr bt, .slice none 0 0, .slice none 0 0] rfl pl_135_TrBb zc_135_TrBb (by kernel_rfl) ?_
        refine op_box rfl [ptr bt, .slice none 0 0, .slice none 0 0] (.agg _) rfl rfl H ?_
        rintro bc w - H
        refine op_alloc rfl zc_133_TrBb H ?_
        rintro b9 w - H
        refine op_stb (.pointer _) rfl sz_133_TrBb rfl rfl rfl H (by first | exact at0 | exact at1 | exact at2 | exact at3 | exact at4 | exact at5 | exact at6 | exact at7 | exact at8 | exact at9) (by first | decide | (simp; done) | (simp; omega)) ?_
        rintro w H
        refine op_nil (at_then ?_)
        refine W_rseq ?_
        refine op_makeFuncL rfl [.pointer _, .pointer _] rfl ?_
        refine op_defer rfl rfl ?_
        refine op_nil (at_then ?_)
        refine W_block ?_
        have E1 : Fr w0 (fun _ => False) (TM F ba bt bp []) w bt bd bp ba 10 bc ⟨A, P, [], []⟩ F [(bc, Bl TC [ptr bt, .slice none 0 0, .slice none 0 0])] (Y0 b5 b6 b9 bc false ia i ic ++ ent ia 120 fi) := Fr.born T (fun x h => h.elim) (H.perm (List.Perm.swap _ _ _)) ⟨none, 0, [], none, 0, [], rfl, OS.nil, OS.nil⟩
        have hpsl : (ps.map zI).length = i := by rw [List.length_map]; omega
        have O9 : OS ia (ps.map zI).length ic 3 fi ((ps.map zI).flatMap Im.enc) := by rw [hpsl]; exact O
        obtain ⟨-, I9⟩ := Its.push E1.O O9 fun m hm => by
          obtain ⟨q, hq, rfl⟩ := List.mem_map.1 hm
          have := ((hp q hq).weak (M' := MZ (TM F ba bt bp []) fun _ => False) fun x h => h.elim id False.elim).turn E1.GA
          exact ⟨this.k, this.v, this.kc, this.vc⟩
        have hmap : (ps.map zI).map (·.it) = L.map leafI := by rw [← hl, List.map_map, List.map_map]; rfl
        rw [hpsl, hmap] at I9
        have E2 := E1.sub (Y2 := Y0 b5 b6 b9 bc false ia i ic) (fun y hy => List.mem_append_left _ hy) (List.pairwise_append.1 E1.O.nd).1
        refine W_loop 158456325019305303150233154576 (α := BS) (fun _ => []) (fun s w' => BInv w0 w' (fun _ => False) (TM F ba bt bp []) bt bd bp ba 10 bc b5 b6 b9 mx R s) (fun s => s.n) ⟨1500, false, ia, i, ic, L.map leafI, ⟨A, P, [], []⟩, F, [(bc, Bl TC [ptr bt, .slice none 0 0, .slice none 0 0])]⟩ rfl ?_ ?_ ?_
        · exact trivial
        · exact ⟨E2, I9, hR, hfew, rfl, Nat.zero_le _⟩
        · rintro ⟨m, si, sa, sk, sc, sM, sch, sF, sL⟩ j w V; have hVeq := V.eq; dsimp only at hVeq; dsimp only
          cases m with
          | zero => rw [hVeq] at hok'; exact absurd rfl hok'
          | succ m =>
          have hokF : okF sch si sM = true := by
            cases h : okF sch si sM with
            | true => rfl
            | false =>
              rw [hVeq] at hok'
              unfold buildC at hok'
              rw [if_pos h] at hok'
              exact absurd rfl hok'
          obtain ⟨k1, k2, k3, k4, k5, k6⟩ := okF_of hokF
          unfold buildC at hVeq
          rw [if_neg (by rw [hokF]; simp)] at hVeq
          obtain ⟨Tp, hTp⟩ : ∃ Tp, Tp = putF 10 si (fullN si sM) sch [] := ⟨_, rfl⟩
          rw [← hTp] at hVeq
          have hskn := V.I.num
          have hfew9 := V.few
          have hgn9 := V.gn
          dsimp only at hskn hfew9 hgn9
          have H := V.E.O.ctx
          refine W_block ?_
          refine W_rseq ?_
          refine op_buildS [.bool true, .slice none 0 0] rfl pl_116_TrBb zc_116_TrBb (by kernel_rfl) ?_
          refine op_alloc rfl zc_116_TrBb H ?_
          rintro b10 w - H
          refine op_stb0 rfl sz_116_TrBb rfl rfl rfl (by first | exact encN_oneE _ _ _ _ | exact encP_one _ | exact Im.oneE _ | simp [oneCell]) H (by first | exact at0 | exact at1 | exact at2 | exact at3 | exact at4 | exact at5 | exact at6 | exact at7 | exact at8 | exact at9) rfl ?_
          rintro w H
          refine op_nil (at_then ?_)
          refine W_seq ?_
          refine W_rseq ?_
          refine op_ldbN rfl ag_116_TrBb sz_116_TrBb rfl H (by first | exact at0 | exact at1 | exact at2 | exact at3 | exact at4 | exact at5 | exact at6 | exact at7 | exact at8 | exact at9) rfl ?_
          obtain ⟨E3, g3⟩ := V.E.own H
          refine op_call rfl ca_79_TrBb (full_ok E3.mylt si (V.I.turn g3) (by dsimp only; omega) k3 k5) rfl ?_
          rintro v w2 ⟨an, nn, cn, rfl, N, hx2⟩
          obtain ⟨E4, g4⟩ := E3.call0 hx2
          have N4 := N
          refine op_len rfl el_137_TrBb rfl ?_
          refine op_move rfl (.int _ _) rfl ?_
          refine op_nil (at_then ?_)
          refine W_block ?_
          have hnn : nn = (fullN si sM).length := N4.num
          refine W_loop 154742357336719944686006288 (α := LS) (fun s => [(67, .int .i64 (s.j : Int))]) (fun s w' => s.j ≤ nn ∧ LInv w0 w' (fun _ => False) (TM F ba bt bp []) bt bd bp ba 10 bc b5 b6 b9 b10 mx si sa sk sc an nn cn (fullN si sM) Tp sch s) (fun s => nn - s.j) ⟨0, none, 0, [], [], sch, sF, sL⟩ rfl ?_ ?_ ?_
          · exact ⟨rfl, trivial⟩
          · exact ⟨Nat.zero_le _, E4, N4, OS.nil, (fun m h => by cases h), hTp, hfew9, hgn9, Nat.le_refl _, rfl⟩
          · rintro ⟨jj, ua, uc, uf, um, ch, cF, cL⟩ j w ⟨hj, V2⟩; dsimp only at hj; dsimp only
            obtain ⟨ns, R3, hs3, hl3, hok3⟩ := V2.N.ex
            have hnl : ns.length = nn := by rw [hnn, ← hl3, List.length_map]
            have htk2 := V2.tk
            have hum := V2.num
            have hTq := V2.eq
            have hf2 := V2.few
            have VE := V2.E
            have VO := V2.O
            dsimp only at htk2 hum hTq hf2 VE VO
            have H := VE.O.ctx
            refine W_rseq ?_
            refine op_lss rfl rfl rfl ?_
            refine op_nil (at_then ?_)
            refine W_seq ?_
            refine W_cond _ rfl ?_ ?_
            · intro h6
              replace h6 := dec_t h6
              obtain ⟨x, hx1⟩ := get_some (l := ns) (i := jj) (by omega)
              have hxL : (fullN si sM)[jj]? = some x.2.1 := by rw [← hl3, List.getElem?_map, hx1]; rfl
              obtain ⟨kx1, kx2, kx3⟩ := k6 _ (List.mem_of_getElem? hxL)
              have Ix := hok3 x (List.mem_of_getElem? hx1)
              rw [drop_cons hxL, putF] at hTq
              refine W_skip (at_then ?_)
              refine W_seq ?_
              refine W_block ?_
              refine W_rseq ?_
              first | refine op_indexRd R3 rfl el_137_TrBb sz_116_TrBb rfl rfl (by omega) (by omega) (by first | rfl | omega) ?_ | refine op_indexAddr rfl el_137_TrBb sz_116_TrBb rfl rfl (by omega) (by omega) ?_
              refine op_ldN (encN si x) rfl ag_116_TrBb sz_116_TrBb rfl rfl (R3.row hx1 rfl) ?_
              refine op_alloc rfl zc_116_TrBb H ?_
              rintro b12 w - H
              refine op_stb0 rfl sz_116_TrBb rfl rfl rfl (by first | exact encN_oneE _ _ _ _ | exact encP_one _ | exact Im.oneE _ | exact encN_one _ _ | simp [oneCell]) H (by first | exact at0 | exact at1 | exact at2 | exact at3 | exact at4 | exact at5 | exact at6 | exact at7 | exact at8 | exact at9) rfl ?_
              rintro w H
              refine op_nil (at_then ?_)
              refine W_rseq ?_
              refine op_ldb rfl ag_133_TrBb rfl H (by first | exact at0 | exact at1 | exact at2 | exact at3 | exact at4 | exact at5 | exact at6 | exact at7 | exact at8 | exact at9) rfl ?_
              refine op_ldbN rfl ag_116_TrBb sz_116_TrBb rfl H (by first | exact at0 | exact at1 | exact at2 | exact at3 | exact at4 | exact at5 | exact at6 | exact at7 | exact at8 | exact at9) rfl ?_
              obtain ⟨E5, g5⟩ := VE.own H
              have Iy := Ix.turn g5
              refine op_call rfl ca_80_TrBb (write7_ok E5.X (by omega) (by omega) si (MY (fun _ => False) _) (Iy.weak MYZ) kx1 (by omega) (fun y hy => k3 y (kx3 y hy)) (fun y hy => k4 y (kx3 y hy)) hf2 (by omega)) rfl ?_
              rintro v w5 ⟨mi, F5, L5, rfl, X5, G5, hmo, hmp, hmi⟩
              have hmo := hmo.weak MYZ'
              obtain ⟨E6, g6⟩ := E5.call X5 G5
              replace H := E6.O.ctx
              refine op_move rfl (.tuple _) rfl ?_
              refine op_extract rfl rfl rfl ?_
              refine op_extract rfl rfl rfl ?_
              refine op_alloc rfl zc_120_TrBb H ?_
              rintro b13 w - H
              refine op_stb0 rfl sz_120_TrBb rfl rfl rfl (by first | exact encN_oneE _ _ _ _ | exact encP_one _ | exact Im.oneE _ | exact encN_one _ _ | simp [oneCell]) H (by first | exact at0 | exact at1 | exact at2 | exact at3 | exact at4 | exact at5 | exact at6 | exact at7 | exact at8 | exact at9) rfl ?_
              rintro w H
              refine op_assign rfl (.int _ _) rfl ?_
              refine op_nil (at_then ?_)
              refine W_seq ?_
              refine W_rseq ?_
              refine op_move rfl (.int _ _) rfl ?_
              refine op_neq rfl rfl rfl ?_
              refine op_nil (at_then ?_)
              refine W_cond _ rfl ?_ ?_
              · intro h7
                replace h7 := ndec_t h7
                rw [if_neg (show ¬ (wrC 10 ch si x.2.1).1 = 0 from h7)] at hTq
                rw [hTq, if_pos (show (wrC 10 ch si x.2.1).1 ≠ 0 from h7)] at hVeq
                have hgn6 : (wrC 10 ch si x.2.1).2.gn = [] := wrC_gn.trans V2.gn
                have htk6 := wrC_tk (fr := 10) (c := ch) (inner := si) (M := x.2.1)
                refine W_rseq ?_
                refine op_move rfl (.int _ _) rfl ?_
                refine op_assign rfl (.int _ _) rfl ?_
                refine op_stb (.int _ _) rfl sz_31_TrBb rfl rfl rfl H (by first | exact at0 | exact at1 | exact at2 | exact at3 | exact at4 | exact at5 | exact at6 | exact at7 | exact at8 | exact at9) (by first | decide | (simp; done) | (simp; omega)) ?_
                rintro w H
                refine op_nil (at_then ?_)
                refine W_ret (ret_then (ret_block (ret_then (ret_then (ret_block (ret_then (ret_block (ret_then (ret_block ?_)))))))))
                obtain ⟨E7, -⟩ := E6.own H
                refine leaveD rfl ca_77_TrBb _ (build1_ok E7.X (H.get at3) (H.get at5) (by omega) (by rw [hgn6]; exact Nat.zero_le _)) (fun w7 hK tmps ht => ?_)
                exact ⟨_, res2c rfl ht rfl rfl ag_31_TrBb ((E7.O.call (hK.2.or _)).1.blk (b5, _) (List.mem_of_getElem? (i := 5) rfl)), .inr (.inr ⟨hgood, hne, F5, by rw [hVeq]; rfl, by rw [hVeq]; exact hK.1.T.none, (E7.GT.trans hK.2).weak TM.none⟩)⟩
              · intro h7
                replace h7 := ndec_f h7
                have h7' : (wrC 10 ch si x.2.1).1 = 0 := by simpa using h7
                rw [if_pos h7'] at hTq
                have hmi' := hmi h7'
                refine W_skip (at_then ?_)
                refine W_region ?_
                refine op_fieldAddr rfl fo_116_1_TrBb rfl ?_
                refine op_ldb rfl ag_114_TrBb rfl H (by first | exact at0 | exact at1 | exact at2 | exact at3 | exact at4 | exact at5 | exact at6 | exact at7 | exact at8 | exact at9) rfl ?_
                refine op_ldbN rfl ag_120_TrBb sz_120_TrBb rfl H (by first | exact at0 | exact at1 | exact at2 | exact at3 | exact at4 | exact at5 | exact at6 | exact at7 | exact at8 | exact at9) rfl ?_
                refine op_build1 _ (.agg _) rfl el_114_TrBb sz_120_TrBb zc_120_TrBb rfl (by decide) (by decide) rfl rfl rfl H ?_
                rintro b83 w - H
                refine op_appendb (n := um.length) (L := [_, _, _, _, _, _]) rfl el_114_TrBb el_114_TrBb sz_120_TrBb by_120_TrBb zc_120_TrBb rfl (by decide) rfl rfl H VO rfl (Im.oneE mi) (by omega) ?_
                rintro a84 c84 f84 w H O84
                refine op_fieldAddr rfl fo_116_1_TrBb rfl ?_
                refine op_stb (.slice _ _ _) rfl sz_114_TrBb rfl rfl rfl H (by first | exact at0 | exact at1 | exact at2 | exact at3 | exact at4 | exact at5 | exact at6 | exact at7 | exact at8 | exact at9) (by first | decide | (simp; done) | (simp; omega)) ?_
                rintro w H
                refine op_nil (at_block (at_then ?_))
                refine W_region ?_
                refine op_add_i64 rfl rfl rfl (by omega) (by omega) ?_
                refine op_move rfl (.int _ _) rfl ?_
                refine op_nil (at_then ?_)
                have H8 := H.tail.tail
                obtain ⟨E7, g7⟩ := E6.own H8
                have hql : (um ++ [mi]).length = um.length + 1 := by simp
                have gg := (g5.trans g6).trans g7
                have htk6 := wrC_tk (fr := 10) (c := ch) (inner := si) (M := x.2.1)
                have hfin : ∀ Y, Y = Y1 b5 b6 b9 b10 bc si sa sk sc ⟨jj + 1, a84, c84, f84, um ++ [mi], (wrC 10 ch si x.2.1).2, F5, L5⟩ → Fr w0 (fun _ => False) (TM F ba bt bp []) w bt bd bp ba 10 bc (wrC 10 ch si x.2.1).2 F5 L5 Y → Nds w (MY (MZ (TM F5 ba bt bp L5) fun _ => False) Y) si an nn cn (fullN si sM) → (∀ m ∈ um ++ [mi], m.Ok w (MY (MZ (TM F5 ba bt bp L5) fun _ => False) Y)) → LInv w0 w (fun _ => False) (TM F ba bt bp []) bt bd bp ba 10 bc b5 b6 b9 b10 mx si sa sk sc an nn cn (fullN si sM) Tp sch ⟨jj + 1, a84, c84, f84, um ++ [mi], (wrC 10 ch si x.2.1).2, F5, L5⟩ := by
                  rintro Y rfl v1 v2 v3
                  refine ⟨v1, v2, ?_, v3, ?_, wrC_fewtk hf2, wrC_gn.trans V2.gn, by dsimp only; omega, by dsimp only; rw [hql, hum]⟩
                  · dsimp only
                    rw [hql, List.flatMap_append]
                    simpa using O84
                  · dsimp only
                    rw [hTq, List.map_append, ← hmi']; rfl
                refine ⟨⟨jj + 1, a84, c84, f84, um ++ [mi], (wrC 10 ch si x.2.1).2, F5, L5⟩, rfl, ⟨rfl, trivial⟩, ⟨by dsimp only; omega, hfin _ ?_ E7 (V2.N.turn gg) fun q hq => ?_⟩, by dsimp only; omega⟩
                · show (b10, Bl 116 [.bool true, .slice a84 (um.length + 1) c84]) :: _ = (b10, Bl 116 [.bool true, .slice a84 (um ++ [mi]).length c84]) :: _
                  rw [hql]; rfl
                · rcases List.mem_append.1 hq with hq | hq
                  · exact (V2.ms q hq).turn gg
                  · rw [List.mem_singleton.1 hq]
                    exact hmo.turn g7
            · intro h6
              replace h6 := dec_f h6
              rw [List.drop_of_length_le (by omega), putF] at hTq
              rw [hTq, if_neg (by simp)] at hVeq
              dsimp only at hVeq
              rw [List.length_map] at hVeq
              have hgn2 := V2.gn
              dsimp only at hgn2
              refine W_exit (exit_then (exit_then (exit_here (at_then ?_))))
              refine W_rseq ?_
              refine op_ldbN rfl ag_116_TrBb sz_116_TrBb rfl H (by first | exact at0 | exact at1 | exact at2 | exact at3 | exact at4 | exact at5 | exact at6 | exact at7 | exact at8 | exact at9) rfl ?_
              refine op_stb0 rfl sz_116_TrBb rfl rfl rfl (by first | exact encN_oneE _ _ _ _ | exact encP_one _ | exact Im.oneE _ | exact encN_one _ _ | simp [oneCell]) H (by first | exact at0 | exact at1 | exact at2 | exact at3 | exact at4 | exact at5 | exact at6 | exact at7 | exact at8 | exact at9) rfl ?_
              rintro w H
              refine op_nil (at_then ?_)
              refine W_rseq ?_
              refine op_fieldAddr rfl fo_116_1_TrBb rfl ?_
              refine op_ldb rfl ag_114_TrBb rfl H (by first | exact at0 | exact at1 | exact at2 | exact at3 | exact at4 | exact at5 | exact at6 | exact at7 | exact at8 | exact at9) rfl ?_
              refine op_len rfl el_114_TrBb rfl ?_
              refine op_eql rfl rfl rfl ?_
              refine op_nil (at_then ?_)
              refine W_cond _ rfl ?_ ?_
              · intro h8
                replace h8 := dec_t h8
                have h81 : um.length = 1 := by have h9 : (um.length : Int) = 1 := h8; omega
                rw [if_pos h81] at hVeq
                obtain ⟨q0, hq0⟩ := get_some (l := um) (i := 0) (by omega)
                have Rm : Rd w ua 3 Im.enc um := OS.rd VO (fun y hy => H.blk y (show y ∈ (b10, Bl 116 [.bool true, .slice ua um.length uc]) :: (Y0 b5 b6 b9 bc true ua um.length uc ++ ent ua 120 uf) from List.mem_cons_of_mem _ (List.mem_append_right _ hy))) (fun _ _ => rfl) (by decide)
                have hpg0 : pageAt (um.map (·.it)) 0 = q0.it.page := by unfold pageAt; rw [List.getElem?_map, hq0]; rfl
                refine W_rseq ?_
                refine op_fieldAddr rfl fo_116_1_TrBb rfl ?_
                first | refine op_ldb rfl ag_114_TrBb rfl H (by first | exact at0 | exact at1 | exact at2 | exact at3 | exact at4 | exact at5 | exact at6 | exact at7 | exact at8 | exact at9) rfl ?_ | refine op_ld rfl ag_114_TrBb rfl (Rm.fld hq0 rfl (j := 2) rfl) ?_
                first | refine op_indexRd R3 rfl el_114_TrBb sz_120_TrBb rfl rfl (by omega) (by omega) (by first | rfl | omega) ?_ | refine op_indexRd Rm rfl el_114_TrBb sz_120_TrBb rfl rfl (by omega) (by omega) (by first | rfl | omega) ?_ | refine op_indexAddr rfl el_114_TrBb sz_120_TrBb rfl rfl (by omega) (by omega) ?_
                refine op_fieldAddr rfl fo_120_2_TrBb rfl ?_
                first | refine op_ldb rfl ag_3 rfl H (by first | exact at0 | exact at1 | exact at2 | exact at3 | exact at4 | exact at5 | exact at6 | exact at7 | exact at8 | exact at9) rfl ?_ | refine op_ld rfl ag_3 rfl (Rm.fld hq0 rfl (j := 2) rfl) ?_
                refine op_assign rfl (.int _ _) rfl ?_
                refine op_stb (.int _ _) rfl sz_31_TrBb rfl rfl rfl H (by first | exact at0 | exact at1 | exact at2 | exact at3 | exact at4 | exact at5 | exact at6 | exact at7 | exact at8 | exact at9) (by first | decide | (simp; done) | (simp; omega)) ?_
                rintro w H
                refine op_nil (at_then ?_)
                refine W_ret (ret_block (ret_then (ret_block ?_)))
                obtain ⟨E7, -⟩ := VE.own H
                refine leaveD rfl ca_77_TrBb _ (build1_ok E7.X (H.get at1) (H.get at3) (by omega) (by rw [hgn2]; exact Nat.zero_le _)) (fun w7 hK tmps ht => ?_)
                exact ⟨_, res2c rfl ht rfl rfl ag_31_TrBb ((E7.O.call (hK.2.or _)).1.blk (b5, _) (List.mem_of_getElem? (i := 3) rfl)), .inr (.inr ⟨hgood, hne, cF, by rw [hVeq, hpg0]; rfl, by rw [hVeq]; exact hK.1.T.none, (E7.GT.trans hK.2).weak TM.none⟩)⟩
              · intro h8
                replace h8 := dec_f h8
                rw [if_neg (show ¬ um.length = 1 by have h9 : ¬ (um.length : Int) = 1 := h8; omega)] at hVeq
                refine W_skip (at_block (at_then ?_))
                obtain ⟨E7, g7⟩ := VE.own H
                obtain ⟨-, I7⟩ := Its.push (Y := (b10, Bl 116 [.bool true, .slice ua um.length uc]) :: Y0 b5 b6 b9 bc true ua um.length uc) E7.O VO fun q hq => (V2.ms q hq).turn g7
                have hsub : ∀ y ∈ Y0 b5 b6 b9 bc true ua um.length uc, y ∈ ((b10, Bl 116 [.bool true, .slice ua um.length uc]) :: Y0 b5 b6 b9 bc true ua um.length uc) ++ ent ua 120 uf := fun y hy => List.mem_append_left _ (List.mem_cons_of_mem _ hy)
                have E8 := E7.sub hsub (List.pairwise_cons.1 (List.pairwise_append.1 (show (((b10, Bl 116 [.bool true, .slice ua um.length uc]) :: Y0 b5 b6 b9 bc true ua um.length uc) ++ ent ua 120 uf).Pairwise _ from E7.O.nd)).1).2
                exact ⟨⟨m, true, ua, um.length, uc, um.map (·.it), ch, cF, cL⟩, rfl, trivial, ⟨E8, I7.weak (MY.sub fun y hy => List.mem_cons_of_mem _ hy), hVeq, hf2, hgn2, by dsimp only; omega⟩, by dsimp only; omega⟩

end Go.Proofs.YtbkadlngijkmmaaGreatDoor

/- Do pairs rise, how many nodes may there be: the document's answers, the walks. -/
namespace Go.Proofs.YtbkadlngijkmmaaGreatDoor
open Go.GV
theorem ca_19_TrBc : callable Tryz.prog 19 = true := by kernel_rfl
theorem ca_37_TrBc : callable Tryz.prog 37 = true := by kernel_rfl
theorem el_28_TrBc : elemT Tryz.prog 28 = some 70 := by kernel_rfl
theorem fo_70_0_TrBc : fieldO Tryz.prog 70 0 = some 0 := by kernel_rfl
theorem fo_70_1_TrBc : fieldO Tryz.prog 70 1 = some 1 := by kernel_rfl
theorem sz_70_TrBc : tsize Tryz.prog 70 = some 2 := by kernel_rfl
attribute [local irreducible] Wops W Wq Wt

set_option maxRecDepth 20000 in
set_option maxHeartbeats 4000000 in
theorem rise7_ok {w : World} {M : Mut} {a : Option Addr} {n c : Nat} {L : List Pr} (PL : Prs w M a n c L) (hn : n ≤ 100000000) :
    Ret Tryz.prog 34 #[.slice a n c] w fun v w' => Ext [] w w' ∧ ((v = .bool true ∧ ∀ i, i < L.length → GoodP L i) ∨ (v = .bool false ∧ ∃ i, i < L.length ∧ ¬ GoodP L i)) := by
  obtain ⟨w0, rfl⟩ : ∃ w0, w0 = w := ⟨_, rfl⟩
  obtain ⟨ps, Rp, -, hl, hp⟩ := PL.ex
  have hnL := PL.num
  have hpn : ps.length = n := by rw [hnL, ← hl, List.length_map]
  refine ret_of_W (fn := Tryz.f34) Tryz.func34 rfl [.slice a n c] rfl (by kernel_rfl) ?_
  refine W_rseq ?_
  refine op_assign rfl (.bool _) rfl ?_
  refine op_nil (at_then ?_)
  refine W_seq ?_
  refine W_rseq ?_
  refine op_assign rfl (.int _ _) rfl ?_
  refine op_nil (at_then ?_)
  refine W_block ?_
  refine W_loop 70368744177660 (α := Nat) (fun i => [(3, .int .i64 (i : Int))]) (fun i w' => i ≤ n ∧ Ext [] w0 w' ∧ ∀ k, k < i → GoodP L k) (fun i => n - i) 0 rfl ?_ ?_ ?_
  · exact ⟨rfl, trivial⟩
  · exact ⟨Nat.zero_le _, .refl _ _, fun k h => absurd h (Nat.not_lt_zero _)⟩
  · rintro i j w ⟨hi, hxw, hg⟩
    refine W_seq ?_
    refine W_rseq ?_
    refine op_move rfl (.int _ _) rfl ?_
    refine op_move rfl (.slice _ _ _) rfl ?_
    refine op_len rfl el_28_TrBc rfl ?_
    refine op_lss rfl rfl rfl ?_
    refine op_nil (at_then ?_)
    refine W_cond _ rfl ?_ ?_
    · intro h1
      replace h1 := dec_t h1
      obtain ⟨x, hx1⟩ := get_some (l := ps) (i := i) (by omega)
      have hxo := hp x (List.mem_of_getElem? hx1)
      have hxL : L[i]? = some (prI x.it) := by rw [← hl, List.getElem?_map, hx1]; rfl
      have hxd := hxw.trans (Ext.drew [] w)
      have H := Ctx.start w []
      have hbad : rightK x.it.key.length x.it.val.length = false → ¬ GoodP L i := fun h ⟨p, q1, q2, _⟩ => by
        rw [hxL] at q1
        cases q1
        have q3 : rightK x.it.key.length x.it.val.length = true := q2
        rw [h] at q3; cases q3
      have hrk : rightK x.it.key.length x.it.val.length = ((decide (1 ≤ x.it.key.length) && decide (x.it.key.length ≤ 32)) && decide (x.it.val.length ≤ 128)) := by unfold rightK; rw [Bool.and_assoc]
      have hgo : rightK x.it.key.length x.it.val.length = true → (∀ q, 0 < i → L[i - 1]? = some q → ltB q.1 x.it.key) → ∀ k, k < i + 1 → GoodP L k := fun h5 h6 k hk => by
        rcases Nat.lt_or_ge k i with h7 | h7
        · exact hg k h7
        · obtain rfl : k = i := by omega
          exact ⟨_, hxL, h5, h6⟩
      refine W_skip (at_then ?_)
      refine W_seq ?_
      refine W_block ?_
      refine W_qseq (fun x => x = _) mixed (by kernel_rfl) rfl ?_
      refine q_move rfl (.slice _ _ _) rfl ?_
      refine q_move rfl (.int _ _) rfl ?_
      first | refine q_indexRd Rp rfl el_28_TrBc sz_70_TrBc rfl rfl (by omega) (by omega) (by first | rfl | omega) ?_ | refine q_indexAddr rfl el_28_TrBc sz_70_TrBc rfl rfl (by omega) (by omega) ?_
      refine q_fieldAddr rfl fo_70_0_TrBc rfl ?_
      first | refine q_ldb rfl ag_23 rfl (by rintro _ rfl; exact H.drew) (by first | exact at0 | exact at1 | exact at2 | exact at3 | exact at4 | exact at5 | exact at6 | exact at7 | exact at8 | exact at9) rfl ?_ | refine q_ld rfl ag_23 rfl (by rintro _ rfl; exact ((Rp.ext0 hxd).fld hx1 rfl (j := 0) rfl)) ?_ | refine q_ld rfl ag_23 rfl (by rintro _ rfl; exact ((Rp.ext0 hxd).fld hx1 rfl (j := 1) rfl)) ?_ | refine q_ld rfl ag_23 rfl (by rintro _ rfl; exact ((Rp.ext0 hxd).fld hy rfl (j := 0) rfl)) ?_
      refine q_call rfl ca_19_TrBc (by rintro _ rfl; exact (mayKey_ok x.ka x.it.key.length x.kc _).mono (fun v w' h => ⟨h.1, h.2.symm⟩)) rfl ?_
      refine q_not rfl rfl ?_
      refine q_move rfl (.bool _) rfl ?_
      refine Wq_split 17 rfl ?_ ?_
      · intro h2
        replace h2 := nvar_t h2
        refine q_skip rfl ?_
        refine q_skip rfl ?_
        refine q_skip rfl ?_
        refine q_skip rfl ?_
        refine q_skip rfl ?_
        refine q_skip rfl ?_
        refine q_skip rfl ?_
        refine q_pick1 rfl rfl (.bool _) rfl ?_
        refine q_move rfl (.bool _) rfl ?_
        refine q_skip rfl ?_
        refine q_skip rfl ?_
        refine q_skip rfl ?_
        refine q_skip rfl ?_
        refine q_skip rfl ?_
        refine q_skip rfl ?_
        refine q_skip rfl ?_
        refine q_skip rfl ?_
        refine q_skip rfl ?_
        refine q_skip rfl ?_
        refine q_skip rfl ?_
        refine q_skip rfl ?_
        refine q_skip rfl ?_
        refine q_skip rfl ?_
        refine q_skip rfl ?_
        refine q_skip rfl ?_
        refine q_skip rfl ?_
        refine q_skip rfl ?_
        refine q_pick1 rfl rfl (.bool _) rfl ?_
        refine q_nil ?_
        rintro _ rfl
        replace H := H.drew
        refine W_cond1 rfl ?_
        refine W_rseq ?_
        refine op_assign rfl (.bool _) rfl ?_
        refine op_nil (at_then ?_)
        refine W_ret (ret_block (ret_then (ret_then (ret_block (ret_then (leave1 (v := (.bool _)) rfl rfl rfl ?_))))))
        exact ⟨hxd, .inr ⟨rfl, i, by omega, hbad (by rw [hrk, show (decide (1 ≤ x.it.key.length) && decide (x.it.key.length ≤ 32)) = false by simpa using h2]; rfl)⟩⟩
      · intro h2
        replace h2 := nvar_f h2
        have h2' : (decide (1 ≤ x.it.key.length) && decide (x.it.key.length ≤ 32)) = true := by simpa using h2
        refine q_move rfl (.slice _ _ _) rfl ?_
        refine q_move rfl (.int _ _) rfl ?_
        first | refine q_indexRd Rp rfl el_28_TrBc sz_70_TrBc rfl rfl (by omega) (by omega) (by first | rfl | omega) ?_ | refine q_indexAddr rfl el_28_TrBc sz_70_TrBc rfl rfl (by omega) (by omega) ?_
        refine q_fieldAddr rfl fo_70_1_TrBc rfl ?_
        first | refine q_ldb rfl ag_23 rfl (by rintro _ rfl; exact H.drew) (by first | exact at0 | exact at1 | exact at2 | exact at3 | exact at4 | exact at5 | exact at6 | exact at7 | exact at8 | exact at9) rfl ?_ | refine q_ld rfl ag_23 rfl (by rintro _ rfl; exact ((Rp.ext0 hxd).fld hx1 rfl (j := 0) rfl)) ?_ | refine q_ld rfl ag_23 rfl (by rintro _ rfl; exact ((Rp.ext0 hxd).fld hx1 rfl (j := 1) rfl)) ?_ | refine q_ld rfl ag_23 rfl (by rintro _ rfl; exact ((Rp.ext0 hxd).fld hy rfl (j := 0) rfl)) ?_
        refine q_call rfl ca_37_TrBc (by rintro _ rfl; exact (mayVal_ok x.va x.it.val.length x.vc _).mono (fun v w' h => ⟨h.1, h.2.symm⟩)) rfl ?_
        refine q_not rfl rfl ?_
        refine q_pick0 rfl rfl (.bool _) rfl ?_
        refine q_move rfl (.bool _) rfl ?_
        refine Wq_split 26 rfl ?_ ?_
        · intro h3
          replace h3 := nvar_t h3
          refine q_skip rfl ?_
          refine q_skip rfl ?_
          refine q_skip rfl ?_
          refine q_skip rfl ?_
          refine q_skip rfl ?_
          refine q_skip rfl ?_
          refine q_skip rfl ?_
          refine q_skip rfl ?_
          refine q_skip rfl ?_
          refine q_skip rfl ?_
          refine q_skip rfl ?_
          refine q_skip rfl ?_
          refine q_skip rfl ?_
          refine q_skip rfl ?_
          refine q_skip rfl ?_
          refine q_skip rfl ?_
          refine q_skip rfl ?_
          refine q_skip rfl ?_
          refine q_pick1 rfl rfl (.bool _) rfl ?_
          refine q_nil ?_
          rintro _ rfl
          replace H := H.drew
          refine W_cond1 rfl ?_
          refine W_rseq ?_
          refine op_assign rfl (.bool _) rfl ?_
          refine op_nil (at_then ?_)
          refine W_ret (ret_block (ret_then (ret_then (ret_block (ret_then (leave1 (v := (.bool _)) rfl rfl rfl ?_))))))
          exact ⟨hxd, .inr ⟨rfl, i, by omega, hbad (by rw [hrk, h2', show decide (x.it.val.length ≤ 128) = false by simpa using h3]; rfl)⟩⟩
        · intro h3
          replace h3 := nvar_f h3
          have h3' : rightK x.it.key.length x.it.val.length = true := by rw [hrk, h2', show decide (x.it.val.length ≤ 128) = true by simpa using h3]; rfl
          refine q_move rfl (.int _ _) rfl ?_
          refine q_gtr rfl rfl rfl ?_
          refine q_move rfl (.bool _) rfl ?_
          refine Wq_split 29 rfl ?_ ?_
          · intro h4
            replace h4 := dec_t h4
            refine q_move rfl (.slice _ _ _) rfl ?_
            refine q_move rfl (.int _ _) rfl ?_
            obtain ⟨y, hy⟩ := get_some (l := ps) (i := i - 1) (by omega)
            have hyo := hp y (List.mem_of_getElem? hy)
            have hyL : L[i - 1]? = some (prI y.it) := (by rw [← hl, List.getElem?_map, hy]; rfl)
            refine q_sub_i64 rfl rfl rfl (by omega) (by omega) ?_
            rw [show (i : Int) - 1 = ((i - 1 : Nat) : Int) by omega]
            first | refine q_indexRd Rp rfl el_28_TrBc sz_70_TrBc rfl rfl (by omega) (by omega) (by first | rfl | omega) ?_ | refine q_indexAddr rfl el_28_TrBc sz_70_TrBc rfl rfl (by omega) (by omega) ?_
            refine q_fieldAddr rfl fo_70_0_TrBc rfl ?_
            first | refine q_ldb rfl ag_23 rfl (by rintro _ rfl; exact H.drew) (by first | exact at0 | exact at1 | exact at2 | exact at3 | exact at4 | exact at5 | exact at6 | exact at7 | exact at8 | exact at9) rfl ?_ | refine q_ld rfl ag_23 rfl (by rintro _ rfl; exact ((Rp.ext0 hxd).fld hx1 rfl (j := 0) rfl)) ?_ | refine q_ld rfl ag_23 rfl (by rintro _ rfl; exact ((Rp.ext0 hxd).fld hx1 rfl (j := 1) rfl)) ?_ | refine q_ld rfl ag_23 rfl (by rintro _ rfl; exact ((Rp.ext0 hxd).fld hy rfl (j := 0) rfl)) ?_
            refine q_back (l := y.it.key) rfl el_23 un_5 un_9 rfl (by rintro _ rfl; exact hyo.k.1.ext0 hxd) ?_
            refine q_move rfl (.slice _ _ _) rfl ?_
            refine q_move rfl (.int _ _) rfl ?_
            first | refine q_indexRd Rp rfl el_28_TrBc sz_70_TrBc rfl rfl (by omega) (by omega) (by first | rfl | omega) ?_ | refine q_indexAddr rfl el_28_TrBc sz_70_TrBc rfl rfl (by omega) (by omega) ?_
            refine q_fieldAddr rfl fo_70_0_TrBc rfl ?_
            first | refine q_ldb rfl ag_23 rfl (by rintro _ rfl; exact H.drew) (by first | exact at0 | exact at1 | exact at2 | exact at3 | exact at4 | exact at5 | exact at6 | exact at7 | exact at8 | exact at9) rfl ?_ | refine q_ld rfl ag_23 rfl (by rintro _ rfl; exact ((Rp.ext0 hxd).fld hx1 rfl (j := 0) rfl)) ?_ | refine q_ld rfl ag_23 rfl (by rintro _ rfl; exact ((Rp.ext0 hxd).fld hx1 rfl (j := 1) rfl)) ?_ | refine q_ld rfl ag_23 rfl (by rintro _ rfl; exact ((Rp.ext0 hxd).fld hy rfl (j := 0) rfl)) ?_
            refine q_back (l := x.it.key) rfl el_23 un_5 un_9 rfl (by rintro _ rfl; exact hxo.k.1.ext0 hxd) ?_
            refine q_strge rfl rfl rfl ?_
            refine q_pick1 rfl rfl (.bool _) rfl ?_
            refine q_pick0 rfl rfl (.bool _) rfl ?_
            refine q_nil ?_
            rintro _ rfl
            replace H := H.drew
            refine W_cond _ rfl ?_ ?_
            · intro h5
              have h5a : (!decide (ltB y.it.key x.it.key)) = true := h5
              have h5' : ¬ ltB y.it.key x.it.key := fun h => by rw [decide_eq_true h] at h5a; cases h5a
              refine W_rseq ?_
              refine op_assign rfl (.bool _) rfl ?_
              refine op_nil (at_then ?_)
              refine W_ret (ret_block (ret_then (ret_then (ret_block (ret_then (leave1 (v := (.bool _)) rfl rfl rfl ?_))))))
              refine ⟨hxd, .inr ⟨rfl, i, by omega, fun ⟨p, q1, _, q3⟩ => ?_⟩⟩
              rw [hxL] at q1
              cases q1
              exact h5' (q3 _ (by omega) hyL)
            · intro h5
              have h5a : (!decide (ltB y.it.key x.it.key)) = false := h5
              have h5' : ltB y.it.key x.it.key := Decidable.byContradiction fun h => by rw [decide_eq_false h] at h5a; cases h5a
              refine W_skip (at_block (at_then ?_))
              refine W_region ?_
              refine op_move rfl (.int _ _) rfl ?_
              refine op_add_i64 rfl rfl rfl (by omega) (by omega) ?_
              refine op_assign rfl (.int _ _) rfl ?_
              refine op_nil (at_then ?_)
              exact ⟨i + 1, rfl, ⟨rfl, trivial⟩, ⟨by omega, hxd, hgo h3' fun q _ hq => by rw [hyL] at hq; cases hq; exact h5'⟩, by omega⟩
          · intro h4
            replace h4 := dec_f h4
            refine q_skip rfl ?_
            refine q_skip rfl ?_
            refine q_skip rfl ?_
            refine q_skip rfl ?_
            refine q_skip rfl ?_
            refine q_skip rfl ?_
            refine q_skip rfl ?_
            refine q_skip rfl ?_
            refine q_skip rfl ?_
            refine q_skip rfl ?_
            refine q_skip rfl ?_
            refine q_skip rfl ?_
            refine q_skip rfl ?_
            refine q_skip rfl ?_
            refine q_pick0 rfl rfl (.bool _) rfl ?_
            refine q_pick0 rfl rfl (.bool _) rfl ?_
            refine q_nil ?_
            rintro _ rfl
            replace H := H.drew
            refine W_cond0 rfl ?_
            refine W_skip (at_block (at_then ?_))
            refine W_region ?_
            refine op_move rfl (.int _ _) rfl ?_
            refine op_add_i64 rfl rfl rfl (by omega) (by omega) ?_
            refine op_assign rfl (.int _ _) rfl ?_
            refine op_nil (at_then ?_)
            exact ⟨i + 1, rfl, ⟨rfl, trivial⟩, ⟨by omega, hxd, hgo h3' fun q h0 _ => absurd h0 (by omega)⟩, by omega⟩
    · intro h1
      replace h1 := dec_f h1
      refine W_exit (exit_then (exit_then (exit_here (at_then ?_))))
      refine W_rseq ?_
      refine op_assign rfl (.bool _) rfl ?_
      refine op_nil (at_then ?_)
      refine W_ret (leave1 (v := (.bool _)) rfl rfl rfl ?_)
      exact ⟨hxw, .inl ⟨rfl, fun k hk => hg k (by omega)⟩⟩
theorem bytesP_snoc {L : List Pr} {i : Nat} {p : Pr} (h : L[i]? = some p) : bytesP (L.take (i + 1)) = bytesP (L.take i) + (4 + p.1.length + p.2.length) := by
  unfold bytesP
  rw [take_snoc h, List.map_append, List.sum_append]; simp
def mostL (L : List Pr) : Nat := if L = [] then 0 else mostG 1500 (2 * bytesP L / 503 + 1)

set_option maxRecDepth 20000 in
set_option maxHeartbeats 4000000 in
theorem most7_ok {w : World} {M : Mut} {a : Option Addr} {n c : Nat} {L : List Pr} (PL : Prs w M a n c L) (hn : n ≤ 1000) (hs : ∀ p ∈ L, p.1.length ≤ 200 ∧ p.2.length ≤ 500) (hb : 2 * bytesP L / 503 + 1 ≤ 1400) :
    Ret Tryz.prog 35 #[.slice a n c] w fun v w' => v = .int .i64 (mostL L : Int) ∧ Ext [] w w' := by
  obtain ⟨w0, rfl⟩ : ∃ w0, w0 = w := ⟨_, rfl⟩
  obtain ⟨ps, Rp, -, hl, hp⟩ := PL.ex
  have hnL := PL.num
  have hpn : ps.length = n := by rw [hnL, ← hl, List.length_map]
  refine ret_of_W (fn := Tryz.f35) Tryz.func35 rfl [.slice a n c] rfl (by kernel_rfl) ?_
  refine W_rseq ?_
  refine op_assign rfl (.int _ _) rfl ?_
  refine op_nil (at_then ?_)
  refine W_rseq ?_
  refine op_assign rfl (.int _ _) rfl ?_
  refine op_nil (at_then ?_)
  refine W_seq ?_
  refine W_rseq ?_
  refine op_assign rfl (.int _ _) rfl ?_
  refine op_nil (at_then ?_)
  refine W_block ?_
  refine W_loop 536870808 (α := Nat) (fun i => [(4, .int .i64 (i : Int)), (3, .int .i64 (bytesP (L.take i) : Int))]) (fun i w' => i ≤ n ∧ Ext [] w0 w' ∧ bytesP (L.take i) ≤ 704 * i) (fun i => n - i) 0 rfl ?_ ?_ ?_
  · exact ⟨rfl, rfl, trivial⟩
  · exact ⟨Nat.zero_le _, .refl _ _, Nat.le_refl _⟩
  · rintro i j w ⟨hi, hxw, hbi⟩
    refine W_seq ?_
    refine W_rseq ?_
    refine op_move rfl (.int _ _) rfl ?_
    refine op_move rfl (.slice _ _ _) rfl ?_
    refine op_len rfl el_28_TrBc rfl ?_
    refine op_lss rfl rfl rfl ?_
    refine op_nil (at_then ?_)
    refine W_cond _ rfl ?_ ?_
    · intro h1
      replace h1 := dec_t h1
      obtain ⟨x, hx1⟩ := get_some (l := ps) (i := i) (by omega)
      have hxL : L[i]? = some (prI x.it) := by rw [← hl, List.getElem?_map, hx1]; rfl
      have hxd := hxw.trans (Ext.drew [] w)
      have hsn := bytesP_snoc hxL
      obtain ⟨s1, s2⟩ := hs _ (List.mem_of_getElem? hxL)
      have s1 : x.it.key.length ≤ 200 := s1
      have s2 : x.it.val.length ≤ 500 := s2
      have hsn : bytesP (L.take (i + 1)) = bytesP (L.take i) + (4 + x.it.key.length + x.it.val.length) := hsn
      have H := Ctx.start w []
      refine W_skip (at_then ?_)
      refine W_seq ?_
      refine W_block ?_
      refine W_quiet (fun x => x = _) mixed (by kernel_rfl) rfl ?_
      refine q_move rfl (.int _ _) rfl ?_
      refine q_add_i64 rfl rfl rfl (by omega) (by omega) ?_
      refine q_move rfl (.slice _ _ _) rfl ?_
      refine q_move rfl (.int _ _) rfl ?_
      first | refine q_indexRd Rp rfl el_28_TrBc sz_70_TrBc rfl rfl (by omega) (by omega) (by first | rfl | omega) ?_ | refine q_indexAddr rfl el_28_TrBc sz_70_TrBc rfl rfl (by omega) (by omega) ?_
      refine q_fieldAddr rfl fo_70_0_TrBc rfl ?_
      first | refine q_ldb rfl ag_23 rfl (by rintro _ rfl; exact H.drew) (by first | exact at0 | exact at1 | exact at2 | exact at3 | exact at4 | exact at5 | exact at6 | exact at7 | exact at8 | exact at9) rfl ?_ | refine q_ld rfl ag_23 rfl (by rintro _ rfl; exact ((Rp.ext0 hxd).fld hx1 rfl (j := 0) rfl)) ?_ | refine q_ld rfl ag_23 rfl (by rintro _ rfl; exact ((Rp.ext0 hxd).fld hx1 rfl (j := 1) rfl)) ?_
      refine q_len rfl el_23 rfl ?_
      refine q_add_i64 rfl rfl rfl (by omega) (by omega) ?_
      refine q_move rfl (.slice _ _ _) rfl ?_
      refine q_move rfl (.int _ _) rfl ?_
      first | refine q_indexRd Rp rfl el_28_TrBc sz_70_TrBc rfl rfl (by omega) (by omega) (by first | rfl | omega) ?_ | refine q_indexAddr rfl el_28_TrBc sz_70_TrBc rfl rfl (by omega) (by omega) ?_
      refine q_fieldAddr rfl fo_70_1_TrBc rfl ?_
      first | refine q_ldb rfl ag_23 rfl (by rintro _ rfl; exact H.drew) (by first | exact at0 | exact at1 | exact at2 | exact at3 | exact at4 | exact at5 | exact at6 | exact at7 | exact at8 | exact at9) rfl ?_ | refine q_ld rfl ag_23 rfl (by rintro _ rfl; exact ((Rp.ext0 hxd).fld hx1 rfl (j := 0) rfl)) ?_ | refine q_ld rfl ag_23 rfl (by rintro _ rfl; exact ((Rp.ext0 hxd).fld hx1 rfl (j := 1) rfl)) ?_
      refine q_len rfl el_23 rfl ?_
      refine q_add_i64 rfl rfl rfl (by omega) (by omega) ?_
      refine q_assign rfl (.int _ _) rfl ?_
      refine q_nil ?_
      rintro _ rfl
      replace H := H.drew
      refine at_block (at_then ?_)
      refine W_region ?_
      refine op_move rfl (.int _ _) rfl ?_
      refine op_add_i64 rfl rfl rfl (by omega) (by omega) ?_
      refine op_assign rfl (.int _ _) rfl ?_
      refine op_nil (at_then ?_)
      exact ⟨i + 1, rfl, ⟨rfl, congrArg (Value.int .i64) (by rw [hsn]; omega), trivial⟩, ⟨by omega, hxd, by rw [hsn]; omega⟩, by omega⟩
    · intro h1
      replace h1 := dec_f h1
      rw [List.take_of_length_le (by omega)]
      refine W_exit (exit_then (exit_then (exit_here (at_then ?_))))
      refine W_seq ?_
      refine W_rseq ?_
      refine op_move rfl (.slice _ _ _) rfl ?_
      refine op_len rfl el_28_TrBc rfl ?_
      refine op_eql rfl rfl rfl ?_
      refine op_nil (at_then ?_)
      refine W_cond _ rfl ?_ ?_
      · intro h2
        replace h2 := dec_t h2
        have hL0 : L = [] := List.eq_nil_of_length_eq_zero (by omega)
        refine W_rseq ?_
        refine op_assign rfl (.int _ _) rfl ?_
        refine op_nil (at_then ?_)
        refine W_ret (ret_then (leave1 (v := (.int _ _)) rfl rfl rfl ?_))
        exact ⟨by unfold mostL; rw [if_pos hL0]; rfl, hxw⟩
      · intro h2
        replace h2 := dec_f h2
        have hL0 : L ≠ [] := fun e => h2 (by rw [hnL, e]; rfl)
        rw [List.take_of_length_le (by omega)] at hbi
        obtain ⟨lv0, hlv0⟩ : ∃ lv0, lv0 = 2 * bytesP L / 503 + 1 := ⟨_, rfl⟩
        rw [← hlv0] at hb
        refine W_skip (at_then ?_)
        refine W_rseq ?_
        refine op_move rfl (.int _ _) rfl ?_
        refine op_mul_i64 rfl rfl rfl (by omega) (by omega) ?_
        refine op_quo rfl rfl rfl (by omega) (by omega) (show _ ≤ (9223372036854775807 : Int) by omega) ?_
        refine op_add_i64 rfl rfl rfl (by omega) (by omega) ?_
        rw [show (2 : Int) * (bytesP L : Int) / 503 + 1 = ((2 * bytesP L / 503 + 1 : Nat) : Int) by omega]
        refine op_assign rfl (.int _ _) rfl ?_
        refine op_nil (at_then ?_)
        rw [← hlv0]
        refine W_rseq ?_
        refine op_move rfl (.int _ _) rfl ?_
        refine op_assign rfl (.int _ _) rfl ?_
        refine op_nil (at_then ?_)
        refine W_seq ?_
        refine W_block ?_
        obtain ⟨wb, rfl⟩ : ∃ z, z = w := ⟨_, rfl⟩
        have hmo := mostG_le (n := 1500) (m := lv0) (lv := lv0) (Nat.le_refl _)
        refine W_loop 140600049401952 (α := Nat × Nat × Nat) (fun s => [(5, .int .i64 (s.2.1 : Int)), (6, .int .i64 (s.2.2 : Int))]) (fun s w' => wb = w' ∧ s.2.1 ≤ s.1 ∧ s.2.1 ≤ 1400 ∧ s.2.2 + mostG s.1 s.2.1 = mostG 1500 lv0 + s.2.1) (fun s => s.1) (1500, lv0, lv0) rfl ?_ ?_ ?_
        · exact ⟨rfl, rfl, trivial⟩
        · exact ⟨rfl, by dsimp only; omega, hb, Nat.add_comm ..⟩
        · rintro ⟨m, lv, sm⟩ j w ⟨rfl, hm, hlv, hq⟩; dsimp only at hm hlv hq; dsimp only
          have hge := mostG_ge m lv
          refine W_seq ?_
          refine W_rseq ?_
          refine op_move rfl (.int _ _) rfl ?_
          refine op_gtr rfl rfl rfl ?_
          refine op_nil (at_then ?_)
          refine W_cond _ rfl ?_ ?_
          · intro h3
            replace h3 := dec_t h3
            obtain ⟨m', rfl⟩ : ∃ m', m = m' + 1 := ⟨m - 1, by omega⟩
            have hmg : mostG (m' + 1) lv = lv + mostG m' (2 * lv * 38 / 503 + 1) := by
              conv => lhs; unfold mostG
              rw [if_pos (show 1 < lv by omega)]
            have hge2 := mostG_ge m' (2 * lv * 38 / 503 + 1)
            refine W_skip (at_then ?_)
            refine W_block ?_
            refine W_rseq ?_
            refine op_move rfl (.int _ _) rfl ?_
            refine op_mul_i64 rfl rfl rfl (by omega) (by omega) ?_
            refine op_mul_i64 rfl rfl rfl (by omega) (by omega) ?_
            refine op_quo rfl rfl rfl (by omega) (by omega) (show _ ≤ (9223372036854775807 : Int) by omega) ?_
            refine op_add_i64 rfl rfl rfl (by omega) (by omega) ?_
            rw [show (2 : Int) * (lv : Int) * 38 / 503 + 1 = ((2 * lv * 38 / 503 + 1 : Nat) : Int) by omega]
            refine op_assign rfl (.int _ _) rfl ?_
            refine op_nil (at_then ?_)
            refine W_region ?_
            refine op_move rfl (.int _ _) rfl ?_
            refine op_move rfl (.int _ _) rfl ?_
            refine op_add_i64 rfl rfl rfl (by omega) (by omega) ?_
            refine op_assign rfl (.int _ _) rfl ?_
            refine op_nil (at_block (at_then ?_))
            exact ⟨(m', 2 * lv * 38 / 503 + 1, sm + (2 * lv * 38 / 503 + 1)), rfl, ⟨rfl, rfl, trivial⟩, ⟨rfl, by dsimp only; omega, by dsimp only; omega, by dsimp only; omega⟩, by dsimp only; omega⟩
          · intro h3
            replace h3 := dec_f h3
            have hend : mostG m lv = lv := by
              cases m with
              | zero => rfl
              | succ m => unfold mostG; rw [if_neg (by omega)]; rfl
            refine W_exit (exit_then (exit_then (exit_here (at_then ?_))))
            refine W_rseq ?_
            refine op_move rfl (.int _ _) rfl ?_
            refine op_assign rfl (.int _ _) rfl ?_
            refine op_nil (at_then ?_)
            refine W_ret (leave1 (v := (.int _ _)) rfl rfl rfl ?_)
            exact ⟨by unfold mostL; rw [if_neg hL0, ← hlv0]; congr 2; omega, hxw⟩

end Go.Proofs.YtbkadlngijkmmaaGreatDoor
