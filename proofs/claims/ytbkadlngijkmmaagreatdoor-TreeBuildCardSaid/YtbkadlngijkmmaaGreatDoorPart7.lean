/- Part 7 of the proof. -/
import Derived.Test.YtbkadlngijkmmaaGreatDoorPart6
import Derived.Test.YtbkadlngijkmmaaGreatDoorPart2
import Derived.Test.YtbkadlngijkmmaaGreatDoorPart4
import Derived.DefersIn
/- A change of a tree: what it takes, what it lets go; a node is written. -/
namespace Go.Proofs.YtbkadlngijkmmaaGreatDoor
open Go.GV
theorem ag_114_TrM : aggB Tryz.prog 114 = some false := by kernel_rfl
theorem ag_116_TrM : aggB Tryz.prog 116 = some true := by kernel_rfl
theorem ag_120_TrM : aggB Tryz.prog 120 = some true := by kernel_rfl
theorem ag_33_TrM : aggB Tryz.prog 33 = some false := by kernel_rfl
theorem ag_34_TrM : aggB Tryz.prog 34 = some false := by kernel_rfl
theorem by_3_TrM : tbytes Tryz.prog 3 = some 8 := by kernel_rfl
theorem ca_139_TrM : callable Tryz.prog 139 = true := by kernel_rfl
theorem ca_140_TrM : callable Tryz.prog 140 = true := by kernel_rfl
theorem ca_141_TrM : callable Tryz.prog 141 = true := by kernel_rfl
theorem el_114_TrM : elemT Tryz.prog 114 = some 120 := by kernel_rfl
theorem fo_116_1_TrM : fieldO Tryz.prog 116 1 = some 1 := by kernel_rfl
theorem fo_120_0_TrM : fieldO Tryz.prog 120 0 = some 0 := by kernel_rfl
theorem fo_135_0_TrM : fieldO Tryz.prog 135 0 = some 0 := by kernel_rfl
theorem fo_135_1_TrM : fieldO Tryz.prog 135 1 = some 1 := by kernel_rfl
theorem fo_146_0_TrM : fieldO Tryz.prog 146 0 = some 0 := by kernel_rfl
theorem fo_146_1_TrM : fieldO Tryz.prog 146 1 = some 1 := by kernel_rfl
theorem fo_146_2_TrM : fieldO Tryz.prog 146 2 = some 2 := by kernel_rfl
theorem pl_120_TrM : placesB Tryz.prog 120 = some [(0, 1), (1, 1), (2, 1)] := by kernel_rfl
theorem sz_116_TrM : tsize Tryz.prog 116 = some 2 := by kernel_rfl
theorem sz_120_TrM : tsize Tryz.prog 120 = some 3 := by kernel_rfl
theorem zc_120_TrM : zcells Tryz.prog 120 = some ([.slice none 0 0, .slice none 0 0, .int .i64 0]) := by kernel_rfl
theorem zc_3_TrM : zcells Tryz.prog 3 = some ([.int .i64 0]) := by kernel_rfl
attribute [local irreducible] Wops W Wq Wt

theorem Grown.trans {F F' F'' : Mut} {w w' w'' : World} (h1 : Grown F F' w w') (h2 : Grown F' F'' w' w'') : Grown F F'' w w'' := by
  obtain ⟨⟨S1, hS1, hx1⟩, g1⟩ := h1
  obtain ⟨⟨S2, hS2, hx2⟩, g2⟩ := h2
  have hs := hx1.size
  refine ⟨⟨S1 ++ S2.filter (fun x => decide (x < w.heap.size)), fun x hx => ?_, (hx1.mono fun x h => List.mem_append_left _ h).then hx2 fun x h => ?_⟩, fun x h => ?_⟩
  · rcases List.mem_append.1 hx with h | h
    · exact hS1 x h
    · have h5 := List.mem_filter.1 h
      have h6 : x < w.heap.size := by simpa using h5.2
      exact (g1 x (hS2 x h5.1)).elim id fun h7 => by omega
  · by_cases h6 : x < w.heap.size
    · exact .inl (List.mem_append_right _ (List.mem_filter.2 ⟨h, decide_eq_true h6⟩))
    · exact .inr (by omega)
  · rcases g2 x h with h | h
    · exact g1 x h
    · exact .inr (by omega)
/-- Blocks of one's own, beside what is M's. -/
structure Fo (w : World) (M : Mut) (Y : List (Nat × Obj)) : Prop where
  blk : ∀ y ∈ Y, w.heap[y.1]? = some y.2
  nd : Y.Pairwise fun x y => x.1 ≠ y.1
  off : ∀ y ∈ Y, ¬ M y.1
def MY (M : Mut) (Y : List (Nat × Obj)) : Mut := fun x => M x ∨ x ∈ Y.map (·.1)
section
variable {w w' : World} {M M' : Mut} {Y Y' : List (Nat × Obj)}
theorem Fo.nil : Fo w M [] := ⟨(fun y h => by cases h), List.Pairwise.nil, (fun y h => by cases h)⟩
theorem Fo.call (h : Fo w M Y) (t : Grown M M' w w') : Fo w' M' Y ∧ Grown (MY M Y) (MY M' Y) w w' := by
  obtain ⟨⟨S, hS, hx⟩, g⟩ := t
  refine ⟨⟨fun y hy => ?_, h.nd, fun y hy h5 => ?_⟩, ⟨⟨S, fun x hx => .inl (hS x hx), hx⟩, fun x h5 => ?_⟩⟩
  · rw [hx.block y.1 (heap_lt (h.blk y hy)) fun h5 => h.off y hy (hS _ h5)]; exact h.blk y hy
  · rcases g _ h5 with h6 | h6
    · exact h.off y hy h6
    · have := heap_lt (h.blk y hy); omega
  · rcases h5 with h5 | h5
    · exact (g x h5).imp .inl id
    · exact .inl (.inr h5)
theorem Fo.ctx (h : Fo w M Y) : Ctx w (Y.map (·.1)) w Y := Ctx.startL h.blk h.nd
theorem Fo.own (h : Fo w M Y) (hlt : ∀ x, M x → x < w.heap.size) (H : Ctx w (Y.map (·.1)) w' Y') : Fo w' M Y' ∧ Grown (MY M Y) (MY M Y') w w' := by
  refine ⟨⟨H.blk, H.nd, fun y hy h5 => ?_⟩, ⟨⟨Y.map (·.1), fun x hx => .inr hx, H.ext⟩, fun x h5 => ?_⟩⟩
  · rcases H.own y hy with h6 | h6
    · obtain ⟨z, hz, he⟩ := List.mem_map.1 h6
      exact h.off z hz (by rw [he]; exact h5)
    · have := hlt _ h5; omega
  · rcases h5 with h5 | h5
    · exact .inl (.inl h5)
    · obtain ⟨y, hy, rfl⟩ := List.mem_map.1 h5
      exact (H.own y hy).imp .inr id
theorem Fo.weak (h : Fo w M Y) (hM : ∀ x, M' x → M x) : Fo w M' Y := ⟨h.blk, h.nd, fun y hy h5 => h.off y hy (hM _ h5)⟩
/-- What may turn, and what one's caller may turn. -/
def MZ (M Z : Mut) : Mut := fun x => M x ∨ Z x
theorem Grown.or (t : Grown M M' w w') (Z : Mut) : Grown (MZ M Z) (MZ M' Z) w w' := by
  obtain ⟨⟨S, hS, hx⟩, g⟩ := t
  exact ⟨⟨S, fun x h => .inl (hS x h), hx⟩, fun x h => h.elim (fun h => (g x h).imp .inl id) fun h => .inl (.inr h)⟩
end
def pv (k : Nat) : Value := .int .i64 (k : Int)
def TC : Nat := 135
/-- A change that goes on. -/
structure Ch where
  A : Dev
  P : List Nat
  tk : List Nat
  gn : List Nat
abbrev CL (bt bc : Nat) (ta : Option Addr) (tn tc : Nat) (tf : List Value) (ga : Option Addr) (gn gc : Nat) (gf : List Value) : List (Nat × Obj) :=
  (bc, Bl TC [ptr bt, .slice ta tn tc, .slice ga gn gc]) :: (ent ta 3 tf ++ ent ga 3 gf)
structure Cx (w : World) (bt bd bp ba fr bc : Nat) (c : Ch) (F : Mut) (L : List (Nat × Obj)) : Prop where
  T : Tx w bt bd bp ba fr c.A c.P F L
  ex : ∃ ta tc tf ga gc gf, L = CL bt bc ta c.tk.length tc tf ga c.gn.length gc gf ∧ OS ta c.tk.length tc 1 tf (c.tk.map pv) ∧ OS ga c.gn.length gc 1 gf (c.gn.map pv)

def takeE7 (P : List Nat) : Int := if takeI P = P.length then 7 else 0
def takeK (P : List Nat) : Nat := if takeI P = P.length then 0 else takeI P
def takeP' (P : List Nat) : List Nat := if takeI P = P.length then P else P.set (takeI P) 2
theorem takeK_le (P : List Nat) : takeK P ≤ P.length := by
  have := (List.takeWhile_prefix (l := P) (fun s => decide (s ≠ 0))).length_le
  unfold takeK takeI; split <;> omega
theorem ptake2_ok {w : World} {bp ba : Nat} {P : List Nat} (h : PgAt w bp ba P) : Ret Tryz.prog 139 #[ptr bp] w fun v w' => v = .tuple #[.int .i64 (takeK P : Int), .int .i64 (takeE7 P)] ∧ PgAt w' bp ba (takeP' P) ∧ Ext [ba] w w' :=
  (ptake_ok h).mono fun v w' hh => by
    rcases hh with ⟨h1, hv, hp, hx⟩ | ⟨h1, hv, rfl⟩
    · have hn : ¬ takeI P = P.length := by omega
      rw [takeK, takeE7, takeP', if_neg hn, if_neg hn, if_neg hn]
      exact ⟨hv, hp, hx⟩
    · rw [takeK, takeE7, takeP', if_pos h1, if_pos h1, if_pos h1]
      exact ⟨hv, h, .refl _ _⟩

theorem seal_post {k : UInt8} {l : Byt} {w w' : World} {v : Value} (h : SealPost k l w v w') : ∃ a m c, v = .tuple #[.slice a (List.length m) c, .int .i64 (sealE k l)] ∧ Ext [] w w' ∧ Rdx w' (Old w) a m ∧ m.length ≤ c ∧ (sealE k l = 0 → m = sealB k l) := by
  rcases h with ⟨h0, rfl, hx⟩ | ⟨h0, s, rfl, B⟩
  · exact ⟨none, [], 0, rfl, hx, Rdx.nil, Nat.le_refl _, fun h => absurd h h0⟩
  · obtain ⟨a, c, rfl, R, hc, hn⟩ := B.ex
    exact ⟨a, _, c, by rw [h0], B.ext, Rdx.fresh R (.inr hn), hc, fun _ => rfl⟩
theorem Rd.turnM {w w' : World} {M M' : Mut} {α : Type} {a : Option Addr} {s : Nat} {enc : α → List Value} {l : List α} (R : Rd w a s enc l) (hs : l = [] ∨ ¬ M (adr a).block) (h0 : 0 < s) (he : ∀ x ∈ l, (enc x).length = s) (t : Grown M M' w w') : Rd w' a s enc l ∧ (l = [] ∨ ¬ M' (adr a).block) := by
  rcases hs with rfl | hs
  · exact ⟨Rd.nil, .inl rfl⟩
  · obtain ⟨⟨S, hS, hx⟩, g⟩ := t
    refine ⟨R.ext hx fun h => hs (hS _ h), ?_⟩
    rcases rd_ltN R h0 he with h | h
    · exact .inl h
    · exact .inr fun h5 => (g _ h5).elim hs fun h6 => by omega
def nodeB (inner : Bool) (L : List It) : Byt := sealB (kindI inner L) (bodyI inner L)
def nodeE (inner : Bool) (L : List It) : Int := sealE (kindI inner L) (bodyI inner L)
def keyOf0 (L : List It) : Byt := (L[0]?.map (·.key)).getD []
/-- A node is written: the error, the change behind it, the page. -/
def wrC (fr : Nat) (c : Ch) (inner : Bool) (L : List It) : Int × Ch :=
  if takeE7 c.P ≠ 0 then (takeE7 c.P, c)
  else if nodeE inner L ≠ 0 then (nodeE inner L, { c with P := takeP' c.P, tk := c.tk ++ [takeK c.P] })
  else (writeE c.A (((fr + takeK c.P : Nat)) : Int) (nodeB inner L), ⟨writeD c.A (((fr + takeK c.P : Nat)) : Int) (nodeB inner L), takeP' c.P, c.tk ++ [takeK c.P], c.gn⟩)

set_option maxRecDepth 20000 in
set_option maxHeartbeats 8000000 in
theorem write7_ok {w : World} {bt bd bp ba fr bc : Nat} {c : Ch} {F : Mut} {L : List (Nat × Obj)} (X : Cx w bt bd bp ba fr bc c F L) (hfr : fr ≤ 5000) (htk : c.tk.length ≤ 100000) (inner : Bool) {a : Option Addr} {n cc : Nat} {M : List It} (Z : Mut) (I : Its w (MZ (TM F ba bt bp L) Z) a n cc M) (hne : M ≠ []) (hm : n ≤ 1000)
    (hsz : ∀ x ∈ M, x.key.length ≤ 65535 ∧ x.val.length ≤ 65535) (hpg : ∀ x ∈ M, x.page < 9223372036854775808) {mx : Nat} (hfew : Few c.A mx) (hmx : mx ≤ 1000000000) :
    Ret Tryz.prog 80 #[ptr bc, .agg #[.bool inner, .slice a n cc]] w fun v w' => ∃ (m : Im) (F' : Mut) (L' : List (Nat × Obj)), v = .tuple #[.agg m.enc.toArray, .int .i64 (wrC fr c inner M).1] ∧ Cx w' bt bd bp ba fr bc (wrC fr c inner M).2 F' L' ∧ Grown (TM F ba bt bp L) (TM F' ba bt bp L') w w' ∧ m.Ok w' (MZ (TM F' ba bt bp L') Z) ∧ m.it.page ≤ 4096 ∧ ((wrC fr c inner M).1 = 0 → m.it = ⟨keyOf0 M, [], takeK c.P⟩) := by
  obtain ⟨w0, rfl⟩ : ∃ w0, w0 = w := ⟨_, rfl⟩
  obtain ⟨T, ta, tc, tf, ga, gc, gf, rfl, Ot, Og⟩ := X
  obtain ⟨wr, hwr⟩ : ∃ wr, wr = wrC fr c inner M := ⟨_, rfl⟩
  rw [← hwr]
  unfold wrC at hwr
  have hkl := takeK_le c.P
  have hpl := T.pg.len
  have H := T.ctx
  refine ret_of_W (fn := Tryz.f80) Tryz.func80 rfl [.pointer (some ⟨bc, 0, none⟩), .agg #[.bool inner, .slice a n cc]] rfl (by kernel_rfl) ?_
  refine W_rseq ?_
  refine op_box rfl [.bool inner, .slice a n cc] (.agg _) rfl rfl H ?_
  rintro b3 w - H
  refine op_alloc rfl zc_120_TrM H ?_
  rintro b4 w - H
  refine op_assign rfl (.int _ _) rfl ?_
  refine op_nil (at_then ?_)
  refine W_rseq ?_
  refine op_move rfl (.pointer _) rfl ?_
  refine op_nilCheck rfl rfl ?_
  refine op_fieldAddr rfl fo_135_0_TrM rfl ?_
  first | refine op_ldb rfl ag_34_TrM rfl H (by first | exact at0 | exact at1 | exact at2 | exact at3 | exact at4 | exact at5 | exact at6 | exact at7 | exact at8 | exact at9) rfl ?_ | refine op_ld rfl ag_34_TrM rfl (cell_bl (T.own H).1.tr (0 + 1)) ?_
  refine op_nilCheck rfl rfl ?_
  refine op_fieldAddr rfl fo_146_1_TrM rfl ?_
  first | refine op_ldb rfl ag_33_TrM rfl H (by first | exact at0 | exact at1 | exact at2 | exact at3 | exact at4 | exact at5 | exact at6 | exact at7 | exact at8 | exact at9) rfl ?_ | refine op_ld rfl ag_33_TrM rfl (cell_bl (T.own H).1.tr (0 + 1)) ?_
  obtain ⟨T1, G1⟩ := T.own H
  refine op_call rfl ca_139_TrM (ptake2_ok T1.pg) rfl ?_
  rintro v w2 ⟨rfl, hp2, hx2⟩
  obtain ⟨T2, G2⟩ := T1.page hp2 hx2
  have G12 := G1.trans G2
  replace H := T2.ctx
  refine op_move rfl (.tuple _) rfl ?_
  refine op_extract rfl rfl rfl ?_
  refine op_extract rfl rfl rfl ?_
  refine op_assign rfl (.int _ _) rfl ?_
  refine op_assign rfl (.int _ _) rfl ?_
  refine op_nil (at_then ?_)
  refine W_seq ?_
  refine W_rseq ?_
  refine op_move rfl (.int _ _) rfl ?_
  refine op_neq rfl rfl rfl ?_
  refine op_nil (at_then ?_)
  refine W_cond _ rfl ?_ ?_
  · intro h1
    replace h1 := ndec_t h1
    rw [if_pos h1] at hwr
    have hPP : takeP' c.P = c.P := by unfold takeP' takeE7 at *; split <;> simp_all
    refine W_rseq ?_
    refine op_buildS [.slice none 0 0, .slice none 0 0, .int .i64 0] rfl pl_120_TrM zc_120_TrM (by kernel_rfl) ?_
    refine op_move rfl (.int _ _) rfl ?_
    refine op_stb0 rfl sz_120_TrM rfl rfl rfl (by simp [oneCell]) H (by first | exact at0 | exact at1 | exact at2 | exact at3 | exact at4 | exact at5 | exact at6 | exact at7 | exact at8 | exact at9) rfl ?_
    rintro w H
    refine op_assign rfl (.int _ _) rfl ?_
    refine op_nil (at_then ?_)
    refine W_ret (ret_then (leave2b rfl rfl rfl ag_120_TrM sz_120_TrM H (by first | exact at0 | exact at1 | exact at2 | exact at3 | exact at4 | exact at5 | exact at6 | exact at7 | exact at8 | exact at9) rfl (show _ = (.int _ _) from rfl) ?_))
    obtain ⟨T3, G3⟩ := T2.own H.tail.tail
    rw [hPP] at T3
    exact ⟨⟨none, 0, none, 0, ⟨[], [], 0⟩⟩, F, _, by rw [hwr]; rfl, by rw [hwr]; exact ⟨T3, ta, tc, tf, ga, gc, gf, rfl, Ot, Og⟩, G12.trans G3, ⟨Rdx.nil, Rdx.nil, Nat.le_refl _, Nat.le_refl _⟩, Nat.zero_le _, fun h => absurd (by rw [hwr] at h; exact h) h1⟩
  · intro h1
    replace h1 := ndec_f h1
    rw [if_neg (by simpa using h1)] at hwr
    have hl1 : (c.tk ++ [takeK c.P]).length = c.tk.length + 1 := by simp
    refine W_skip (at_then ?_)
    refine W_rseq ?_
    refine op_move rfl (.pointer _) rfl ?_
    refine op_move rfl (.pointer _) rfl ?_
    refine op_nilCheck rfl rfl ?_
    refine op_fieldAddr rfl fo_135_1_TrM rfl ?_
    first | refine op_ldb rfl ag_57 rfl H (by first | exact at0 | exact at1 | exact at2 | exact at3 | exact at4 | exact at5 | exact at6 | exact at7 | exact at8 | exact at9) rfl ?_ | refine op_ld rfl ag_57 rfl (cell_bl (T.own H).1.tr (0 + 1)) ?_
    refine op_move rfl (.int _ _) rfl ?_
    refine op_build1 _ (.int _ _) rfl el_57 sz_3 zc_3_TrM rfl (by decide) (by decide) rfl rfl rfl H ?_
    rintro b30 w - H
    replace H := H.perm ((((List.perm_append_comm.cons _).cons _).cons _).cons _)
    refine op_appendb (L := _ :: _ :: _ :: ent ga 3 gf) rfl el_57 el_57 sz_3 by_3_TrM zc_3_TrM rfl (by decide) rfl rfl H Ot rfl (by simp [oneCell]) (by omega) ?_
    rintro a31 c31 f31 w H O31
    refine op_nilCheck rfl rfl ?_
    refine op_fieldAddr rfl fo_135_1_TrM rfl ?_
    refine op_stb (.slice _ _ _) rfl sz_57 rfl rfl rfl H (by first | exact at0 | exact at1 | exact at2 | exact at3 | exact at4 | exact at5 | exact at6 | exact at7 | exact at8 | exact at9) (by first | decide | (simp; done) | (simp; omega)) ?_
    rintro w H
    refine op_nil (at_then ?_)
    refine W_rseq ?_
    refine op_ldbN rfl ag_116_TrM sz_116_TrM rfl H (by first | exact at0 | exact at1 | exact at2 | exact at3 | exact at4 | exact at5 | exact at6 | exact at7 | exact at8 | exact at9) rfl ?_
    obtain ⟨T3, G3⟩ := T2.own H
    have G13 := G12.trans G3
    have hFlt := T3.lt
    have I3 := (I.weak fun _ h => Or.inl h).turn G13
    refine op_call rfl ca_140_TrM (bytes_ok inner I3 hm hsz hpg) rfl ?_
    rintro v w4 SP
    obtain ⟨sa, sm, sc, rfl, hx36, Xm, hmc, hmm⟩ := seal_post SP
    have T4 := T3.call hx36
    have G14 := G13.trans (.call0 hx36)
    replace H := T4.ctx
    refine op_move rfl (.tuple _) rfl ?_
    refine op_extract rfl rfl rfl ?_
    refine op_extract rfl rfl rfl ?_
    refine op_assign rfl (.slice _ _ _) rfl ?_
    refine op_assign rfl (.int _ _) rfl ?_
    refine op_nil (at_then ?_)
    refine W_seq ?_
    refine W_rseq ?_
    refine op_move rfl (.int _ _) rfl ?_
    refine op_neq rfl rfl rfl ?_
    refine op_nil (at_then ?_)
    refine W_cond _ rfl ?_ ?_
    · intro h2
      replace h2 := ndec_t h2
      have h2' : nodeE inner M ≠ 0 := h2
      rw [if_pos h2'] at hwr
      have hO : OS a31 (c.tk ++ [takeK c.P]).length c31 1 f31 ((c.tk ++ [takeK c.P]).map pv) := by
        rw [hl1, List.map_append]; exact O31
      refine W_rseq ?_
      refine op_buildS [.slice none 0 0, .slice none 0 0, .int .i64 0] rfl pl_120_TrM zc_120_TrM (by kernel_rfl) ?_
      refine op_move rfl (.int _ _) rfl ?_
      refine op_stb0 rfl sz_120_TrM rfl rfl rfl (by simp [oneCell]) H (by first | exact at0 | exact at1 | exact at2 | exact at3 | exact at4 | exact at5 | exact at6 | exact at7 | exact at8 | exact at9) rfl ?_
      rintro w H
      refine op_assign rfl (.int _ _) rfl ?_
      refine op_nil (at_then ?_)
      refine W_ret (ret_then (leave2b rfl rfl rfl ag_120_TrM sz_120_TrM H (by first | exact at0 | exact at1 | exact at2 | exact at3 | exact at4 | exact at5 | exact at6 | exact at7 | exact at8 | exact at9) rfl (show _ = (.int _ _) from rfl) ?_))
      obtain ⟨T5, G5⟩ := T4.own (H.tail.tail.perm (List.perm_append_comm.cons _))
      refine ⟨⟨none, 0, none, 0, ⟨[], [], 0⟩⟩, F, _, by rw [hwr]; rfl, ?_, G14.trans G5, ⟨Rdx.nil, Rdx.nil, Nat.le_refl _, Nat.le_refl _⟩, Nat.zero_le _, fun h => absurd (by rw [hwr] at h; exact h) h2'⟩
      rw [hwr]
      exact ⟨T5, a31, c31, f31, ga, gc, gf, by rw [hl1]; rfl, hO, Og⟩
    · intro h2
      replace h2 := ndec_f h2
      have h2' : ¬ nodeE inner M ≠ 0 := fun h => h h2
      rw [if_neg h2'] at hwr
      have hmm' : sm = nodeB inner M := hmm h2
      have hO : OS a31 (c.tk ++ [takeK c.P]).length c31 1 f31 ((c.tk ++ [takeK c.P]).map pv) := by
        rw [hl1, List.map_append]; exact O31
      obtain ⟨ms, R, hs, hl, hok⟩ := I.ex
      have hs : ms = [] ∨ ¬ TM F ba bt bp _ (adr a).block := hs.imp id fun h h5 => h (Or.inl h5)
      have hml : ms.length = n := by rw [I.num, ← hl, List.length_map]
      have hMp : 0 < M.length := List.length_pos_iff.2 hne
      have hnum := I.num
      obtain ⟨x, hx0⟩ := get_some (l := ms) (i := 0) (by omega)
      have hxL := Im.at hl hx0
      have hk0 : keyOf0 M = x.it.key := by unfold keyOf0; rw [hxL]; rfl
      obtain ⟨R4, hs4⟩ := Rd.turnM R hs (by decide) (fun _ _ => rfl) G14
      have R4d := R4.ext0 (Ext.drew [] w4)
      have G1d := G14.trans (.call0 (Ext.drew [] w4))
      have T4d := T4.call (Ext.drew [] w4)
      have hbc : w4.heap[bc]? = some (Bl TC [ptr bt, .slice a31 (c.tk.length + 1) c31, .slice ga c.gn.length gc]) := H.get at2
      have hb3 : w4.heap[b3]? = some (Bl 116 [.bool inner, .slice a n cc]) := H.get at1
      have hbt := T4.tr
      have hcell := R4.fld hx0 rfl (j := 0) rfl
      have hbl : (bodyI inner M).length ≤ 505 := by
        unfold nodeE sealE at h2'
        by_cases h5 : 505 < (bodyI inner M).length
        · rw [decide_eq_true h5] at h2'
          exact absurd (by cases decide ((kindI inner M).toNat = 0) <;> simp) h2'
        · omega
      have hsl : sm.length = 512 := by rw [hmm']; exact seal_len hbl
      refine W_skip (at_then ?_)
      refine W_sseqz [([0, 1, 2, 3, 4, 5, 6, 7, 8, 9, 10, 11, 12, 13, 14, 15, 16, 17, 18, 19, 20, 21, 22, 23], 24), ([], 25), ([], 26)] (fun z => z.heap[bc]? = some (Bl TC [ptr bt, .slice a31 (c.tk.length + 1) c31, .slice ga c.gn.length gc]) ∧ z.heap[b3]? = some (Bl 116 [.bool inner, .slice a n cc]) ∧ z.heap[bt]? = some (Bl TT (TreeB bd bp fr)) ∧ z.cell? ⟨(adr a).block, (adr a).off + 0 * 3 + 0, none⟩ = some (.slice x.ka x.it.key.length x.kc)) [] mixed (by kernel_rfl) (⟨hbc, hb3, hbt, hcell⟩) ?_
      refine seg_cons rfl rfl ?_
      refine t_fieldAddr rfl fo_116_1_TrM rfl ?_
      first | refine t_ldb rfl ag_114_TrM rfl (fun _ _ => Ctx.start _ []) (by first | exact at0 | exact at1 | exact at2 | exact at3 | exact at4 | exact at5 | exact at6 | exact at7 | exact at8 | exact at9) rfl ?_ | refine t_ld rfl ag_114_TrM rfl (fun _ hx => cell_bl hx.1 (0 + 0)) ?_ | refine t_ld rfl ag_114_TrM rfl (fun _ hx => cell_bl hx.2.1 (0 + 1)) ?_ | refine t_ld rfl ag_114_TrM rfl (fun _ hx => cell_bl hx.2.2.1 (0 + 0)) ?_ | refine t_ld rfl ag_114_TrM rfl (fun _ hx => cell_bl hx.2.2.1 (0 + 2)) ?_ | refine t_ld rfl ag_114_TrM rfl (fun _ hx => hx.2.2.2) ?_
      first | refine t_indexRd R4 rfl el_114_TrM sz_120_TrM rfl rfl (by omega) (by omega) (by first | rfl | omega) ?_ | refine t_indexAddr rfl el_114_TrM sz_120_TrM rfl rfl (by omega) (by omega) ?_
      refine t_fieldAddr rfl fo_120_0_TrM rfl ?_
      first | refine t_ldb rfl ag_23 rfl (fun _ _ => Ctx.start _ []) (by first | exact at0 | exact at1 | exact at2 | exact at3 | exact at4 | exact at5 | exact at6 | exact at7 | exact at8 | exact at9) rfl ?_ | refine t_ld rfl ag_23 rfl (fun _ hx => cell_bl hx.1 (0 + 0)) ?_ | refine t_ld rfl ag_23 rfl (fun _ hx => cell_bl hx.2.1 (0 + 1)) ?_ | refine t_ld rfl ag_23 rfl (fun _ hx => cell_bl hx.2.2.1 (0 + 0)) ?_ | refine t_ld rfl ag_23 rfl (fun _ hx => cell_bl hx.2.2.1 (0 + 2)) ?_ | refine t_ld rfl ag_23 rfl (fun _ hx => hx.2.2.2) ?_
      refine t_move rfl (.int _ _) rfl ?_
      refine t_buildS [.slice x.ka x.it.key.length x.kc, .slice none 0 0, .int .i64 (takeK c.P : Int)] rfl pl_120_TrM zc_120_TrM (by kernel_rfl) ?_
      refine t_move rfl (.pointer _) rfl ?_
      refine t_nilCheck rfl rfl ?_
      refine t_fieldAddr rfl fo_135_0_TrM rfl ?_
      first | refine t_ldb rfl ag_34_TrM rfl (fun _ _ => Ctx.start _ []) (by first | exact at0 | exact at1 | exact at2 | exact at3 | exact at4 | exact at5 | exact at6 | exact at7 | exact at8 | exact at9) rfl ?_ | refine t_ld rfl ag_34_TrM rfl (fun _ hx => cell_bl hx.1 (0 + 0)) ?_ | refine t_ld rfl ag_34_TrM rfl (fun _ hx => cell_bl hx.2.1 (0 + 1)) ?_ | refine t_ld rfl ag_34_TrM rfl (fun _ hx => cell_bl hx.2.2.1 (0 + 0)) ?_ | refine t_ld rfl ag_34_TrM rfl (fun _ hx => cell_bl hx.2.2.1 (0 + 2)) ?_ | refine t_ld rfl ag_34_TrM rfl (fun _ hx => hx.2.2.2) ?_
      refine t_nilCheck rfl rfl ?_
      refine t_fieldAddr rfl fo_146_0_TrM rfl ?_
      first | refine t_ldb rfl ag_32 rfl (fun _ _ => Ctx.start _ []) (by first | exact at0 | exact at1 | exact at2 | exact at3 | exact at4 | exact at5 | exact at6 | exact at7 | exact at8 | exact at9) rfl ?_ | refine t_ld rfl ag_32 rfl (fun _ hx => cell_bl hx.1 (0 + 0)) ?_ | refine t_ld rfl ag_32 rfl (fun _ hx => cell_bl hx.2.1 (0 + 1)) ?_ | refine t_ld rfl ag_32 rfl (fun _ hx => cell_bl hx.2.2.1 (0 + 0)) ?_ | refine t_ld rfl ag_32 rfl (fun _ hx => cell_bl hx.2.2.1 (0 + 2)) ?_ | refine t_ld rfl ag_32 rfl (fun _ hx => hx.2.2.2) ?_
      refine t_move rfl (.pointer _) rfl ?_
      refine t_nilCheck rfl rfl ?_
      refine t_fieldAddr rfl fo_135_0_TrM rfl ?_
      first | refine t_ldb rfl ag_34_TrM rfl (fun _ _ => Ctx.start _ []) (by first | exact at0 | exact at1 | exact at2 | exact at3 | exact at4 | exact at5 | exact at6 | exact at7 | exact at8 | exact at9) rfl ?_ | refine t_ld rfl ag_34_TrM rfl (fun _ hx => cell_bl hx.1 (0 + 0)) ?_ | refine t_ld rfl ag_34_TrM rfl (fun _ hx => cell_bl hx.2.1 (0 + 1)) ?_ | refine t_ld rfl ag_34_TrM rfl (fun _ hx => cell_bl hx.2.2.1 (0 + 0)) ?_ | refine t_ld rfl ag_34_TrM rfl (fun _ hx => cell_bl hx.2.2.1 (0 + 2)) ?_ | refine t_ld rfl ag_34_TrM rfl (fun _ hx => hx.2.2.2) ?_
      refine t_nilCheck rfl rfl ?_
      refine t_fieldAddr rfl fo_146_2_TrM rfl ?_
      first | refine t_ldb rfl ag_3 rfl (fun _ _ => Ctx.start _ []) (by first | exact at0 | exact at1 | exact at2 | exact at3 | exact at4 | exact at5 | exact at6 | exact at7 | exact at8 | exact at9) rfl ?_ | refine t_ld rfl ag_3 rfl (fun _ hx => cell_bl hx.1 (0 + 0)) ?_ | refine t_ld rfl ag_3 rfl (fun _ hx => cell_bl hx.2.1 (0 + 1)) ?_ | refine t_ld rfl ag_3 rfl (fun _ hx => cell_bl hx.2.2.1 (0 + 0)) ?_ | refine t_ld rfl ag_3 rfl (fun _ hx => cell_bl hx.2.2.1 (0 + 2)) ?_ | refine t_ld rfl ag_3 rfl (fun _ hx => hx.2.2.2) ?_
      refine t_move rfl (.int _ _) rfl ?_
      refine t_add_i64 rfl rfl rfl (by omega) (by omega) ?_
      rw [show (fr : Int) + (takeK c.P : Int) = ((fr + takeK c.P : Nat) : Int) by omega]
      refine t_move rfl (.slice _ _ _) rfl ?_
      refine t_nil ?_
      skip
      refine op_call rfl ca_141_TrM (dwrite_ok ((fr + takeK c.P : Nat) : Int) sa sc _ sm (Xm.1.ext0 (Ext.drew [] w4)) rfl (by omega) (Xm.2.imp id fun h hf => h (hFlt _ hf)) hfew (by omega) T4d.dev) rfl ?_
      rintro v w5 ⟨rfl, hd5, ht5⟩
      obtain ⟨T5, G5⟩ := T4d.devs hd5 ht5 (fun x hx => hx)
      obtain ⟨R5, hs5⟩ := Rd.turnM R4d hs4 (by decide) (fun _ _ => rfl) G5
      replace H := T5.ctx
      have G15 := G1d.trans G5
      refine op_nil (at_seg (⟨T5.ctx.get at2, T5.ctx.get at1, T5.tr, R5.fld hx0 rfl (j := 0) rfl⟩) ?_)
      refine seg_cons rfl rfl ?_
      refine t_nil ?_
      refine op_stb0 rfl sz_120_TrM rfl rfl rfl (by simp [oneCell]) H (by first | exact at0 | exact at1 | exact at2 | exact at3 | exact at4 | exact at5 | exact at6 | exact at7 | exact at8 | exact at9) rfl ?_
      rintro w H
      refine op_nil (at_seg (⟨H.get at2, H.get at1, (T5.own H).1.tr, (Rd.turnM R5 hs5 (by decide) (fun _ _ => rfl) (T5.own H).2).1.fld hx0 rfl (j := 0) rfl⟩) ?_)
      refine seg_cons rfl rfl ?_
      refine t_nil ?_
      refine op_assign rfl (.int _ _) rfl ?_
      refine op_nil (at_seg (⟨H.get at2, H.get at1, (T5.own H).1.tr, (Rd.turnM R5 hs5 (by decide) (fun _ _ => rfl) (T5.own H).2).1.fld hx0 rfl (j := 0) rfl⟩) ?_)
      refine seg_nil ?_
      refine W_ret (leave2b rfl rfl rfl ag_120_TrM sz_120_TrM H (by first | exact at0 | exact at1 | exact at2 | exact at3 | exact at4 | exact at5 | exact at6 | exact at7 | exact at8 | exact at9) rfl (show _ = (.int _ _) from rfl) ?_)
      obtain ⟨T6, G6⟩ := T5.own (H.tail.tail.perm (List.perm_append_comm.cons _))
      have G16 := G15.trans G6
      have hxo := (hok x (List.mem_of_getElem? hx0)).turn (G16.or Z)
      refine ⟨⟨x.ka, x.kc, none, 0, ⟨x.it.key, [], takeK c.P⟩⟩, _, _, by rw [hwr, hmm']; rfl, ?_, G16, ⟨hxo.k, Rdx.nil, hxo.kc, Nat.le_refl _⟩, by dsimp only; omega, fun _ => by rw [hk0]⟩
      rw [hwr]
      rw [hmm'] at T6
      exact ⟨T6, a31, c31, f31, ga, gc, gf, by rw [hl1]; rfl, hO, Og⟩

end Go.Proofs.YtbkadlngijkmmaaGreatDoor

/- A change reads a node, and puts what one has. -/
namespace Go.Proofs.YtbkadlngijkmmaaGreatDoor
open Go.GV
theorem ag_116_TrN : aggB Tryz.prog 116 = some true := by kernel_rfl
theorem ag_34_TrN : aggB Tryz.prog 34 = some false := by kernel_rfl
theorem by_3_TrN : tbytes Tryz.prog 3 = some 8 := by kernel_rfl
theorem ca_66_TrN : callable Tryz.prog 66 = true := by kernel_rfl
theorem fo_135_0_TrN : fieldO Tryz.prog 135 0 = some 0 := by kernel_rfl
theorem fo_135_2_TrN : fieldO Tryz.prog 135 2 = some 2 := by kernel_rfl
theorem sz_116_TrN : tsize Tryz.prog 116 = some 2 := by kernel_rfl
theorem zc_116_TrN : zcells Tryz.prog 116 = some ([.bool false, .slice none 0 0]) := by kernel_rfl
theorem zc_3_TrN : zcells Tryz.prog 3 = some ([.int .i64 0]) := by kernel_rfl
attribute [local irreducible] Wops W Wq Wt

/-- A node is read, which goes if all is well. -/
def rdC (fr : Nat) (c : Ch) (page depth : Nat) : Ch := if (readT c.A fr c.P.length (page : Int) (depth : Int)).1 = 0 then { c with gn := c.gn ++ [page] } else c

set_option maxRecDepth 20000 in
set_option maxHeartbeats 8000000 in
theorem cread_ok {w : World} {bt bd bp ba fr bc : Nat} {c : Ch} {F : Mut} {L : List (Nat × Obj)} (X : Cx w bt bd bp ba fr bc c F L) (hfr : fr ≤ 5000) (hgn : c.gn.length ≤ 100000) (page depth : Nat) (hp : page ≤ 9223372036854775807) {mx : Nat} (hfew : Few c.A mx) (hmx : mx ≤ 1000000000) :
    Ret Tryz.prog 168 #[ptr bc, .int .i64 (page : Int), .int .i64 (depth : Int)] w fun v w' => ∃ (inner : Bool) (a : Option Addr) (n cc : Nat) (L' : List (Nat × Obj)), v = .tuple #[.agg #[.bool inner, .slice a n cc], .int .i64 (readT c.A fr c.P.length (page : Int) (depth : Int)).1] ∧ Cx w' bt bd bp ba fr bc (rdC fr c page depth) F L' ∧ Grown (TM F ba bt bp L) (TM F ba bt bp L') w w' ∧
      ∀ i M, (readT c.A fr c.P.length (page : Int) (depth : Int)).2 = some (i, M) → inner = i ∧ Its w' (MZ (TM F ba bt bp L') (Old w)) a n cc M ∧ ∀ x ∈ M, x.key.length ≤ 505 ∧ x.val.length ≤ 505 ∧ x.page < 4294967296 := by
  obtain ⟨w0, rfl⟩ : ∃ w0, w0 = w := ⟨_, rfl⟩
  obtain ⟨T, ta, tc, tf, ga, gc, gf, rfl, Ot, Og⟩ := X
  have H := T.ctx
  obtain ⟨rt, hrt⟩ : ∃ rt, rt = readT c.A fr c.P.length (page : Int) (depth : Int) := ⟨_, rfl⟩
  have hc2 : rdC fr c page depth = if rt.1 = 0 then { c with gn := c.gn ++ [page] } else c := by rw [hrt]; rfl
  refine ret_of_W (fn := Tryz.f168) Tryz.func168 rfl [.pointer (some ⟨bc, 0, none⟩), .int .i64 (page : Int), .int .i64 (depth : Int)] rfl (by kernel_rfl) ?_
  refine W_rseq ?_
  refine op_alloc rfl zc_116_TrN H ?_
  rintro b6 w - H
  refine op_assign rfl (.int _ _) rfl ?_
  refine op_nil (at_then ?_)
  refine W_rseq ?_
  refine op_move rfl (.pointer _) rfl ?_
  refine op_nilCheck rfl rfl ?_
  refine op_fieldAddr rfl fo_135_0_TrN rfl ?_
  refine op_ldb rfl ag_34_TrN rfl H (by first | exact at0 | exact at1 | exact at2 | exact at3 | exact at4 | exact at5 | exact at6 | exact at7 | exact at8 | exact at9) rfl ?_
  refine op_move rfl (.int _ _) rfl ?_
  refine op_move rfl (.int _ _) rfl ?_
  obtain ⟨T1, G1⟩ := T.own H
  have hml := T1.mlt
  have hsz := H.ext.size
  refine op_call rfl ca_66_TrN (read7_ok T1 hfr (page : Int) (depth : Int) (by omega) hfew hmx) rfl ?_
  rintro v w2 ⟨inner, aa, nn, cc, rfl, hx17, hits⟩
  have T2 := T1.call hx17
  have G12 := G1.trans (.call0 hx17)
  rw [← hrt] at hits
  rw [← hrt]
  replace H := T2.ctx
  refine op_move rfl (.tuple _) rfl ?_
  refine op_extract rfl rfl rfl ?_
  refine op_extract rfl rfl rfl ?_
  refine op_alloc rfl zc_116_TrN H ?_
  rintro b8 w - H
  refine op_stb0 rfl sz_116_TrN rfl rfl rfl (by simp [oneCell]) H (by first | exact at0 | exact at1 | exact at2 | exact at3 | exact at4 | exact at5 | exact at6 | exact at7 | exact at8 | exact at9) rfl ?_
  rintro w H
  refine op_assign rfl (.int _ _) rfl ?_
  refine op_nil (at_then ?_)
  refine W_seq ?_
  refine W_rseq ?_
  refine op_move rfl (.int _ _) rfl ?_
  refine op_eql rfl rfl rfl ?_
  refine op_nil (at_then ?_)
  refine W_cond _ rfl ?_ ?_
  · intro h1
    replace h1 := dec_t h1
    rw [if_pos h1] at hc2
    have hl1 : (c.gn ++ [page]).length = c.gn.length + 1 := by simp
    refine W_region ?_
    refine op_move rfl (.pointer _) rfl ?_
    refine op_move rfl (.pointer _) rfl ?_
    refine op_nilCheck rfl rfl ?_
    refine op_fieldAddr rfl fo_135_2_TrN rfl ?_
    refine op_ldb rfl ag_57 rfl H (by first | exact at0 | exact at1 | exact at2 | exact at3 | exact at4 | exact at5 | exact at6 | exact at7 | exact at8 | exact at9) rfl ?_
    refine op_move rfl (.int _ _) rfl ?_
    refine op_build1 _ (.int _ _) rfl el_57 sz_3 zc_3_TrN rfl (by decide) (by decide) rfl rfl rfl H ?_
    rintro b28 w - H
    refine op_appendb (L := _ :: _ :: _ :: ent ta 3 tf) rfl el_57 el_57 sz_3 by_3_TrN zc_3_TrN rfl (by decide) rfl rfl H Og rfl (by simp [oneCell]) (by omega) ?_
    rintro a29 c29 f29 w H O29
    refine op_nilCheck rfl rfl ?_
    refine op_fieldAddr rfl fo_135_2_TrN rfl ?_
    refine op_stb (.slice _ _ _) rfl sz_57 rfl rfl rfl H (by first | exact at0 | exact at1 | exact at2 | exact at3 | exact at4 | exact at5 | exact at6 | exact at7 | exact at8 | exact at9) (by first | decide | (simp; done) | (simp; omega)) ?_
    rintro w H
    refine op_nil (at_then ?_)
    refine W_rseq ?_
    refine op_ldbN rfl ag_116_TrN sz_116_TrN rfl H (by first | exact at0 | exact at1 | exact at2 | exact at3 | exact at4 | exact at5 | exact at6 | exact at7 | exact at8 | exact at9) rfl ?_
    refine op_move rfl (.int _ _) rfl ?_
    refine op_stb0 rfl sz_116_TrN rfl rfl rfl (by simp [oneCell]) H (by first | exact at0 | exact at1 | exact at2 | exact at3 | exact at4 | exact at5 | exact at6 | exact at7 | exact at8 | exact at9) rfl ?_
    rintro w H
    refine op_assign rfl (.int _ _) rfl ?_
    refine op_nil (at_then ?_)
    refine W_ret (leave2b rfl rfl rfl ag_116_TrN sz_116_TrN H (by first | exact at0 | exact at1 | exact at2 | exact at3 | exact at4 | exact at5 | exact at6 | exact at7 | exact at8 | exact at9) rfl (show _ = (.int _ _) from rfl) ?_)
    have hO : OS a29 (c.gn ++ [page]).length c29 1 f29 ((c.gn ++ [page]).map pv) := by
      rw [hl1, List.map_append]; exact O29
    obtain ⟨T5, G5⟩ := T2.own H.tail.tail
    have G15 := G12.trans G5
    refine ⟨inner, aa, nn, cc, _, rfl, ?_, G15, fun i M h => ?_⟩
    · rw [hc2]
      exact ⟨T5, ta, tc, tf, a29, c29, f29, by rw [hl1]; rfl, Ot, hO⟩
    · obtain ⟨h5, h6, h7⟩ := hits i M h
      exact ⟨h5, (h6.weak (M' := MZ _ (Old w0)) fun x h => h.elim (hml x) fun h => Nat.lt_of_lt_of_le h hsz).turn (G5.or _), h7⟩
  · intro h1
    replace h1 := dec_f h1
    rw [if_neg h1] at hc2
    refine W_skip (at_then ?_)
    refine W_rseq ?_
    refine op_ldbN rfl ag_116_TrN sz_116_TrN rfl H (by first | exact at0 | exact at1 | exact at2 | exact at3 | exact at4 | exact at5 | exact at6 | exact at7 | exact at8 | exact at9) rfl ?_
    refine op_move rfl (.int _ _) rfl ?_
    refine op_stb0 rfl sz_116_TrN rfl rfl rfl (by simp [oneCell]) H (by first | exact at0 | exact at1 | exact at2 | exact at3 | exact at4 | exact at5 | exact at6 | exact at7 | exact at8 | exact at9) rfl ?_
    rintro w H
    refine op_assign rfl (.int _ _) rfl ?_
    refine op_nil (at_then ?_)
    refine W_ret (leave2b rfl rfl rfl ag_116_TrN sz_116_TrN H (by first | exact at0 | exact at1 | exact at2 | exact at3 | exact at4 | exact at5 | exact at6 | exact at7 | exact at8 | exact at9) rfl (show _ = (.int _ _) from rfl) ?_)
    obtain ⟨T5, G5⟩ := T2.own H.tail.tail
    have G15 := G12.trans G5
    refine ⟨inner, aa, nn, cc, _, rfl, ?_, G15, fun i M h => ?_⟩
    · rw [hc2]
      exact ⟨T5, ta, tc, tf, ga, gc, gf, rfl, Ot, Og⟩
    · obtain ⟨h5, h6, h7⟩ := hits i M h
      exact ⟨h5, (h6.weak (M' := MZ _ (Old w0)) fun x h => h.elim (hml x) fun h => Nat.lt_of_lt_of_le h hsz).turn (G5.or _), h7⟩

/-- What nodes have is written, one by one. -/
def putF (fr : Nat) (inner : Bool) : List (List It) → Ch → List It → Int × Ch × List It
  | [], c, acc => (0, c, acc)
  | h :: t, c, acc => if (wrC fr c inner h).1 = 0 then putF fr inner t (wrC fr c inner h).2 (acc ++ [⟨keyOf0 h, [], takeK c.P⟩]) else ((wrC fr c inner h).1, (wrC fr c inner h).2, [])
def putC (fr : Nat) (c : Ch) (inner : Bool) (L : List It) : Int × Ch × List It := if L = [] then (0, c, []) else putF fr inner (halvesN inner L) c []
theorem wrC_few {fr : Nat} {c : Ch} {inner : Bool} {M : List It} {m : Nat} (h : Few c.A m) : Few (wrC fr c inner M).2.A (m + 1) := by
  unfold wrC
  split
  · exact h.mono (by omega)
  · split
    · exact h.mono (by omega)
    · exact write_few h _ _
theorem wrC_tk {fr : Nat} {c : Ch} {inner : Bool} {M : List It} : (wrC fr c inner M).2.tk.length ≤ c.tk.length + 1 := by
  unfold wrC
  split
  · exact Nat.le_succ _
  · split
    · rw [List.length_append]; exact Nat.le_refl _
    · rw [List.length_append]; exact Nat.le_refl _

end Go.Proofs.YtbkadlngijkmmaaGreatDoor

/- A change puts what a node has, in one or two. -/
namespace Go.Proofs.YtbkadlngijkmmaaGreatDoor
open Go.GV
attribute [local irreducible] Wops W Wq Wt

theorem Tx.side {w w' : World} {bt bd bp ba fr : Nat} {A : Dev} {P : List Nat} {F : Mut} {L : List (Nat × Obj)} {S : List Nat} (T : Tx w bt bd bp ba fr A P F L) (hx : Ext S w w') (hS : ∀ x ∈ S, ¬ TM F ba bt bp L x) : Tx w' bt bd bp ba fr A P F L := by
  have hs := hx.size
  refine ⟨?_, T.pg.keep hx (fun h => hS _ h (.inr (.inr (.inr (.inl rfl))))) (fun h => hS _ h (.inr (.inl rfl))), T.dev.keep hx fun x h hf => hS x h (.inl hf), fun x hm => ?_, T.nd, T.off, T.nbt, T.nbp, T.nba, fun x h => by have := T.lt x h; omega⟩
  · rw [hx.block bt (heap_lt T.tr) fun h => hS _ h (.inr (.inr (.inl rfl)))]; exact T.tr
  · rw [hx.block x.1 (heap_lt (T.blk x hm)) fun h => hS _ h (.inr (.inr (.inr (.inr (List.mem_map.2 ⟨x, hm, rfl⟩)))))]; exact T.blk x hm
theorem Cx.side {w w' : World} {bt bd bp ba fr bc : Nat} {c : Ch} {F : Mut} {L : List (Nat × Obj)} {Y : List (Nat × Obj)} (X : Cx w bt bd bp ba fr bc c F L) (O : Fo w (TM F ba bt bp L) Y) (hx : Ext (Y.map (·.1)) w w') : Cx w' bt bd bp ba fr bc c F L :=
  ⟨X.T.side hx fun x h => by obtain ⟨y, hy, rfl⟩ := List.mem_map.1 h; exact O.off y hy, X.ex⟩

end Go.Proofs.YtbkadlngijkmmaaGreatDoor

/- A change puts what a node has, in one or two: the walk. -/
namespace Go.Proofs.YtbkadlngijkmmaaGreatDoor
open Go.GV
attribute [local irreducible] Wops W Wq Wt

theorem halves_mem {inner : Bool} {L h : List It} (hh : h ∈ halvesN inner L) : h.length ≤ L.length ∧ ∀ x ∈ h, x ∈ L := by
  unfold halvesN at hh
  split at hh
  · rw [List.mem_singleton.1 hh]; exact ⟨Nat.le_refl _, fun _ h => h⟩
  · simp only [List.mem_cons, List.not_mem_nil, or_false] at hh
    rcases hh with rfl | rfl
    · exact ⟨by simp; omega, fun x h => List.mem_of_mem_take h⟩
    · exact ⟨by simp, fun x h => List.mem_of_mem_drop h⟩
theorem halves_num (inner : Bool) (L : List It) : (halvesN inner L).length ≤ 2 := by
  unfold halvesN
  split <;> simp
theorem MY.le {M : Mut} {Y : List (Nat × Obj)} : ∀ x, M x → MY M Y x := fun _ h => .inl h
theorem Fo.lt {w : World} {M : Mut} {Y : List (Nat × Obj)} (O : Fo w M Y) (hlt : ∀ x, M x → x < w.heap.size) : ∀ x, MY M Y x → x < w.heap.size := fun x h => by
  rcases h with h | h
  · exact hlt x h
  · obtain ⟨y, hy, rfl⟩ := List.mem_map.1 h
    exact heap_lt (O.blk y hy)

end Go.Proofs.YtbkadlngijkmmaaGreatDoor

/- A change puts what a node has: the walk. -/
namespace Go.Proofs.YtbkadlngijkmmaaGreatDoor
open Go.GV
theorem ag_114_TrQ : aggB Tryz.prog 114 = some false := by kernel_rfl
theorem ag_116_TrQ : aggB Tryz.prog 116 = some true := by kernel_rfl
theorem ag_120_TrQ : aggB Tryz.prog 120 = some true := by kernel_rfl
theorem by_120_TrQ : tbytes Tryz.prog 120 = some 56 := by kernel_rfl
theorem ca_200_TrQ : callable Tryz.prog 200 = true := by kernel_rfl
theorem ca_80_TrQ : callable Tryz.prog 80 = true := by kernel_rfl
theorem el_114_TrQ : elemT Tryz.prog 114 = some 120 := by kernel_rfl
theorem el_137_TrQ : elemT Tryz.prog 137 = some 116 := by kernel_rfl
theorem fo_116_1_TrQ : fieldO Tryz.prog 116 1 = some 1 := by kernel_rfl
theorem sz_116_TrQ : tsize Tryz.prog 116 = some 2 := by kernel_rfl
theorem sz_120_TrQ : tsize Tryz.prog 120 = some 3 := by kernel_rfl
theorem zc_116_TrQ : zcells Tryz.prog 116 = some ([.bool false, .slice none 0 0]) := by kernel_rfl
theorem zc_120_TrQ : zcells Tryz.prog 120 = some ([.slice none 0 0, .slice none 0 0, .int .i64 0]) := by kernel_rfl
attribute [local irreducible] Wops W Wq Wt

/-- Where the walk stands: the slice of what was put, the world's tree, the change. -/
structure PS where
  i : Nat
  a : Option Addr
  c : Nat
  full : List Value
  ms : List Im
  F : Mut
  L : List (Nat × Obj)
  ch : Ch
theorem MYZ {M Z : Mut} {Y : List (Nat × Obj)} : ∀ x, MZ M (MY Z Y) x → MY (MZ M Z) Y x := fun _ h => h.elim (fun h => .inl (.inl h)) fun h => h.elim (fun h => .inl (.inr h)) .inr
theorem MYZ' {M Z : Mut} {Y : List (Nat × Obj)} : ∀ x, MY (MZ M Z) Y x → MZ M (MY Z Y) x := fun _ h => h.elim (fun h => h.elim .inl fun h => .inr (.inl h)) fun h => .inr (.inr h)
theorem MY.nil {M : Mut} : ∀ x, MY M [] x → M x := fun x h => h.elim id fun h => by cases h
theorem Grown.side {w0 w w' : World} {M M' : Mut} {S : List Nat} (t : Grown M M' w0 w) (hx : Ext S w w') (hy : ∀ y ∈ S, w0.heap.size ≤ y) : Grown M M' w0 w' := by
  obtain ⟨⟨S, hS, h1⟩, g⟩ := t
  exact ⟨⟨S, hS, h1.then hx fun y h => .inr (hy y h)⟩, g⟩
theorem encN_one (inner : Bool) (x : SN) : ∀ v ∈ encN inner x, oneCell v = true := fun v hv => by
  simp only [encN, List.mem_cons, List.not_mem_nil, or_false] at hv
  rcases hv with rfl | rfl <;> rfl
theorem young {w0 w w' : World} {Y Y' : List (Nat × Obj)} (h : ∀ y ∈ Y.map (·.1), w0.heap.size ≤ y) (hle : w0.heap.size ≤ w.heap.size) (H : Ctx w (Y.map (·.1)) w' Y') : ∀ y ∈ Y'.map (·.1), w0.heap.size ≤ y := fun y hy => by
  obtain ⟨z, hz, rfl⟩ := List.mem_map.1 hy
  exact (H.own z hz).elim (h _) fun h5 => by omega
abbrev PY (b3 : Nat) (inner : Bool) (a : Option Addr) (n cc : Nat) (s : PS) : List (Nat × Obj) :=
  (b3, Bl 116 [.bool inner, .slice a n cc]) :: ent s.a 120 s.full

set_option maxRecDepth 20000 in
set_option maxHeartbeats 8000000 in
theorem put7_ok {w : World} {bt bd bp ba fr bc : Nat} {c : Ch} {F : Mut} {L : List (Nat × Obj)} (X : Cx w bt bd bp ba fr bc c F L) (hfr : fr ≤ 5000) (htk : c.tk.length ≤ 99990) (inner : Bool) {a : Option Addr} {n cc : Nat} {M : List It} (Z : Mut) (hZ : ∀ x, Z x → x < w.heap.size) (I : Its w (MZ (TM F ba bt bp L) Z) a n cc M) (hm : n ≤ 1000)
    (hsz : ∀ x ∈ M, x.key.length ≤ 65535 ∧ x.val.length ≤ 65535) (hpg : ∀ x ∈ M, x.page < 9223372036854775808) (hne : M ≠ [] → ∀ h ∈ halvesN inner M, h ≠ []) {mx : Nat} (hfew : Few c.A mx) (hmx : mx ≤ 999999990) :
    Ret Tryz.prog 169 #[ptr bc, .agg #[.bool inner, .slice a n cc]] w fun v w' => ∃ (a' : Option Addr) (n' c' : Nat) (F' : Mut) (L' : List (Nat × Obj)), v = .tuple #[.slice a' n' c', .int .i64 (putC fr c inner M).1] ∧ Cx w' bt bd bp ba fr bc (putC fr c inner M).2.1 F' L' ∧ Grown (TM F ba bt bp L) (TM F' ba bt bp L') w w' ∧ Its w' (MZ (TM F' ba bt bp L') Z) a' n' c' (putC fr c inner M).2.2 := by
  obtain ⟨w0, rfl⟩ : ∃ w0, w0 = w := ⟨_, rfl⟩
  have hnum := I.num
  have hlt0 : ∀ x, MZ (TM F ba bt bp L) Z x → x < w0.heap.size := fun x h => h.elim (X.T.mlt x) (hZ x)
  obtain ⟨pc, hpc⟩ : ∃ pc, pc = putC fr c inner M := ⟨_, rfl⟩
  rw [← hpc]
  unfold putC at hpc
  have H := Ctx.start w0 []
  refine ret_of_W (fn := Tryz.f169) Tryz.func169 rfl [.pointer (some ⟨bc, 0, none⟩), .agg #[.bool inner, .slice a n cc]] rfl (by kernel_rfl) ?_
  refine W_rseq ?_
  refine op_box rfl [.bool inner, .slice a n cc] (.agg _) rfl rfl H ?_
  rintro b3 w - H
  refine op_assign rfl (.slice _ _ _) rfl ?_
  refine op_assign rfl (.int _ _) rfl ?_
  refine op_nil (at_then ?_)
  refine W_seq ?_
  refine W_rseq ?_
  refine op_fieldAddr rfl fo_116_1_TrQ rfl ?_
  refine op_ldb rfl ag_114_TrQ rfl H (by first | exact at0 | exact at1 | exact at2 | exact at3 | exact at4 | exact at5 | exact at6 | exact at7 | exact at8 | exact at9) rfl ?_
  refine op_len rfl el_114_TrQ rfl ?_
  refine op_eql rfl rfl rfl ?_
  refine op_nil (at_then ?_)
  refine W_cond _ rfl ?_ ?_
  · intro h1
    replace h1 := dec_t h1
    have hM0 : M = [] := List.eq_nil_of_length_eq_zero (by omega)
    rw [if_pos hM0] at hpc
    refine W_rseq ?_
    refine op_assign rfl (.slice _ _ _) rfl ?_
    refine op_assign rfl (.int _ _) rfl ?_
    refine op_nil (at_then ?_)
    refine W_ret (ret_then (leave2 (v1 := (.slice _ _ _)) (v2 := (.int _ _)) rfl rfl rfl rfl ?_))
    have hx0 := H.ext
    obtain ⟨O1, G1⟩ := Fo.nil.own hlt0 H
    exact ⟨none, 0, 0, F, L, by rw [hpc], by rw [hpc]; exact X.side Fo.nil H.ext, .call0 H.ext, by rw [hpc]; exact Its.nil⟩
  · intro h1
    replace h1 := dec_f h1
    have hM0 : M ≠ [] := fun h => h1 (by have h5 := congrArg List.length h; rw [List.length_nil] at h5; omega)
    rw [if_neg hM0] at hpc
    replace hne := hne hM0
    refine W_skip (at_then ?_)
    refine W_seq ?_
    refine W_rseq ?_
    refine op_ldbN rfl ag_116_TrQ sz_116_TrQ rfl H (by first | exact at0 | exact at1 | exact at2 | exact at3 | exact at4 | exact at5 | exact at6 | exact at7 | exact at8 | exact at9) rfl ?_
    obtain ⟨O1, G1⟩ := Fo.nil.own hlt0 H
    have X1 := X.side Fo.nil H.ext
    have hyo2 := young (w0 := w0) (Y := []) (fun y h => by cases h) (Nat.le_refl _) H
    have hsz1 := H.ext.size
    have GT1 : Grown (TM F ba bt bp L) (TM F ba bt bp L) w0 w := .call0 H.ext
    refine op_call rfl ca_200_TrQ (halves_ok (O1.lt fun x h => h.elim (X1.T.mlt x) fun h => Nat.lt_of_lt_of_le (hZ x h) hsz1) inner ((I.weak MY.nil).turn G1) (by omega) hsz) rfl ?_
    rintro v w2 ⟨an, nn, cn, rfl, N, hx2⟩
    obtain ⟨ms, R, hs, hl, hok⟩ := N.ex
    have hnn := N.num
    have h2 := halves_num inner M
    have hml : ms.length = nn := by rw [hnn, ← hl, List.length_map]
    obtain ⟨O2, G2⟩ := O1.call (.call0 hx2)
    have X2 := X1.side Fo.nil hx2
    have hsz2 := Nat.le_trans hsz1 hx2.size
    replace H := O2.ctx
    refine op_len rfl el_137_TrQ rfl ?_
    refine op_move rfl (.int _ _) rfl ?_
    refine op_nil (at_then ?_)
    refine W_block ?_
    refine W_loop 34359608240 (α := PS) (fun s => [(17, .int .i64 (s.i : Int)), (4, .slice s.a s.ms.length s.c)]) (fun s w' => s.i ≤ nn ∧ Cx w' bt bd bp ba fr bc s.ch s.F s.L ∧ Fo w' (MZ (TM s.F ba bt bp s.L) Z) (PY b3 inner a n cc s) ∧ Nds w' (MY (MZ (TM s.F ba bt bp s.L) Z) (PY b3 inner a n cc s)) inner an nn cn (halvesN inner M) ∧ OS s.a s.ms.length s.c 3 s.full (s.ms.flatMap Im.enc) ∧ (∀ m ∈ s.ms, m.Ok w' (MY (MZ (TM s.F ba bt bp s.L) Z) (PY b3 inner a n cc s))) ∧ Grown (TM F ba bt bp L) (TM s.F ba bt bp s.L) w0 w' ∧ pc = putF fr inner ((halvesN inner M).drop s.i) s.ch (s.ms.map (·.it)) ∧ Few s.ch.A (mx + s.i) ∧ s.ch.tk.length ≤ c.tk.length + s.i ∧ s.ms.length = s.i ∧ (∀ y ∈ (PY b3 inner a n cc s).map (·.1), w0.heap.size ≤ y) ∧ w0.heap.size ≤ w'.heap.size) (fun s => nn - s.i) ⟨0, none, 0, [], [], F, L, c⟩ rfl ?_ ?_ ?_
    · exact ⟨rfl, rfl, trivial⟩
    · exact ⟨Nat.zero_le _, X2, O2, N, OS.nil, (fun m h => by cases h), GT1.trans (.call0 hx2), hpc, hfew, Nat.le_refl _, rfl, hyo2, hsz2⟩
    · rintro ⟨i, a4, c4, f4, qs, F1, L1, c1⟩ j w ⟨hi, X3, O3, N3, OA, hqo, GT3, hpc3, hfew3, htk3, hqi, hyo, hsz3⟩; dsimp only at hi X3 O3 N3 OA hqo GT3 hpc3 hfew3 htk3 hqi hyo hsz3; dsimp only
      obtain ⟨ns, R3, hs3, hl3, hok3⟩ := N3.ex
      have hnl : ns.length = nn := by rw [hnn, ← hl3, List.length_map]
      have H := O3.ctx
      refine W_rseq ?_
      refine op_lss rfl rfl rfl ?_
      refine op_nil (at_then ?_)
      refine W_seq ?_
      refine W_cond _ rfl ?_ ?_
      · intro h3
        replace h3 := dec_t h3
        obtain ⟨x, hx1⟩ := get_some (l := ns) (i := i) (by omega)
        have hxL : (halvesN inner M)[i]? = some x.2.1 := by rw [← hl3, List.getElem?_map, hx1]; rfl
        have hxm := List.mem_of_getElem? hxL
        obtain ⟨hx2, hx3⟩ := halves_mem hxm
        have Ix := hok3 x (List.mem_of_getElem? hx1)
        rw [drop_cons hxL, putF] at hpc3
        refine W_skip (at_then ?_)
        refine W_seq ?_
        refine W_block ?_
        refine W_rseq ?_
        first | refine op_indexRd R rfl el_137_TrQ sz_116_TrQ rfl rfl (by omega) (by omega) (by first | rfl | omega) ?_ | refine op_indexAddr rfl el_137_TrQ sz_116_TrQ rfl rfl (by omega) (by omega) ?_
        refine op_ldN (encN inner x) rfl ag_116_TrQ sz_116_TrQ rfl rfl (R3.row hx1 rfl) ?_
        refine op_alloc rfl zc_116_TrQ H ?_
        rintro b7 w - H
        refine op_stb0 rfl sz_116_TrQ rfl rfl rfl (by first | exact (by first | exact encN_one _ _ | exact Im.oneE _) | simp [oneCell]) H (by first | exact at0 | exact at1 | exact at2 | exact at3 | exact at4 | exact at5 | exact at6 | exact at7 | exact at8 | exact at9) rfl ?_
        rintro w H
        refine op_nil (at_then ?_)
        refine W_rseq ?_
        refine op_move rfl (.pointer _) rfl ?_
        refine op_ldbN rfl ag_116_TrQ sz_116_TrQ rfl H (by first | exact at0 | exact at1 | exact at2 | exact at3 | exact at4 | exact at5 | exact at6 | exact at7 | exact at8 | exact at9) rfl ?_
        obtain ⟨O4, G4⟩ := O3.own (fun x h => h.elim (X3.T.mlt x) fun h => Nat.lt_of_lt_of_le (hZ x h) hsz3) H
        have X4 := X3.side (O3.weak fun _ h => .inl h) H.ext
        have GT4 := GT3.side H.ext hyo
        have hyo4 := young hyo hsz3 H
        have Iy := Ix.turn G4
        refine op_call rfl ca_80_TrQ (write7_ok X4 hfr (by omega) inner (MY Z _) (Iy.weak MYZ) (hne _ hxm) (by omega) (fun y hy => hsz y (hx3 y hy)) (fun y hy => hpg y (hx3 y hy)) hfew3 (by omega)) rfl ?_
        rintro v w5 ⟨m, F5, L5, rfl, X5, G5, hmo, hmp, hmi⟩
        have hmo := hmo.weak MYZ'
        obtain ⟨O5, GY5⟩ := O4.call (G5.or Z)
        have GT5 := GT4.trans G5
        have GY := G4.trans GY5
        replace H := O5.ctx
        refine op_move rfl (.tuple _) rfl ?_
        refine op_extract rfl rfl rfl ?_
        refine op_extract rfl rfl rfl ?_
        refine op_alloc rfl zc_120_TrQ H ?_
        rintro b8 w - H
        refine op_stb0 rfl sz_120_TrQ rfl rfl rfl (by first | exact (by first | exact encN_one _ _ | exact Im.oneE _) | simp [oneCell]) H (by first | exact at0 | exact at1 | exact at2 | exact at3 | exact at4 | exact at5 | exact at6 | exact at7 | exact at8 | exact at9) rfl ?_
        rintro w H
        refine op_assign rfl (.int _ _) rfl ?_
        refine op_nil (at_then ?_)
        refine W_seq ?_
        refine W_rseq ?_
        refine op_move rfl (.int _ _) rfl ?_
        refine op_neq rfl rfl rfl ?_
        refine op_nil (at_then ?_)
        refine W_cond _ rfl ?_ ?_
        · intro h4
          replace h4 := ndec_t h4
          rw [if_neg (show ¬ (wrC fr c1 inner x.2.1).1 = 0 from h4)] at hpc3
          refine W_rseq ?_
          refine op_move rfl (.int _ _) rfl ?_
          refine op_assign rfl (.slice _ _ _) rfl ?_
          refine op_assign rfl (.int _ _) rfl ?_
          refine op_nil (at_then ?_)
          refine W_ret (ret_then (ret_block (ret_then (ret_then (ret_block (ret_then (leave2 (v1 := (.slice _ _ _)) (v2 := (.int _ _)) rfl rfl rfl rfl ?_)))))))
          exact ⟨none, 0, 0, F5, L5, by rw [hpc3], by rw [hpc3]; exact X5.side (O5.weak fun _ h => .inl h) H.ext, GT5.side H.ext hyo4, by rw [hpc3]; exact Its.nil⟩
        · intro h4
          replace h4 := ndec_f h4
          have h5 : (wrC fr c1 inner x.2.1).1 = 0 := by simpa using h4
          rw [if_pos h5] at hpc3
          have hmi' := hmi h5
          refine W_skip (at_then ?_)
          refine W_region ?_
          refine op_move rfl (.slice _ _ _) rfl ?_
          refine op_ldbN rfl ag_120_TrQ sz_120_TrQ rfl H (by first | exact at0 | exact at1 | exact at2 | exact at3 | exact at4 | exact at5 | exact at6 | exact at7 | exact at8 | exact at9) rfl ?_
          refine op_build1 _ (.agg _) rfl el_114_TrQ sz_120_TrQ zc_120_TrQ rfl (by decide) (by decide) rfl rfl rfl H ?_
          rintro b32 w - H
          refine op_appendb (L := [_, _, _]) rfl el_114_TrQ el_114_TrQ sz_120_TrQ by_120_TrQ zc_120_TrQ rfl (by decide) rfl rfl H OA rfl (Im.oneE m) (by omega) ?_
          rintro a33 c33 f33 w H OB
          refine op_assign rfl (.slice _ _ _) rfl ?_
          refine op_nil (at_block (at_then ?_))
          refine W_region ?_
          refine op_add_i64 rfl rfl rfl (by omega) (by omega) ?_
          refine op_move rfl (.int _ _) rfl ?_
          refine op_nil (at_then ?_)
          have H6 := H.tail.tail
          have hsz5 : w0.heap.size ≤ w5.heap.size := GT5.1.choose_spec.2.size
          obtain ⟨O6, G6⟩ := O5.own (fun x h => h.elim (X5.T.mlt x) fun h => Nat.lt_of_lt_of_le (hZ x h) hsz5) H6
          have GG := GY.trans G6
          have hql : (qs ++ [m]).length = qs.length + 1 := by simp
          refine ⟨⟨i + 1, a33, c33, f33, qs ++ [m], F5, L5, (wrC fr c1 inner x.2.1).2⟩, rfl, ⟨rfl, by rw [hql]; rfl, trivial⟩, ⟨by dsimp only; omega, X5.side (O5.weak fun _ h => .inl h) H6.ext, O6, N3.turn GG, by dsimp only; rw [hql, List.flatMap_append]; simpa using OB, fun q hq => ?_, GT5.side H6.ext hyo4, ?_, by dsimp only; exact (wrC_few hfew3).mono (by omega), by dsimp only; have := wrC_tk (fr := fr) (c := c1) (inner := inner) (M := x.2.1); omega, by dsimp only; rw [hql, hqi], young hyo4 hsz5 H6, Nat.le_trans hsz5 H6.ext.size⟩, by dsimp only; omega⟩
          · dsimp only at hq ⊢
            rcases List.mem_append.1 hq with hq | hq
            · exact (hqo q hq).turn GG
            · rw [List.mem_singleton.1 hq]
              exact hmo.turn G6
          · dsimp only
            rw [hpc3, List.map_append, ← hmi']; rfl
      · intro h3
        replace h3 := dec_f h3
        have hii : i = nn := by omega
        rw [List.drop_of_length_le (by omega), putF] at hpc3
        have Rm := OS.rd OA (fun y hy => O3.blk y (List.mem_cons_of_mem _ hy)) (fun _ _ => rfl) (by decide)
        refine W_exit (exit_then (exit_then (exit_here (at_then ?_))))
        refine W_rseq ?_
        refine op_move rfl (.slice _ _ _) rfl ?_
        refine op_assign rfl (.slice _ _ _) rfl ?_
        refine op_assign rfl (.int _ _) rfl ?_
        refine op_nil (at_then ?_)
        refine W_ret (leave2 (v1 := (.slice _ _ _)) (v2 := (.int _ _)) rfl rfl rfl rfl ?_)
        refine ⟨a4, qs.length, c4, F1, L1, by rw [hpc3], by rw [hpc3]; exact X3, GT3, ?_⟩
        rw [hpc3]
        refine ⟨⟨qs, Rm, ?_, rfl, fun m hm => (hqo m hm).weak MY.le⟩, by simp, OA.le⟩
        cases ha4 : a4 with
        | none => exact .inl (List.eq_nil_of_length_eq_zero (by have h8 := OA.le; have h9 := OA.none' ha4; omega))
        | some q =>
          subst ha4
          exact .inr fun h => O3.off (q.block, _) (List.mem_cons_of_mem _ (List.mem_singleton.2 rfl)) h

end Go.Proofs.YtbkadlngijkmmaaGreatDoor

/- Plain law of the tree: pages, blocks, a node that is written. -/
namespace Go.Proofs.YtbkadlngijkmmaaGreatDoor
open Go.GV

/-- The node in a page, whatever the power. -/
def RD (A : Dev) (fr : Nat) (p : Nat) : Option (Bool × List It) := parseO (stands (A.B.getD (fr + p) (zeros, [])))
theorem readE_on {A : Dev} {q : Nat} (hon : A.on = true) (hq : q < A.B.length) : readE A (q : Int) = 0 := by
  have : A.has (q : Int) = true := by
    unfold Dev.has
    rw [decide_eq_true (by omega), decide_eq_true (by omega)]; rfl
  unfold readE; rw [hon, this]; rfl
theorem readB_on {A : Dev} {q : Nat} (hon : A.on = true) (hq : q < A.B.length) : readB A (q : Int) = stands (A.B.getD q (zeros, [])) := by
  unfold readB
  rw [readE_on hon hq, Int.toNat_natCast]
  rfl
theorem readT_of {A : Dev} {fr sz p d : Nat} {n : Bool × List It} (hon : A.on = true) (hp : p < sz) (hl : fr + sz ≤ A.B.length) (hd : d ≤ 16) (h : RD A fr p = some n) : readT A fr sz (p : Int) (d : Int) = (0, some n) := by
  unfold readT
  rw [if_neg (by omega)]
  rw [show (fr : Int) + (p : Int) = ((fr + p : Nat) : Int) by omega, readE_on hon (by omega), readB_on hon (by omega), if_pos rfl]
  unfold RD at h
  rw [h]
/-- What may be written as a node. -/
structure Fits (inner : Bool) (M : List It) : Prop where
  ne : M ≠ []
  ok : ∀ x ∈ M, OkI inner x
  sz : totalI inner M ≤ 503
theorem Fits.seal {inner : Bool} {M : List It} (h : Fits inner M) : nodeE inner M = 0 ∧ (nodeB inner M).length = 512 ∧ parseO (nodeB inner M) = some (inner, M) := by
  have hb := bodyI_len inner M
  have hz := h.sz
  have hk : (kindI inner M).toNat ≠ 0 := by unfold kindI; split <;> decide
  refine ⟨?_, seal_len (by omega), parse_seal h.ok h.ne h.sz⟩
  unfold nodeE sealE
  rw [decide_eq_false hk, decide_eq_false (by omega)]; rfl
theorem takeI_free {P : List Nat} (h : takeI P < P.length) : P[takeI P]? = some 0 := by
  unfold takeI at *
  have h2 : ∀ (P : List Nat), (P.takeWhile fun s => decide (s ≠ 0)).length < P.length → P[(P.takeWhile fun s => decide (s ≠ 0)).length]? = some 0 := by
    intro P
    induction P with
    | nil => intro h; cases h
    | cons s P ih =>
      intro h
      by_cases hs : s = 0
      · subst hs; rfl
      · rw [List.takeWhile_cons, decide_eq_true hs] at h ⊢
        simp only [if_true, List.length_cons] at h ⊢
        rw [List.getElem?_cons_succ]
        exact ih (by omega)
  exact h2 P h
theorem takeI_full {P : List Nat} (h : takeI P = P.length) : freeP P = 0 := by
  have h2 : ∀ (P : List Nat), (P.takeWhile fun s => decide (s ≠ 0)).length = P.length → freeP P = 0 := by
    intro P
    induction P with
    | nil => intro _; rfl
    | cons s P ih =>
      intro h
      by_cases hs : s = 0
      · subst hs; simp at h
      · rw [List.takeWhile_cons, decide_eq_true hs] at h
        simp only [if_true, List.length_cons] at h
        unfold freeP
        rw [List.countP_cons, decide_eq_false hs]
        have := ih (by omega)
        unfold freeP at this
        simp [this]
  exact h2 P h
theorem takeI_le (P : List Nat) : takeI P ≤ P.length := (List.takeWhile_prefix (l := P) (fun s => decide (s ≠ 0))).length_le
theorem free_set {P : List Nat} : ∀ {k s : Nat}, P[k]? = some 0 → s ≠ 0 → freeP (P.set k s) + 1 = freeP P := by
  unfold freeP
  induction P with
  | nil => intro k s h; simp at h
  | cons x P ih =>
    intro k s h hs
    cases k with
    | zero =>
      simp only [List.getElem?_cons_zero, Option.some.injEq] at h
      subst h
      rw [List.set_cons_zero, List.countP_cons, List.countP_cons, decide_eq_false hs]; simp
    | succ k =>
      rw [List.set_cons_succ, List.countP_cons, List.countP_cons]
      have := ih (k := k) (s := s) (by simpa using h) hs
      omega
theorem less_left {A : Dev} (h : A.left = -1) : A.less = A := by
  unfold Dev.less
  rw [if_neg (by omega), if_pos h]
/-- What a change does to pages and blocks: it takes t, lets go g. -/
structure CI (fr : Nat) (c0 c : Ch) (t g : List Nat) : Prop where
  tk : c.tk = c0.tk ++ t
  gn : c.gn = c0.gn ++ g
  nd : t.Nodup
  was : ∀ x ∈ t, c0.P[x]? = some 0
  now : ∀ x : Nat, c.P[x]? = if x ∈ t then some 2 else c0.P[x]?
  len : c.P.length = c0.P.length
  blen : c.A.B.length = c0.A.B.length
  blk : ∀ q, (∀ x ∈ t, q ≠ fr + x) → c.A.B.getD q (zeros, []) = c0.A.B.getD q (zeros, [])
  left : c0.A.left = -1 → c.A.left = -1
  free : freeP c.P + t.length = freeP c0.P
section
variable {fr : Nat} {c0 c c1 c2 : Ch} {t t' g g' : List Nat}
theorem CI.refl (fr : Nat) (c : Ch) : CI fr c c [] [] := ⟨by simp, by simp, List.nodup_nil, by simp, by simp, rfl, rfl, fun _ _ => rfl, fun h => h, rfl⟩
theorem CI.trans (h1 : CI fr c0 c1 t g) (h2 : CI fr c1 c2 t' g') : CI fr c0 c2 (t ++ t') (g ++ g') := by
  have hd : ∀ x ∈ t', x ∉ t := fun x h3 h4 => by
    have h5 := h2.was x h3
    rw [h1.now x, if_pos h4] at h5
    cases h5
  refine ⟨by rw [h2.tk, h1.tk, List.append_assoc], by rw [h2.gn, h1.gn, List.append_assoc], ?_, fun x hx => ?_, fun x => ?_, h2.len.trans h1.len, h2.blen.trans h1.blen, fun q hq => ?_, fun h => h2.left (h1.left h), ?_⟩
  · rw [List.nodup_append]
    exact ⟨h1.nd, h2.nd, fun a ha b hb e => hd b hb (e ▸ ha)⟩
  · rcases List.mem_append.1 hx with h | h
    · exact h1.was x h
    · have := h2.was x h
      rwa [h1.now x, if_neg (hd x h)] at this
  · rw [h2.now x, h1.now x]
    by_cases ha : x ∈ t'
    · rw [if_pos ha, if_pos (List.mem_append_right _ ha)]
    · rw [if_neg ha]
      by_cases hb : x ∈ t
      · rw [if_pos hb, if_pos (List.mem_append_left _ hb)]
      · rw [if_neg hb, if_neg (fun h => (List.mem_append.1 h).elim hb ha)]
  · rw [h2.blk q fun x hx => hq x (List.mem_append_right _ hx), h1.blk q fun x hx => hq x (List.mem_append_left _ hx)]
  · have := h1.free; have := h2.free
    rw [List.length_append]; omega
/-- A page is read that goes. -/
theorem CI.gone (fr : Nat) (c : Ch) (p : Nat) : CI fr c { c with gn := c.gn ++ [p] } [] [p] := ⟨by simp, rfl, List.nodup_nil, by simp, by simp, rfl, rfl, fun _ _ => rfl, fun h => h, rfl⟩
/-- Pages that are not free. -/
def Held (P S : List Nat) : Prop := ∀ x ∈ S, ∃ s, P[x]? = some s ∧ s ≠ 0
theorem Held.keep {S : List Nat} (h : Held c0.P S) (h1 : CI fr c0 c t g) : Held c.P S := fun x hx => by
  obtain ⟨s, h2, h3⟩ := h x hx
  rw [h1.now x]
  split
  · exact ⟨2, rfl, by decide⟩
  · exact ⟨s, h2, h3⟩
theorem CI.rd (h1 : CI fr c0 c t g) {S : List Nat} (h : Held c0.P S) : ∀ x ∈ S, RD c.A fr x = RD c0.A fr x := fun x hx => by
  unfold RD
  rw [h1.blk (fr + x) fun y hy e => ?_]
  obtain ⟨s, h2, h3⟩ := h x hx
  have h4 := h1.was y hy
  rw [show y = x by omega, h2] at h4
  exact h3 (Option.some.inj h4)
theorem CI.held (h1 : CI fr c0 c t g) : Held c.P t := fun x hx => ⟨2, by rw [h1.now x, if_pos hx], by decide⟩
theorem Held.lt {P S : List Nat} (h : Held P S) {x : Nat} (hx : x ∈ S) : x < P.length := by
  obtain ⟨s, h2, _⟩ := h x hx
  exact (List.getElem?_eq_some_iff.1 h2).1
theorem CI.apart (h1 : CI fr c0 c t g) {S : List Nat} (h : Held c0.P S) : ∀ x ∈ S, x ∉ t := fun x hx ht => by
  obtain ⟨s, h2, h3⟩ := h x hx
  have h4 := h1.was x ht
  rw [h2] at h4
  exact h3 (Option.some.inj h4)

theorem getD_modify_ne {α : Type} {l : List α} {f : α → α} {i q : Nat} {d : α} (h : q ≠ i) : (l.modify i f).getD q d = l.getD q d := by
  rw [List.getD_eq_getElem?_getD, List.getD_eq_getElem?_getD, List.getElem?_modify]
  simp only [if_neg (fun e : i = q => h e.symm)]
  cases l[q]? <;> rfl
theorem getD_modify_eq {α : Type} {l : List α} {f : α → α} {i : Nat} {d : α} (h : i < l.length) : (l.modify i f).getD i d = f (l.getD i d) := by
  rw [List.getD_eq_getElem?_getD, List.getD_eq_getElem?_getD, List.getElem?_modify, List.getElem?_eq_getElem h]
  simp
/-- A node is written. -/
theorem wr_spec {inner : Bool} {M : List It} (hon : c.A.on = true) (hl : fr + c.P.length ≤ c.A.B.length) (hM : Fits inner M) :
    ((wrC fr c inner M).1 = 7 ∧ (wrC fr c inner M).2 = c ∧ freeP c.P = 0) ∨
    (CI fr c (wrC fr c inner M).2 [takeK c.P] [] ∧
      (((wrC fr c inner M).1 = 0 ∧ (wrC fr c inner M).2.A.on = true ∧ RD (wrC fr c inner M).2.A fr (takeK c.P) = some (inner, M)) ∨ ((wrC fr c inner M).1 = 8 ∧ c.A.left ≠ -1))) := by
  obtain ⟨hs1, hs2, hs3⟩ := hM.seal
  by_cases hf : takeI c.P = c.P.length
  · left
    have h7 : takeE7 c.P = 7 := by unfold takeE7; rw [if_pos hf]
    have h8 : wrC fr c inner M = (7, c) := by unfold wrC; rw [if_pos (by omega), h7]
    rw [h8]
    exact ⟨rfl, rfl, takeI_full hf⟩
  · right
    have hlt : takeI c.P < c.P.length := by have := takeI_le c.P; omega
    have h7 : takeE7 c.P = 0 := by unfold takeE7; rw [if_neg hf]
    have hk : takeK c.P = takeI c.P := by unfold takeK; rw [if_neg hf]
    have hP : takeP' c.P = c.P.set (takeI c.P) 2 := by unfold takeP'; rw [if_neg hf]
    have h0 := takeI_free hlt
    have h8 : wrC fr c inner M = (writeE c.A (((fr + takeI c.P : Nat)) : Int) (nodeB inner M), ⟨writeD c.A (((fr + takeI c.P : Nat)) : Int) (nodeB inner M), c.P.set (takeI c.P) 2, c.tk ++ [takeI c.P], c.gn⟩) := by
      unfold wrC; rw [if_neg (by omega), if_neg (by rw [hs1]; simp), hk, hP]
    have hh : c.A.has (((fr + takeI c.P : Nat)) : Int) = true := by unfold Dev.has; rw [decide_eq_true (by omega), decide_eq_true (by omega)]; rfl
    have hB : ∀ (D : Dev), D.B = c.A.B ∨ D.B = c.A.B.modify (fr + takeI c.P) (fun p => (p.1, p.2 ++ [nodeB inner M])) → (c.A.left = -1 → D.left = -1) → CI fr c ⟨D, c.P.set (takeI c.P) 2, c.tk ++ [takeI c.P], c.gn⟩ [takeI c.P] [] := fun D hD hDl => by
      refine ⟨rfl, by simp, List.nodup_cons.2 ⟨by simp, List.nodup_nil⟩, fun x hx => ?_, fun x => ?_, by simp, ?_, fun q hq => ?_, hDl, ?_⟩
      · rw [List.mem_singleton.1 hx]; exact h0
      · show (c.P.set (takeI c.P) 2)[x]? = _
        by_cases hx : x = takeI c.P
        · subst hx
          rw [if_pos (by simp), List.getElem?_set_self hlt]
        · rw [if_neg (by simpa using hx), List.getElem?_set_ne (fun e => hx e.symm)]
      · show D.B.length = _
        rcases hD with h | h <;> rw [h]
        rw [List.length_modify]
      · show D.B.getD q _ = _
        rcases hD with h | h <;> rw [h]
        exact getD_modify_ne (hq _ (by simp))
      · exact free_set h0 (by decide)
    rw [h8, hk]
    by_cases hg : c.A.goes = true
    · have hw : writeD c.A (((fr + takeI c.P : Nat)) : Int) (nodeB inner M) = c.A.less := by unfold writeD; rw [hon, hh, hs2, hg]; rfl
      have he : writeE c.A (((fr + takeI c.P : Nat)) : Int) (nodeB inner M) = 8 := by unfold writeE; rw [hon, hh, hs2, hg]; rfl
      have hl0 : c.A.left = 0 := by simpa [Dev.goes] using hg
      rw [hw, he]
      exact ⟨hB _ (.inl (less_B _)) fun h => by omega, .inr ⟨rfl, by omega⟩⟩
    · have hg : c.A.goes = false := by simpa using hg
      have hw : writeD c.A (((fr + takeI c.P : Nat)) : Int) (nodeB inner M) = addW c.A.less (fr + takeI c.P) (nodeB inner M) := by unfold writeD; rw [hon, hh, hs2, hg, Int.toNat_natCast]; rfl
      have he : writeE c.A (((fr + takeI c.P : Nat)) : Int) (nodeB inner M) = 0 := by unfold writeE; rw [hon, hh, hs2, hg]; rfl
      have hl0 : ¬ c.A.left = 0 := by simpa [Dev.goes] using hg
      rw [hw, he]
      refine ⟨hB _ (.inr (by show (c.A.less.B).modify _ _ = _; rw [less_B])) fun h => by show c.A.less.left = -1; rw [less_left h]; exact h, .inl ⟨rfl, ?_, ?_⟩⟩
      · show c.A.less.on = true
        unfold Dev.less
        rw [if_neg hl0]
        split <;> exact hon
      · unfold RD
        show parseO (stands ((c.A.less.B.modify (fr + takeI c.P) _).getD (fr + takeI c.P) _)) = _
        rw [less_B, getD_modify_eq (by omega)]
        show parseO ((((c.A.B.getD (fr + takeI c.P) (zeros, [])).2 ++ [nodeB inner M]).getLast?).getD _) = _
        rw [List.getLast?_concat]
        exact hs3
end

end Go.Proofs.YtbkadlngijkmmaaGreatDoor

/- Plain law of the tree: what lies below a page; a node is put. -/
namespace Go.Proofs.YtbkadlngijkmmaaGreatDoor
open Go.GV

def leafI (p : Pr) : It := ⟨p.1, p.2, 0⟩
/-- Items of an inner node, with what lies below each. -/
def Kids (Q : Nat → List Pr → List Nat → Prop) : List It → List Pr → List Nat → Prop
  | [], L, S => L = [] ∧ S = []
  | x :: l, L, S => ∃ L1 L2 S1 S2, L = L1 ++ L2 ∧ S = S1 ++ S2 ∧ Q x.page L1 S1 ∧ L1[0]?.map (·.1) = some x.key ∧ x.val = [] ∧ Kids Q l L2 S2
def Many (i : Bool) (M : List It) : Prop := if i = true then 2 ≤ M.length else M ≠ []
/-- What a node of such a height has: the pairs, the pages below. -/
def Part (R : Nat → Option (Bool × List It)) : Nat → Bool → List It → List Pr → List Nat → Prop
  | 0, i, M, L, S => i = false ∧ M = L.map leafI ∧ S = []
  | h + 1, i, M, L, S => i = true ∧ Kids (fun p L S => ∃ i' M' S', Part R h i' M' L S' ∧ R p = some (i', M') ∧ S = p :: S' ∧ Many i' M' ∧ totalI i' M' ≤ 503) M L S
/-- What lies below a page: the pairs, the pages. -/
def Lies (R : Nat → Option (Bool × List It)) (h : Nat) (p : Nat) (L : List Pr) (S : List Nat) : Prop :=
  ∃ i' M' S', Part R h i' M' L S' ∧ R p = some (i', M') ∧ S = p :: S' ∧ Many i' M' ∧ totalI i' M' ≤ 503
def OkP (L : List Pr) : Prop := ∀ p ∈ L, 1 ≤ p.1.length ∧ p.1.length ≤ 32 ∧ p.2.length ≤ 128
section
variable {R R' : Nat → Option (Bool × List It)} {Q Q' : Nat → List Pr → List Nat → Prop} {h : Nat} {i : Bool} {M l a b : List It} {L : List Pr} {S : List Nat}
theorem Kids_append : Kids Q (a ++ b) L S ↔ ∃ La Lb Sa Sb, L = La ++ Lb ∧ S = Sa ++ Sb ∧ Kids Q a La Sa ∧ Kids Q b Lb Sb := by
  induction a generalizing L S with
  | nil =>
    constructor
    · intro h; exact ⟨[], L, [], S, rfl, rfl, ⟨rfl, rfl⟩, h⟩
    · rintro ⟨La, Lb, Sa, Sb, rfl, rfl, ⟨rfl, rfl⟩, h⟩; exact h
  | cons x a ih =>
    constructor
    · rintro ⟨L1, L2, S1, S2, rfl, rfl, h1, h2, h3, h4⟩
      obtain ⟨La, Lb, Sa, Sb, rfl, rfl, h5, h6⟩ := ih.1 h4
      exact ⟨L1 ++ La, Lb, S1 ++ Sa, Sb, by simp, by simp, ⟨L1, La, S1, Sa, rfl, rfl, h1, h2, h3, h5⟩, h6⟩
    · rintro ⟨La, Lb, Sa, Sb, rfl, rfl, ⟨L1, L2, S1, S2, rfl, rfl, h1, h2, h3, h4⟩, h5⟩
      exact ⟨L1, L2 ++ Lb, S1, S2 ++ Sb, by simp, by simp, h1, h2, h3, ih.2 ⟨L2, Lb, S2, Sb, rfl, rfl, h4, h5⟩⟩
theorem Kids.mono (hk : Kids Q l L S) (hq : ∀ p L' S', (∀ x ∈ S', x ∈ S) → Q p L' S' → Q' p L' S') : Kids Q' l L S := by
  induction l generalizing L S with
  | nil => exact hk
  | cons x l ih =>
    obtain ⟨L1, L2, S1, S2, rfl, rfl, h1, h2, h3, h4⟩ := hk
    exact ⟨L1, L2, S1, S2, rfl, rfl, hq _ _ _ (fun x hx => List.mem_append_left _ hx) h1, h2, h3, ih h4 fun p L' S' hs => hq p L' S' fun x hx => List.mem_append_right _ (hs x hx)⟩
theorem Part.frame : ∀ {h : Nat} {i : Bool} {M : List It} {L : List Pr} {S : List Nat}, Part R h i M L S → (∀ x ∈ S, R' x = R x) → Part R' h i M L S
  | 0, _, _, _, _, hp, _ => hp
  | h + 1, i, M, L, S, hp, hr => ⟨hp.1, hp.2.mono fun p L' S' hs ⟨i', M', S2, h1, h2, h3, h4⟩ => ⟨i', M', S2, h1.frame fun x hx => hr x (hs x (by rw [h3]; exact List.mem_cons_of_mem _ hx)), by rw [hr p (hs p (by rw [h3]; exact List.mem_cons_self ..))]; exact h2, h3, h4⟩⟩
theorem Lies.frame {p : Nat} (hp : Lies R h p L S) (hr : ∀ x ∈ S, R' x = R x) : Lies R' h p L S := by
  obtain ⟨i', M', S2, h1, h2, h3, h4⟩ := hp
  exact ⟨i', M', S2, h1.frame fun x hx => hr x (by rw [h3]; exact List.mem_cons_of_mem _ hx), by rw [hr p (by rw [h3]; exact List.mem_cons_self ..)]; exact h2, h3, h4⟩
theorem Kids.frame (hk : Kids (Lies R h) l L S) (hr : ∀ x ∈ S, R' x = R x) : Kids (Lies R' h) l L S :=
  hk.mono fun _ _ _ hs hq => hq.frame fun x hx => hr x (hs x hx)
theorem Lies.page {p : Nat} (hp : Lies R h p L S) : p ∈ S := by
  obtain ⟨i', M', S2, h1, h2, h3, h4⟩ := hp
  rw [h3]; exact List.mem_cons_self ..
theorem Kids.ne (hk : Kids Q l L S) (hl : l ≠ []) : L ≠ [] := by
  cases l with
  | nil => exact absurd rfl hl
  | cons x l =>
    obtain ⟨L1, L2, S1, S2, rfl, rfl, h1, h2, h3, h4⟩ := hk
    cases L1 with
    | nil => cases h2
    | cons y L1 => simp
theorem Many.ne (h : Many i M) : M ≠ [] := by
  unfold Many at h
  split at h
  · intro e; rw [e] at h; simp at h
  · exact h
theorem Part.ne (hp : Part R h i M L S) (hm : M ≠ []) : L ≠ [] := by
  cases h with
  | zero => obtain ⟨_, rfl, _⟩ := hp; exact fun e => hm (by rw [e]; rfl)
  | succ h => exact hp.2.ne hm
theorem Lies.ne {p : Nat} (hp : Lies R h p L S) : L ≠ [] := by
  obtain ⟨i', M', S2, h1, h2, h3, h4, h5⟩ := hp
  exact h1.ne h4.ne
theorem Kids.items (hk : Kids (Lies R h) l L S) (ho : OkP L) : ∀ x ∈ l, x.val = [] ∧ x.key.length ≤ 32 ∧ x.page ∈ S := by
  induction l generalizing L S with
  | nil => intro x hx; cases hx
  | cons y l ih =>
    obtain ⟨L1, L2, S1, S2, rfl, rfl, h1, h2, h3, h4⟩ := hk
    intro x hx
    rcases List.mem_cons.1 hx with rfl | hx
    · refine ⟨h3, ?_, List.mem_append_left _ h1.page⟩
      cases L1 with
      | nil => cases h2
      | cons z L1 =>
        simp only [List.getElem?_cons_zero, Option.map_some, Option.some.injEq] at h2
        rw [← h2]
        exact (ho z (by simp)).2.1
    · have := ih h4 (fun p hp => ho p (List.mem_append_right _ hp)) x hx
      exact ⟨this.1, this.2.1, List.mem_append_right _ this.2.2⟩
theorem Part.ok (hp : Part R h i M L S) (ho : OkP L) {P : List Nat} (hh : Held P S) (hP : P.length ≤ 4096) : ∀ x ∈ M, OkI i x ∧ sizeI i x ≤ 164 ∧ (i = true → sizeI i x ≤ 38) := by
  cases h with
  | zero =>
    obtain ⟨rfl, rfl, _⟩ := hp
    intro x hx
    obtain ⟨p, hp, rfl⟩ := List.mem_map.1 hx
    obtain ⟨h1, h2, h3⟩ := ho p hp
    refine ⟨⟨?_, ?_, by show (0 : Nat) < _; omega, by simp [leafI]⟩, ?_, fun h => by cases h⟩
    · show p.1.length < _; omega
    · show p.2.length < _; omega
    · show 4 + p.1.length + p.2.length ≤ _; omega
  | succ h =>
    obtain ⟨rfl, hk⟩ := hp
    intro x hx
    obtain ⟨h1, h2, h3⟩ := Kids.items hk ho x hx
    have := hh.lt h3
    have h38 : sizeI true x ≤ 38 := by show 6 + x.key.length ≤ 38; omega
    refine ⟨⟨by omega, by rw [h1]; simp, by omega, by simp [h1]⟩, by omega, fun _ => h38⟩
theorem Part.key (hp : Part R h i M L S) (hm : M ≠ []) : L[0]?.map (·.1) = some (keyOf0 M) := by
  cases h with
  | zero =>
    obtain ⟨rfl, rfl, _⟩ := hp
    cases L with
    | nil => exact absurd rfl hm
    | cons p L => rfl
  | succ h =>
    obtain ⟨rfl, hk⟩ := hp
    cases M with
    | nil => exact absurd rfl hm
    | cons x M =>
      obtain ⟨L1, L2, S1, S2, rfl, rfl, h1, h2, h3, h4⟩ := hk
      cases L1 with
      | nil => cases h2
      | cons y L1 => exact h2
theorem Part.append (h1 : Part R h i (a ++ b) L S) : ∃ La Lb Sa Sb, L = La ++ Lb ∧ S = Sa ++ Sb ∧ Part R h i a La Sa ∧ Part R h i b Lb Sb := by
  cases h with
  | zero =>
    obtain ⟨rfl, he, rfl⟩ := h1
    obtain ⟨La, Lb, rfl, ha, hb⟩ := List.append_eq_map_iff.1 he
    exact ⟨La, Lb, [], [], rfl, rfl, ⟨rfl, ha.symm, rfl⟩, ⟨rfl, hb.symm, rfl⟩⟩
  | succ h =>
    obtain ⟨La, Lb, Sa, Sb, e1, e2, ha, hb⟩ := Kids_append.1 h1.2
    exact ⟨La, Lb, Sa, Sb, e1, e2, ⟨h1.1, ha⟩, ⟨h1.1, hb⟩⟩
end

/-! ### Halves -/
theorem half_le {inner : Bool} {half m : Nat} : ∀ {l : List It} {sum : Nat}, (∀ x ∈ l, sizeI inner x ≤ m) → sum < half + m → sum + totalI inner (l.take (halfG inner half l sum)) < half + m
  | [], sum, _, h => by simpa [halfG, totalI] using h
  | x :: l, sum, hl, h => by
    rw [halfG]
    split
    · rename_i h1
      rw [List.take_succ_cons, totalI_cons, ← Nat.add_assoc]
      exact half_le (fun y hy => hl y (List.mem_cons_of_mem _ hy)) (by have := hl x (List.mem_cons_self ..); omega)
    · simpa [totalI] using h
theorem half_ge {inner : Bool} {half : Nat} : ∀ {l : List It} {sum : Nat}, half ≤ sum + totalI inner l → half ≤ sum + totalI inner (l.take (halfG inner half l sum))
  | [], sum, h => by simpa [halfG, totalI] using h
  | x :: l, sum, h => by
    rw [halfG]
    split
    · rename_i h1
      rw [List.take_succ_cons, totalI_cons, ← Nat.add_assoc]
      exact half_ge (by rw [totalI_cons] at h; omega)
    · rename_i h1; rw [List.take_zero]; show half ≤ sum + 0; omega
theorem total_max {inner : Bool} {m : Nat} : ∀ {l : List It}, (∀ x ∈ l, sizeI inner x ≤ m) → totalI inner l ≤ m * l.length
  | [], _ => Nat.zero_le _
  | x :: l, h => by
    have h1 := total_max (l := l) fun y hy => h y (List.mem_cons_of_mem _ hy)
    have h2 := h x (List.mem_cons_self ..)
    rw [totalI_cons, List.length_cons, Nat.mul_succ]; omega
theorem halves_spec {i : Bool} {M : List It} (hM : Many i M) (hT : totalI i M ≤ 667) (hs : ∀ x ∈ M, sizeI i x ≤ 164 ∧ (i = true → sizeI i x ≤ 38)) :
    (totalI i M ≤ 503 ∧ halvesN i M = [M]) ∨ (∃ a b, M = a ++ b ∧ halvesN i M = [a, b] ∧ Many i a ∧ Many i b ∧ totalI i a ≤ 503 ∧ totalI i b ≤ 503) := by
  unfold halvesN
  by_cases h1 : totalI i M ≤ 503
  · left; rw [if_pos h1]; exact ⟨h1, rfl⟩
  · right
    rw [if_neg h1]
    refine ⟨M.take (halfK i M), M.drop (halfK i M), (List.take_append_drop ..).symm, rfl, ?_⟩
    have hsum := totalI_append i (M.take (halfK i M)) (M.drop (halfK i M))
    rw [List.take_append_drop] at hsum
    have hge : totalI i M / 2 ≤ totalI i (M.take (halfK i M)) := by
      have := half_ge (inner := i) (half := totalI i M / 2) (l := M) (sum := 0) (by omega)
      rw [Nat.zero_add] at this; exact this
    have hlt : totalI i (M.take (halfK i M)) < totalI i M / 2 + 164 := by
      have := half_le (inner := i) (half := totalI i M / 2) (m := 164) (l := M) (sum := 0) (fun x hx => (hs x hx).1) (by omega)
      rw [Nat.zero_add] at this; exact this
    cases i with
    | false =>
      refine ⟨?_, ?_, by omega, by omega⟩
      · show _ ≠ []
        intro e; have e0 : totalI false (M.take (halfK false M)) = 0 := (by rw [e]; rfl); omega
      · show _ ≠ []
        intro e; have e0 : totalI false (M.drop (halfK false M)) = 0 := (by rw [e]; rfl); omega
    | true =>
      have hlt : totalI true (M.take (halfK true M)) < totalI true M / 2 + 38 := by
        have := half_le (inner := true) (half := totalI true M / 2) (m := 38) (l := M) (sum := 0) (fun x hx => (hs x hx).2 rfl) (by omega)
        rw [Nat.zero_add] at this; exact this
      have ha := total_max (inner := true) (m := 38) (l := M.take (halfK true M)) fun x hx => (hs x (List.mem_of_mem_take hx)).2 rfl
      have hb := total_max (inner := true) (m := 38) (l := M.drop (halfK true M)) fun x hx => (hs x (List.mem_of_mem_drop hx)).2 rfl
      refine ⟨?_, ?_, by omega, by omega⟩
      · show 2 ≤ _
        rcases Nat.lt_or_ge (M.take (halfK true M)).length 2 with h5 | h5
        · have : 38 * (M.take (halfK true M)).length ≤ 38 * 1 := Nat.mul_le_mul_left _ (by omega)
          omega
        · exact h5
      · show 2 ≤ _
        rcases Nat.lt_or_ge (M.drop (halfK true M)).length 2 with h5 | h5
        · have : 38 * (M.drop (halfK true M)).length ≤ 38 * 1 := Nat.mul_le_mul_left _ (by omega)
          omega
        · exact h5

/-! ### A node is written, a node is put -/
/-- Power that goes, pages that are full. -/
def Bad (c : Ch) (e : Int) (m : Nat) : Prop := (e = 8 ∧ c.A.left ≠ -1) ∨ (e = 7 ∧ freeP c.P < m)
theorem Bad.ne {c : Ch} {e : Int} {m : Nat} (h : Bad c e m) : e ≠ 0 := by
  rcases h with ⟨h, _⟩ | ⟨h, _⟩ <;> omega
theorem Bad.back {c c1 : Ch} {fr : Nat} {t g : List Nat} {e : Int} {m m' : Nat} (h : Bad c1 e m) (h1 : CI fr c c1 t g) (hm : m + t.length ≤ m') : Bad c e m' := by
  rcases h with ⟨h, h2⟩ | ⟨h, h2⟩
  · exact .inl ⟨h, fun h3 => h2 (h1.left h3)⟩
  · exact .inr ⟨h, by have := h1.free; omega⟩
theorem Bad.mono {c : Ch} {e : Int} {m m' : Nat} (h : Bad c e m) (hm : m ≤ m') : Bad c e m' := h.imp id fun h => ⟨h.1, by omega⟩
/-- The device is on, and has the pages. -/
structure On (fr : Nat) (c : Ch) : Prop where
  on : c.A.on = true
  has : fr + c.P.length ≤ c.A.B.length
  few : c.P.length ≤ 4096
theorem On.keep {fr : Nat} {c c1 : Ch} {t g : List Nat} (h : On fr c) (h1 : CI fr c c1 t g) (hon : c1.A.on = true) : On fr c1 :=
  ⟨hon, by rw [h1.len, h1.blen]; exact h.has, by rw [h1.len]; exact h.few⟩
theorem part_wr {fr : Nat} {c : Ch} {h : Nat} {i : Bool} {M : List It} {L : List Pr} {S : List Nat} (hp : Part (RD c.A fr) h i M L S) (ho : OkP L) (hh : Held c.P S) (hn : On fr c) (hm : Many i M) (ht : totalI i M ≤ 503) :
    ∃ t, CI fr c (wrC fr c i M).2 t [] ∧ t.length ≤ 1 ∧
      (((wrC fr c i M).1 = 0 ∧ t = [takeK c.P] ∧ On fr (wrC fr c i M).2 ∧ Lies (RD (wrC fr c i M).2.A fr) h (takeK c.P) L (takeK c.P :: S) ∧ L[0]?.map (·.1) = some (keyOf0 M)) ∨ Bad c (wrC fr c i M).1 1) := by
  have hM : Fits i M := ⟨hm.ne, fun x hx => (hp.ok ho hh hn.few x hx).1, ht⟩
  rcases wr_spec hn.on hn.has hM with ⟨h1, h2, h3⟩ | ⟨h1, h2⟩
  · exact ⟨[], by rw [h2]; exact CI.refl _ _, by simp, .inr (.inr ⟨h1, by omega⟩)⟩
  · refine ⟨_, h1, by simp, ?_⟩
    rcases h2 with ⟨h3, h4, h5⟩ | ⟨h3, h4⟩
    · exact .inl ⟨h3, rfl, hn.keep h1 h4, ⟨i, M, S, hp.frame (h1.rd hh), h5, rfl, hm, ht⟩, hp.key hm.ne⟩
    · exact .inr (.inl ⟨h3, h4⟩)
/-- May a node be put? -/
def okM (i : Bool) (M : List It) : Bool := decide (M.length ≤ 1000) && (M.all (fun x => decide (x.key.length ≤ 65535) && (decide (x.val.length ≤ 65535) && decide (x.page < 9223372036854775808))) && (decide (M = []) || (halvesN i M).all fun h => decide (h ≠ [])))
def putS (fr : Nat) (c : Ch) (i : Bool) (M : List It) : Int × Ch × List It := bif okM i M then putC fr c i M else (99, c, [])
theorem size_ge (i : Bool) (x : It) : 4 ≤ sizeI i x := by
  cases i
  · simp only [sizeI, cond_false]; omega
  · simp only [sizeI, cond_true]; omega
theorem total_ge (i : Bool) : ∀ l : List It, 4 * l.length ≤ totalI i l
  | [] => Nat.zero_le _
  | x :: l => by
    have := size_ge i x; have := total_ge i l
    rw [totalI_cons, List.length_cons]; omega
theorem putS_ok {fr : Nat} {c : Ch} {h : Nat} {i : Bool} {M : List It} {L : List Pr} {S : List Nat} (hp : Part (RD c.A fr) h i M L S) (ho : OkP L) (hh : Held c.P S) (hn : On fr c) (hm : M = [] ∨ Many i M) (hT : totalI i M ≤ 667) : putS fr c i M = putC fr c i M := by
  have hx := hp.ok ho hh hn.few
  have hge := total_ge i M
  unfold putS
  have : okM i M = true := by
    unfold okM
    simp only [Bool.and_eq_true, Bool.or_eq_true, decide_eq_true_eq, List.all_eq_true]
    refine ⟨by omega, fun x hx' => ?_, ?_⟩
    · obtain ⟨⟨h1, h2, h3, _⟩, _⟩ := hx x hx'
      omega
    · rcases hm with rfl | hm
      · exact .inl rfl
      · refine .inr fun a ha => ?_
        rcases halves_spec hm hT fun x h => (hx x h).2 with ⟨_, h2⟩ | ⟨a', b', _, h2, h3, h4, _⟩
        · rw [h2, List.mem_singleton] at ha
          rw [ha]; exact hm.ne
        · rw [h2] at ha
          simp only [List.mem_cons, List.not_mem_nil, or_false] at ha
          rcases ha with rfl | rfl
          · exact h3.ne
          · exact h4.ne
  rw [this]; rfl

end Go.Proofs.YtbkadlngijkmmaaGreatDoor

/- Plain law of the tree: a node is put. -/
namespace Go.Proofs.YtbkadlngijkmmaaGreatDoor
open Go.GV

theorem putC_nil (fr : Nat) (c : Ch) (i : Bool) : putC fr c i [] = (0, c, []) := rfl
theorem putC_cons {fr : Nat} {c : Ch} {i : Bool} {M : List It} (h : M ≠ []) : putC fr c i M = putF fr i (halvesN i M) c [] := by
  unfold putC; rw [if_neg h]
theorem perm_front {a b c d : List Nat} : ((a ++ b) ++ (c ++ d)).Perm ((a ++ c) ++ (b ++ d)) := by
  rw [List.append_assoc, List.append_assoc]
  refine List.Perm.append_left a ?_
  rw [← List.append_assoc, ← List.append_assoc]
  exact List.Perm.append_right d List.perm_append_comm
theorem Held.app {P S S' : List Nat} (h : Held P S) (h' : Held P S') : Held P (S ++ S') := fun x hx => (List.mem_append.1 hx).elim (h x) (h' x)
theorem Held.sub {P S S' : List Nat} (h : Held P S) (hs : ∀ x ∈ S', x ∈ S) : Held P S' := fun x hx => h x (hs x hx)
/-- What a put leaves. -/
structure Puts (fr h : Nat) (c : Ch) (M : List It) (L : List Pr) (S t : List Nat) (r : Int × Ch × List It) : Prop where
  ok : r.1 = 0
  on : On fr r.2.1
  kids : ∃ S', Kids (Lies (RD r.2.1.A fr) h) r.2.2 L S' ∧ S'.Perm (S ++ t) ∧ Held r.2.1.P S'
  num : r.2.2.length ≤ 2
  ne : M ≠ [] → r.2.2 ≠ []
theorem put_spec {fr : Nat} {c : Ch} {h : Nat} {i : Bool} {M : List It} {L : List Pr} {S : List Nat} (hp : Part (RD c.A fr) h i M L S) (ho : OkP L) (hh : Held c.P S) (hn : On fr c) (hm : (M = [] ∧ h = 0) ∨ Many i M) (hT : totalI i M ≤ 667) :
    ∃ t, CI fr c (putS fr c i M).2.1 t [] ∧ t.length ≤ 2 ∧ (Puts fr h c M L S t (putS fr c i M) ∨ Bad c (putS fr c i M).1 2) := by
  rw [putS_ok hp ho hh hn (hm.imp And.left id) hT]
  rcases hm with ⟨rfl, rfl⟩ | hm
  · obtain ⟨rfl, he, rfl⟩ := hp
    have hL : L = [] := by
      cases L with
      | nil => rfl
      | cons _ _ => cases he
    subst hL
    rw [putC_nil]
    exact ⟨[], CI.refl _ _, by simp, .inl ⟨rfl, hn, ⟨[], ⟨rfl, rfl⟩, by simp, fun x hx => by cases hx⟩, by simp, fun h => absurd rfl h⟩⟩
  · rw [putC_cons hm.ne]
    have hx := hp.ok ho hh hn.few
    rcases halves_spec hm hT fun x h => (hx x h).2 with ⟨h1, h2⟩ | ⟨a, b, rfl, h2, h3, h4, h5, h6⟩
    · rw [h2]
      obtain ⟨t, w1, w2, w3⟩ := part_wr hp ho hh hn hm h1
      refine ⟨t, ?_, by omega, ?_⟩
      · unfold putF
        split
        · exact w1
        · exact w1
      · rcases w3 with ⟨h7, rfl, h8, h9, h10⟩ | h7
        · left
          unfold putF
          rw [if_pos h7]
          refine ⟨rfl, h8, ⟨takeK c.P :: S, ?_, ?_, ?_⟩, by simp [putF], fun _ => by simp [putF]⟩
          · show Kids _ [_] _ _
            exact ⟨L, [], takeK c.P :: S, [], by simp, by simp, h9, h10, rfl, rfl, rfl⟩
          · exact (List.perm_append_comm (l₁ := S) (l₂ := [takeK c.P])).symm
          · exact (w1.held.app (hh.keep w1))
        · right
          unfold putF
          rw [if_neg h7.ne]
          exact h7.mono (by omega)
    · rw [h2]
      obtain ⟨La, Lb, Sa, Sb, rfl, rfl, pa, pb⟩ := hp.append
      have hoa : OkP La := fun p hp => ho p (List.mem_append_left _ hp)
      have hob : OkP Lb := fun p hp => ho p (List.mem_append_right _ hp)
      have hha : Held c.P Sa := hh.sub fun x hx => List.mem_append_left _ hx
      have hhb : Held c.P Sb := hh.sub fun x hx => List.mem_append_right _ hx
      obtain ⟨t, w1, w2, w3⟩ := part_wr pa hoa hha hn h3 h5
      rcases w3 with ⟨h7, rfl, h8, h9, h10⟩ | h7
      · obtain ⟨t', v1, v2, v3⟩ := part_wr (pb.frame (w1.rd hhb)) hob (hhb.keep w1) h8 h4 h6
        have hCI := w1.trans v1
        refine ⟨[takeK c.P] ++ t', ?_, ?_, ?_⟩
        · unfold putF
          rw [if_pos h7]
          unfold putF
          split
          · exact hCI
          · exact hCI
        · rw [List.length_append]; omega
        · rcases v3 with ⟨g7, rfl, g8, g9, g10⟩ | g7
          · left
            unfold putF
            rw [if_pos h7]
            unfold putF
            rw [if_pos g7]
            refine ⟨rfl, g8, ⟨(takeK c.P :: Sa) ++ (takeK (wrC fr c i a).2.P :: Sb), ?_, ?_, ?_⟩, by simp [putF], fun _ => by simp [putF]⟩
            · show Kids _ ([_, _]) _ _
              refine ⟨La, Lb, _, _, rfl, rfl, h9.frame (v1.rd (w1.held.app (hha.keep w1))), h10, rfl, ⟨Lb, [], _, [], by simp, by simp, g9, g10, rfl, rfl, rfl⟩⟩
            · show (([takeK c.P] ++ Sa) ++ ([takeK (wrC fr c i a).2.P] ++ Sb)).Perm _
              exact perm_front.trans List.perm_append_comm
            · exact ((w1.held.app (hha.keep w1)).keep v1).app (v1.held.app ((hhb.keep w1).keep v1))
          · right
            unfold putF
            rw [if_pos h7]
            unfold putF
            rw [if_neg g7.ne]
            exact g7.back w1 (by simp)
      · refine ⟨t, ?_, by omega, .inr ?_⟩
        · unfold putF
          rw [if_neg h7.ne]
          exact w1
        · unfold putF
          rw [if_neg h7.ne]
          exact h7.mono (by omega)

end Go.Proofs.YtbkadlngijkmmaaGreatDoor

/- What a change does to a tree, as functions. -/
namespace Go.Proofs.YtbkadlngijkmmaaGreatDoor
open Go.GV

def pageAt (l : List It) (i : Nat) : Nat := (l[i]?.map (·.page)).getD 0
def few1 (inner : Bool) (kid : List It) : Bool := inner && decide (kid.length = 1)
def sideK (i : Nat) : Nat := if i = 0 then 1 else i - 1
/-- A child that is too few goes together with a neighbour: the error, the change, the items, from where, to where. -/
def sideC (fr : Nat) (c : Ch) (l : List It) (i depth : Nat) (inner : Bool) (kid : List It) : Int × Ch × List It × Nat × Nat :=
  if few1 inner kid = true then
    (if l.length ≤ sideK i then (9, c, [], 0, 0)
     else match (readT c.A fr c.P.length ((pageAt l (sideK i) : Nat) : Int) ((depth + 1 : Nat) : Int)).2 with
       | none => ((readT c.A fr c.P.length ((pageAt l (sideK i) : Nat) : Int) ((depth + 1 : Nat) : Int)).1, c, [], 0, 0)
       | some (false, _) => (9, rdC fr c (pageAt l (sideK i)) (depth + 1), [], 0, 0)
       | some (true, o) => (0, rdC fr c (pageAt l (sideK i)) (depth + 1), if i = 0 then kid ++ o else o ++ kid, i - 1, if i = 0 then 2 else i + 1))
  else (0, c, kid, i, i + 1)
/-- What a page's node has, once something is done below it. -/
def editC (fr : Nat) (G : List It → List It) (key : Byt) : Nat → Ch → Nat → Nat → Int × Ch × Bool × List It
  | 0, c, _, _ => (9, c, false, [])
  | n + 1, c, page, depth => match (readT c.A fr c.P.length (page : Int) (depth : Int)).2 with
    | none => ((readT c.A fr c.P.length (page : Int) (depth : Int)).1, c, false, [])
    | some (false, l) => (0, rdC fr c page depth, false, G l)
    | some (true, l) =>
      let r := editC fr G key n (rdC fr c page depth) (pageAt l (belowN l key)) (depth + 1)
      if r.1 ≠ 0 then (r.1, r.2.1, true, []) else
      let s := sideC fr r.2.1 l (belowN l key) depth r.2.2.1 r.2.2.2
      if s.1 ≠ 0 then (s.1, s.2.1, true, []) else
      let q := putS fr s.2.1 r.2.2.1 s.2.2.1
      (q.1, q.2.1, true, l.take s.2.2.2.1 ++ (q.2.2 ++ l.drop s.2.2.2.2))
/-- The root of what the uppermost node has. -/
def topC (fr : Nat) (c : Ch) (inner : Bool) (M : List It) : Int × Ch × Int :=
  if few1 inner M = true then (0, c, (pageAt M 0 : Int))
  else if (putS fr c inner M).1 ≠ 0 then ((putS fr c inner M).1, (putS fr c inner M).2.1, -1)
  else if (putS fr c inner M).2.2 = [] then (0, (putS fr c inner M).2.1, -1)
  else if 1 < (putS fr c inner M).2.2.length then
    ((wrC fr (putS fr c inner M).2.1 true (putS fr c inner M).2.2).1, (wrC fr (putS fr c inner M).2.1 true (putS fr c inner M).2.2).2, (takeK (putS fr c inner M).2.1.P : Int))
  else (0, (putS fr c inner M).2.1, (pageAt (putS fr c inner M).2.2 0 : Int))
def overC (c : Ch) (e : Int) : Ch := { c with P := (if e ≠ 0 then c.tk else c.gn).foldl dropP c.P }
/-- Something is done to the leaf of a root: the error, the root, the change. -/
def turnC (fr : Nat) (A : Dev) (P : List Nat) (root : Int) (key : Byt) (G : List It → List It) : Int × Int × Ch :=
  let ed := if root = -1 then (0, ⟨A, P, [], []⟩, false, G []) else editC fr G key 18 ⟨A, P, [], []⟩ root.toNat 0
  if ed.1 ≠ 0 then (ed.1, root, overC ed.2.1 ed.1)
  else
    let t := topC fr ed.2.1 ed.2.2.1 ed.2.2.2
    if t.1 ≠ 0 then (t.1, root, overC t.2.1 t.1) else (0, t.2.2, overC t.2.1 0)
/-- A leaf's items with a pair put; with one cut. -/
def insI (key val : Byt) (l : List It) : List It :=
  if placeB l key = true then l.take (placeN l key) ++ ([⟨key, val, 0⟩] ++ l.drop (placeN l key + 1)) else l.take (placeN l key) ++ ([⟨key, val, 0⟩] ++ l.drop (placeN l key))
def delI (key : Byt) (l : List It) : List It :=
  if placeB l key = true then l.take (placeN l key) ++ l.drop (placeN l key + 1) else l
def putT (fr : Nat) (A : Dev) (P : List Nat) (root : Int) (key val : Byt) : Int × Int × Dev × List Nat :=
  if mayE P.length root ≠ 0 then (1, root, A, P)
  else if rightK key.length val.length = true then
    ((turnC fr A P root key (insI key val)).1, (turnC fr A P root key (insI key val)).2.1, (turnC fr A P root key (insI key val)).2.2.A, (turnC fr A P root key (insI key val)).2.2.P)
  else (1, root, A, P)
def cutT (fr : Nat) (A : Dev) (P : List Nat) (root : Int) (key : Byt) : Int × Int × Bool × Dev × List Nat :=
  if (getT A fr P.length root key).1 ≠ 0 then ((getT A fr P.length root key).1, root, false, A, P)
  else if (getT A fr P.length root key).2.isSome = false then (0, root, false, A, P)
  else ((turnC fr A P root key (delI key)).1, (turnC fr A P root key (delI key)).2.1, decide ((turnC fr A P root key (delI key)).1 = 0), (turnC fr A P root key (delI key)).2.2.A, (turnC fr A P root key (delI key)).2.2.P)

end Go.Proofs.YtbkadlngijkmmaaGreatDoor

/- A change is over: pages are dropped. -/
namespace Go.Proofs.YtbkadlngijkmmaaGreatDoor
open Go.GV
theorem ag_33_TrR : aggB Tryz.prog 33 = some false := by kernel_rfl
theorem ag_34_TrR : aggB Tryz.prog 34 = some false := by kernel_rfl
theorem ca_136_TrR : callable Tryz.prog 136 = true := by kernel_rfl
theorem ca_181_TrR : callable Tryz.prog 181 = true := by kernel_rfl
theorem fo_135_0_TrR : fieldO Tryz.prog 135 0 = some 0 := by kernel_rfl
theorem fo_135_1_TrR : fieldO Tryz.prog 135 1 = some 1 := by kernel_rfl
theorem fo_135_2_TrR : fieldO Tryz.prog 135 2 = some 2 := by kernel_rfl
theorem fo_146_1_TrR : fieldO Tryz.prog 146 1 = some 1 := by kernel_rfl
attribute [local irreducible] Wops W Wq Wt

theorem pdrop0_ok {w : World} {bp ba : Nat} {P : List Nat} (h : PgAt w bp ba P) (k : Nat) (hk : P.length ≤ k) : Ret Tryz.prog 136 #[ptr bp, .int .i64 (k : Int)] w fun v w' => (∃ e, v = .int .i64 e) ∧ PgAt w' bp ba P ∧ Ext [ba] w w' := by
  obtain ⟨w0, rfl⟩ : ∃ w0, w0 = w := ⟨_, rfl⟩
  have hh : hasP P (k : Int) = false := by unfold hasP; simp; omega
  refine ret_of_W (fn := Tryz.f136) Tryz.func136 rfl [.pointer (some ⟨bp, 0, none⟩), .int .i64 (k : Int)] rfl (by kernel_rfl) ?_
  refine W_rseq ?_
  refine op_assign rfl (.int _ _) rfl ?_
  refine op_nil (at_then ?_)
  refine W_seq ?_
  refine W_rseq ?_
  refine op_move rfl (.pointer _) rfl ?_
  refine op_move rfl (.int _ _) rfl ?_
  refine op_call rfl ca_181_TrR (pmay_ok h (k : Int)) rfl ?_
  rintro v w ⟨rfl, rfl⟩
  rw [hh]
  refine op_assign rfl (.int _ _) rfl ?_
  refine op_nil (at_then ?_)
  refine W_rseq ?_
  refine op_move rfl (.int _ _) rfl ?_
  refine op_neq rfl rfl rfl ?_
  refine op_nil (at_then ?_)
  refine W_cond1 rfl ?_
  refine W_rseq ?_
  refine op_move rfl (.int _ _) rfl ?_
  refine op_assign rfl (.int _ _) rfl ?_
  refine op_nil (at_then ?_)
  refine W_ret (ret_then (leave1 (v := (.int _ _)) rfl rfl rfl ?_))
  exact ⟨⟨_, rfl⟩, h, .refl _ _⟩
theorem pdrop7_ok {w : World} {bp ba : Nat} {P : List Nat} (h : PgAt w bp ba P) (k : Nat) : Ret Tryz.prog 136 #[ptr bp, .int .i64 (k : Int)] w fun v w' => (∃ e, v = .int .i64 e) ∧ PgAt w' bp ba (dropP P k) ∧ Ext [ba] w w' := by
  rcases Nat.lt_or_ge k P.length with hk | hk
  · exact pdrop_ok h k hk
  · have : dropP P k = P := by
      have hn : P[k]? = none := List.getElem?_eq_none hk
      unfold dropP; rw [hn, if_neg (by simp), if_neg (by simp)]
    rw [this]
    exact pdrop0_ok h k hk
theorem pv_rd {w : World} {a : Option Addr} {n c t : Nat} {full : List Value} {l : List Nat} (h : OS a n c 1 full (l.map pv)) (hb : ∀ x ∈ ent a t full, w.heap[x.1]? = some x.2) : Rd w a 1 (fun k => [pv k]) l :=
  OS.rd (by rw [flat1]; exact h) hb (by simp) (by omega)

set_option maxRecDepth 20000 in
set_option maxHeartbeats 4000000 in
theorem over_ok7 {w : World} {bt bd bp ba fr bc : Nat} {c : Ch} {F : Mut} {L : List (Nat × Obj)} (X : Cx w bt bd bp ba fr bc c F L) (e : Int) (htk : c.tk.length ≤ 1000000) (hgn : c.gn.length ≤ 1000000) :
    Ret Tryz.prog 78 #[ptr bc, .int .i64 e] w fun v w' => v = .tuple #[] ∧ Cx w' bt bd bp ba fr bc (overC c e) F L ∧ Grown (TM F ba bt bp L) (TM F ba bt bp L) w w' := by
  obtain ⟨w0, rfl⟩ : ∃ w0, w0 = w := ⟨_, rfl⟩
  obtain ⟨T, ta, tc, tf, ga, gc, gf, rfl, Ot, Og⟩ := X
  have H := T.ctx
  have Rt := pv_rd Ot (fun y hy => T.blk y (List.mem_cons_of_mem _ (List.mem_append_left _ hy)))
  have Rg := pv_rd Og (fun y hy => T.blk y (List.mem_cons_of_mem _ (List.mem_append_right _ hy)))
  refine ret_of_W (fn := Tryz.f78) Tryz.func78 rfl [.pointer (some ⟨bc, 0, none⟩), .int .i64 e] rfl (by kernel_rfl) ?_
  refine W_seq ?_
  refine W_rseq ?_
  refine op_move rfl (.int _ _) rfl ?_
  refine op_neq rfl rfl rfl ?_
  refine op_nil (at_then ?_)
  refine W_cond _ rfl ?_ ?_
  · intro h1
    replace h1 := ndec_t h1
    refine W_seq ?_
    refine W_rseq ?_
    refine op_move rfl (.pointer _) rfl ?_
    refine op_nilCheck rfl rfl ?_
    refine op_fieldAddr rfl fo_135_1_TrR rfl ?_
    refine op_ldb rfl ag_57 rfl H (by first | exact at0 | exact at1 | exact at2 | exact at3 | exact at4 | exact at5 | exact at6 | exact at7 | exact at8 | exact at9) rfl ?_
    refine op_len rfl el_57 rfl ?_
    refine op_move rfl (.int _ _) rfl ?_
    refine op_nil (at_then ?_)
    refine W_block ?_
    refine W_loop 536838176 (α := Nat) (fun i => [(15, .int .i64 (i : Int))]) (fun i w' => i ≤ c.tk.length ∧ Tx w' bt bd bp ba fr c.A ((c.tk.take i).foldl dropP c.P) F (CL bt bc ta c.tk.length tc tf ga c.gn.length gc gf) ∧ Grown (TM F ba bt bp (CL bt bc ta c.tk.length tc tf ga c.gn.length gc gf)) (TM F ba bt bp (CL bt bc ta c.tk.length tc tf ga c.gn.length gc gf)) w0 w') (fun i => c.tk.length - i) 0 rfl ?_ ?_ ?_
    · exact ⟨rfl, trivial⟩
    · exact ⟨Nat.zero_le _, T, .call0 (.refl _ _)⟩
    · rintro i j w ⟨hi, T1, G1⟩
      have H := T1.ctx
      have R1 := pv_rd Ot (fun y hy => T1.blk y (List.mem_cons_of_mem _ (List.mem_append_left _ hy)))
      refine W_rseq ?_
      refine op_lss rfl rfl rfl ?_
      refine op_nil (at_then ?_)
      refine W_seq ?_
      refine W_cond _ rfl ?_ ?_
      · intro h2
        replace h2 := dec_t h2
        obtain ⟨k, hk⟩ := get_some (l := c.tk) (i := i) (by omega)
        refine W_skip (at_then ?_)
        refine W_seq ?_
        refine W_block ?_
        refine W_rseq ?_
        first | refine op_indexRd R1 rfl el_57 sz_3 rfl rfl (by omega) (by omega) (by first | rfl | omega) ?_ | refine op_indexAddr rfl el_57 sz_3 rfl rfl (by omega) (by omega) ?_
        first | refine op_ldb rfl ag_3 rfl H (by first | exact at0 | exact at1 | exact at2 | exact at3 | exact at4 | exact at5 | exact at6 | exact at7 | exact at8 | exact at9) rfl ?_ | refine op_ld rfl ag_3 rfl (R1.fld hk rfl (j := 0) rfl) ?_ | refine op_ld rfl ag_3 rfl (cell_bl T1.tr (0 + 1)) ?_
        refine op_assign rfl (.int _ _) rfl ?_
        refine op_nil (at_then ?_)
        refine W_region ?_
        refine op_move rfl (.pointer _) rfl ?_
        refine op_nilCheck rfl rfl ?_
        refine op_fieldAddr rfl fo_135_0_TrR rfl ?_
        first | refine op_ldb rfl ag_34_TrR rfl H (by first | exact at0 | exact at1 | exact at2 | exact at3 | exact at4 | exact at5 | exact at6 | exact at7 | exact at8 | exact at9) rfl ?_ | refine op_ld rfl ag_34_TrR rfl (R1.fld hk rfl (j := 0) rfl) ?_ | refine op_ld rfl ag_34_TrR rfl (cell_bl T1.tr (0 + 1)) ?_
        refine op_nilCheck rfl rfl ?_
        refine op_fieldAddr rfl fo_146_1_TrR rfl ?_
        first | refine op_ldb rfl ag_33_TrR rfl H (by first | exact at0 | exact at1 | exact at2 | exact at3 | exact at4 | exact at5 | exact at6 | exact at7 | exact at8 | exact at9) rfl ?_ | refine op_ld rfl ag_33_TrR rfl (R1.fld hk rfl (j := 0) rfl) ?_ | refine op_ld rfl ag_33_TrR rfl (cell_bl T1.tr (0 + 1)) ?_
        refine op_move rfl (.int _ _) rfl ?_
        refine op_call rfl ca_136_TrR (pdrop7_ok T1.pg k) rfl ?_
        rintro v w2 ⟨⟨ev, rfl⟩, hp, hx⟩
        obtain ⟨T2, G2⟩ := T1.page hp hx
        refine op_nil (at_block (at_then ?_))
        refine W_region ?_
        refine op_add_i64 rfl rfl rfl (by omega) (by omega) ?_
        refine op_move rfl (.int _ _) rfl ?_
        refine op_nil (at_then ?_)
        exact ⟨i + 1, rfl, ⟨rfl, trivial⟩, ⟨by omega, by rw [take_snoc hk, List.foldl_append]; exact T2, G1.trans G2⟩, by omega⟩
      · intro h2
        replace h2 := dec_f h2
        have hii : i = c.tk.length := by omega
        subst hii
        rw [List.take_length] at T1
        refine W_exit (exit_then (exit_then (exit_here (at_then ?_))))
        refine W_ret (ret_then (leave0 rfl rfl ?_))
        refine ⟨rfl, ⟨?_, ta, tc, tf, ga, gc, gf, rfl, Ot, Og⟩, G1⟩
        unfold overC
        rw [if_pos h1]
        exact T1
  · intro h1
    replace h1 := ndec_f h1
    refine W_skip (at_then ?_)
    refine W_rseq ?_
    refine op_move rfl (.pointer _) rfl ?_
    refine op_nilCheck rfl rfl ?_
    refine op_fieldAddr rfl fo_135_2_TrR rfl ?_
    refine op_ldb rfl ag_57 rfl H (by first | exact at0 | exact at1 | exact at2 | exact at3 | exact at4 | exact at5 | exact at6 | exact at7 | exact at8 | exact at9) rfl ?_
    refine op_len rfl el_57 rfl ?_
    refine op_move rfl (.int _ _) rfl ?_
    refine op_nil (at_then ?_)
    refine W_block ?_
    refine W_loop 281457796841600 (α := Nat) (fun i => [(34, .int .i64 (i : Int))]) (fun i w' => i ≤ c.gn.length ∧ Tx w' bt bd bp ba fr c.A ((c.gn.take i).foldl dropP c.P) F (CL bt bc ta c.tk.length tc tf ga c.gn.length gc gf) ∧ Grown (TM F ba bt bp (CL bt bc ta c.tk.length tc tf ga c.gn.length gc gf)) (TM F ba bt bp (CL bt bc ta c.tk.length tc tf ga c.gn.length gc gf)) w0 w') (fun i => c.gn.length - i) 0 rfl ?_ ?_ ?_
    · exact ⟨rfl, trivial⟩
    · exact ⟨Nat.zero_le _, T, .call0 (.refl _ _)⟩
    · rintro i j w ⟨hi, T1, G1⟩
      have H := T1.ctx
      have R1 := pv_rd Og (fun y hy => T1.blk y (List.mem_cons_of_mem _ (List.mem_append_right _ hy)))
      refine W_rseq ?_
      refine op_lss rfl rfl rfl ?_
      refine op_nil (at_then ?_)
      refine W_seq ?_
      refine W_cond _ rfl ?_ ?_
      · intro h2
        replace h2 := dec_t h2
        obtain ⟨k, hk⟩ := get_some (l := c.gn) (i := i) (by omega)
        refine W_skip (at_then ?_)
        refine W_seq ?_
        refine W_block ?_
        refine W_rseq ?_
        first | refine op_indexRd R1 rfl el_57 sz_3 rfl rfl (by omega) (by omega) (by first | rfl | omega) ?_ | refine op_indexAddr rfl el_57 sz_3 rfl rfl (by omega) (by omega) ?_
        first | refine op_ldb rfl ag_3 rfl H (by first | exact at0 | exact at1 | exact at2 | exact at3 | exact at4 | exact at5 | exact at6 | exact at7 | exact at8 | exact at9) rfl ?_ | refine op_ld rfl ag_3 rfl (R1.fld hk rfl (j := 0) rfl) ?_ | refine op_ld rfl ag_3 rfl (cell_bl T1.tr (0 + 1)) ?_
        refine op_assign rfl (.int _ _) rfl ?_
        refine op_nil (at_then ?_)
        refine W_region ?_
        refine op_move rfl (.pointer _) rfl ?_
        refine op_nilCheck rfl rfl ?_
        refine op_fieldAddr rfl fo_135_0_TrR rfl ?_
        first | refine op_ldb rfl ag_34_TrR rfl H (by first | exact at0 | exact at1 | exact at2 | exact at3 | exact at4 | exact at5 | exact at6 | exact at7 | exact at8 | exact at9) rfl ?_ | refine op_ld rfl ag_34_TrR rfl (R1.fld hk rfl (j := 0) rfl) ?_ | refine op_ld rfl ag_34_TrR rfl (cell_bl T1.tr (0 + 1)) ?_
        refine op_nilCheck rfl rfl ?_
        refine op_fieldAddr rfl fo_146_1_TrR rfl ?_
        first | refine op_ldb rfl ag_33_TrR rfl H (by first | exact at0 | exact at1 | exact at2 | exact at3 | exact at4 | exact at5 | exact at6 | exact at7 | exact at8 | exact at9) rfl ?_ | refine op_ld rfl ag_33_TrR rfl (R1.fld hk rfl (j := 0) rfl) ?_ | refine op_ld rfl ag_33_TrR rfl (cell_bl T1.tr (0 + 1)) ?_
        refine op_move rfl (.int _ _) rfl ?_
        refine op_call rfl ca_136_TrR (pdrop7_ok T1.pg k) rfl ?_
        rintro v w2 ⟨⟨ev, rfl⟩, hp, hx⟩
        obtain ⟨T2, G2⟩ := T1.page hp hx
        refine op_nil (at_block (at_then ?_))
        refine W_region ?_
        refine op_add_i64 rfl rfl rfl (by omega) (by omega) ?_
        refine op_move rfl (.int _ _) rfl ?_
        refine op_nil (at_then ?_)
        exact ⟨i + 1, rfl, ⟨rfl, trivial⟩, ⟨by omega, by rw [take_snoc hk, List.foldl_append]; exact T2, G1.trans G2⟩, by omega⟩
      · intro h2
        replace h2 := dec_f h2
        have hii : i = c.gn.length := by omega
        subst hii
        rw [List.take_length] at T1
        refine W_exit (exit_then (exit_then (exit_here (leave0n rfl rfl ?_))))
        refine ⟨rfl, ⟨?_, ta, tc, tf, ga, gc, gf, rfl, Ot, Og⟩, G1⟩
        unfold overC
        rw [if_neg (by simpa using h1)]
        exact T1

end Go.Proofs.YtbkadlngijkmmaaGreatDoor

/- Deferred calls of closures; arrays that are built. It holds for every program. -/
namespace Go.GV
open Go

section
variable {P : Program} {r : Option Nat} {n : Nat} {ops rest : List Oper} {Q : Exit → Env → World → Prop} {e : Env} {w w0 : World} {S : List Nat} {L : List (Nat × Obj)}
  {dst : Option Tmp} {ty : TypeId} {pos : String} {af : Array Edge} {g : Option (Nat × Bool)}

/-- A closure is deferred. -/
theorem op_defer {fo : Operand} {fn : Fn} {ca : Array Value} (hg : wants ⟨dst, .defer ⟨.value fo, #[], #[]⟩, ty, pos, af, g⟩ ops e = true) (hf : ev e fo = .func fn #[] ca)
    (h : Wops P none ops Q rest (put ⟨e.g, { target := .fn fn ca, args := #[] } :: e.ds⟩ dst undef) w) : Wops P none ops Q (⟨dst, .defer ⟨.value fo, #[], #[]⟩, ty, pos, af, g⟩ :: rest) e w := by
  unfold Wops
  have hrun : (execOp (ev e) ⟨dst, .defer ⟨.value fo, #[], #[]⟩, ty, pos, af, g⟩).run P w = .ok (.defer { target := .fn fn ca, args := #[] }) w := by
    simp [execOp, resolve, hf, Deferred.ofValue]
  rw [if_pos hg, Oper.semAt_none, hrun]
  exact h
/-- A function that is entered as a deferred call. -/
def RetD (P : Program) (f : FuncId) (args : Array Value) (w : World) (R : World → Prop) : Prop :=
  CallsDIn Fence.wide 0 P f args .returning w fun x u w' => u = .returning ∧ ∃ v, x = .returned v ∧ R w'
theorem retD_of_W {f : FuncId} {fn : Func} {c : Code} {args : Array Value} {R : World → Prop} (hf : P.funcs[f]? = some fn) (hb : fn.body = some c)
    (l : List Value) (hargs : args = l.toArray) (hfit : (Nat.ble l.length fn.ntmps && fits fn.ntmps c) = true)
    (h : W P none fn.ntmps c (Qret P fn fun _ w => R w) ⟨fun i => l.getD i undef, []⟩ w) : RetD P f args w R := by
  simp only [Bool.and_eq_true] at hfit
  refine (callsDIn_of_wp (R := fun x w' => ∃ v, x = .returned v ∧ R w') hf hb trivial ?_).mono fun x u w' hx => hx
  refine wpIn_mono (W_sound (r := none) c _ _ w h hfit.2 _ ?_) ?_
  · refine ⟨rfl, ?_, fun i => ?_⟩
    · subst hargs
      have := Nat.le_of_ble_eq_true hfit.1
      simp; omega
    · subst hargs
      simp only [Array.getD_eq_getD_getElem?, List.getD_eq_getElem?_getD]
      rw [Array.getElem?_append]
      by_cases hi : i < l.length
      · simp [hi]
      · simp only [List.size_toArray, if_neg hi]
        rw [List.getElem?_eq_none (by omega)]
        rw [Array.getElem?_replicate]
        split <;> rfl
  · rintro x a' w' ⟨e', hs', hq⟩
    cases x with
    | normal => exact ⟨hs'.1.trans hq.1, let ⟨v, h1, h2⟩ := hq.2 _ hs'.2.2; ⟨v, h1, _, rfl, h2⟩⟩
    | ret => exact ⟨hs'.1.trans hq.1, let ⟨v, h1, h2⟩ := hq.2 _ hs'.2.2; ⟨v, h1, _, rfl, h2⟩⟩
    | exit id => exact hq.elim
    | goto l => exact hq.elim
    | panic c => exact hq.elim
    | outgrown => exact hq.elim

/-- What must hold where a body is left that has deferred calls. -/
def Defs (P : Program) : List Deferred → World → (World → Prop) → Prop
  | [], w, K => K w
  | d :: ds, w, K => ∃ f ca, d = { target := .fn (.func f) ca, args := #[] } ∧ callable P f = true ∧ RetD P f ca w fun w' => Defs P ds w' K
def QretD (P : Program) (fn : Func) (R : Value → World → Prop) : Exit → Env → World → Prop
  | .normal, e, w | .ret, e, w => Defs P e.ds w fun w' => ∀ tmps : Array Value, (∀ i, tmps.getD i undef = e.g i) → ∃ v, (results fn tmps).run P w' = .ok v w' ∧ R v w'
  | _, _, _ => False
theorem defs_leaves {fn : Func} {R : Value → World → Prop} {tmps : Array Value} : ∀ {ds : List Deferred} {w : World}, (Defs P ds w fun w' => ∃ v, (results fn tmps).run P w' = .ok v w' ∧ R v w') →
    LeavesIn Fence.wide 0 P fn tmps (fun x w' => ∃ v, x = .returned v ∧ R v w') ds .returning w
  | [], w, ⟨v, h1, h2⟩ => ⟨v, h1, v, rfl, h2⟩
  | d :: ds, w, ⟨f, ca, h1, h2, h3⟩ => by
    subst h1
    refine ⟨by simp, (fun h => by cases h), .func f, ca, f, ca, rfl, ?_, fun g _ => trivial, ?_⟩
    · show (invoke (.fn (.func f) ca) #[]).run P w = _
      have : (invoke (.fn (.func f) ca) #[]).run P w = (callFunc f (#[] ++ ca)).run P w := rfl
      rw [this, run_callable h2]
      simp
    · refine CallsDIn.mono (R := fun x u w' => u = .returning ∧ ∃ v, x = .returned v ∧ Defs P ds w' fun w' => ∃ v, (results fn tmps).run P w' = .ok v w' ∧ R v w') h3 ?_
      rintro x u w' ⟨rfl, v, rfl, h4⟩
      exact defs_leaves h4
theorem Defs.mono : ∀ {ds : List Deferred} {w : World} {K K' : World → Prop}, (∀ w, K w → K' w) → Defs P ds w K → Defs P ds w K'
  | [], _, _, _, h, hk => h _ hk
  | _ :: _, _, _, _, h, ⟨f, ca, h1, h2, h3⟩ => ⟨f, ca, h1, h2, CallsDIn.mono h3 fun _ _ _ hx => ⟨hx.1, let ⟨v, h4, h5⟩ := hx.2; ⟨v, h4, Defs.mono h h5⟩⟩⟩
theorem ret_of_WD {f : FuncId} {fn : Func} {c : Code} {args : Array Value} {R : Value → World → Prop} (hf : P.funcs[f]? = some fn) (hb : fn.body = some c)
    (l : List Value) (hargs : args = l.toArray) (hfit : (Nat.ble l.length fn.ntmps && fits fn.ntmps c) = true)
    (h : W P none fn.ntmps c (QretD P fn R) ⟨fun i => l.getD i undef, []⟩ w) : Ret P f args w R := by
  simp only [Bool.and_eq_true] at hfit
  refine callsIn_of_wp_defers hf hb trivial ?_
  refine wpIn_mono (W_sound (r := none) c _ _ w h hfit.2 _ ?_) ?_
  · refine ⟨rfl, ?_, fun i => ?_⟩
    · subst hargs
      have := Nat.le_of_ble_eq_true hfit.1
      simp; omega
    · subst hargs
      simp only [Array.getD_eq_getD_getElem?, List.getD_eq_getElem?_getD]
      rw [Array.getElem?_append]
      by_cases hi : i < l.length
      · simp [hi]
      · simp only [List.size_toArray, if_neg hi]
        rw [List.getElem?_eq_none (by omega)]
        rw [Array.getElem?_replicate]
        split <;> rfl
  · rintro x a' w' ⟨e', hs', hq⟩
    have hgo : ∀ w', (Defs P e'.ds w' fun w' => ∀ tmps : Array Value, (∀ i, tmps.getD i undef = e'.g i) → ∃ v, (results fn tmps).run P w' = .ok v w' ∧ R v w') →
        LeavesIn Fence.wide 0 P fn a'.tmps (fun x w' => ∃ v, x = .returned v ∧ R v w') a'.defers .returning w' := fun w' hm => by
      rw [hs'.1]
      exact defs_leaves (Defs.mono (fun w hk => hk _ hs'.2.2) hm)
    cases x with
    | normal => exact hgo _ hq
    | ret => exact hgo _ hq
    | exit id => exact hq.elim
    | goto l => exact hq.elim
    | panic c => exact hq.elim
    | outgrown => exact hq.elim
/-- A body is left with one deferred call: the second result lies in a cell. -/
theorem leaveD {fn : Func} {R : Value → World → Prop} {f : FuncId} {ca : Array Value} (hd : e.ds = [{ target := .fn (.func f) ca, args := #[] }]) (hc : callable P f = true) (K : World → Prop) (h : RetD P f ca w K)
    (hK : ∀ w', K w' → ∀ tmps : Array Value, (∀ i, tmps.getD i undef = e.g i) → ∃ v, (results fn tmps).run P w' = .ok v w' ∧ R v w') : QretD P fn R .ret e w := by
  show Defs P e.ds w _
  rw [hd]
  exact ⟨f, ca, rfl, hc, CallsDIn.mono h fun x u w' hx => ⟨hx.1, let ⟨v, h4, h5⟩ := hx.2; ⟨v, h4, hK w' h5⟩⟩⟩
theorem res2c {fn : Func} {tmps : Array Value} {s a : Tmp} {t : TypeId} {b : Nat} {v v2 : Value} {t2 : TypeId} {l : List Value} (hr : fn.results = #[.tmp s, .cell a t]) (ht : ∀ i, tmps.getD i undef = e.g i) (h1 : e.g s = v) (ha : e.g a = .pointer (some ⟨b, 0, none⟩))
    (hag : aggB P t = some false) (hb : w.heap[b]? = some (Bl t2 (v2 :: l))) : (results fn tmps).run P w = .ok (.tuple #[v, v2]) w := by
  have g1 := (ht s).trans h1
  have g2 := (ht a).trans ha
  rw [Array.getD_eq_getD_getElem?] at g1 g2
  have hl : (loadVar t ⟨b, 0, none⟩).run P w = .ok v2 w := run_load1 hag (by rw [cell_bl hb]; rfl)
  simp [results, hr, g1, g2, asAddr, hl]

/-! ### Arrays -/
theorem builtA_of {t el : TypeId} {m s : Nat} {zl : List Value} {ps : List (Nat × Value)} {l : Array Value} (hu : arrT P t = some (m, el)) (hs : tsize P el = some s) (hz : zcells P t = some zl)
    (hl : Instr.fill (fun i => some (i * s, s)) zl.toArray ps = some l) : P.built t ps = some l := by
  unfold zcells at hz
  unfold Program.built
  unfold tsize at hs
  have hu' := arrT_u hu
  cases hi : P.info? t with
  | none => rw [hi] at hz; cases hz
  | some it =>
    rw [hi] at hz
    cases hzz : it.zero with
    | none => simp [hzz] at hz
    | some z =>
      simp only [Option.bind_some, hzz, Option.map_some, Option.some.injEq] at hz
      subst hz
      cases hie : P.info? el with
      | none => rw [hie] at hs; cases hs
      | some ie =>
        rw [hie] at hs
        simp only [Option.map_some, Option.some.injEq] at hs
        subst hs
        simp only [hu', hzz, hie]
        simpa using hl
theorem op_buildA {t el : TypeId} {parts : Array (Nat × Operand)} {m s : Nat} {zl : List Value} (l : List Value) (hg : wants ⟨dst, .build t parts, ty, pos, af, g⟩ ops e = true) (hu : arrT P t = some (m, el)) (hs : tsize P el = some s) (hz : zcells P t = some zl)
    (hl : Instr.fill (fun i => some (i * s, s)) zl.toArray (parts.toList.map fun p => (p.1, ev e p.2)) = some l.toArray) (h : Wops P r ops Q rest (put e dst (.agg l.toArray)) w) :
    Wops P r ops Q (⟨dst, .build t parts, ty, pos, af, g⟩ :: rest) e w := by
  refine op_val hg rfl ?_ h
  have hb : P.built t (parts.map fun (i, x) => (i, ev e x)).toList = some l.toArray := builtA_of hu hs hz (by rw [Array.toList_map]; exact hl)
  simp [execOp, run_build w t _ _ hb]
end
end Go.GV
