/- Part 19 of the proof. -/
import Derived.Test.YtapphbmlkdhnmaaGreatPart18
/- Whether what flows is the best: plain law; rounds as they lie in memory. -/
namespace Go.Proofs.YtapphbmlkdhnmaaGreat
open Go.GV
attribute [local irreducible] Wops W Wq Wt

theorem len_arc {N : Int} {es : List Ed} {pot : List Int} (hr : rightN N es = true) {k : Nat} (hk : k < 2 * es.length) : lenI N es pot (k : Int) = (grE N es).len (potE pot) k := by
  obtain ⟨e, he, hE, -⟩ := ends_in hr hk
  unfold lenI Gr.len Gr.c Gr.u Gr.v
  rw [hE]
  unfold arcE
  rcases Nat.mod_two_eq_zero_or_one k with h | h
  · rw [if_pos h, if_pos h, if_pos h, gr_co he, gr_f he, gr_t he, if_neg (by omega)]; rfl
  · rw [if_pos h, if_neg (show ¬ k % 2 = 0 by omega), if_neg (show ¬ k % 2 = 0 by omega), if_neg (show ¬ k % 2 = 0 by omega), gr_co he, gr_f he, gr_t he]; rfl
theorem room_arc {N : Int} {es : List Ed} {fl : List Int} (hw : withinN N es fl = true) {k : Nat} (hk : k < 2 * es.length) : roomI N es fl (k : Int) = roomA (capE es) (flE fl) k := by
  obtain ⟨e, x, he, hx, hro, -⟩ := room_in hw hk
  rw [hro]
  unfold roomE roomA capE flE
  rw [getD_of he, getD_of hx]
  rcases Nat.mod_two_eq_zero_or_one k with h | h
  · rw [if_neg (by omega), if_pos h]
  · rw [if_pos h, if_neg (by omega)]
theorem flows_mk {N : Int} {es : List Ed} {fl : List Int} (hw : withinN N es fl = true) (h : ∀ v, v < N.toNat → over7 (grE N es) (flE fl) v = 0) : flowsN N es fl = true := by
  unfold flowsN overL
  rw [hw, Bool.true_and, List.all_eq_true]
  intro x hx
  obtain ⟨i, hi⟩ := List.mem_iff_getElem?.1 hx
  obtain ⟨h1, rfl⟩ := tab_at hi
  exact decide_eq_true (h i h1)
/-- What is accepted: what flows, whole numbers of the nodes, none too great, and they fit. -/
theorem check_iff {N : Int} {es : List Ed} {fl pot : List Int} : checkN N es fl pot = true ↔ flowsN N es fl = true ∧ potN N pot = true ∧ Fine (grE N es) (capE es) (flE fl) (potE pot) := by
  have hE : (grE N es).E = es.length := rfl
  unfold checkN
  simp only [Bool.and_eq_true]
  constructor
  · rintro ⟨hr, hf, hp, ht⟩
    have hw := (flows_of hf).1
    obtain ⟨hl, -, hin⟩ := within_of hw
    refine ⟨hf, hp, fun i hi => ?_, fun a ha hro => ?_⟩
    · rw [hE] at hi
      obtain ⟨e, he⟩ := get_some hi
      obtain ⟨x, hx⟩ := get_some (l := fl) (i := i) (by omega)
      unfold flE capE
      rw [getD_of he, getD_of hx]
      exact hin i e x he hx
    · rw [hE] at ha
      have h1 := List.all_eq_true.1 ht a (List.mem_range.2 ha)
      unfold tightB at h1
      rw [len_arc hr ha, room_arc hw ha, decide_eq_true hro, Bool.and_true, Bool.not_eq_true', decide_eq_false_iff_not] at h1
      omega
  · rintro ⟨hf, hp, hF⟩
    have hw := (flows_of hf).1
    obtain ⟨hl, hr, hin⟩ := within_of hw
    refine ⟨hr, hf, hp, List.all_eq_true.2 fun a ha => ?_⟩
    rw [List.mem_range] at ha
    unfold tightB
    rw [len_arc hr ha, room_arc hw ha, Bool.not_eq_true']
    by_cases h : 0 < roomA (capE es) (flE fl) a
    · rw [decide_eq_false (by have := hF.fit a ha h; omega), Bool.false_and]
    · rw [decide_eq_false h, Bool.and_false]
/-- What is told by the solver is accepted. -/
theorem best_check {N : Nat} {es : List Ed} {x p : Nat → Int} (hr : rightN (N : Int) es = true) (hF : Fine (grE (N : Int) es) (capE es) x p) (ho : ∀ v, v < N → over7 (grE (N : Int) es) x v = 0) (hp : ∀ v, v < N → -1073741824 ≤ p v ∧ p v ≤ 1073741824) : checkN (N : Int) es (tab x es.length) (tab p N) = true := by
  have hx : ∀ i, i < es.length → flE (tab x es.length) i = x i := fun i hi => flE_tab hi
  have hq : ∀ v, v < N → potE (tab p N) v = p v := fun v hv => getD_of (tab_get hv)
  have hw : withinN (N : Int) es (tab x es.length) = true := by
    unfold withinN
    rw [hr, tab_len, decide_eq_true rfl]
    refine List.all_eq_true.2 fun b hb => ?_
    obtain ⟨i, hi⟩ := List.mem_iff_getElem?.1 hb
    have hl := get_lt hi
    rw [List.length_zipWith, tab_len] at hl
    obtain ⟨e, he⟩ := get_some (l := es) (i := i) (by omega)
    rw [zip_at he (tab_get (f := x) (by omega))] at hi
    injection hi with hi
    have h1 := hF.in' i (by show i < es.length; omega)
    unfold capE at h1
    rw [getD_of he] at h1
    rw [← hi]
    show inB e (x i) = true
    unfold inB
    rw [decide_eq_true h1.1, decide_eq_true h1.2]; rfl
  refine check_iff.2 ⟨flows_mk hw fun v hv => ?_, ?_, fine_congr (grE_ok hr) (fine_x hF hx) hq⟩
  · rw [over_congr hx]
    exact ho v hv
  · unfold potN
    rw [tab_len, decide_eq_true rfl, Bool.and_true, List.all_eq_true]
    intro y hy
    obtain ⟨i, hi⟩ := List.mem_iff_getElem?.1 hy
    obtain ⟨h1, rfl⟩ := tab_at hi
    have := hp i h1
    unfold farB
    rw [Bool.and_eq_true, decide_eq_true_eq, decide_eq_true_eq]
    omega
theorem sortD_eq {ds es : List Du} (h : SortD ds es) (hs : (es.map (·.id)).Pairwise (· < ·)) : ds = es := by
  obtain ⟨hp, hd⟩ := h
  induction es generalizing ds with
  | nil => exact hp.eq_nil
  | cons e es ih =>
    cases ds with
    | nil => exact absurd hp.symm.eq_nil (by simp)
    | cons d ds =>
      rw [List.map_cons, List.pairwise_cons] at hs hd
      have hde : d = e := by
        rcases List.mem_cons.1 (hp.mem_iff.1 (List.mem_cons_self ..)) with h | h
        · exact h
        · rcases List.mem_cons.1 (hp.mem_iff.2 (List.mem_cons_self ..)) with h2 | h2
          · exact h2.symm
          · have h3 := hs.1 d.id (List.mem_map_of_mem (f := fun d : Du => d.id) h)
            have h4 := hd.1 e.id (List.mem_map_of_mem (f := fun d : Du => d.id) h2)
            omega
      subst hde
      rw [ih hs.2 (List.Perm.cons_inv hp) hd.2]

/-! ### Rounds in memory -/
structure Rnd where
  no : Int
  day : Int
  cmp : Bool
  ids : List Int
  N : Int
  es : List Ed
  fl : List Int
  pot : List Int
structure RSl where
  aI : Option Addr
  cI : Nat
  aE : Option Addr
  cE : Nat
  aF : Option Addr
  cF : Nat
  aP : Option Addr
  cP : Nat
abbrev rcells (r : Rnd) (q : RSl) : List Value := [.int .u64 r.no, .int .i64 r.day, .bool r.cmp, .slice q.aI r.ids.length q.cI, .int .i64 r.N, .slice q.aE r.es.length q.cE, .slice q.aF r.fl.length q.cF, .slice q.aP r.pot.length q.cP]
structure RAt (w : World) (r : Rnd) (q : RSl) : Prop where
  I : Rd w q.aI 1 U1 r.ids
  E : Rd w q.aE 4 encE r.es
  F : Rd w q.aF 1 I1 r.fl
  P : Rd w q.aP 1 I1 r.pot
  fc : r.fl.length ≤ q.cF
/-- A round's blocks are none of these. -/
structure ROff (q : RSl) (r : Rnd) (S : Nat → Prop) : Prop where
  I : r.ids ≠ [] → ¬ S (adr q.aI).block
  E : r.es ≠ [] → ¬ S (adr q.aE).block
  F : r.fl ≠ [] → ¬ S (adr q.aF).block
  P : r.pot ≠ [] → ¬ S (adr q.aP).block
theorem RAt.ext {w w' : World} {r : Rnd} {q : RSl} {S : List Nat} (h : RAt w r q) (he : Ext S w w') (hn : ROff q r (· ∈ S)) : RAt w' r q :=
  ⟨h.I.ext' he hn.I, h.E.ext' he hn.E, h.F.ext' he hn.F, h.P.ext' he hn.P, h.fc⟩
theorem RAt.ext0 {w w' : World} {r : Rnd} {q : RSl} (h : RAt w r q) (he : Ext [] w w') : RAt w' r q := h.ext he ⟨fun _ => by simp, fun _ => by simp, fun _ => by simp, fun _ => by simp⟩
theorem ROff.mono {q : RSl} {r : Rnd} {S S' : Nat → Prop} (h : ROff q r S) (hs : ∀ x, S' x → S x) : ROff q r S' := ⟨fun g k => h.I g (hs _ k), fun g k => h.E g (hs _ k), fun g k => h.F g (hs _ k), fun g k => h.P g (hs _ k)⟩
theorem RAt.lt {w : World} {r : Rnd} {q : RSl} (h : RAt w r q) : ROff q r (fun x => w.heap.size ≤ x) :=
  ⟨fun g => Nat.not_le.2 (h.I.lt' (fun _ _ => rfl) (by decide) g), fun g => Nat.not_le.2 (h.E.lt' (fun _ _ => rfl) (by decide) g), fun g => Nat.not_le.2 (h.F.lt' (fun _ _ => rfl) (by decide) g), fun g => Nat.not_le.2 (h.P.lt' (fun _ _ => rfl) (by decide) g)⟩
/-- Accounts, to be read. -/
def AcAt (w : World) (t : TypeId) (bx : Nat) (acs : List Ac) : Prop := ∃ a c, w.heap[bx]? = some (Bl t [.slice a acs.length c]) ∧ Rd w a 2 encA acs
def DuAt (w : World) (bd : Nat) (ds : List Du) : Prop := ∃ b nx o, w.heap[bd]? = some (Bl 123 (DU b nx)) ∧ w.heap[b]? = some o ∧ MapO .u64 (dm ds) o
theorem AcAt.ext0 {w w' : World} {t : TypeId} {bx : Nat} {acs : List Ac} (h : AcAt w t bx acs) (he : Ext [] w w') : AcAt w' t bx acs := by
  obtain ⟨a, c, h1, h2⟩ := h
  exact ⟨a, c, he.to h1 (by simp), h2.ext0 he⟩
theorem DuAt.ext0 {w w' : World} {bd : Nat} {ds : List Du} (h : DuAt w bd ds) (he : Ext [] w w') : DuAt w' bd ds := by
  obtain ⟨b, nx, o, h1, h2, h3⟩ := h
  exact ⟨b, nx, o, he.to h1 (by simp), he.to h2 (by simp), h3⟩
theorem rooms7_ok {bx : Nat} {acs : List Ac} (ha : aofC acs = 0) (w : World) (A : AcAt w 116 bx acs) :
    Ret Tryz.prog 26 #[ptr bx] w fun v w' => Ext [] w w' ∧ ∃ a c, v = .slice a (acs.map roomV).length c ∧ Rd w' a 1 I1 (acs.map roomV) := by
  obtain ⟨h1, h2, -⟩ := aofC_iff.1 ha
  obtain ⟨a, c, g1, g2⟩ := A
  refine Ret.mono (rooms_ok a acs.length c acs w g1 g2 rfl (by omega) h2) fun v w' F => ⟨F.ext, ?_⟩
  obtain ⟨a', n', c', f', rfl, O, hb⟩ := F.ex
  obtain rfl := O.num
  exact ⟨a', c', rfl, O.rd1 fun x hx => (hb x hx).1⟩
theorem list7_ok {bd : Nat} {ds : List Du} {nx : Int} (hd : ofC ds nx = 0) (w : World) (D : DuAt w bd ds) :
    Ret Tryz.prog 18 #[ptr bd] w fun v w' => Ext [] w w' ∧ ∃ a c, v = .slice a ds.length c ∧ Rd w' a 7 encD ds := by
  obtain ⟨h1, -, h3, -⟩ := ofC_iff.1 hd
  obtain ⟨b, nx', o, g1, g2, g3⟩ := D
  refine Ret.mono (dlist_ok w g1 g2 g3 (of_nodup hd) (by omega)) ?_
  rintro v w' ⟨ds', hS, F⟩
  obtain rfl := sortD_eq hS (asc_lt h3).2.1
  refine ⟨F.ext, ?_⟩
  obtain ⟨a', n', c', f', rfl, O, hb⟩ := F.ex
  obtain rfl := O.numN (fun _ _ => rfl) (by decide)
  exact ⟨a', c', rfl, OS.rd O (fun x hx => (hb x hx).1) (fun _ _ => rfl) (by decide)⟩
end Go.Proofs.YtapphbmlkdhnmaaGreat

/- A round, planned: the walk. -/
namespace Go.Proofs.YtapphbmlkdhnmaaGreat
open Go.GV
theorem ag_28_SqI : aggB Tryz.prog 28 = some true := by kernel_rfl
theorem ag_31_SqI : aggB Tryz.prog 31 = some true := by kernel_rfl
theorem ag_33_SqI : aggB Tryz.prog 33 = some true := by kernel_rfl
theorem ca_18_SqI : callable Tryz.prog 18 = true := by kernel_rfl
theorem ca_26_SqI : callable Tryz.prog 26 = true := by kernel_rfl
theorem ca_58_SqI : callable Tryz.prog 58 = true := by kernel_rfl
theorem ca_59_SqI : callable Tryz.prog 59 = true := by kernel_rfl
theorem pl_33_SqI : placesB Tryz.prog 33 = some [(0, 1), (1, 1), (2, 1), (3, 1), (4, 2), (6, 2)] := by kernel_rfl
theorem sz_28_SqI : tsize Tryz.prog 28 = some 2 := by kernel_rfl
theorem sz_31_SqI : tsize Tryz.prog 31 = some 2 := by kernel_rfl
theorem sz_33_SqI : tsize Tryz.prog 33 = some 8 := by kernel_rfl
theorem un_35_SqI : Tryz.prog.underlying 35 = some (.pointer 116) := by kernel_rfl
theorem un_36_SqI : Tryz.prog.underlying 36 = some (.pointer 123) := by kernel_rfl
theorem zc_28_SqI : zcells Tryz.prog 28 = some ([.int .i64 0, .slice none 0 0]) := by kernel_rfl
theorem zc_31_SqI : zcells Tryz.prog 31 = some ([.slice none 0 0, .slice none 0 0]) := by kernel_rfl
theorem zc_33_SqI : zcells Tryz.prog 33 = some ([.int .u64 0, .int .i64 0, .bool false, .slice none 0 0, .int .i64 0, .slice none 0 0, .slice none 0 0, .slice none 0 0]) := by kernel_rfl
attribute [local irreducible] Wops W Wq Wt

/-- What a plan is. -/
structure PlanR (acs : List Ac) (ds : List Du) (net : Bool) (r : Rnd) : Prop where
  no : r.no = 0
  day : r.day = 0
  cmp : r.cmp = net
  ids : r.ids = (opn ds).map Du.id
  N : r.N = ((acs.length + 1 : Nat) : Int)
  es : r.es = roundE (acs.map roomV) (opn ds) net
  chk : checkN r.N r.es r.fl r.pot = true
def rnd0 : List Value := [.int .u64 0, .int .i64 0, .bool false, .slice none 0 0, .int .i64 0, .slice none 0 0, .slice none 0 0, .slice none 0 0]
def PlanRes (w : World) (acs : List Ac) (ds : List Du) (net : Bool) (v : Value) (w' : World) : Prop :=
  Ext [] w w' ∧ ((brightB (acs.map roomV) ds = false ∧ v = .tuple #[.agg rnd0.toArray, .int .i64 1]) ∨
    (brightB (acs.map roomV) ds = true ∧ ∃ r q, v = .tuple #[.agg (rcells r q).toArray, .int .i64 0] ∧ PlanR acs ds net r ∧ RAt w' r q ∧ ROff q r (fun x => x < w.heap.size)))
set_option maxRecDepth 20000 in
set_option maxHeartbeats 4000000 in
theorem plan_ok {bx bd : Nat} {acs : List Ac} {ds : List Du} {nx : Int} (ha : aofC acs = 0) (hd : ofC ds nx = 0) (net : Bool) (w : World) (A : AcAt w 116 bx acs) (D : DuAt w bd ds) :
    Ret Tryz.prog 12 #[ptr bx, ptr bd, .bool net] w (PlanRes w acs ds net) := by
  obtain ⟨w0, rfl⟩ : ∃ w0, w0 = w := ⟨_, rfl⟩
  have H := Ctx.start w0 []
  have hn16 := (aofC_iff.1 ha).1
  have hm64 := (ofC_iff.1 hd).1
  obtain ⟨rs, hrs⟩ : ∃ rs, rs = acs.map roomV := ⟨_, rfl⟩
  have hrl : rs.length = acs.length := by rw [hrs, List.length_map]
  refine ret_of_W (fn := Tryz.f12) Tryz.func12 rfl [.pointer (some ⟨bx, 0, none⟩), .pointer (some ⟨bd, 0, none⟩), .bool net] rfl (by kernel_rfl) ?_
  refine W_rseq ?_
  refine op_alloc rfl zc_33_SqI H ?_
  rintro b6 w - H
  refine op_assign rfl (.int _ _) rfl ?_
  refine op_nil (at_then ?_)
  refine W_seq ?_
  refine W_rseq (Wops_join (α := Unit) 516096 (fun _ => [(18, .bool (false))]) (fun _ w' => Ctx w0 [] w' [(b6, Bl 33 rnd0)]) rfl ?_ ?_)
  · refine op_move rfl (.pointer _) rfl ?_
    refine op_eqlptr rfl un_35_SqI rfl ?_
    refine op_move rfl (.bool _) rfl ?_
    refine Wops_split 15 rfl ?_ ?_
    · intro h1
      refine op_skip rfl ?_
      refine op_skip rfl ?_
      refine op_pick1 rfl rfl (.bool _) rfl ?_
      refine op_nil ?_
      exact ⟨rfl, (), rfl, ⟨congrArg Value.bool (by first | rfl | simp_all), trivial⟩, H⟩
    · intro h2
      refine op_move rfl (.pointer _) rfl ?_
      refine op_eqlptr rfl un_36_SqI rfl ?_
      refine op_pick0 rfl rfl (.bool _) rfl ?_
      refine op_nil ?_
      exact ⟨rfl, (), rfl, ⟨congrArg Value.bool (by first | rfl | simp_all), trivial⟩, H⟩
  rintro - j18 w H
  refine W_cond0 rfl ?_
  refine W_skip (at_then ?_)
  cases hbb : brightB rs ds
  · skip
    refine W_rseq ?_
    refine op_move rfl (.pointer _) rfl ?_
    refine op_call rfl ca_26_SqI (rooms7_ok ha _ (A.ext0 H.ext)) rfl ?_
    rintro v w ⟨hx22, a2, c2, rfl, R2⟩
    rw [← hrs] at R2 ⊢
    replace H := H.call hx22
    refine op_move rfl (.pointer _) rfl ?_
    refine op_call rfl ca_18_SqI (list7_ok hd _ (D.ext0 H.ext)) rfl ?_
    rintro v w ⟨hx24, a3, c3, rfl, R3⟩
    replace H := H.call hx24
    replace R2 := R2.ext0 hx24
    refine op_move rfl (.bool _) rfl ?_
    refine op_call rfl ca_58_SqI (bround_ok a2 a3 _ c2 _ c3 rs ds net _ R2 rfl (by omega) R3 rfl (by omega)) rfl ?_
    rintro v w ⟨hx26, ⟨-, rfl⟩ | ⟨hb1, -⟩⟩
    rotate_left
    (rw [hbb] at hb1; cases hb1)
    replace H := H.call hx26
    refine op_move rfl (.tuple _) rfl ?_
    refine op_extract rfl rfl rfl ?_
    refine op_extract rfl rfl rfl ?_
    refine op_extract rfl rfl rfl ?_
    refine op_alloc rfl zc_28_SqI H ?_
    rintro b8 w - H
    refine op_stb0 rfl sz_28_SqI rfl rfl rfl (by simp [oneCell]) H (by first | exact at0 | exact at1 | exact at2 | exact at3 | exact at4 | exact at5 | exact at6 | exact at7 | exact at8 | exact at9) rfl ?_
    rintro w H
    refine op_assign rfl (.slice _ _ _) rfl ?_
    refine op_assign rfl (.int _ _) rfl ?_
    refine op_nil (at_then ?_)
    refine W_seq ?_
    refine W_rseq ?_
    refine op_move rfl (.int _ _) rfl ?_
    refine op_neq rfl rfl rfl ?_
    refine op_nil (at_then ?_)
    refine W_cond _ rfl ?_ ?_
    · intro h1
      replace h1 := ndec_t h1
      refine W_rseq ?_
      refine op_buildS [.int .u64 0, .int .i64 0, .bool false, .slice none 0 0, .int .i64 0, .slice none 0 0, .slice none 0 0, .slice none 0 0] rfl pl_33_SqI zc_33_SqI (by kernel_rfl) ?_
      refine op_move rfl (.int _ _) rfl ?_
      refine op_stb0 rfl sz_33_SqI rfl rfl rfl (by simp [oneCell]) H (by first | exact at0 | exact at1 | exact at2 | exact at3 | exact at4 | exact at5 | exact at6 | exact at7 | exact at8 | exact at9) rfl ?_
      rintro w H
      refine op_assign rfl (.int _ _) rfl ?_
      refine op_nil (at_then ?_)
      refine W_ret (ret_then (leave2b rfl rfl rfl ag_33_SqI sz_33_SqI H (by first | exact at0 | exact at1 | exact at2 | exact at3 | exact at4 | exact at5 | exact at6 | exact at7 | exact at8 | exact at9) rfl (show _ = (.int _ _) from rfl) ?_))
      exact ⟨H.ext, .inl ⟨by rw [← hrs]; exact hbb, rfl⟩⟩
    · intro h1
      replace h1 := ndec_f h1
      cases h1
  · skip
    have hB := (bright_iff (by omega)).1 hbb
    obtain ⟨es, hes⟩ : ∃ es, es = roundE rs (opn ds) net := ⟨_, rfl⟩
    refine W_rseq ?_
    refine op_move rfl (.pointer _) rfl ?_
    refine op_call rfl ca_26_SqI (rooms7_ok ha _ (A.ext0 H.ext)) rfl ?_
    rintro v w ⟨hx22, a2, c2, rfl, R2⟩
    rw [← hrs] at R2 ⊢
    replace H := H.call hx22
    refine op_move rfl (.pointer _) rfl ?_
    refine op_call rfl ca_18_SqI (list7_ok hd _ (D.ext0 H.ext)) rfl ?_
    rintro v w ⟨hx24, a3, c3, rfl, R3⟩
    replace H := H.call hx24
    replace R2 := R2.ext0 hx24
    refine op_move rfl (.bool _) rfl ?_
    have hlb := H.lt at0
    refine op_call rfl ca_58_SqI (bround_ok a2 a3 _ c2 _ c3 rs ds net _ R2 rfl (by omega) R3 rfl (by omega)) rfl ?_
    rintro v w ⟨hx26, ⟨hb1, -⟩ | ⟨-, aE, nE, cE, vI, rfl, SE, SI⟩⟩
    (rw [hbb] at hb1; cases hb1)
    replace H := H.call hx26
    rw [← hes] at SE
    obtain ⟨aE, cE, hE1, -, RE, hEn⟩ := SE.ex
    obtain ⟨aI, cI, rfl, -, RI, hIn⟩ := SI.ex
    cases hE1
    have hx026 := H.ext
    have hb60 : w0.heap.size ≤ b6 := (H.own _ (List.mem_cons_self ..)).elim (fun h => by cases h) id
    obtain ⟨w26, rfl⟩ : ∃ z, z = w := ⟨_, rfl⟩
    replace H := Ctx.lend (L1 := [_]) (L2 := []) H
    dsimp only [List.map] at H
    have hs24 := hx26.size
    refine op_move rfl (.tuple _) rfl ?_
    refine op_extract rfl rfl rfl ?_
    refine op_extract rfl rfl rfl ?_
    refine op_extract rfl rfl rfl ?_
    refine op_alloc rfl zc_28_SqI H ?_
    rintro b8 w - H
    refine op_stb0 rfl sz_28_SqI rfl rfl rfl (by simp [oneCell]) H (by first | exact at0 | exact at1 | exact at2 | exact at3 | exact at4 | exact at5 | exact at6 | exact at7 | exact at8 | exact at9) rfl ?_
    rintro w H
    refine op_assign rfl (.slice _ _ _) rfl ?_
    refine op_assign rfl (.int _ _) rfl ?_
    refine op_nil (at_then ?_)
    refine W_seq ?_
    refine W_rseq ?_
    refine op_move rfl (.int _ _) rfl ?_
    refine op_neq rfl rfl rfl ?_
    refine op_nil (at_then ?_)
    refine W_cond _ rfl ?_ ?_
    · intro h1
      replace h1 := ndec_t h1
      exact absurd rfl h1
    · intro h1
      replace h1 := ndec_f h1
      have hri : rightN ((rs.length + 1 : Nat) : Int) es = true := by rw [hes]; exact hB.right net
      have hE6 : es ≠ [] → (adr aE).block ∉ [b6] := fun h => by have := hEn h; rw [List.mem_singleton]; omega
      have hI6 : (opn ds).map Du.id ≠ [] → (adr aI).block ∉ [b6] := fun h => by have := hIn h; rw [List.mem_singleton]; omega
      have hE26 := RE.lt' (fun _ _ => rfl) (by decide)
      have hI26 := RI.lt' (fun _ _ => rfl) (by decide)
      refine W_skip (at_then ?_)
      refine W_rseq ?_
      refine op_ldbN rfl ag_28_SqI sz_28_SqI rfl H (by first | exact at0 | exact at1 | exact at2 | exact at3 | exact at4 | exact at5 | exact at6 | exact at7 | exact at8 | exact at9) rfl ?_
      have hl8 := H.lt at0
      have hl6 := H.lt at1
      refine op_call rfl ca_59_SqI (best_ok (rs.length + 1) aE cE es _ (RE.ext' H.ext hE6) hri) rfl ?_
      rintro v w ⟨bf, bp, x, p, k, rfl, hF, hov, hpb, HB⟩
      replace H := H.call HB.ext
      have RF : Rd w (some ⟨bf, 0, none⟩) 1 I1 (tab x es.length) := tab_rd (HB.get at0)
      have RP : Rd w (some ⟨bp, 0, none⟩) 1 I1 (tab p (rs.length + 1)) := tab_rd (HB.get at1)
      have hbf := (HB.own _ (List.mem_of_getElem? at0)).elim (fun h => by cases h) id
      have hbp := (HB.own _ (List.mem_of_getElem? at1)).elim (fun h => by cases h) id
      dsimp only at hbf hbp
      replace RE := RE.ext' H.ext hE6
      replace RI := RI.ext' H.ext hI6
      have hb80 := (H.own _ (List.mem_of_getElem? at0)).elim (fun h => .inl (List.mem_singleton.1 h)) Or.inr
      have hx036 := hx026.then H.ext (fun x hx => .inr (by rw [List.mem_singleton.1 hx]; exact hb60))
      have hs36 := HB.ext.size
      have hs26 := H.size
      obtain ⟨w36, rfl⟩ : ∃ z, z = w := ⟨_, rfl⟩
      replace H := Ctx.lend (L1 := [_, _]) (L2 := []) H
      dsimp only [List.map] at H
      refine op_move rfl (.tuple _) rfl ?_
      refine op_extract rfl rfl rfl ?_
      refine op_extract rfl rfl rfl ?_
      refine op_extract rfl rfl rfl ?_
      refine op_alloc rfl zc_31_SqI H ?_
      rintro b11 w - H
      refine op_stb0 rfl sz_31_SqI rfl rfl rfl (by simp [oneCell]) H (by first | exact at0 | exact at1 | exact at2 | exact at3 | exact at4 | exact at5 | exact at6 | exact at7 | exact at8 | exact at9) rfl ?_
      rintro w H
      refine op_assign rfl (.int _ _) rfl ?_
      refine op_assign rfl (.int _ _) rfl ?_
      refine op_nil (at_then ?_)
      refine W_seq ?_
      refine W_rseq ?_
      refine op_move rfl (.int _ _) rfl ?_
      refine op_neq rfl rfl rfl ?_
      refine op_nil (at_then ?_)
      refine W_cond _ rfl ?_ ?_
      · intro h2
        replace h2 := ndec_t h2
        exact absurd rfl h2
      · intro h2
        replace h2 := ndec_f h2
        obtain ⟨r, hr⟩ : ∃ r : Rnd, r = ⟨0, 0, net, (opn ds).map Du.id, ((rs.length + 1 : Nat) : Int), es, tab x es.length, tab p (rs.length + 1)⟩ := ⟨_, rfl⟩
        obtain ⟨q, hq⟩ : ∃ q : RSl, q = ⟨aI, cI, aE, cE, some ⟨bf, 0, none⟩, es.length, some ⟨bp, 0, none⟩, rs.length + 1⟩ := ⟨_, rfl⟩
        have hcells : rcells r q = [.int .u64 0, .int .i64 0, .bool net, .slice aI ((opn ds).map Du.id).length cI, .int .i64 ((rs.length + 1 : Nat) : Int), .slice aE es.length cE, .slice (some ⟨bf, 0, none⟩) es.length es.length, .slice (some ⟨bp, 0, none⟩) (rs.length + 1) (rs.length + 1)] := by
          rw [hr, hq]
          unfold rcells
          dsimp only
          rw [tab_len, tab_len]
        refine W_skip (at_then ?_)
        refine W_rseq ?_
        refine op_move rfl (.bool _) rfl ?_
        refine op_move rfl (.slice _ _ _) rfl ?_
        refine op_ldbN rfl ag_28_SqI sz_28_SqI rfl H (by first | exact at0 | exact at1 | exact at2 | exact at3 | exact at4 | exact at5 | exact at6 | exact at7 | exact at8 | exact at9) rfl ?_
        refine op_ldbN rfl ag_31_SqI sz_31_SqI rfl H (by first | exact at0 | exact at1 | exact at2 | exact at3 | exact at4 | exact at5 | exact at6 | exact at7 | exact at8 | exact at9) rfl ?_
        refine op_buildS [.int .u64 0, .int .i64 0, .bool net, .slice aI ((opn ds).map Du.id).length cI, .int .i64 ((rs.length + 1 : Nat) : Int), .slice aE es.length cE, .slice (some ⟨bf, 0, none⟩) es.length es.length, .slice (some ⟨bp, 0, none⟩) (rs.length + 1) (rs.length + 1)] rfl pl_33_SqI zc_33_SqI (by kernel_rfl) ?_
        refine op_stb0 rfl sz_33_SqI rfl rfl rfl (by simp [oneCell]) H (by first | exact at0 | exact at1 | exact at2 | exact at3 | exact at4 | exact at5 | exact at6 | exact at7 | exact at8 | exact at9) rfl ?_
        rintro w H
        refine op_assign rfl (.int _ _) rfl ?_
        refine op_nil (at_then ?_)
        refine W_ret (leave2b rfl rfl rfl ag_33_SqI sz_33_SqI H (by first | exact at0 | exact at1 | exact at2 | exact at3 | exact at4 | exact at5 | exact at6 | exact at7 | exact at8 | exact at9) rfl (show _ = (.int _ _) from rfl) ?_)
        have h8 : w0.heap.size ≤ b8 := by rcases hb80 with h | h <;> omega
        have hxx := hx036.then H.ext fun x hx => .inr (by simp only [List.mem_cons, List.not_mem_nil, or_false] at hx; omega)
        refine ⟨hxx, .inr ⟨by rw [← hrs]; exact hbb, r, q, by rw [hcells], ⟨by rw [hr], by rw [hr], by rw [hr], by rw [hr], by rw [hr, hrl], by rw [hr, ← hrs]; exact hes, ?_⟩, ⟨?_, ?_, ?_, ?_, ?_⟩, ⟨?_, ?_, ?_, ?_⟩⟩⟩
        · rw [hr]; exact best_check hri hF hov hpb
        · rw [hr, hq]; exact RI.ext' H.ext fun h => by have h1 := hI26 h; have h2 := hI6 h; rw [List.mem_singleton] at h2; simp only [List.mem_cons, List.not_mem_nil, or_false]; rcases hb80 with h3 | h3 <;> omega
        · rw [hr, hq]; exact RE.ext' H.ext fun h => by have h1 := hE26 h; have h2 := hE6 h; rw [List.mem_singleton] at h2; simp only [List.mem_cons, List.not_mem_nil, or_false]; rcases hb80 with h3 | h3 <;> omega
        · rw [hr, hq]; exact RF.ext' H.ext fun _ => by show bf ∉ [b8, b6]; simp only [List.mem_cons, List.not_mem_nil, or_false]; omega
        · rw [hr, hq]; exact RP.ext' H.ext fun _ => by show bp ∉ [b8, b6]; simp only [List.mem_cons, List.not_mem_nil, or_false]; omega
        · rw [hr, hq]; dsimp only; rw [tab_len]; exact Nat.le_refl _
        · rw [hr, hq]; intro h; have := hIn h; dsimp only; omega
        · rw [hr, hq]; intro h; have := hEn h; dsimp only; omega
        · rw [hr, hq]; intro _; show ¬ bf < w0.heap.size; omega
        · rw [hr, hq]; intro _; show ¬ bp < w0.heap.size; omega
end Go.Proofs.YtapphbmlkdhnmaaGreat

/- Whether a round is one of now: the walk. -/
namespace Go.Proofs.YtapphbmlkdhnmaaGreat
open Go.GV
theorem ag_25_SqJ : aggB Tryz.prog 25 = some false := by kernel_rfl
theorem ag_26_SqJ : aggB Tryz.prog 26 = some false := by kernel_rfl
theorem ag_3_SqJ : aggB Tryz.prog 3 = some false := by kernel_rfl
theorem ag_4_SqJ : aggB Tryz.prog 4 = some false := by kernel_rfl
theorem ca_136_SqJ : callable Tryz.prog 136 = true := by kernel_rfl
theorem ca_137_SqJ : callable Tryz.prog 137 = true := by kernel_rfl
theorem ca_18_SqJ : callable Tryz.prog 18 = true := by kernel_rfl
theorem ca_26_SqJ : callable Tryz.prog 26 = true := by kernel_rfl
theorem ca_58_SqJ : callable Tryz.prog 58 = true := by kernel_rfl
theorem fo_28_0_SqJ : fieldO Tryz.prog 28 0 = some 0 := by kernel_rfl
theorem fo_28_1_SqJ : fieldO Tryz.prog 28 1 = some 1 := by kernel_rfl
theorem fo_33_2_SqJ : fieldO Tryz.prog 33 2 = some 2 := by kernel_rfl
theorem fo_33_3_SqJ : fieldO Tryz.prog 33 3 = some 3 := by kernel_rfl
theorem fo_33_4_SqJ : fieldO Tryz.prog 33 4 = some 4 := by kernel_rfl
theorem mixed_SqJ : Tryz.prog.follows .mixedOrders = true := by kernel_rfl
theorem sz_28_SqJ : tsize Tryz.prog 28 = some 2 := by kernel_rfl
theorem zc_28_SqJ : zcells Tryz.prog 28 = some ([.int .i64 0, .slice none 0 0]) := by kernel_rfl
attribute [local irreducible] Wops W Wq Wt

/-- A round's net, as a call gives it. -/
def RoundU (w : World) (rs : List Int) (ds : List Du) (net : Bool) (N : Int) (aE : Option Addr) (nE : Nat) (vI : Value) (code : Int) : Prop :=
  (brightB rs ds = false ∧ code = 1 ∧ ∃ aI nI cI, vI = .slice aI nI cI) ∨ (brightB rs ds = true ∧ code = 0 ∧ N = ((rs.length + 1 : Nat) : Int) ∧ nE = (roundE rs (opn ds) net).length ∧ Rd w aE 4 encE (roundE rs (opn ds) net) ∧ ∃ aI cI, vI = .slice aI ((opn ds).map Du.id).length cI ∧ Rd w aI 1 U1 ((opn ds).map Du.id))
theorem RoundRes.uni {w w' : World} {rs : List Int} {ds : List Du} {net : Bool} {v : Value} (h : RoundRes w rs ds net v w') : Ext [] w w' ∧ ∃ N aE nE cE aI nI cI code, v = .tuple #[netV N aE nE cE, .slice aI nI cI, .int .i64 code] ∧ ∀ (S : List Nat) (w2 : World), (∀ x ∈ S, x < w.heap.size) → Ext S w' w2 → RoundU w2 rs ds net N aE nE (.slice aI nI cI) code := by
  obtain ⟨hx, ⟨h1, rfl⟩ | ⟨h1, aE, nE, cE, vI, rfl, SE, SI⟩⟩ := h
  · exact ⟨hx, _, _, _, _, _, _, _, _, rfl, fun _ _ _ _ => .inl ⟨h1, rfl, _, _, _, rfl⟩⟩
  · obtain ⟨aE', cE', hE, -, RE, hEn⟩ := SE.ex
    obtain ⟨aI, cI, rfl, -, RI, hIn⟩ := SI.ex
    cases hE
    exact ⟨hx, _, _, _, _, _, _, _, _, rfl, fun S w2 hS he => .inr ⟨h1, rfl, rfl, rfl, RE.ext' he (fun hn hm => by have := hEn hn; have := hS _ hm; omega), _, _, rfl, RI.ext' he (fun hn hm => by have := hIn hn; have := hS _ hm; omega)⟩⟩
/-- A round that was made of accounts and dues, beside one that is held against it. -/
structure NowZ where
  b : Nat
  N : Int
  aE : Option Addr
  nE : Nat
  cE : Nat
  aI : Option Addr
  nI : Nat
  cI : Nat
  code : Int
def NowI (w0 : World) (rs : List Int) (ds : List Du) (net : Bool) (b5 : Nat) (o5 : Obj) (z : NowZ) (w : World) : Prop :=
  Ext [] w0 w ∧ w.heap[b5]? = some o5 ∧ w.heap[z.b]? = some (Bl 28 [.int .i64 z.N, .slice z.aE z.nE z.cE]) ∧ RoundU w rs ds net z.N z.aE z.nE (.slice z.aI z.nI z.cI) z.code
def nowB (acs : List Ac) (ds : List Du) (r : Rnd) : Bool :=
  brightB (acs.map roomV) ds && (decide (((acs.length + 1 : Nat) : Int) = r.N) && (decide (roundE (acs.map roomV) (opn ds) r.cmp = r.es) && decide ((opn ds).map Du.id = r.ids)))
set_option maxRecDepth 20000 in
set_option maxHeartbeats 8000000 in
theorem now_ok {bx bd : Nat} {acs : List Ac} {ds : List Du} {nx : Int} (ha : aofC acs = 0) (hd : ofC ds nx = 0) {r : Rnd} {q : RSl} (w : World) (A : AcAt w 116 bx acs) (D : DuAt w bd ds) (RA : RAt w r q) (he : r.es.length ≤ 1000000) (hi : r.ids.length ≤ 1000000) :
    Ret Tryz.prog 67 #[ptr bx, ptr bd, .agg (rcells r q).toArray] w fun v w' => v = .bool (nowB acs ds r) ∧ Ext [] w w' := by
  obtain ⟨w0, rfl⟩ : ∃ w0, w0 = w := ⟨_, rfl⟩
  have H := Ctx.start w0 []
  have hn16 := (aofC_iff.1 ha).1
  have hm64 := (ofC_iff.1 hd).1
  obtain ⟨rs, hrs⟩ : ∃ rs, rs = acs.map roomV := ⟨_, rfl⟩
  have hrl : rs.length = acs.length := by rw [hrs, List.length_map]
  refine ret_of_W (fn := Tryz.f67) Tryz.func67 rfl [.pointer (some ⟨bx, 0, none⟩), .pointer (some ⟨bd, 0, none⟩), .agg (rcells r q).toArray] rfl (by kernel_rfl) ?_
  refine W_rseq ?_
  refine op_box rfl (rcells r q) (.agg _) rfl rfl H ?_
  rintro b5 w - H
  refine op_assign rfl (.bool _) rfl ?_
  refine op_nil (at_then ?_)
  have hx5 := H.ext
  have h5 := H.get at0
  obtain ⟨w5, rfl⟩ : ∃ z, z = w := ⟨_, rfl⟩
  refine W_join 2097024 (α := NowZ) (fun z => [(7, ptr z.b), (8, .slice z.aI z.nI z.cI), (9, .int .i64 z.code)]) (NowI w0 rs ds r.cmp b5 (Bl 33 (rcells r q))) rfl ?_ ?_
  · skip
    refine W_trz (.two [0, 2, 4, 5] 1 (.two [] 3 (.two [] 6 (.one [7, 8, 9, 10] 11 (.one [] 12 (.one [] 13 (.one [] 14 .stop)))) 11 (.one [] 6 (.one [7, 8, 9, 10] 12 (.one [] 13 (.one [] 14 .stop))))) 11 (.one [] 3 (.one [] 6 (.one [7, 8, 9, 10] 12 (.one [] 13 (.one [] 14 .stop)))))) 11 (.one [] 1 (.one [] 3 (.one [] 6 (.one [7, 8, 9, 10] 12 (.one [] 13 (.one [] 14 .stop))))))) (fun z => Ext [] w5 z) mixed_SqJ (by kernel_rfl) (Ext.drew [] w5) ?_
    refine tr_two rfl rfl rfl ?_
    refine t_move rfl (.pointer _) rfl ?_
    refine t_move rfl (.pointer _) rfl ?_
    refine t_fieldAddr rfl fo_33_2_SqJ rfl ?_
    first | refine t_ldb rfl ag_4_SqJ rfl True.intro (by first | exact at0 | exact at1 | exact at2 | exact at3 | exact at4 | exact at5 | exact at6 | exact at7 | exact at8 | exact at9) rfl ?_ | refine t_ld rfl ag_4_SqJ rfl (fun _ hx => (by rw [cell_bl (hx.to h5 (by simp))]; rfl)) ?_
    refine t_nil ?_
    have E := Ext.drew [] w5
    refine ⟨?_, ?_⟩
    · skip
      refine op_call rfl ca_26_SqJ (rooms7_ok ha _ (A.ext0 (hx5.trans E))) rfl ?_
      rintro v w ⟨hx12, a2, c2, rfl, R2⟩
      rw [← hrs] at R2 ⊢
      replace E := E.trans hx12
      refine op_nil (at_tr (by first | exact E | exact E.trans H.ext | exact E.then H.ext (fun x hx => .inr (by rw [List.mem_singleton.1 hx]; exact hn7))) ?_)
      refine tr_two rfl rfl rfl ?_
      refine t_nil ?_
      refine ⟨?_, ?_⟩
      · skip
        refine op_call rfl ca_18_SqJ (list7_ok hd _ (D.ext0 (hx5.trans E))) rfl ?_
        rintro v w ⟨hx14, a3, c3, rfl, R3⟩
        replace E := E.trans hx14
        replace R2 := R2.ext0 hx14
        refine op_nil (at_tr (by first | exact E | exact E.trans H.ext | exact E.then H.ext (fun x hx => .inr (by rw [List.mem_singleton.1 hx]; exact hn7))) ?_)
        refine tr_two rfl rfl rfl ?_
        refine t_nil ?_
        refine ⟨?_, ?_⟩
        · skip
          refine op_call rfl ca_58_SqJ (bround_ok a2 a3 _ c2 _ c3 rs ds r.cmp _ R2 rfl (by omega) R3 rfl (by omega)) rfl ?_
          rintro v w hR
          obtain ⟨hx17, N, aE, nE, cE, aI, nI, cI, code, rfl, hU⟩ := hR.uni
          replace E := E.trans hx17
          refine op_nil (at_tr (by first | exact E | exact E.trans H.ext | exact E.then H.ext (fun x hx => .inr (by rw [List.mem_singleton.1 hx]; exact hn7))) ?_)
          refine tr_one rfl rfl ?_
          refine t_move rfl (.tuple _) rfl ?_
          refine t_extract rfl rfl rfl ?_
          refine t_extract rfl rfl rfl ?_
          refine t_extract rfl rfl rfl ?_
          refine t_nil ?_
          have H := Ctx.start w []
          refine op_alloc rfl zc_28_SqJ H ?_
          rintro b7 w - H
          refine op_nil (at_tr (by first | exact E | exact E.trans H.ext | exact E.then H.ext (fun x hx => .inr (by rw [List.mem_singleton.1 hx]; exact hn7))) ?_)
          refine tr_one rfl rfl ?_
          refine t_nil ?_
          refine op_stb0 rfl sz_28_SqJ rfl rfl rfl (by simp [oneCell]) H (by first | exact at0 | exact at1 | exact at2 | exact at3 | exact at4 | exact at5 | exact at6 | exact at7 | exact at8 | exact at9) rfl ?_
          rintro w H
          refine op_nil (at_tr (by first | exact E | exact E.trans H.ext | exact E.then H.ext (fun x hx => .inr (by rw [List.mem_singleton.1 hx]; exact hn7))) ?_)
          refine tr_one rfl rfl ?_
          refine t_nil ?_
          refine op_assign rfl (.slice _ _ _) rfl ?_
          refine op_nil (at_tr (by first | exact E | exact E.trans H.ext | exact E.then H.ext (fun x hx => .inr (by rw [List.mem_singleton.1 hx]; exact hn7))) ?_)
          refine tr_one rfl rfl ?_
          refine t_nil ?_
          refine op_assign rfl (.int _ _) rfl ?_
          refine op_nil (at_tr (by first | exact E | exact E.trans H.ext | exact E.then H.ext (fun x hx => .inr (by rw [List.mem_singleton.1 hx]; exact hn7))) ?_)
          refine tr_stop ?_
          refine at_then ?_
          exact ⟨⟨b7, N, aE, nE, cE, aI, nI, cI, code⟩, rfl, ⟨rfl, rfl, rfl, trivial⟩, hx5.trans (E.trans H.ext), (E.trans H.ext).to h5 (by simp), H.get at0, hU [] _ (by simp) H.ext⟩
        · skip
          have H := Ctx.start w []
          refine op_alloc rfl zc_28_SqJ H ?_
          rintro b7 w - H
          have hn7 : w5.heap.size ≤ b7 := Nat.le_trans E.size ((H.own _ (List.mem_cons_self ..)).elim (fun h => by cases h) id)
          replace E := E.trans H.ext
          have hb7 := H.get at0
          replace R2 := R2.ext0 H.ext
          replace R3 := R3.ext0 H.ext
          refine op_nil (at_tr (by first | exact E | exact E.trans H.ext | exact E.then H.ext (fun x hx => .inr (by rw [List.mem_singleton.1 hx]; exact hn7))) ?_)
          refine tr_one rfl rfl ?_
          refine t_nil ?_
          have hl7 := heap_lt hb7
          refine op_call rfl ca_58_SqJ (bround_ok a2 a3 _ c2 _ c3 rs ds r.cmp _ R2 rfl (by omega) R3 rfl (by omega)) rfl ?_
          rintro v w hR
          obtain ⟨hx17, N, aE, nE, cE, aI, nI, cI, code, rfl, hU⟩ := hR.uni
          replace E := E.trans hx17
          replace hb7 := hx17.to hb7 (by simp)
          have H := Ctx.start1 hb7
          refine op_nil (at_tr (by first | exact E | exact E.trans H.ext | exact E.then H.ext (fun x hx => .inr (by rw [List.mem_singleton.1 hx]; exact hn7))) ?_)
          refine tr_one rfl rfl ?_
          refine t_move rfl (.tuple _) rfl ?_
          refine t_extract rfl rfl rfl ?_
          refine t_extract rfl rfl rfl ?_
          refine t_extract rfl rfl rfl ?_
          refine t_nil ?_
          refine op_stb0 rfl sz_28_SqJ rfl rfl rfl (by simp [oneCell]) H (by first | exact at0 | exact at1 | exact at2 | exact at3 | exact at4 | exact at5 | exact at6 | exact at7 | exact at8 | exact at9) rfl ?_
          rintro w H
          refine op_nil (at_tr (by first | exact E | exact E.trans H.ext | exact E.then H.ext (fun x hx => .inr (by rw [List.mem_singleton.1 hx]; exact hn7))) ?_)
          refine tr_one rfl rfl ?_
          refine t_nil ?_
          refine op_assign rfl (.slice _ _ _) rfl ?_
          refine op_nil (at_tr (by first | exact E | exact E.trans H.ext | exact E.then H.ext (fun x hx => .inr (by rw [List.mem_singleton.1 hx]; exact hn7))) ?_)
          refine tr_one rfl rfl ?_
          refine t_nil ?_
          refine op_assign rfl (.int _ _) rfl ?_
          refine op_nil (at_tr (by first | exact E | exact E.trans H.ext | exact E.then H.ext (fun x hx => .inr (by rw [List.mem_singleton.1 hx]; exact hn7))) ?_)
          refine tr_stop ?_
          refine at_then ?_
          have E2 := E.then H.ext fun x hx => .inr (by rw [List.mem_singleton.1 hx]; exact hn7)
          exact ⟨⟨b7, N, aE, nE, cE, aI, nI, cI, code⟩, rfl, ⟨rfl, rfl, rfl, trivial⟩, hx5.trans E2, E2.to h5 (by simp), H.get at0, hU [b7] _ (by simpa using hl7) H.ext⟩
      · skip
        have H := Ctx.start w []
        refine op_alloc rfl zc_28_SqJ H ?_
        rintro b7 w - H
        have hn7 : w5.heap.size ≤ b7 := Nat.le_trans E.size ((H.own _ (List.mem_cons_self ..)).elim (fun h => by cases h) id)
        replace E := E.trans H.ext
        have hb7 := H.get at0
        replace R2 := R2.ext0 H.ext
        refine op_nil (at_tr (by first | exact E | exact E.trans H.ext | exact E.then H.ext (fun x hx => .inr (by rw [List.mem_singleton.1 hx]; exact hn7))) ?_)
        refine tr_one rfl rfl ?_
        refine t_nil ?_
        refine op_call rfl ca_18_SqJ (list7_ok hd _ (D.ext0 (hx5.trans E))) rfl ?_
        rintro v w ⟨hx14, a3, c3, rfl, R3⟩
        replace E := E.trans hx14
        replace R2 := R2.ext0 hx14
        replace hb7 := hx14.to hb7 (by simp)
        refine op_nil (at_tr (by first | exact E | exact E.trans H.ext | exact E.then H.ext (fun x hx => .inr (by rw [List.mem_singleton.1 hx]; exact hn7))) ?_)
        refine tr_one rfl rfl ?_
        refine t_nil ?_
        have hl7 := heap_lt hb7
        refine op_call rfl ca_58_SqJ (bround_ok a2 a3 _ c2 _ c3 rs ds r.cmp _ R2 rfl (by omega) R3 rfl (by omega)) rfl ?_
        rintro v w hR
        obtain ⟨hx17, N, aE, nE, cE, aI, nI, cI, code, rfl, hU⟩ := hR.uni
        replace E := E.trans hx17
        replace hb7 := hx17.to hb7 (by simp)
        have H := Ctx.start1 hb7
        refine op_nil (at_tr (by first | exact E | exact E.trans H.ext | exact E.then H.ext (fun x hx => .inr (by rw [List.mem_singleton.1 hx]; exact hn7))) ?_)
        refine tr_one rfl rfl ?_
        refine t_move rfl (.tuple _) rfl ?_
        refine t_extract rfl rfl rfl ?_
        refine t_extract rfl rfl rfl ?_
        refine t_extract rfl rfl rfl ?_
        refine t_nil ?_
        refine op_stb0 rfl sz_28_SqJ rfl rfl rfl (by simp [oneCell]) H (by first | exact at0 | exact at1 | exact at2 | exact at3 | exact at4 | exact at5 | exact at6 | exact at7 | exact at8 | exact at9) rfl ?_
        rintro w H
        refine op_nil (at_tr (by first | exact E | exact E.trans H.ext | exact E.then H.ext (fun x hx => .inr (by rw [List.mem_singleton.1 hx]; exact hn7))) ?_)
        refine tr_one rfl rfl ?_
        refine t_nil ?_
        refine op_assign rfl (.slice _ _ _) rfl ?_
        refine op_nil (at_tr (by first | exact E | exact E.trans H.ext | exact E.then H.ext (fun x hx => .inr (by rw [List.mem_singleton.1 hx]; exact hn7))) ?_)
        refine tr_one rfl rfl ?_
        refine t_nil ?_
        refine op_assign rfl (.int _ _) rfl ?_
        refine op_nil (at_tr (by first | exact E | exact E.trans H.ext | exact E.then H.ext (fun x hx => .inr (by rw [List.mem_singleton.1 hx]; exact hn7))) ?_)
        refine tr_stop ?_
        refine at_then ?_
        have E2 := E.then H.ext fun x hx => .inr (by rw [List.mem_singleton.1 hx]; exact hn7)
        exact ⟨⟨b7, N, aE, nE, cE, aI, nI, cI, code⟩, rfl, ⟨rfl, rfl, rfl, trivial⟩, hx5.trans E2, E2.to h5 (by simp), H.get at0, hU [b7] _ (by simpa using hl7) H.ext⟩
    · skip
      have H := Ctx.start (World.drew w5) []
      refine op_alloc rfl zc_28_SqJ H ?_
      rintro b7 w - H
      have hn7 : w5.heap.size ≤ b7 := Nat.le_trans E.size ((H.own _ (List.mem_cons_self ..)).elim (fun h => by cases h) id)
      replace E := E.trans H.ext
      have hb7 := H.get at0
      refine op_nil (at_tr (by first | exact E | exact E.trans H.ext | exact E.then H.ext (fun x hx => .inr (by rw [List.mem_singleton.1 hx]; exact hn7))) ?_)
      refine tr_one rfl rfl ?_
      refine t_nil ?_
      refine op_call rfl ca_26_SqJ (rooms7_ok ha _ (A.ext0 (hx5.trans E))) rfl ?_
      rintro v w ⟨hx12, a2, c2, rfl, R2⟩
      rw [← hrs] at R2 ⊢
      replace E := E.trans hx12
      replace hb7 := hx12.to hb7 (by simp)
      refine op_nil (at_tr (by first | exact E | exact E.trans H.ext | exact E.then H.ext (fun x hx => .inr (by rw [List.mem_singleton.1 hx]; exact hn7))) ?_)
      refine tr_one rfl rfl ?_
      refine t_nil ?_
      refine op_call rfl ca_18_SqJ (list7_ok hd _ (D.ext0 (hx5.trans E))) rfl ?_
      rintro v w ⟨hx14, a3, c3, rfl, R3⟩
      replace E := E.trans hx14
      replace R2 := R2.ext0 hx14
      replace hb7 := hx14.to hb7 (by simp)
      refine op_nil (at_tr (by first | exact E | exact E.trans H.ext | exact E.then H.ext (fun x hx => .inr (by rw [List.mem_singleton.1 hx]; exact hn7))) ?_)
      refine tr_one rfl rfl ?_
      refine t_nil ?_
      have hl7 := heap_lt hb7
      refine op_call rfl ca_58_SqJ (bround_ok a2 a3 _ c2 _ c3 rs ds r.cmp _ R2 rfl (by omega) R3 rfl (by omega)) rfl ?_
      rintro v w hR
      obtain ⟨hx17, N, aE, nE, cE, aI, nI, cI, code, rfl, hU⟩ := hR.uni
      replace E := E.trans hx17
      replace hb7 := hx17.to hb7 (by simp)
      have H := Ctx.start1 hb7
      refine op_nil (at_tr (by first | exact E | exact E.trans H.ext | exact E.then H.ext (fun x hx => .inr (by rw [List.mem_singleton.1 hx]; exact hn7))) ?_)
      refine tr_one rfl rfl ?_
      refine t_move rfl (.tuple _) rfl ?_
      refine t_extract rfl rfl rfl ?_
      refine t_extract rfl rfl rfl ?_
      refine t_extract rfl rfl rfl ?_
      refine t_nil ?_
      refine op_stb0 rfl sz_28_SqJ rfl rfl rfl (by simp [oneCell]) H (by first | exact at0 | exact at1 | exact at2 | exact at3 | exact at4 | exact at5 | exact at6 | exact at7 | exact at8 | exact at9) rfl ?_
      rintro w H
      refine op_nil (at_tr (by first | exact E | exact E.trans H.ext | exact E.then H.ext (fun x hx => .inr (by rw [List.mem_singleton.1 hx]; exact hn7))) ?_)
      refine tr_one rfl rfl ?_
      refine t_nil ?_
      refine op_assign rfl (.slice _ _ _) rfl ?_
      refine op_nil (at_tr (by first | exact E | exact E.trans H.ext | exact E.then H.ext (fun x hx => .inr (by rw [List.mem_singleton.1 hx]; exact hn7))) ?_)
      refine tr_one rfl rfl ?_
      refine t_nil ?_
      refine op_assign rfl (.int _ _) rfl ?_
      refine op_nil (at_tr (by first | exact E | exact E.trans H.ext | exact E.then H.ext (fun x hx => .inr (by rw [List.mem_singleton.1 hx]; exact hn7))) ?_)
      refine tr_stop ?_
      refine at_then ?_
      have E2 := E.then H.ext fun x hx => .inr (by rw [List.mem_singleton.1 hx]; exact hn7)
      exact ⟨⟨b7, N, aE, nE, cE, aI, nI, cI, code⟩, rfl, ⟨rfl, rfl, rfl, trivial⟩, hx5.trans E2, E2.to h5 (by simp), H.get at0, hU [b7] _ (by simpa using hl7) H.ext⟩
  · rintro ⟨b7, N, aE, nE, cE, aI, nI, cI, code⟩ j1 w ⟨hx0, h5', hb7, hU⟩; dsimp only at hb7 hU; dsimp only
    obtain ⟨w1, rfl⟩ : ∃ z, z = w := ⟨_, rfl⟩
    have H := Ctx.start w1 []
    have RA1 := RA.ext0 hx0
    rcases hU with ⟨hb, rfl, -⟩ | ⟨hb, rfl, rfl, rfl, RE, aI', cI', hI, RI⟩
    · skip
      refine W_rseq ?_
      refine op_move rfl (.int _ _) rfl ?_
      refine op_eql rfl rfl rfl ?_
      refine op_move rfl (.bool _) rfl ?_
      refine Wops_split 23 rfl ?_ ?_
      · intro g1
        replace g1 := dec_t g1
        exact absurd g1 (by decide)
      · intro g1
        replace g1 := dec_f g1
        refine op_skip rfl ?_
        refine op_skip rfl ?_
        refine op_skip rfl ?_
        refine op_skip rfl ?_
        refine op_skip rfl ?_
        refine op_skip rfl ?_
        refine op_pick0 rfl rfl (.bool _) rfl ?_
        refine op_move rfl (.bool _) rfl ?_
        refine op_skip rfl ?_
        refine op_skip rfl ?_
        refine op_skip rfl ?_
        refine op_skip rfl ?_
        refine op_skip rfl ?_
        refine op_skip rfl ?_
        refine op_pick0 rfl rfl (.bool _) rfl ?_
        refine op_move rfl (.bool _) rfl ?_
        refine op_skip rfl ?_
        refine op_skip rfl ?_
        refine op_skip rfl ?_
        refine op_skip rfl ?_
        refine op_pick0 rfl rfl (.bool _) rfl ?_
        refine op_assign rfl (.bool _) rfl ?_
        refine op_nil (at_then ?_)
        refine W_ret (leave1 (v := (.bool _)) rfl rfl rfl ?_)
        exact ⟨congrArg Value.bool (by unfold nowB; rw [← hrs, hb]; simp_all), hx0⟩
    · skip
      cases hI
      have hel : (roundE rs (opn ds) r.cmp).length ≤ 1000000 := by have := opn_len ds; rw [rnd_len]; split <;> omega
      have hil : ((opn ds).map Du.id).length ≤ 1000000 := by have := opn_len ds; rw [List.length_map]; omega
      refine W_rseq ?_
      refine op_move rfl (.int _ _) rfl ?_
      refine op_eql rfl rfl rfl ?_
      refine op_move rfl (.bool _) rfl ?_
      refine Wops_split 23 rfl ?_ ?_
      · intro h1
        replace h1 := dec_t h1
        refine op_fieldAddr rfl fo_28_0_SqJ rfl ?_
        first | refine op_ldb rfl ag_3_SqJ rfl H (by first | exact at0 | exact at1 | exact at2 | exact at3 | exact at4 | exact at5 | exact at6 | exact at7 | exact at8 | exact at9) rfl ?_ | refine op_ld rfl ag_3_SqJ rfl ((by rw [cell_bl (H.ext.to hb7 (by simp))]; rfl)) ?_ | refine op_ld rfl ag_3_SqJ rfl ((by rw [cell_bl (H.ext.to h5' (by simp))]; rfl)) ?_
        refine op_fieldAddr rfl fo_33_4_SqJ rfl ?_
        refine op_fieldAddr rfl fo_28_0_SqJ rfl ?_
        first | refine op_ldb rfl ag_3_SqJ rfl H (by first | exact at0 | exact at1 | exact at2 | exact at3 | exact at4 | exact at5 | exact at6 | exact at7 | exact at8 | exact at9) rfl ?_ | refine op_ld rfl ag_3_SqJ rfl ((by rw [cell_bl (H.ext.to hb7 (by simp))]; rfl)) ?_ | refine op_ld rfl ag_3_SqJ rfl ((by rw [cell_bl (H.ext.to h5' (by simp))]; rfl)) ?_
        refine op_eql rfl rfl rfl ?_
        refine op_pick1 rfl rfl (.bool _) rfl ?_
        refine op_move rfl (.bool _) rfl ?_
        refine Wops_split 31 rfl ?_ ?_
        · intro h2
          replace h2 := dec_t h2
          refine op_fieldAddr rfl fo_28_1_SqJ rfl ?_
          first | refine op_ldb rfl ag_26_SqJ rfl H (by first | exact at0 | exact at1 | exact at2 | exact at3 | exact at4 | exact at5 | exact at6 | exact at7 | exact at8 | exact at9) rfl ?_ | refine op_ld rfl ag_26_SqJ rfl ((by rw [cell_bl (H.ext.to hb7 (by simp))]; rfl)) ?_ | refine op_ld rfl ag_26_SqJ rfl ((by rw [cell_bl (H.ext.to h5' (by simp))]; rfl)) ?_
          refine op_fieldAddr rfl fo_33_4_SqJ rfl ?_
          refine op_fieldAddr rfl fo_28_1_SqJ rfl ?_
          first | refine op_ldb rfl ag_26_SqJ rfl H (by first | exact at0 | exact at1 | exact at2 | exact at3 | exact at4 | exact at5 | exact at6 | exact at7 | exact at8 | exact at9) rfl ?_ | refine op_ld rfl ag_26_SqJ rfl ((by rw [cell_bl (H.ext.to hb7 (by simp))]; rfl)) ?_ | refine op_ld rfl ag_26_SqJ rfl ((by rw [cell_bl (H.ext.to h5' (by simp))]; rfl)) ?_
          refine op_call rfl ca_136_SqJ (eqE_ok aE q.aE _ cE _ q.cE (roundE rs (opn ds) r.cmp) r.es _ (RE.ext0 H.ext) rfl hel (RA1.E.ext0 H.ext) rfl he) rfl ?_
          rintro v w ⟨rfl, hx37⟩
          replace H := H.call hx37
          refine op_pick1 rfl rfl (.bool _) rfl ?_
          refine op_move rfl (.bool _) rfl ?_
          refine Wops_split 39 rfl ?_ ?_
          · intro h3
            refine op_move rfl (.slice _ _ _) rfl ?_
            refine op_fieldAddr rfl fo_33_3_SqJ rfl ?_
            first | refine op_ldb rfl ag_25_SqJ rfl H (by first | exact at0 | exact at1 | exact at2 | exact at3 | exact at4 | exact at5 | exact at6 | exact at7 | exact at8 | exact at9) rfl ?_ | refine op_ld rfl ag_25_SqJ rfl ((by rw [cell_bl (H.ext.to hb7 (by simp))]; rfl)) ?_ | refine op_ld rfl ag_25_SqJ rfl ((by rw [cell_bl (H.ext.to h5' (by simp))]; rfl)) ?_
            refine op_call rfl ca_137_SqJ (eqU_ok aI q.aI _ cI _ q.cI ((opn ds).map Du.id) r.ids _ (RI.ext0 H.ext) rfl hil (RA1.I.ext0 H.ext) rfl hi) rfl ?_
            rintro v w ⟨rfl, hx43⟩
            replace H := H.call hx43
            refine op_pick1 rfl rfl (.bool _) rfl ?_
            refine op_assign rfl (.bool _) rfl ?_
            refine op_nil (at_then ?_)
            refine W_ret (leave1 (v := (.bool _)) rfl rfl rfl ?_)
            exact ⟨congrArg Value.bool (by unfold nowB; rw [← hrs, hb, ← hrl]; simp_all), hx0.trans H.ext⟩
          · intro h4
            refine op_skip rfl ?_
            refine op_skip rfl ?_
            refine op_skip rfl ?_
            refine op_skip rfl ?_
            refine op_pick0 rfl rfl (.bool _) rfl ?_
            refine op_assign rfl (.bool _) rfl ?_
            refine op_nil (at_then ?_)
            refine W_ret (leave1 (v := (.bool _)) rfl rfl rfl ?_)
            exact ⟨congrArg Value.bool (by unfold nowB; rw [← hrs, hb, ← hrl]; simp_all), hx0.trans H.ext⟩
        · intro h5
          replace h5 := dec_f h5
          refine op_skip rfl ?_
          refine op_skip rfl ?_
          refine op_skip rfl ?_
          refine op_skip rfl ?_
          refine op_skip rfl ?_
          refine op_skip rfl ?_
          refine op_pick0 rfl rfl (.bool _) rfl ?_
          refine op_move rfl (.bool _) rfl ?_
          refine op_skip rfl ?_
          refine op_skip rfl ?_
          refine op_skip rfl ?_
          refine op_skip rfl ?_
          refine op_pick0 rfl rfl (.bool _) rfl ?_
          refine op_assign rfl (.bool _) rfl ?_
          refine op_nil (at_then ?_)
          refine W_ret (leave1 (v := (.bool _)) rfl rfl rfl ?_)
          exact ⟨congrArg Value.bool (by unfold nowB; rw [← hrs, hb, ← hrl]; simp_all), hx0.trans H.ext⟩
      · intro h6
        replace h6 := dec_f h6
        refine op_skip rfl ?_
        refine op_skip rfl ?_
        refine op_skip rfl ?_
        refine op_skip rfl ?_
        refine op_skip rfl ?_
        refine op_skip rfl ?_
        refine op_pick0 rfl rfl (.bool _) rfl ?_
        refine op_move rfl (.bool _) rfl ?_
        refine op_skip rfl ?_
        refine op_skip rfl ?_
        refine op_skip rfl ?_
        refine op_skip rfl ?_
        refine op_skip rfl ?_
        refine op_skip rfl ?_
        refine op_pick0 rfl rfl (.bool _) rfl ?_
        refine op_move rfl (.bool _) rfl ?_
        refine op_skip rfl ?_
        refine op_skip rfl ?_
        refine op_skip rfl ?_
        refine op_skip rfl ?_
        refine op_pick0 rfl rfl (.bool _) rfl ?_
        refine op_assign rfl (.bool _) rfl ?_
        refine op_nil (at_then ?_)
        refine W_ret (leave1 (v := (.bool _)) rfl rfl rfl ?_)
        exact ⟨congrArg Value.bool (by unfold nowB; rw [← hrs, hb, ← hrl]; simp_all), hx0.trans H.ext⟩
end Go.Proofs.YtapphbmlkdhnmaaGreat

/- A round's pays, one by one: the closure. -/
namespace Go.Proofs.YtapphbmlkdhnmaaGreat
open Go.GV
theorem ag_29_SqK : aggB Tryz.prog 29 = some false := by kernel_rfl
theorem ag_2_SqK : aggB Tryz.prog 2 = some false := by kernel_rfl
theorem ag_36_SqK : aggB Tryz.prog 36 = some false := by kernel_rfl
theorem ag_3_SqK : aggB Tryz.prog 3 = some false := by kernel_rfl
theorem ca_54_SqK : callable Tryz.prog 54 = true := by kernel_rfl
theorem ca_69_SqK : callable Tryz.prog 69 = true := by kernel_rfl
theorem el_29_SqK : elemT Tryz.prog 29 = some 2 := by kernel_rfl
theorem fo_62_1_SqK : fieldO Tryz.prog 62 1 = some 1 := by kernel_rfl
theorem fo_62_2_SqK : fieldO Tryz.prog 62 2 = some 2 := by kernel_rfl
theorem sz_2_SqK : tsize Tryz.prog 2 = some 1 := by kernel_rfl
theorem sz_62_SqK : tsize Tryz.prog 62 = some 7 := by kernel_rfl
theorem zc_62_SqK : zcells Tryz.prog 62 = some ([.int .u64 0, .int .i64 0, .int .i64 0, .int .i64 0, .int .i64 0, .int .i64 0, .bool false]) := by kernel_rfl
attribute [local irreducible] Wops W Wq Wt

set_option maxRecDepth 20000 in
set_option maxHeartbeats 4000000 in
theorem pay7_ok {c4 c7 by' bd b n : Nat} {nx : Int} {o : Obj} {ds : List Du} {d : Du} {x : Int} {f f' : Nat → Int} (w : World)
    (h4 : w.heap[c4]? = some (Bl 36 [ptr bd])) (h7 : w.heap[c7]? = some (Bl 29 [.slice (some ⟨by', 0, none⟩) n n])) (hd : w.heap[bd]? = some (Bl 123 (DU b nx))) (H0 : Ctx w [by', b] w [(by', Bl 2 (tabV f n)), (b, o)]) (hM : MapO .u64 (dm ds) o)
    (n4 : c4 ∉ [by', b]) (n7 : c7 ∉ [by', b]) (nd : bd ∉ [by', b]) (hf : findD ds d.id = some d) (hh : d.held = false) (hx : 0 ≤ x ∧ x ≤ d.am) (ham : AmOk ds) (hfr : 0 ≤ d.fr ∧ d.fr < n) (hto : 0 ≤ d.to ∧ d.to < n) (hn : n ≤ 1000000)
    (hfb : ∀ k, -1152921504606846976 ≤ f k ∧ f k ≤ 1152921504606846976) (hf' : ∀ k, f' k = f k + (one (d.to.toNat = k) - one (d.fr.toNat = k)) * x) :
    Ret Tryz.prog 68 #[.int .u64 d.id, .int .i64 x, ptr c4, ptr c7] w fun v w' => v = .int .i64 0 ∧ ∃ o', MapO .u64 (dm (payL ds d.id x)) o' ∧ Ctx w [by', b] w' [(by', Bl 2 (tabV f' n)), (b, o')] := by
  obtain ⟨w0, rfl⟩ : ∃ w0, w0 = w := ⟨_, rfl⟩
  have H := H0
  have hamd := ham d (findD_some hf).1
  obtain ⟨fn, hfn⟩ : ∃ fn : Nat, d.fr = fn := ⟨d.fr.toNat, by omega⟩
  obtain ⟨tn, htn⟩ : ∃ tn : Nat, d.to = tn := ⟨d.to.toNat, by omega⟩
  obtain ⟨f1, hf1⟩ : ∃ f1, f1 = upd f fn (f fn - x) := ⟨_, rfl⟩
  have hof : f1 fn = f fn - x := by rw [hf1, upd_same]
  have hon : ∀ q, q ≠ fn → f1 q = f q := fun q hq => by rw [hf1, upd_ne hq]
  have hst : ∀ q, f' q = upd f1 tn (f1 tn + x) q := fun q => by
    rw [hf', hfn, htn, Int.toNat_natCast, Int.toNat_natCast]
    by_cases h1 : q = tn
    · subst h1
      rw [upd_same, one_t rfl]
      by_cases h2 : fn = q
      · subst h2; rw [one_t rfl, hof]; omega
      · rw [one_f h2, hon q (Ne.symm h2)]; omega
    · rw [upd_ne h1, one_f (Ne.symm h1)]
      by_cases h2 : fn = q
      · subst h2; rw [one_t rfl, hof]; omega
      · rw [one_f h2, hon q (Ne.symm h2)]; omega
  have hb1 := hfb fn
  have hb2 := hfb tn
  have hot : -1157425104234217472 ≤ f1 tn ∧ f1 tn ≤ 1157425104234217472 := by
    by_cases h : tn = fn
    · rw [h, hof]; omega
    · rw [hon tn h]; omega
  have hbb := H.ne at0 at1 (by decide)
  refine ret_of_W (fn := Tryz.f68) Tryz.func68 rfl [.int .u64 d.id, .int .i64 x, .pointer (some ⟨c4, 0, none⟩), .pointer (some ⟨c7, 0, none⟩)] rfl (by kernel_rfl) ?_
  refine W_rseq ?_
  refine op_assign rfl (.int _ _) rfl ?_
  refine op_nil (at_then ?_)
  refine W_rseq ?_
  first | refine op_ldb rfl ag_36_SqK rfl H (by first | exact at0 | exact at1 | exact at2 | exact at3 | exact at4 | exact at5 | exact at6 | exact at7 | exact at8 | exact at9) rfl ?_ | refine op_ld rfl ag_36_SqK rfl ((H.old (cell_bl h4 _) n4)) ?_ | refine op_ld rfl ag_36_SqK rfl ((H.old (cell_bl h7 _) n7)) ?_
  refine op_move rfl (.int _ _) rfl ?_
  refine op_call rfl ca_54_SqK (dget_ok _ (H.ext.to hd nd) (H.get at1) hM) rfl ?_
  rintro v w ⟨rfl, hx12⟩
  replace H := H.call hx12
  rw [show getD7 ds d.id = d by unfold getD7; rw [hf]; rfl]
  refine op_move rfl (.tuple _) rfl ?_
  refine op_extract rfl rfl rfl ?_
  refine op_extract rfl rfl rfl ?_
  refine op_alloc rfl zc_62_SqK H ?_
  rintro b7 w - H
  refine op_stb0 rfl sz_62_SqK rfl rfl rfl (by first | exact encD_one _ | simp [oneCell]) H (by first | exact at0 | exact at1 | exact at2 | exact at3 | exact at4 | exact at5 | exact at6 | exact at7 | exact at8 | exact at9) rfl ?_
  rintro w H
  refine op_assign rfl (.bool _) rfl ?_
  refine op_nil (at_then ?_)
  refine W_rseq ?_
  first | refine op_ldb rfl ag_29_SqK rfl H (by first | exact at0 | exact at1 | exact at2 | exact at3 | exact at4 | exact at5 | exact at6 | exact at7 | exact at8 | exact at9) rfl ?_ | refine op_ld rfl ag_29_SqK rfl ((H.old (cell_bl h4 _) n4)) ?_ | refine op_ld rfl ag_29_SqK rfl ((H.old (cell_bl h7 _) n7)) ?_
  refine op_fieldAddr rfl fo_62_1_SqK rfl ?_
  first | refine op_ldb rfl ag_3_SqK rfl H (by first | exact at0 | exact at1 | exact at2 | exact at3 | exact at4 | exact at5 | exact at6 | exact at7 | exact at8 | exact at9) rfl ?_ | refine op_ld rfl ag_3_SqK rfl ((H.old (cell_bl h4 _) n4)) ?_ | refine op_ld rfl ag_3_SqK rfl ((H.old (cell_bl h7 _) n7)) ?_
  refine op_indexAddr rfl el_29_SqK sz_2_SqK rfl rfl (by omega) (by omega) ?_
  refine op_ldr fn _ rfl ag_2_SqK rfl H at1 (by rw [hfn]; simp) (by omega) rfl ?_
  refine op_move rfl (.int _ _) rfl ?_
  refine op_sub_i64 rfl rfl rfl (by omega) (by omega) ?_
  refine op_indexAddr rfl el_29_SqK sz_2_SqK rfl rfl (by omega) (by omega) ?_
  refine op_str fn (fun q => .int .i64 (f1 q)) (.int _ _) rfl sz_2_SqK rfl rfl rfl H at1 (by rw [hfn]; simp) (by omega) (by rw [hof]) (fun q _ hq => by rw [hon q hq]) ?_
  rintro w H
  refine op_nil (at_then ?_)
  refine W_rseq ?_
  first | refine op_ldb rfl ag_29_SqK rfl H (by first | exact at0 | exact at1 | exact at2 | exact at3 | exact at4 | exact at5 | exact at6 | exact at7 | exact at8 | exact at9) rfl ?_ | refine op_ld rfl ag_29_SqK rfl ((H.old (cell_bl h4 _) n4)) ?_ | refine op_ld rfl ag_29_SqK rfl ((H.old (cell_bl h7 _) n7)) ?_
  refine op_fieldAddr rfl fo_62_2_SqK rfl ?_
  first | refine op_ldb rfl ag_3_SqK rfl H (by first | exact at0 | exact at1 | exact at2 | exact at3 | exact at4 | exact at5 | exact at6 | exact at7 | exact at8 | exact at9) rfl ?_ | refine op_ld rfl ag_3_SqK rfl ((H.old (cell_bl h4 _) n4)) ?_ | refine op_ld rfl ag_3_SqK rfl ((H.old (cell_bl h7 _) n7)) ?_
  refine op_indexAddr rfl el_29_SqK sz_2_SqK rfl rfl (by omega) (by omega) ?_
  refine op_ldr tn _ rfl ag_2_SqK rfl H at1 (by rw [htn]; simp) (by omega) rfl ?_
  refine op_move rfl (.int _ _) rfl ?_
  refine op_add_i64 rfl rfl rfl (by omega) (by omega) ?_
  refine op_indexAddr rfl el_29_SqK sz_2_SqK rfl rfl (by omega) (by omega) ?_
  refine op_str tn (fun q => .int .i64 (f' q)) (.int _ _) rfl sz_2_SqK rfl rfl rfl H at1 (by rw [htn]; simp) (by omega) (by rw [hst, upd_same]) (fun q _ hq => by rw [hst, upd_ne hq]) ?_
  rintro w H
  refine op_nil (at_then ?_)
  refine W_rseq ?_
  first | refine op_ldb rfl ag_36_SqK rfl H (by first | exact at0 | exact at1 | exact at2 | exact at3 | exact at4 | exact at5 | exact at6 | exact at7 | exact at8 | exact at9) rfl ?_ | refine op_ld rfl ag_36_SqK rfl ((H.old (cell_bl h4 _) n4)) ?_ | refine op_ld rfl ag_36_SqK rfl ((H.old (cell_bl h7 _) n7)) ?_
  refine op_move rfl (.int _ _) rfl ?_
  refine op_move rfl (.int _ _) rfl ?_
  obtain ⟨hc0, hS⟩ := payC_zero (p := (d, x)) ⟨hf, hh, hx.1, hx.2⟩
  dsimp only at hc0 hS
  have Hp := H.perm (show List.Perm _ [_, _, _] from (List.Perm.swap _ _ _).trans ((List.Perm.swap _ _ _).cons _))
  refine op_call rfl ca_69_SqK (dpay_ok (k := d.id) (x := x) _ (H.ext.to hd nd) (H.get at2) hM (by intro h; exact nd (by rw [h]; simp)) ham) rfl ?_
  rintro v w ⟨rfl, o', hM', H2⟩
  rw [hc0]
  rw [hS] at hM'
  refine op_assign rfl (.int _ _) rfl ?_
  refine op_nil (at_then ?_)
  refine W_ret (leave1 (v := (.int _ _)) rfl rfl rfl ?_)
  have HB := Ctx.back (L1 := [_]) (L2 := [_, _]) (Hp.perm (List.Perm.swap _ _ _)) H2
  exact ⟨rfl, o', hM', (HB.perm (List.Perm.swap _ _ _)).left (L := [_, _]) (L' := [_])⟩
end Go.Proofs.YtapphbmlkdhnmaaGreat

/- A round, applied. -/
namespace Go.Proofs.YtapphbmlkdhnmaaGreat
open Go.GV
theorem ag_24_SqL : aggB Tryz.prog 24 = some false := by kernel_rfl
theorem ag_25_SqL : aggB Tryz.prog 25 = some false := by kernel_rfl
theorem ag_28_SqL : aggB Tryz.prog 28 = some true := by kernel_rfl
theorem ag_29_SqL : aggB Tryz.prog 29 = some false := by kernel_rfl
theorem ag_2_SqL : aggB Tryz.prog 2 = some false := by kernel_rfl
theorem ag_31_SqL : aggB Tryz.prog 31 = some true := by kernel_rfl
theorem ag_33_SqL : aggB Tryz.prog 33 = some true := by kernel_rfl
theorem ag_36_SqL : aggB Tryz.prog 36 = some false := by kernel_rfl
theorem by_2_SqL : tbytes Tryz.prog 2 = some 8 := by kernel_rfl
theorem ca_16_SqL : callable Tryz.prog 16 = true := by kernel_rfl
theorem ca_66_SqL : callable Tryz.prog 66 = true := by kernel_rfl
theorem ca_67_SqL : callable Tryz.prog 67 = true := by kernel_rfl
theorem ca_68_SqL : callable Tryz.prog 68 = true := by kernel_rfl
theorem ca_70_SqL : callable Tryz.prog 70 = true := by kernel_rfl
theorem ca_71_SqL : callable Tryz.prog 71 = true := by kernel_rfl
theorem el_22_SqL : elemT Tryz.prog 22 = some 64 := by kernel_rfl
theorem el_25_SqL : elemT Tryz.prog 25 = some 24 := by kernel_rfl
theorem el_29_SqL : elemT Tryz.prog 29 = some 2 := by kernel_rfl
theorem fo_31_0_SqL : fieldO Tryz.prog 31 0 = some 0 := by kernel_rfl
theorem fo_33_3_SqL : fieldO Tryz.prog 33 3 = some 3 := by kernel_rfl
theorem fo_33_4_SqL : fieldO Tryz.prog 33 4 = some 4 := by kernel_rfl
theorem fo_33_5_SqL : fieldO Tryz.prog 33 5 = some 6 := by kernel_rfl
theorem sz_24_SqL : tsize Tryz.prog 24 = some 1 := by kernel_rfl
theorem sz_28_SqL : tsize Tryz.prog 28 = some 2 := by kernel_rfl
theorem sz_29_SqL : tsize Tryz.prog 29 = some 1 := by kernel_rfl
theorem sz_2_SqL : tsize Tryz.prog 2 = some 1 := by kernel_rfl
theorem sz_31_SqL : tsize Tryz.prog 31 = some 2 := by kernel_rfl
theorem sz_33_SqL : tsize Tryz.prog 33 = some 8 := by kernel_rfl
theorem un_35_SqL : Tryz.prog.underlying 35 = some (.pointer 116) := by kernel_rfl
theorem un_36_SqL : Tryz.prog.underlying 36 = some (.pointer 123) := by kernel_rfl
theorem zc_29_SqL : zcells Tryz.prog 29 = some ([.slice none 0 0]) := by kernel_rfl
theorem zc_2_SqL : zcells Tryz.prog 2 = some ([.int .i64 0]) := by kernel_rfl
attribute [local irreducible] Wops W Wq Wt

theorem perm7 {α : Type} (A B C p y q1 q2 : α) (E : List α) : (A :: B :: C :: (E ++ [p, y, q1, q2])).Perm (y :: C :: A :: B :: p :: q1 :: q2 :: E) := by
  have h1 : (A :: B :: C :: (E ++ [p, y, q1, q2])).Perm (A :: B :: C :: p :: y :: q1 :: q2 :: E) := ((List.perm_append_comm (l₁ := E) (l₂ := [p, y, q1, q2])).cons C |>.cons B).cons A
  have h2 : (A :: B :: C :: p :: y :: q1 :: q2 :: E).Perm (y :: A :: B :: C :: p :: q1 :: q2 :: E) := List.perm_middle (l₁ := [A, B, C, p])
  have h3 : (A :: B :: C :: p :: q1 :: q2 :: E).Perm (C :: A :: B :: p :: q1 :: q2 :: E) := List.perm_middle (l₁ := [A, B])
  exact h1.trans (h2.trans (h3.cons y))
theorem Ctx.turnEnt {w0 w w' : World} {S : List Nat} {L : List (Nat × Obj)} {a : Option Addr} {t : TypeId} {full full' : List Value} (H : Ctx w0 S w (L ++ ent a t full)) (he : Ext ((ent a t full).map (·.1)) w w') (hb : ∀ x ∈ ent a t full', w'.heap[x.1]? = some x.2) : Ctx w0 S w' (L ++ ent a t full') := by
  have H' : Ctx w ((ent a t full).map (·.1)) w' (ent a t full') := ⟨he, hb, ent_nd, fun x hx => by
    cases a with
    | none => simp [ent] at hx
    | some p =>
      simp only [ent, List.mem_singleton] at hx
      subst hx
      exact .inl (by simp [ent])⟩
  exact (Ctx.back (Ctx.comm H) H').comm
theorem sub_cells {w : World} {b : Nat} {t : TypeId} {l : List Value} (h : w.heap[b]? = some (Bl t l)) (o : Nat) (l' : List Value) (hl : (l.drop o).take l'.length = l') : ∀ j v, l'[j]? = some v → w.cell? ⟨b, o + j, none⟩ = some v := fun j v hv => by
  rw [cell_bl h]
  have hj := get_lt hv
  rw [← hl, List.getElem?_take, if_pos hj, List.getElem?_drop] at hv
  exact hv
theorem ROff.or {q : RSl} {r : Rnd} {S T : Nat → Prop} (h : ROff q r S) (k : ROff q r T) : ROff q r (fun x => S x ∨ T x) :=
  ⟨fun g x => x.elim (h.I g) (k.I g), fun g x => x.elim (h.E g) (k.E g), fun g x => x.elim (h.F g) (k.F g), fun g x => x.elim (h.P g) (k.P g)⟩
/-- What a right round says. -/
structure ApF (acs : List Ac) (ds : List Du) (r : Rnd) : Prop where
  B : Bright (acs.map roomV) ds
  N : r.N = (((acs.map roomV).length + 1 : Nat) : Int)
  es : r.es = roundE (acs.map roomV) (opn ds) r.cmp
  ids : r.ids = (opn ds).map Du.id
  pay : PayIn (opn ds) (r.fl.take (opn ds).length)
  len : r.fl.length = r.es.length
  by' : ∀ (k : Nat) (a : Ac), acs[k]? = some a → (r.cmp = true → byK (acs.map roomV) (opn ds) r.cmp r.fl k = 0) ∧ -(roomV a) ≤ byK (acs.map roomV) (opn ds) r.cmp r.fl k ∧ byK (acs.map roomV) (opn ds) r.cmp r.fl k ≤ 4503599627370496
  sum : sumTo (byK (acs.map roomV) (opn ds) r.cmp r.fl) acs.length = 0
  ok : payOK ds ((opn ds).zip (r.fl.take (opn ds).length))
  all : payA ds ((opn ds).zip (r.fl.take (opn ds).length)) = leftL ds (r.fl.take (opn ds).length)
theorem ap_facts {acs : List Ac} {ds : List Du} {nx : Int} {r : Rnd} (ha : aofC acs = 0) (hd : ofC ds nx = 0) (hck : checkN r.N r.es r.fl r.pot = true) (hnow : nowB acs ds r = true) : ApF acs ds r := by
  have hm64 := (ofC_iff.1 hd).1
  unfold nowB at hnow
  simp only [Bool.and_eq_true, decide_eq_true_eq] at hnow
  obtain ⟨h1, h2, h3, h4⟩ := hnow
  have hB := (bright_iff (by omega)).1 h1
  have hN : r.N = (((acs.map roomV).length + 1 : Nat) : Int) := by rw [List.length_map]; exact h2.symm
  have hf := (check_iff.1 hck).1
  rw [hN, ← h3] at hf
  obtain ⟨f1, f2, f3, f4⟩ := rnd_flow (fun x hx => (mayM_iff.1 (hB.may x hx)).1) hB.open'.due hf
  have hp := pay_all f1 [] (by rw [List.nil_append]; exact of_nodup hd)
  rw [List.nil_append] at hp
  rw [List.length_map] at f4
  exact ⟨hB, hN, h3.symm, h4.symm, f1, by rw [f2, h3], fun k a hk => f3 k _ (by rw [List.getElem?_map, hk]; rfl), f4, hp.1, hp.2⟩
/-- What applying a round answers, and leaves. -/
def applyC (acs : List Ac) (ds : List Du) (r : Rnd) : Int := if checkN r.N r.es r.fl r.pot = false then 1 else if nowB acs ds r = false then 3 else 0
def applyA (acs : List Ac) (ds : List Du) (r : Rnd) : List Ac := if applyC acs ds r = 0 then shA acs (tab (byK (acs.map roomV) (opn ds) r.cmp r.fl) acs.length) else acs
def applyD (acs : List Ac) (ds : List Du) (r : Rnd) : List Du := if applyC acs ds r = 0 then leftL ds (r.fl.take (opn ds).length) else ds
theorem apply_zero {acs : List Ac} {ds : List Du} {nx : Int} {r : Rnd} (ha : aofC acs = 0) (hd : ofC ds nx = 0) (h : applyC acs ds r = 0) : ApF acs ds r := by
  unfold applyC at h
  cases h1 : checkN r.N r.es r.fl r.pot with
  | false => rw [if_pos h1] at h; simp at h
  | true =>
    rw [if_neg (by rw [h1]; decide)] at h
    cases h2 : nowB acs ds r with
    | false => rw [if_pos h2] at h; simp at h
    | true => exact ap_facts ha hd h1 h2
theorem apply_inv {acs : List Ac} {ds : List Du} {nx : Int} {r : Rnd} (ha : aofC acs = 0) (hd : ofC ds nx = 0) : aofC (applyA acs ds r) = 0 ∧ ofC (applyD acs ds r) nx = 0 ∧ (applyA acs ds r).length = acs.length := by
  unfold applyA applyD
  by_cases h : applyC acs ds r = 0
  · rw [if_pos h, if_pos h]
    have F := apply_zero ha hd h
    exact ⟨(round_shift ha (fun k a hk => (F.by' k a hk).2) F.sum).2, left_of F.pay hd, shA_len⟩
  · rw [if_neg h, if_neg h]
    exact ⟨ha, hd, rfl⟩
abbrev LX (bx : Nat) (a : Option Addr) (n c : Nat) (full : List Value) (bd b : Nat) (nx : Int) (o : Obj) : List (Nat × Obj) := (bx, Bl 116 [.slice a n c]) :: (bd, Bl 123 (DU b nx)) :: (b, o) :: ent a 64 full
structure AP7 where
  i : Nat
  o : Obj
set_option maxRecDepth 20000 in
set_option maxHeartbeats 8000000 in
theorem apply_ok {bx bd b c : Nat} {a : Option Addr} {full : List Value} {o : Obj} {acs : List Ac} {ds : List Du} {nx : Int} {r : Rnd} {q : RSl} (ha : aofC acs = 0) (hd : ofC ds nx = 0) (w : World)
    (H0 : Ctx w ((LX bx a acs.length c full bd b nx o).map (·.1)) w (LX bx a acs.length c full bd b nx o)) (O : OS a acs.length c 2 full (acs.flatMap encA)) (hM : MapO .u64 (dm ds) o) (RA : RAt w r q) (hoff : ROff q r (· ∈ (LX bx a acs.length c full bd b nx o).map (·.1)))
    (hN : I64 r.N) (he : r.es.length ≤ 1000000) (hi : r.ids.length ≤ 1000000) (hf : r.fl.length ≤ 1000000) (hp : r.pot.length ≤ 1000000) :
    Ret Tryz.prog 21 #[ptr bx, ptr bd, .agg (rcells r q).toArray] w fun v w' => v = .int .i64 (applyC acs ds r) ∧ ∃ full' o', OS a acs.length c 2 full' ((applyA acs ds r).flatMap encA) ∧ MapO .u64 (dm (applyD acs ds r)) o' ∧
      Ctx w ((LX bx a acs.length c full bd b nx o).map (·.1)) w' (LX bx a acs.length c full' bd b nx o') := by
  obtain ⟨w0, rfl⟩ : ∃ w0, w0 = w := ⟨_, rfl⟩
  have H := Ctx.start w0 []
  have hn16 := (aofC_iff.1 ha).1
  have hm64 := (ofC_iff.1 hd).1
  have hbx := H0.get at0
  have hbd := H0.get at1
  have hb := H0.get at2
  have RAc : Rd w0 a 2 encA acs := OS.rd O (fun x hx => H0.blk x (List.mem_cons_of_mem _ (List.mem_cons_of_mem _ (List.mem_cons_of_mem _ hx)))) (fun _ _ => rfl) (by decide)
  have A : AcAt w0 116 bx acs := ⟨a, c, hbx, RAc⟩
  have D : DuAt w0 bd ds := ⟨b, nx, o, hbd, hb, hM⟩
  obtain ⟨ck, hck⟩ : ∃ ck, ck = checkN r.N r.es r.fl r.pot := ⟨_, rfl⟩
  obtain ⟨nw, hnw⟩ : ∃ nw, nw = nowB acs ds r := ⟨_, rfl⟩
  refine ret_of_W (fn := Tryz.f21) Tryz.func21 rfl [.pointer (some ⟨bx, 0, none⟩), .pointer (some ⟨bd, 0, none⟩), .agg (rcells r q).toArray] rfl (by kernel_rfl) ?_
  refine W_rseq ?_
  refine op_box rfl [ptr bd] (.pointer _) rfl rfl H ?_
  rintro b4 w - H
  refine op_box rfl (rcells r q) (.agg _) rfl rfl H ?_
  rintro b5 w - H
  refine op_assign rfl (.int _ _) rfl ?_
  refine op_nil (at_then ?_)
  refine W_seq ?_
  refine W_block ?_
  refine W_rseq (Wops_join (α := Unit) 520192 (fun _ => [(12, .bool (false))]) (fun _ w' => Ctx w0 [] w' [(b5, Bl 33 (rcells r q)), (b4, Bl 36 [ptr bd])]) rfl ?_ ?_)
  · refine op_move rfl (.pointer _) rfl ?_
    refine op_eqlptr rfl un_35_SqL rfl ?_
    refine op_move rfl (.bool _) rfl ?_
    refine Wops_split 15 rfl ?_ ?_
    · intro h1
      refine op_skip rfl ?_
      refine op_skip rfl ?_
      refine op_pick1 rfl rfl (.bool _) rfl ?_
      refine op_assign rfl (.bool _) rfl ?_
      refine op_nil ?_
      exact ⟨rfl, (), rfl, ⟨congrArg Value.bool (by first | rfl | simp_all), trivial⟩, H⟩
    · intro h2
      refine op_ldb rfl ag_36_SqL rfl H (by first | exact at0 | exact at1 | exact at2 | exact at3 | exact at4 | exact at5 | exact at6 | exact at7 | exact at8 | exact at9) rfl ?_
      refine op_eqlptr rfl un_36_SqL rfl ?_
      refine op_pick0 rfl rfl (.bool _) rfl ?_
      refine op_assign rfl (.bool _) rfl ?_
      refine op_nil ?_
      exact ⟨rfl, (), rfl, ⟨congrArg Value.bool (by first | rfl | simp_all), trivial⟩, H⟩
  rintro - j12 w H
  refine W_cond0 rfl ?_
  refine W_rseq ?_
  refine op_fieldAddr rfl fo_33_4_SqL rfl ?_
  first | refine op_ldN _ rfl ag_28_SqL sz_28_SqL rfl rfl ((sub_cells (b := b5) (t := 33) (l := rcells r q) (H.get (by first | exact at0 | exact at1 | exact at2 | exact at3)) 4 [.int .i64 r.N, .slice q.aE r.es.length q.cE] rfl)) ?_ | refine op_ldN _ rfl ag_28_SqL sz_28_SqL rfl rfl ((sub_cells (b := b5) (t := 33) (l := rcells r q) (H.get (by first | exact at0 | exact at1 | exact at2 | exact at3)) 6 [.slice q.aF r.fl.length q.cF, .slice q.aP r.pot.length q.cP] rfl)) ?_ | refine op_ldbN rfl ag_28_SqL sz_28_SqL rfl H (by first | exact at0 | exact at1 | exact at2 | exact at3 | exact at4 | exact at5 | exact at6 | exact at7 | exact at8 | exact at9) rfl ?_
  refine op_fieldAddr rfl fo_33_5_SqL rfl ?_
  first | refine op_ldN _ rfl ag_31_SqL sz_31_SqL rfl rfl ((sub_cells (b := b5) (t := 33) (l := rcells r q) (H.get (by first | exact at0 | exact at1 | exact at2 | exact at3)) 4 [.int .i64 r.N, .slice q.aE r.es.length q.cE] rfl)) ?_ | refine op_ldN _ rfl ag_31_SqL sz_31_SqL rfl rfl ((sub_cells (b := b5) (t := 33) (l := rcells r q) (H.get (by first | exact at0 | exact at1 | exact at2 | exact at3)) 6 [.slice q.aF r.fl.length q.cF, .slice q.aP r.pot.length q.cP] rfl)) ?_ | refine op_ldbN rfl ag_31_SqL sz_31_SqL rfl H (by first | exact at0 | exact at1 | exact at2 | exact at3 | exact at4 | exact at5 | exact at6 | exact at7 | exact at8 | exact at9) rfl ?_
  refine op_call rfl ca_66_SqL (check_ok r.N q.aE q.aF q.aP _ q.cE _ q.cF _ q.cP r.es r.fl r.pot _ (RA.E.ext0 H.ext) rfl hN (RA.F.ext0 H.ext) rfl (by omega) (RA.P.ext0 H.ext) rfl (by omega)) rfl ?_
  rintro v w ⟨rfl, hx24⟩
  rw [← hck]
  replace H := H.call hx24
  refine op_not rfl rfl ?_
  refine op_assign rfl (.bool _) rfl ?_
  refine op_nil (at_then ?_)
  refine W_cond _ rfl ?_ ?_
  · intro h1
    replace h1 := nvar_t h1
    refine W_rseq ?_
    refine op_assign rfl (.int _ _) rfl ?_
    refine op_nil (at_then ?_)
    refine W_ret (ret_block (ret_then (leave1 (v := (.int _ _)) rfl rfl rfl ?_)))
    have h1' : ck = false := by simpa using h1
    have hC : applyC acs ds r = 1 := by unfold applyC; rw [← hck, if_pos h1']
    unfold applyA applyD
    rw [hC, if_neg (by decide), if_neg (by decide)]
    exact ⟨rfl, full, o, O, hM, H0.call H.ext⟩
  · intro h1
    replace h1 := nvar_f h1
    have h1' : ck = true := by simpa using h1
    refine W_rseq ?_
    refine op_move rfl (.pointer _) rfl ?_
    refine op_ldb rfl ag_36_SqL rfl H (by first | exact at0 | exact at1 | exact at2 | exact at3 | exact at4 | exact at5 | exact at6 | exact at7 | exact at8 | exact at9) rfl ?_
    first | refine op_ldN _ rfl ag_33_SqL sz_33_SqL rfl rfl ((sub_cells (b := b5) (t := 33) (l := rcells r q) (H.get (by first | exact at0 | exact at1 | exact at2 | exact at3)) 4 [.int .i64 r.N, .slice q.aE r.es.length q.cE] rfl)) ?_ | refine op_ldN _ rfl ag_33_SqL sz_33_SqL rfl rfl ((sub_cells (b := b5) (t := 33) (l := rcells r q) (H.get (by first | exact at0 | exact at1 | exact at2 | exact at3)) 6 [.slice q.aF r.fl.length q.cF, .slice q.aP r.pot.length q.cP] rfl)) ?_ | refine op_ldbN rfl ag_33_SqL sz_33_SqL rfl H (by first | exact at0 | exact at1 | exact at2 | exact at3 | exact at4 | exact at5 | exact at6 | exact at7 | exact at8 | exact at9) rfl ?_
    refine op_call rfl ca_67_SqL (now_ok ha hd _ (A.ext0 H.ext) (D.ext0 H.ext) (RA.ext0 H.ext) he hi) rfl ?_
    rintro v w ⟨rfl, hx30⟩
    rw [← hnw]
    replace H := H.call hx30
    refine op_not rfl rfl ?_
    refine op_assign rfl (.bool _) rfl ?_
    refine op_nil (at_then ?_)
    refine W_cond _ rfl ?_ ?_
    · intro h2
      replace h2 := nvar_t h2
      refine W_rseq ?_
      refine op_assign rfl (.int _ _) rfl ?_
      refine op_nil (at_then ?_)
      refine W_ret (ret_block (ret_then (leave1 (v := (.int _ _)) rfl rfl rfl ?_)))
      have h2' : nw = false := by simpa using h2
      have hC : applyC acs ds r = 3 := by unfold applyC; rw [← hck, h1', if_neg (by decide), ← hnw, if_pos h2']
      unfold applyA applyD
      rw [hC, if_neg (by decide), if_neg (by decide)]
      exact ⟨rfl, full, o, O, hM, H0.call H.ext⟩
    · intro h2
      replace h2 := nvar_f h2
      have h2' : nw = true := by simpa using h2
      have hC : applyC acs ds r = 0 := by unfold applyC; rw [← hck, h1', if_neg (by decide), ← hnw, h2', if_neg (by decide)]
      have F := apply_zero ha hd hC
      unfold applyA applyD
      rw [hC, if_pos rfl, if_pos rfl]
      have hSh := (round_shift ha (fun k a hk => (F.by' k a hk).2) F.sum).1
      obtain ⟨f, hf0⟩ : ∃ f : Nat → Nat → Int, f = fun i => overK (grE (((acs.map roomV).length + 1 : Nat) : Int) (roundE (acs.map roomV) (opn ds) r.cmp)) (flE r.fl) i := ⟨_, rfl⟩
      have hfe : byK (acs.map roomV) (opn ds) r.cmp r.fl = f (opn ds).length := by rw [hf0]; rfl
      rw [hfe] at hSh ⊢
      have hf00 : f 0 = fun _ => 0 := by rw [hf0]; rfl
      obtain ⟨m, hm⟩ : ∃ m, m = (opn ds).length := ⟨_, rfl⟩
      have hml : m ≤ 64 := by have := opn_len ds; omega
      have hmf : m ≤ r.fl.length := by rw [F.len, F.es, rnd_len]; omega
      have hltm : (r.fl.take m).length = m := by rw [List.length_take]; omega
      have hidl : r.ids.length = m := by rw [F.ids, List.length_map, hm]
      have hcut : cutK (r.ids.length : Int) r.fl.length = m := by unfold cutK; rw [hidl]; omega
      rw [← hm] at hSh ⊢
      refine W_skip (at_block (at_then ?_))
      refine W_rseq ?_
      refine op_move rfl (.pointer _) rfl ?_
      refine op_call rfl ca_16_SqL (alist_ok (bd := bx) a acs.length c acs _ (H.ext.to hbx (by simp)) (RAc.ext0 H.ext) rfl (by omega)) rfl ?_
      rintro v w F33
      obtain ⟨a33, n33, c33, f33, rfl, O33, -⟩ := F33.ex
      obtain rfl := O33.numN (fun _ _ => rfl) (by decide)
      replace H := H.call F33.ext
      refine op_len rfl el_22_SqL rfl ?_
      refine op_make rfl el_29_SqL sz_2_SqL by_2_SqL zc_2_SqL rfl rfl (by omega) (by omega) (by omega) (by omega) H ?_
      rintro b35 w - H
      rw [Int.toNat_natCast, rep_range] at H
      rw [Int.toNat_natCast]
      refine op_alloc rfl zc_29_SqL H ?_
      rintro b7 w - H
      refine op_stb (.slice _ _ _) rfl sz_29_SqL rfl rfl rfl H (by first | exact at0 | exact at1 | exact at2 | exact at3 | exact at4 | exact at5 | exact at6 | exact at7 | exact at8 | exact at9) (by first | decide | (simp; done) | (simp; omega)) ?_
      rintro w H
      refine op_nil (at_then ?_)
      refine W_rseq ?_
      refine op_makeFuncL rfl [.pointer _, .pointer _] rfl ?_
      refine op_assign rfl (.func _ _ _) rfl ?_
      refine op_nil (at_then ?_)
      refine W_seq ?_
      refine W_rseq ?_
      refine op_fieldAddr rfl fo_33_4_SqL rfl ?_
      first | refine op_ldN _ rfl ag_28_SqL sz_28_SqL rfl rfl ((sub_cells (b := b5) (t := 33) (l := rcells r q) (H.get (by first | exact at0 | exact at1 | exact at2 | exact at3)) 4 [.int .i64 r.N, .slice q.aE r.es.length q.cE] rfl)) ?_ | refine op_ldN _ rfl ag_28_SqL sz_28_SqL rfl rfl ((sub_cells (b := b5) (t := 33) (l := rcells r q) (H.get (by first | exact at0 | exact at1 | exact at2 | exact at3)) 6 [.slice q.aF r.fl.length q.cF, .slice q.aP r.pot.length q.cP] rfl)) ?_ | refine op_ldbN rfl ag_28_SqL sz_28_SqL rfl H (by first | exact at0 | exact at1 | exact at2 | exact at3 | exact at4 | exact at5 | exact at6 | exact at7 | exact at8 | exact at9) rfl ?_
      refine op_fieldAddr rfl fo_33_5_SqL rfl ?_
      refine op_fieldAddr rfl fo_31_0_SqL rfl ?_
      refine op_ldb rfl ag_29_SqL rfl H (by first | exact at0 | exact at1 | exact at2 | exact at3 | exact at4 | exact at5 | exact at6 | exact at7 | exact at8 | exact at9) rfl ?_
      refine op_fieldAddr rfl fo_33_3_SqL rfl ?_
      refine op_ldb rfl ag_25_SqL rfl H (by first | exact at0 | exact at1 | exact at2 | exact at3 | exact at4 | exact at5 | exact at6 | exact at7 | exact at8 | exact at9) rfl ?_
      refine op_len rfl el_25_SqL rfl ?_
      refine op_call rfl ca_70_SqL (pays_ok r.N q.aE q.aF r.es.length q.cE _ q.cF (r.ids.length : Int) r.fl _ (RA.F.ext0 H.ext) rfl RA.fc hf) rfl ?_
      rintro v w F45
      rw [hcut] at F45
      obtain ⟨a45, n45, c45, f45, rfl, O45, hb45⟩ := F45.ex
      have hn45 := O45.num
      rw [List.length_take, Nat.min_eq_left hmf] at hn45
      rw [hn45] at O45 ⊢
      refine op_len rfl el_29_SqL rfl ?_
      refine op_move rfl (.int _ _) rfl ?_
      refine op_nil (at_then ?_)
      refine W_block ?_
      have HFp := (Ctx.callEnt H0 H.ext (fun x hx => ⟨H.blk x hx, (H.own x hx).elim (fun h => by cases h) id⟩) H.nd).perm (perm7 _ _ _ _ _ _ _ _)
      have HF := HFp.call F45.ext
      have E9 := H.ext.trans F45.ext
      obtain ⟨S9, hS9⟩ : ∃ S9, S9 = ((b35, Bl 2 (List.map (fun _ => Value.int .i64 0) (List.range acs.length))) :: (b, o) :: (bx, Bl 116 [.slice a acs.length c]) :: (bd, Bl 123 (DU b nx)) :: (b7, Bl 29 [.slice (some ⟨b35, 0, none⟩) acs.length acs.length]) :: (b5, Bl 33 (rcells r q)) :: (b4, Bl 36 [ptr bd]) :: ent a 64 full).map (·.1) := ⟨_, rfl⟩
      have RPY : Rd w a45 1 I1 (r.fl.take m) := O45.rd1 fun x hx => (hb45 x hx).1
      have hPY : r.fl.take m ≠ [] → (adr a45).block ∉ S9 := fun hne hm9 => by
        obtain ⟨z, rfl⟩ := O45.form (by have := List.length_pos_iff.2 hne; rw [List.length_take] at this; omega)
        have h7 := (hb45 (z, Bl 2 f45) (List.mem_singleton.2 rfl)).2
        rw [hS9] at hm9
        obtain ⟨y, hy, hy2⟩ := List.mem_map.1 hm9
        have h8 := heap_lt (HFp.blk y hy)
        dsimp only at h7
        have h9 : y.1 = z := hy2
        omega
      have RA9 := RA.ext0 E9
      have hoff9 : ROff q r (· ∈ S9) := (hoff.or RA.lt).mono fun x hx => by
        rw [hS9] at hx
        obtain ⟨y, hy, rfl⟩ := List.mem_map.1 hx
        exact HFp.own y hy
      clear HFp
      obtain ⟨w9, rfl⟩ : ∃ z, z = w := ⟨_, rfl⟩
      replace HF : Ctx w0 ((LX bx a acs.length c full bd b nx o).map (·.1)) w9 (((b35, Bl 2 (List.map (fun _ => Value.int .i64 0) (List.range acs.length))) :: (b, o) :: (bx, Bl 116 [.slice a acs.length c]) :: (bd, Bl 123 (DU b nx)) :: (b7, Bl 29 [.slice (some ⟨b35, 0, none⟩) acs.length acs.length]) :: (b5, Bl 33 (rcells r q)) :: (b4, Bl 36 [ptr bd]) :: ent a 64 full) ++ []) := by rw [List.append_nil]; exact HF
      have H : Ctx w9 S9 w9 ((b35, Bl 2 (List.map (fun _ => Value.int .i64 0) (List.range acs.length))) :: (b, o) :: (bx, Bl 116 [.slice a acs.length c]) :: (bd, Bl 123 (DU b nx)) :: (b7, Bl 29 [.slice (some ⟨b35, 0, none⟩) acs.length acs.length]) :: (b5, Bl 33 (rcells r q)) :: (b4, Bl 36 [ptr bd]) :: ent a 64 full) := by rw [hS9]; exact Ctx.lend HF
      refine W_loop 18446603336221199936 (α := AP7) (fun t => [(47, .int .i64 (t.i : Int))]) (fun t w' => t.i ≤ m ∧ MapO .u64 (dm (payA ds (((opn ds).zip (r.fl.take m)).take t.i))) t.o ∧ Ctx w9 S9 w' ((b35, Bl 2 (tabV (f t.i) acs.length)) :: (b, t.o) :: (bx, Bl 116 [.slice a acs.length c]) :: (bd, Bl 123 (DU b nx)) :: (b7, Bl 29 [.slice (some ⟨b35, 0, none⟩) acs.length acs.length]) :: (b5, Bl 33 (rcells r q)) :: (b4, Bl 36 [ptr bd]) :: ent a 64 full)) (fun t => m - t.i) ⟨0, o⟩ rfl ?_ ?_ ?_
      · exact ⟨rfl, trivial⟩
      · refine ⟨Nat.zero_le _, hM, ?_⟩
        dsimp only
        rw [hf00]
        exact H
      · clear H
        rintro ⟨i, o1⟩ jj w ⟨hi7, hM1, H⟩; dsimp only at hi7 hM1 H; dsimp only
        refine W_rseq ?_
        refine op_lss rfl rfl rfl ?_
        refine op_nil (at_then ?_)
        refine W_seq ?_
        refine W_cond _ rfl ?_ ?_
        · intro h3
          replace h3 := dec_t h3
          obtain ⟨d, hdi⟩ := get_some (l := opn ds) (i := i) (by omega)
          obtain ⟨x, hxi⟩ := get_some (l := r.fl) (i := i) (by omega)
          have hxt : (r.fl.take m)[i]? = some x := by rw [List.getElem?_take, if_pos (by omega)]; exact hxi
          have hid : r.ids[i]? = some d.id := by rw [F.ids, List.getElem?_map, hdi]; rfl
          have hps : ((opn ds).zip (r.fl.take m))[i]? = some (d, x) := by rw [List.getElem?_zip_eq_some]; exact ⟨hdi, hxt⟩
          have hok := F.ok
          rw [← hm] at hok
          obtain ⟨⟨hfd, hheld, hx0, hx1⟩, hnext⟩ := payOK_at hok hps
          dsimp only at hfd hheld hx0 hx1 hnext
          have ham7 := (payA_am (of_am hd) hok i).1
          have hDI := F.B.open'.due d (List.mem_of_getElem? hdi)
          rw [List.length_map] at hDI
          have hdm := mayD_am hDI.1
          have hfb : ∀ k, -1152921504606846976 ≤ f i k ∧ f i k ≤ 1152921504606846976 := fun k => by
            have := over_bnd (g := grE (((acs.map roomV).length + 1 : Nat) : Int) (roundE (acs.map roomV) (opn ds) r.cmp)) (x := flE r.fl) (c := 4503599627370496) k (k := i) fun j hj => by
              obtain ⟨d', hd'⟩ := get_some (l := opn ds) (i := j) (by omega)
              obtain ⟨x', hx'⟩ := get_some (l := r.fl) (i := j) (by omega)
              have h1 := F.pay.2 j d' x' hd' (by rw [List.getElem?_take, if_pos (by omega)]; exact hx')
              have h2 := (mayD_am (F.B.open'.due d' (List.mem_of_getElem? hd')).1).2.2.2.1
              show 0 ≤ r.fl.getD j 0 ∧ r.fl.getD j 0 ≤ _
              rw [getD_of hx']
              omega
            rw [hf0]
            dsimp only
            omega
          have hfs : ∀ k, f (i + 1) k = f i k + (one (d.to.toNat = k) - one (d.fr.toNat = k)) * x := fun k => by
            rw [hf0]
            dsimp only
            rw [over_step, gr_f (rnd_due hdi), gr_t (rnd_due hdi), show flE r.fl i = x from getD_of hxi]; rfl
          refine W_skip (at_then ?_)
          refine W_seq ?_
          refine W_block ?_
          refine W_rseq ?_
          refine op_move rfl (.int _ _) rfl ?_
          first | refine op_indexRd RPY rfl el_29_SqL sz_2_SqL rfl rfl (by omega) (by omega) (by first | rfl | omega) ?_ | refine op_indexRd RA9.I rfl el_29_SqL sz_2_SqL rfl rfl (by omega) (by omega) (by first | rfl | omega) ?_ | refine op_indexAddr rfl el_29_SqL sz_2_SqL rfl rfl (by omega) (by omega) ?_
          first | refine op_ldb rfl ag_2_SqL rfl H (by first | exact at0 | exact at1 | exact at2 | exact at3 | exact at4 | exact at5 | exact at6 | exact at7 | exact at8 | exact at9) rfl ?_ | refine op_ld rfl ag_2_SqL rfl (((RPY.ext' H.ext hPY).fld hxt rfl (j := 0) rfl)) ?_ | refine op_ld rfl ag_2_SqL rfl (((RA9.I.ext' H.ext hoff9.I).fld hid rfl (j := 0) rfl)) ?_
          refine op_assign rfl (.int _ _) rfl ?_
          refine op_assign rfl (.int _ _) rfl ?_
          refine op_nil (at_then ?_)
          refine W_rseq ?_
          refine op_move rfl (.func _ _ _) rfl ?_
          refine op_fieldAddr rfl fo_33_3_SqL rfl ?_
          first | refine op_ldb rfl ag_25_SqL rfl H (by first | exact at0 | exact at1 | exact at2 | exact at3 | exact at4 | exact at5 | exact at6 | exact at7 | exact at8 | exact at9) rfl ?_ | refine op_ld rfl ag_25_SqL rfl (((RPY.ext' H.ext hPY).fld hxt rfl (j := 0) rfl)) ?_ | refine op_ld rfl ag_25_SqL rfl (((RA9.I.ext' H.ext hoff9.I).fld hid rfl (j := 0) rfl)) ?_
          refine op_move rfl (.int _ _) rfl ?_
          first | refine op_indexRd RPY rfl el_25_SqL sz_24_SqL rfl rfl (by omega) (by omega) (by first | rfl | omega) ?_ | refine op_indexRd RA9.I rfl el_25_SqL sz_24_SqL rfl rfl (by omega) (by omega) (by first | rfl | omega) ?_ | refine op_indexAddr rfl el_25_SqL sz_24_SqL rfl rfl (by omega) (by omega) ?_
          first | refine op_ldb rfl ag_24_SqL rfl H (by first | exact at0 | exact at1 | exact at2 | exact at3 | exact at4 | exact at5 | exact at6 | exact at7 | exact at8 | exact at9) rfl ?_ | refine op_ld rfl ag_24_SqL rfl (((RPY.ext' H.ext hPY).fld hxt rfl (j := 0) rfl)) ?_ | refine op_ld rfl ag_24_SqL rfl (((RA9.I.ext' H.ext hoff9.I).fld hid rfl (j := 0) rfl)) ?_
          refine op_move rfl (.int _ _) rfl ?_
          refine op_calld rfl rfl ca_68_SqL (pay7_ok (f := f i) (f' := f (i + 1)) (x := x) (d := d) _ (H.get at6) (H.get at4) (H.get at3) (Ctx.lend (L1 := [_, _]) (L2 := _) H) hM1 (fun h => by simp only [List.mem_cons, List.not_mem_nil, or_false] at h; exact h.elim (H.ne at6 at0 (by decide)) (H.ne at6 at1 (by decide))) (fun h => by simp only [List.mem_cons, List.not_mem_nil, or_false] at h; exact h.elim (H.ne at4 at0 (by decide)) (H.ne at4 at1 (by decide))) (fun h => by simp only [List.mem_cons, List.not_mem_nil, or_false] at h; exact h.elim (H.ne at3 at0 (by decide)) (H.ne at3 at1 (by decide))) hfd hheld ⟨hx0, hx1⟩ ham7 ⟨hdm.1.1, hDI.2.1⟩ ⟨hdm.2.1.1, hDI.2.2⟩ (by omega) hfb hfs) rfl ?_
          rintro v w ⟨rfl, o2, hM2, H2⟩
          replace H := Ctx.back (L1 := [_, _]) (L2 := _) H H2
          rw [← hnext] at hM2
          refine op_assign rfl (.int _ _) rfl ?_
          refine op_nil (at_then ?_)
          refine W_rseq ?_
          refine op_move rfl (.int _ _) rfl ?_
          refine op_neq rfl rfl rfl ?_
          refine op_nil (at_then ?_)
          refine W_cond _ rfl ?_ ?_
          · intro h4
            replace h4 := ndec_t h4
            exact absurd rfl h4
          · intro h4
            replace h4 := ndec_f h4
            refine W_skip (at_block (at_then ?_))
            refine W_region ?_
            refine op_add_i64 rfl rfl rfl (by omega) (by omega) ?_
            refine op_move rfl (.int _ _) rfl ?_
            refine op_nil (at_then ?_)
            exact ⟨⟨i + 1, o2⟩, rfl, ⟨rfl, trivial⟩, ⟨by dsimp only; omega, hM2, H⟩, by dsimp only; omega⟩
        · intro h3
          replace h3 := dec_f h3
          obtain rfl : i = m := by omega
          have hall := F.all
          rw [← hm] at hall
          rw [List.take_of_length_le (by rw [List.length_zip, ← hm, List.length_take]; omega), hall] at hM1
          refine W_exit (exit_then (exit_then (exit_here (at_then ?_))))
          refine W_rseq ?_
          refine op_move rfl (.pointer _) rfl ?_
          refine op_ldb rfl ag_29_SqL rfl H (by first | exact at0 | exact at1 | exact at2 | exact at3 | exact at4 | exact at5 | exact at6 | exact at7 | exact at8 | exact at9) rfl ?_
          refine op_call rfl ca_71_SqL (ashift_ok (bd := bx) a (some ⟨b35, 0, none⟩) c acs.length acs.length full acs (tab (f i) acs.length) _ (H.get at2) O (fun x hx => ⟨H.blk x (List.mem_append_right [_, _, _, _, _, _, _] hx), fun h => (List.pairwise_cons.1 H0.nd).1 x (List.mem_cons_of_mem _ (List.mem_cons_of_mem _ hx)) h.symm⟩) (by omega) (tab_rd (H.get at0)) (tab_len _ _) (by omega)) rfl ?_
          rintro v w ⟨rfl, full', O', hb', hx66⟩
          rw [hSh]
          refine op_assign rfl (.int _ _) rfl ?_
          refine op_nil (at_then ?_)
          refine W_ret (leave1 (v := (.int _ _)) rfl rfl rfl ?_)
          have HT := Ctx.turnEnt (L := [_, _, _, _, _, _, _]) H hx66 hb'
          rw [hS9] at HT
          have HB := Ctx.back HF HT
          rw [List.append_nil] at HB
          exact ⟨rfl, full', o1, O', hM1, (HB.perm (perm7 _ _ _ _ _ _ _ _).symm).left (L' := [_, _, _, _])⟩
end Go.Proofs.YtapphbmlkdhnmaaGreat

/- What a round keeps: plain law. -/
namespace Go.Proofs.YtapphbmlkdhnmaaGreat
open Go.GV
attribute [local irreducible] Wops W Wq Wt

/-- How a due weighs in a bank's place. -/
def plc (k : Nat) (d : Du) : Int := one (d.to = (k : Int)) - one (d.fr = (k : Int))
theorem one_congr {p q : Prop} [Decidable p] [Decidable q] (h : p ↔ q) : one p = one q := by
  by_cases hp : p
  · rw [one_t hp, one_t (h.1 hp)]
  · rw [one_f hp, one_f (fun hq => hp (h.2 hq))]
/-- What a bank has, and is owed, less what it owes. -/
def placeN (acs : List Ac) (ds : List Du) (k : Nat) : Int := (acs.getD k a00).ba + sumM (ds.map fun d => plc k d * d.am)
theorem apply_get {acs : List Ac} {ds : List Du} {nx : Int} {r : Rnd} (ha : aofC acs = 0) (hd : ofC ds nx = 0) (hC : applyC acs ds r = 0) {k : Nat} {a : Ac} (hk : acs[k]? = some a) : (applyA acs ds r)[k]? = some ⟨a.ba + byK (acs.map roomV) (opn ds) r.cmp r.fl k, a.re⟩ := by
  have F := apply_zero ha hd hC
  unfold applyA
  rw [if_pos hC]
  exact shA_get (round_shift ha (fun k a hk => (F.by' k a hk).2) F.sum).1 hk
/-- What a planned round does: it can be applied. -/
theorem plan_zero {acs : List Ac} {ds : List Du} {net : Bool} {r : Rnd} (hb : brightB (acs.map roomV) ds = true) (P : PlanR acs ds net r) : applyC acs ds r = 0 := by
  unfold applyC nowB
  rw [P.chk, hb, P.cmp, P.es, P.ids, P.N]
  simp
theorem left_ids : ∀ {ds : List Du} {xs : List Int} {e : Du}, e ∈ leftL ds xs → ∃ d ∈ ds, e.id = d.id
  | [], _, _, h => by cases h
  | d :: ds, [], e, h => ⟨e, h, rfl⟩
  | d :: ds, x :: xs, e, h => by
    unfold leftL at h
    split at h
    · rcases List.mem_cons.1 h with rfl | h
      · exact ⟨_, List.mem_cons_self .., rfl⟩
      · obtain ⟨d', h1, h2⟩ := left_ids h
        exact ⟨d', List.mem_cons_of_mem _ h1, h2⟩
    · split at h
      · obtain ⟨d', h1, h2⟩ := left_ids h
        exact ⟨d', List.mem_cons_of_mem _ h1, h2⟩
      · rcases List.mem_cons.1 h with rfl | h
        · exact ⟨d, List.mem_cons_self .., rfl⟩
        · obtain ⟨d', h1, h2⟩ := left_ids h
          exact ⟨d', List.mem_cons_of_mem _ h1, h2⟩
/-- How far the dues and what is left of them are gone through. -/
def MgI (ds left : List Du) (i j : Nat) : Prop := j ≤ left.length ∧ ∃ xs, PayIn (opn (ds.drop i)) xs ∧ left.drop j = leftL (ds.drop i) xs
theorem MgI.start {ds : List Du} {xs : List Int} (h : PayIn (opn ds) xs) : MgI ds (leftL ds xs) 0 0 := ⟨Nat.zero_le _, xs, h, rfl⟩
theorem drop_cons7 {α : Type} {l : List α} {i : Nat} {x : α} (h : l[i]? = some x) : l.drop i = x :: l.drop (i + 1) := by
  obtain ⟨h1, rfl⟩ := List.getElem?_eq_some_iff.1 h
  exact List.drop_eq_getElem_cons h1
theorem drop_head {α : Type} {l m : List α} {j : Nat} {x : α} (h : l.drop j = x :: m) : l[j]? = some x ∧ l.drop (j + 1) = m := by
  have h1 : (l.drop j)[0]? = some x := by rw [h]; rfl
  rw [List.getElem?_drop, Nat.add_zero] at h1
  refine ⟨h1, ?_⟩
  rw [drop_cons7 h1] at h
  injection h
theorem MgI.step {ds left : List Du} {i j : Nat} {d : Du} (hs : (ds.map (·.id)).Pairwise (· < ·)) (h : MgI ds left i j) (hd : ds[i]? = some d) (hp : 1 ≤ d.am) :
    (∃ e, left[j]? = some e ∧ e.id = d.id ∧ e.am ≤ d.am ∧ 1 ≤ e.am ∧ (d.held = true → e = d) ∧ MgI ds left (i + 1) (j + 1)) ∨
    (d.held = false ∧ (∀ e, left[j]? = some e → e.id ≠ d.id) ∧ MgI ds left (i + 1) j) := by
  obtain ⟨hj, xs, hP, hl⟩ := h
  rw [drop_cons7 hd] at hP hl
  rw [opn_cons] at hP
  by_cases hh : d.held = true
  · rw [if_pos hh] at hP
    have hl' : left.drop j = d :: leftL (ds.drop (i + 1)) xs := by
      rw [hl]; exact leftL_held hh _ _
    obtain ⟨g1, g2⟩ := drop_head hl'
    exact .inl ⟨d, g1, rfl, Int.le_refl _, hp, fun _ => rfl, get_lt g1, xs, hP, g2⟩
  · rw [if_neg hh] at hP
    obtain ⟨x, xs, rfl⟩ := PayIn.cons hP
    obtain ⟨⟨h0, h1⟩, hP⟩ := PayIn.tail hP
    rw [leftL_free hh] at hl
    by_cases hx : d.am = x
    · rw [if_pos hx, List.nil_append] at hl
      refine .inr ⟨by simpa using hh, fun e he hid => ?_, hj, xs, hP, hl⟩
      have h3 := drop_cons7 he
      rw [hl] at h3
      obtain ⟨d', hd', hid'⟩ := left_ids (e := e) (by rw [h3]; exact List.mem_cons_self ..)
      have hs' : ((ds.drop i).map (·.id)).Pairwise (· < ·) := by rw [List.map_drop]; exact hs.drop
      rw [drop_cons7 hd, List.map_cons, List.pairwise_cons] at hs'
      have := hs'.1 d'.id (List.mem_map_of_mem hd')
      omega
    · rw [if_neg hx, List.cons_append, List.nil_append] at hl
      obtain ⟨g1, g2⟩ := drop_head hl
      exact .inl ⟨_, g1, rfl, by dsimp only; omega, by dsimp only; omega, fun h => absurd h hh, get_lt g1, xs, hP, g2⟩
theorem MgI.ends {ds left : List Du} {j : Nat} (h : MgI ds left ds.length j) : j = left.length := by
  obtain ⟨hj, xs, -, hl⟩ := h
  rw [List.drop_length] at hl
  have := congrArg List.length hl
  rw [List.length_drop] at this
  have h0 : (leftL [] xs).length = 0 := rfl
  omega
end Go.Proofs.YtapphbmlkdhnmaaGreat

/- Nets that are the same but for the names: plain law of what a round is worth. -/
namespace Go.Proofs.YtapphbmlkdhnmaaGreat
open Go.GV
attribute [local irreducible] Wops W Wq Wt

/-- A sum, gone through in another order. -/
theorem sum_inv {F : Nat → Int} {E : Nat} {s : Nat → Nat} (h1 : ∀ i, i < E → s i < E) (h2 : ∀ i, i < E → s (s i) = i) : sumTo (fun i => F (s i)) E = sumTo F E := by
  have e1 : sumTo (fun i => F (s i)) E = sumTo (fun i => sumTo (fun j => one (s i = j) * F j) E) E := sum_congr fun i hi => (sum_one F (h1 i hi)).symm
  have e2 := sum_swap (fun i j => one (s i = j) * F j) E E
  have e3 : sumTo (fun j => sumTo (fun i => one (s i = j) * F j) E) E = sumTo F E := sum_congr fun j hj => by
    have : sumTo (fun i => one (s i = j) * F j) E = sumTo (fun i => one (s j = i) * F j) E := sum_congr fun i hi => by
      rw [one_congr (p := s i = j) (q := s j = i) ⟨fun h => by rw [← h, h2 i hi], fun h => by rw [← h, h2 j hj]⟩]
    rw [this]
    exact sum_one (fun _ => F j) (h1 j hj)
  rw [e1, ← e3]
  exact e2
/-- Two nets that are one but for the names of edges and nodes. -/
structure Twin (g g' : Gr) (cap cap' : Nat → Int) (s p : Nat → Nat) : Prop where
  N : g'.N = g.N
  E : g'.E = g.E
  s1 : ∀ i, i < g.E → s i < g.E
  s2 : ∀ i, i < g.E → s (s i) = i
  p1 : ∀ v, v < g.N → p v < g.N
  p2 : ∀ v, v < g.N → p (p v) = v
  f : ∀ i, i < g.E → g'.f (s i) = p (g.f i)
  t : ∀ i, i < g.E → g'.t (s i) = p (g.t i)
  co : ∀ i, i < g.E → g'.co (s i) = g.co i
  cap : ∀ i, i < g.E → cap' (s i) = cap i
theorem Twin.symm {g g' : Gr} {cap cap' : Nat → Int} {s p : Nat → Nat} (hg' : g'.Ok) (hg : g.Ok) (T : Twin g g' cap cap' s p) : Twin g' g cap' cap s p :=
  ⟨T.N.symm, T.E.symm, fun i hi => by rw [T.E] at hi ⊢; exact T.s1 i hi, fun i hi => by rw [T.E] at hi; exact T.s2 i hi,
    fun v hv => by rw [T.N] at hv ⊢; exact T.p1 v hv, fun v hv => by rw [T.N] at hv; exact T.p2 v hv,
    fun i hi => by
      rw [T.E] at hi
      have h := T.f (s i) (T.s1 i hi)
      rw [T.s2 i hi] at h
      rw [h, T.p2 _ (hg.f _ (T.s1 i hi))],
    fun i hi => by
      rw [T.E] at hi
      have h := T.t (s i) (T.s1 i hi)
      rw [T.s2 i hi] at h
      rw [h, T.p2 _ (hg.t _ (T.s1 i hi))],
    fun i hi => by
      rw [T.E] at hi
      have h := T.co (s i) (T.s1 i hi)
      rw [T.s2 i hi] at h
      exact h.symm,
    fun i hi => by
      rw [T.E] at hi
      have h := T.cap (s i) (T.s1 i hi)
      rw [T.s2 i hi] at h
      exact h.symm⟩
theorem Twin.le {g g' : Gr} {cap cap' x x' p' : Nat → Int} {q : Nat → Int} {s p : Nat → Nat} (T : Twin g g' cap cap' s p) (hg : g.Ok) (h : Fine g cap x q) (h0 : ∀ v, v < g.N → over7 g x v = 0) (h' : Fine g' cap' x' p') (h0' : ∀ v, v < g'.N → over7 g' x' v = 0) : costs g x ≤ costs g' x' := by
  have hc : costs g (fun i => x' (s i)) = costs g' x' := by
    unfold costs
    rw [T.E, ← sum_inv (F := fun i => x' i * g'.co i) T.s1 T.s2]
    exact sum_congr fun i hi => by rw [T.co i hi]
  rw [← hc]
  refine Fine.best hg h h0 (fun i hi => ?_) fun v hv => ?_
  · have h1 := h'.in' (s i) (by rw [T.E]; exact T.s1 i hi)
    rw [T.cap i hi] at h1
    exact h1
  · have h1 := h0' (p v) (by rw [T.N]; exact T.p1 v hv)
    rw [← h1]
    unfold over7 overK
    rw [T.E, ← sum_inv (F := fun i => (one (g'.t i = p v) - one (g'.f i = p v)) * x' i) T.s1 T.s2]
    refine sum_congr fun i hi => ?_
    have hp : ∀ u, u < g.N → (u = v ↔ p u = p v) := fun u hu => ⟨fun h => by rw [h], fun h => by rw [← T.p2 u hu, h, T.p2 v hv]⟩
    rw [T.t i hi, T.f i hi, one_congr (hp _ (hg.t i hi)), one_congr (hp _ (hg.f i hi))]
theorem Twin.eq {g g' : Gr} {cap cap' x x' p' : Nat → Int} {q : Nat → Int} {s p : Nat → Nat} (T : Twin g g' cap cap' s p) (hg : g.Ok) (hg' : g'.Ok) (h : Fine g cap x q) (h0 : ∀ v, v < g.N → over7 g x v = 0) (h' : Fine g' cap' x' p') (h0' : ∀ v, v < g'.N → over7 g' x' v = 0) : costs g x = costs g' x' :=
  Int.le_antisymm (T.le hg h h0 h' h0') ((T.symm hg' hg).le hg' h' h0' h h0)
/-- The dues, named the other way round. -/
def flip (n : Nat) (a b : Du) : Du := { b with id := a.id, fr := (n : Int) - 1 - b.fr, to := (n : Int) - 1 - b.to }
def turnD (n : Nat) (ds : List Du) : List Du := List.zipWith (flip n) ds ds.reverse
def mirE (n : Nat) (e : Ed) : Ed := { e with f := (n : Int) - 1 - e.f, t := (n : Int) - 1 - e.t }
/-- Where an edge lies in the other one. -/
def sigN (n m i : Nat) : Nat := if i < m then m - 1 - i else m + (2 * (n - 1 - (i - m) / 2) + (i - m) % 2)
def piN (n v : Nat) : Nat := if v < n then n - 1 - v else v
end Go.Proofs.YtapphbmlkdhnmaaGreat

/- What planned rounds are worth: plain law. -/
namespace Go.Proofs.YtapphbmlkdhnmaaGreat
open Go.GV
attribute [local irreducible] Wops W Wq Wt

def costR (r : Rnd) : Int := costs (grE r.N r.es) (flE r.fl)
theorem plan_fine {acs : List Ac} {ds : List Du} {net : Bool} {r : Rnd} (P : PlanR acs ds net r) : rightN r.N r.es = true ∧ withinN r.N r.es r.fl = true ∧ (∀ v, v < r.N.toNat → over7 (grE r.N r.es) (flE r.fl) v = 0) ∧ Fine (grE r.N r.es) (capE r.es) (flE r.fl) (potE r.pot) := by
  obtain ⟨h1, -, h3⟩ := check_iff.1 P.chk
  obtain ⟨h4, h5⟩ := flows_of h1
  exact ⟨(within_of h4).2.1, h4, h5, h3⟩
end Go.Proofs.YtapphbmlkdhnmaaGreat
